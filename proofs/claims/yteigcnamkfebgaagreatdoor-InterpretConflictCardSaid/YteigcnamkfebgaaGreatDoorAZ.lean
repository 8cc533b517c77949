import Derived.Test.YteigcnamkfebgaaGreatDoorAY
namespace Go.Proofs.YteigcnamkfebgaaGreatDoor
open Go.RowKit
section
variable {o : Oper} {a : Act} {W : World} {K : Act → World → Prop} {Q : Exit → Act → World → Prop}
theorem ex_move {x : Operand} (ho : o.op = .move x) (h : K (a.put o.dst (a.eval x)) W) : o.wp Tryz.prog a W K Q := by
  unfold Oper.wp execOp
  simp only [ho]
  exact h
theorem ex_assign {x : Operand} (ho : o.op = .assign x) (h : K (a.put o.dst (a.eval x)) W) : o.wp Tryz.prog a W K Q := by
  unfold Oper.wp execOp
  simp only [ho]
  exact h
theorem ex_load38 {t : Operand} {k : Nat} {x y : Value} (ho : o.op = .load 38 t) (he : a.eval t = .pointer (some ⟨k, 0, none⟩)) (h0 : W.cell? ⟨k, 0, none⟩ = some x) (h1 : W.cell? ⟨k, 1, none⟩ = some y) (h : K (a.put o.dst (.agg #[x, y])) W) : o.wp Tryz.prog a W K Q := by
  unfold Oper.wp execOp
  simp only [ho, he]
  go_simp
  exact h
theorem ex_alloc34 (ho : o.op = .alloc 34) (h : K (a.put o.dst (.pointer (some ⟨W.heap.size, 0, none⟩))) (W.alloc (.cells #[.slice none 0 0, .slice none 0 0, .slice none 0 0] 34))) : o.wp Tryz.prog a W K Q := by
  unfold Oper.wp execOp
  simp only [ho]
  go_simp
  exact h
theorem ex_build28 (ho : o.op = .build 28 #[]) (h : K (a.put o.dst (.agg #[.slice none 0 0, .slice none 0 0])) W) : o.wp Tryz.prog a W K Q := by
  unfold Oper.wp execOp
  simp only [ho]
  go_simp
  exact h
theorem ex_bs41_1 {t : Operand} {x y : Value} (ho : o.op = .buildSlice 41 1 #[(0, t)]) (he : a.eval t = .agg #[x, y]) (h : K (a.put o.dst (.slice (some ⟨W.heap.size, 0, none⟩) 1 1)) (W.alloc (.cells #[x, y] 38))) : o.wp Tryz.prog a W K Q := by
  unfold Oper.wp execOp
  simp only [ho, List.map_toArray, List.map_cons, List.map_nil, he]
  go_simp
  exact h
theorem ex_bs41_2 {t u : Operand} {x y x' y' : Value} (ho : o.op = .buildSlice 41 2 #[(0, t), (1, u)]) (he : a.eval t = .agg #[x, y]) (he' : a.eval u = .agg #[x', y']) (h : K (a.put o.dst (.slice (some ⟨W.heap.size, 0, none⟩) 2 2)) (W.alloc (.cells #[x, y, x', y'] 38))) : o.wp Tryz.prog a W K Q := by
  unfold Oper.wp execOp
  simp only [ho, List.map_toArray, List.map_cons, List.map_nil, he, he']
  go_simp
  exact h
theorem ex_build45 {t0 t3 t5 t9 : Operand} {c : Int} {A : ByteArray} {n : Int} {s : SlV} {M : ByteArray} {m : Int} {v : ByteArray}
    (ho : o.op = .build 45 #[(0, t0), (1, .const (.int .i64 c)), (3, t3), (4, .const (.int .i64 3)), (5, t5), (8, .const (.string ⟨#[116, 101, 120, 116]⟩)), (9, t9)]) (h0 : a.eval t0 = .agg #[.string A, .int .i64 n]) (h3 : a.eval t3 = .slice s.a s.len s.cap) (h5 : a.eval t5 = .agg #[.string M, .int .i64 m]) (h9 : a.eval t9 = .string v)
    (h : K (a.put o.dst (.agg #[.string A, .int .i64 n, .int .i64 c, .int .i64 0, .slice s.a s.len s.cap, .int .i64 3, .string M, .int .i64 m, .string ⟨#[]⟩, .int .i64 0, .bool false, .string ⟨#[]⟩, .string ⟨#[]⟩, .string ⟨#[116, 101, 120, 116]⟩, .string v, .string ⟨#[]⟩, .int .i64 0, .string ⟨#[]⟩])) W) : o.wp Tryz.prog a W K Q := by
  unfold Oper.wp execOp
  simp only [ho, List.map_toArray, List.map_cons, List.map_nil, h0, h3, h5, h9]
  go_simp
  exact h
set_option maxRecDepth 100000 in
theorem ex_bs22_1 {t : Operand} {d : EdD} (ho : o.op = .buildSlice 22 1 #[(0, t)]) (he : a.eval t = .agg (edV d).toArray) (h : K (a.put o.dst (.slice (some ⟨W.heap.size, 0, none⟩) 1 1)) (W.alloc (.cells (edV d).toArray 45))) : o.wp Tryz.prog a W K Q := by
  unfold edV at he
  unfold Oper.wp execOp
  simp only [ho, List.map_toArray, List.map_cons, List.map_nil, he]
  go_simp
  exact h
set_option maxRecDepth 100000 in
theorem ex_bs22_2 {t u : Operand} {d d' : EdD} (ho : o.op = .buildSlice 22 2 #[(0, t), (1, u)]) (he : a.eval t = .agg (edV d).toArray) (he' : a.eval u = .agg (edV d').toArray) (h : K (a.put o.dst (.slice (some ⟨W.heap.size, 0, none⟩) 2 2)) (W.alloc (.cells (edV d ++ edV d').toArray 45))) : o.wp Tryz.prog a W K Q := by
  unfold edV at he he'
  unfold Oper.wp execOp
  simp only [ho, List.map_toArray, List.map_cons, List.map_nil, he, he']
  go_simp
  exact h
theorem ex_store34 {t x : Operand} {k : Nat} {c : Array Value} {v0 v1 v2 : Value} (ho : o.op = .store 34 t x) (he : a.eval t = .pointer (some ⟨k, 0, none⟩)) (hx : a.eval x = .agg #[v0, v1, v2]) (hc : W.heap[k]? = some (.cells c 34 (0, 0))) (hs : c.size = 3) (h1 : (#[v0, v1, v2]).all (·.oneCell') = true)
    (h : ∀ w', w'.heap[k]? = some (.cells #[v0, v1, v2] 34 (0, 0)) → (∀ i, i ≠ k → w'.heap[i]? = W.heap[i]?) → w'.heap.size = W.heap.size → (∀ B, B ≤ k → Below B W w') → K (a.put o.dst undef) w') : o.wp Tryz.prog a W K Q := by
  have hr := run_storeVar_row (P := Tryz.prog) W k 34 34 c #[v0, v1, v2] hc (by kernel_rfl) (by rw [hs]; rfl) h1
  unfold Oper.wp execOp
  simp only [ho, he, hx, Instr.storeAt, Instr.sureAddr, hr, Sem.run_bind, Sem.run_pure, Result.andThen_ok]
  exact h _ (setRow_heap _ _ _ _ _ _ hc) (fun i hi => setRow_other W k i _ hi) (by simp) (fun B hB => ⟨rfl, rfl, rfl, by simp, fun j hj => setRow_other W k j _ (by omega)⟩)
set_option maxRecDepth 100000 in
theorem ex_call14 {tf x : Operand} {ty : TypeId} {v : Value} (ho : o.op = .call { callee := .value tf, args := #[x], argTypes := #[ty] }) (he : a.eval tf = .func (.func 14) #[] #[]) (hx : a.eval x = v)
    (h : Calls Tryz.prog 14 #[v] W fun e w' => ∃ r, e = .returned r ∧ K (a.put o.dst r) w') : o.wp Tryz.prog a W K Q := by
  unfold Oper.wp execOp
  simp only [ho, resolve, he, hx, invoke, Sem.run_bind, Sem.run_pure, Result.andThen_ok, List.map_toArray, List.map_cons, List.map_nil]
  refine Calls.mono (R := fun e w' => ∃ r, e = .returned r ∧ K (a.put o.dst r) w') ?_ ?_
  · simpa using h
  · rintro e w' ⟨r, rfl, hk⟩
    exact hk
set_option maxRecDepth 100000 in
theorem ex_call11 {tf x : Operand} {ty : TypeId} {v : Value} (ho : o.op = .call { callee := .value tf, args := #[x], argTypes := #[ty] }) (he : a.eval tf = .func (.func 11) #[] #[]) (hx : a.eval x = v)
    (h : Calls Tryz.prog 11 #[v] W fun e w' => ∃ r, e = .returned r ∧ K (a.put o.dst r) w') : o.wp Tryz.prog a W K Q := by
  unfold Oper.wp execOp
  simp only [ho, resolve, he, hx, invoke, Sem.run_bind, Sem.run_pure, Result.andThen_ok, List.map_toArray, List.map_cons, List.map_nil]
  refine Calls.mono (R := fun e w' => ∃ r, e = .returned r ∧ K (a.put o.dst r) w') ?_ ?_
  · simpa using h
  · rintro e w' ⟨r, rfl, hk⟩
    exact hk
set_option maxRecDepth 100000 in
theorem ex_call15 {tf x y : Operand} {ty tz : TypeId} {v u : Value} (ho : o.op = .call { callee := .value tf, args := #[x, y], argTypes := #[ty, tz] }) (he : a.eval tf = .func (.func 15) #[] #[]) (hx : a.eval x = v) (hy : a.eval y = u)
    (h : Calls Tryz.prog 15 #[v, u] W fun e w' => ∃ r, e = .returned r ∧ K (a.put o.dst r) w') : o.wp Tryz.prog a W K Q := by
  unfold Oper.wp execOp
  simp only [ho, resolve, he, hx, hy, invoke, Sem.run_bind, Sem.run_pure, Result.andThen_ok, List.map_toArray, List.map_cons, List.map_nil]
  refine Calls.mono (R := fun e w' => ∃ r, e = .returned r ∧ K (a.put o.dst r) w') ?_ ?_
  · simpa using h
  · rintro e w' ⟨r, rfl, hk⟩
    exact hk
theorem ex_append {s x : Operand} {t : TypeId} (ho : o.op = .call { callee := .builtin .append, args := #[s, x], argTypes := #[t, t] })
    (base : Nat) (e : TypeId) (i : TypeInfo) (z : Value) (size bytes : Nat) (ht : Tryz.prog.underlying t = some (.slice e)) (hi : Tryz.prog.info? e = some i) (hz : i.zero = some z)
    (hsize : i.size = size) (hby : i.bytes = bytes) (hzs : z.cells.size = size) (hsz : 0 < size)
    (v : Value) (n : Nat) (xs : List Value) (hs : a.eval s = v) (hown : W.ownsRow base e size v n xs)
    (ao : Option Addr) (m c : Nat) (news : List Value) (hx : a.eval x = .slice ao m c) (hl : news.length = m * size) (hnews : 0 < m → ∃ ad, ao = some ad ∧ ∀ j u, news[j]? = some u → W.cell? (ad.add j) = some u) (h1 : ∀ u ∈ news, u.oneCell' = true)
    (h63 : n + m ≤ maxLen) (hbytes : (n + m) * bytes ≤ 140737488355328) (hbase : base ≤ W.heap.size)
    (h : ∀ v' w', w'.ownsRow base e size v' (n + m) (xs ++ news) → W.grownBy w' v.ownBlock → K (a.put o.dst v') w') : o.wp Tryz.prog a W K Q := by
  obtain ⟨v', w', hr, h2, h3⟩ := run_append_src (P := Tryz.prog) W base t o.type e i z size bytes ht hi hz hsize hby hzs hsz v n xs hown ao m c news hl hnews h1 h63 hbytes hbase
  unfold Oper.wp execOp
  simp only [ho, resolve, invoke, builtin, Sem.run_bind, Sem.run_pure, Result.andThen_ok, List.map_toArray, List.map_cons, List.map_nil, hs, hx, hr]
  exact h v' w' h2 h3
end
/-! A region that draws its order, by an invariant over what has been done. -/
def preOf (o : Oper) : List Nat := (o.after.toList.filter (Region.binds .any)).map (·.on)
theorem count_set : ∀ (l : List Bool) (i : Nat), l[i]? = some false → ((l.set i true).filter (fun b => !b)).length + 1 = (l.filter (fun b => !b)).length
  | [], i, h => by simp at h
  | b :: l, 0, h => by simp at h; subst h; simp
  | b :: l, i + 1, h => by
    simp at h
    have := count_set l i h
    cases b <;> simp <;> omega
theorem wpOp_of {P : Program} {ops : Array Oper} {Q : Exit → Act → World → Prop} {i : Nat} {o : Oper} {K : Act → World → Prop} {a : Act} {w : World} (ho : ops[i]? = some o) (hg : o.guard = none) (h : o.wp P a w K Q) : wpOp P ops Q i K a w := by
  unfold wpOp
  rw [ho]
  show if Region.wanted o (yielded ops a.tmps) = true then _ else _
  rw [if_pos (by unfold Region.wanted; rw [hg])]
  exact .inl h
theorem mem_ready {ops : Array Oper} {listed : Array Bool} {i : Nat} (h : i ∈ Region.ready .any ops listed) : ∃ o, ops[i]? = some o ∧ i < ops.size ∧ listed.getD i true = false ∧ ∀ j ∈ preOf o, listed.getD j false = true := by
  unfold Region.ready at h
  rw [List.mem_filter, List.mem_range] at h
  obtain ⟨hi, h⟩ := h
  rw [Bool.and_eq_true] at h
  have ho : ops[i]? = some ops[i] := Array.getElem?_eq_getElem hi
  refine ⟨ops[i], ho, hi, by simpa using h.1, fun j hj => ?_⟩
  rw [ho] at h
  have h2 : (ops[i].after.all fun e => !Region.binds .any e || listed.getD e.on false) = true := h.2
  unfold preOf at hj
  obtain ⟨e, he, rfl⟩ := List.mem_map.1 hj
  obtain ⟨he1, he2⟩ := List.mem_filter.1 he
  rw [Array.all_eq_true'] at h2
  have := h2 e (Array.mem_toList_iff.1 he1)
  rw [he2] at this
  simpa using this
theorem ready_nil {ops : Array Oper} {listed : Array Bool} (h : Region.ready .any ops listed = []) (hback : ∀ (i : Nat) (o : Oper), ops[i]? = some o → ∀ j ∈ preOf o, j < i) (hs : listed.size = ops.size) : ∀ i, i < ops.size → listed.getD i false = true := by
  intro i
  induction i using Nat.strongRecOn with
  | _ i ih =>
    intro hi
    have ho : ops[i]? = some ops[i] := Array.getElem?_eq_getElem hi
    cases hl : listed.getD i false with
    | true => rfl
    | false =>
      exfalso
      have hm : i ∈ Region.ready .any ops listed := by
        unfold Region.ready
        rw [List.mem_filter, List.mem_range]
        refine ⟨hi, ?_⟩
        rw [Bool.and_eq_true]
        refine ⟨?_, ?_⟩
        · have hl2 : i < listed.size := by omega
          rw [Array.getD_eq_getD_getElem?, Array.getElem?_eq_getElem hl2] at hl ⊢
          simpa using hl
        · rw [ho]
          show (ops[i].after.all fun e => !Region.binds .any e || listed.getD e.on false) = true
          rw [Array.all_eq_true']
          intro e he
          cases hb : Region.binds .any e with
          | false => rfl
          | true =>
            have hj : e.on ∈ preOf ops[i] := List.mem_map.2 ⟨e, List.mem_filter.2 ⟨Array.mem_toList_iff.2 he, hb⟩, rfl⟩
            have hlt := hback i _ ho _ hj
            rw [ih e.on hlt (by omega)]
            rfl
      rw [h] at hm
      cases hm
def mark (L : Nat → Bool) (i : Nat) : Nat → Bool := fun j => if j = i then true else L j
theorem mark_self (L : Nat → Bool) (i : Nat) : mark L i i = true := by simp [mark]
theorem mark_ne (L : Nat → Bool) {i j : Nat} (h : j ≠ i) : mark L i j = L j := by simp [mark, h]
theorem mark_mono {L : Nat → Bool} {i j : Nat} (h : L j = true) : mark L i j = true := by simp [mark, h]
theorem getD_set (listed : Array Bool) (i : Nat) (hi : i < listed.size) : (fun j => (listed.setIfInBounds i true).getD j false) = mark (fun j => listed.getD j false) i := by
  funext j
  unfold mark
  rw [Array.getD_eq_getD_getElem?, Array.getElem?_setIfInBounds]
  by_cases h : i = j
  · subst h; simp [hi]
  · rw [if_neg h, if_neg (fun e => h e.symm)]
    show _ = listed.getD j false
    rw [Array.getD_eq_getD_getElem?]
/-- what is done closes backward -/
def ShutR (ops : Array Oper) (L : Nat → Bool) : Prop := ∀ (j : Nat) (o : Oper), ops[j]? = some o → L j = true → ∀ k ∈ preOf o, L k = true
theorem wpAny_inv {P : Program} {ops : Array Oper} {Q : Exit → Act → World → Prop} (Inv : (Nat → Bool) → Act → World → Prop)
    (hback : ∀ (i : Nat) (o : Oper), ops[i]? = some o → ∀ j ∈ preOf o, j < i)
    (hstep : ∀ L a w, Inv L a w → ShutR ops L → ∀ i o, ops[i]? = some o → L i = false → (∀ j ∈ preOf o, L j = true) → wpOp P ops Q i (Inv (mark L i)) a w)
    (hend : ∀ L a w, Inv L a w → (∀ i, i < ops.size → L i = true) → Q .normal a w) :
    ∀ fuel (listed : Array Bool) a w, (listed.toList.filter (fun b => !b)).length ≤ fuel → listed.size = ops.size → ShutR ops (fun j => listed.getD j false) → Inv (fun j => listed.getD j false) a w → wpAny P .any ops Q fuel listed a w := by
  intro fuel
  induction fuel with
  | zero =>
    intro listed a w hf hs hc h
    have hall : ∀ i, i < listed.size → listed[i]? = some true := by
      intro i hi
      have hn : listed.toList.filter (fun b => !b) = [] := List.eq_nil_of_length_eq_zero (by omega)
      rw [List.filter_eq_nil_iff] at hn
      have := hn listed[i] (by simp)
      rw [Array.getElem?_eq_getElem hi]
      simpa using this
    have hr : Region.ready .any ops listed = [] := by
      rw [List.eq_nil_iff_forall_not_mem]
      intro i hi
      obtain ⟨o, ho, hlt, hl, _⟩ := mem_ready hi
      rw [Array.getD_eq_getD_getElem?, hall i (by omega)] at hl
      cases hl
    exact ⟨hr, hend _ a w h (ready_nil hr hback hs)⟩
  | succ fuel ih =>
    intro listed a w hf hs hc h
    refine ⟨fun hr => hend _ a w h (ready_nil hr hback hs), fun i hi => ?_⟩
    obtain ⟨o, ho, hlt, hl, hp⟩ := mem_ready hi
    have hls : i < listed.size := by omega
    have hl2 : listed[i]? = some false := by
      rw [Array.getD_eq_getD_getElem?, Array.getElem?_eq_getElem hls] at hl
      rw [Array.getElem?_eq_getElem hls]
      simpa using hl
    have hl3 : listed.getD i false = false := by rw [Array.getD_eq_getD_getElem?, hl2]; rfl
    refine wpOp_mono (fun a' w' h' => ?_) (hstep _ a w h hc i o ho hl3 hp)
    refine ih _ a' w' ?_ (by simpa using hs) ?_ (by rw [getD_set listed i hls]; exact h')
    · have h1 : listed.toList[i]? = some false := by rw [Array.getElem?_toList]; exact hl2
      have h2 := count_set _ _ h1
      rw [Array.toList_setIfInBounds]
      omega
    · rw [getD_set listed i hls]
      intro j o' ho' hj k hk
      by_cases hji : j = i
      · subst hji
        rw [ho] at ho'
        obtain rfl := Option.some.inj ho'
        exact mark_mono (hp k hk)
      · rw [mark_ne _ hji] at hj
        exact mark_mono (hc j o' ho' hj k hk)
theorem wp_region_inv {P : Program} {ops : Array Oper} {Q : Exit → Act → World → Prop} {id : Nat} {a : Act} {w : World} (hm : P.follows .mixedOrders = true) (Inv : (Nat → Bool) → Act → World → Prop)
    (hback : ∀ (i : Nat) (o : Oper), ops[i]? = some o → ∀ j ∈ preOf o, j < i)
    (hstart : Inv (fun _ => false) a w.drew)
    (hstep : ∀ L a w, Inv L a w → ShutR ops L → ∀ i o, ops[i]? = some o → L i = false → (∀ j ∈ preOf o, L j = true) → wpOp P ops Q i (Inv (mark L i)) a w)
    (hend : ∀ L a w, Inv L a w → (∀ i, i < ops.size → L i = true) → Q .normal a w) : (Code.region id ops true).wp P Q a w := by
  refine wp_region_any hm ?_
  have e : (fun j => (Array.replicate ops.size false).getD j false) = (fun _ => false) := by
    funext j
    rw [Array.getD_eq_getD_getElem?, Array.getElem?_replicate]
    split <;> rfl
  refine wpAny_inv Inv hback hstep hend ops.size _ a _ ?_ (by simp) ?_ (by rw [e]; exact hstart)
  · rw [Array.toList_replicate]
    exact Nat.le_trans (List.length_filter_le _ _) (by simp)
  · rw [e]
    intro j o _ h
    cases h
/-! The region itself. -/
structure Fr (S : List Nat) (A a : Act) : Prop where
  d : a.defers = A.defers
  s : a.tmps.size = A.tmps.size
  e : ∀ k, k ∉ S → a.tmps[k]? = A.tmps[k]?
theorem Fr.put {S : List Nat} {A a : Act} (h : Fr S A a) {d : Nat} (hd : d ∈ S) (v : Value) : Fr S A (a.put (some d) v) :=
  ⟨h.d, by simp [Act.put, h.s], fun k hk => by
    have hne : d ≠ k := fun e => hk (e ▸ hd)
    rw [← h.e k hk]
    simp [Act.put, Array.getElem?_setIfInBounds, hne]⟩
theorem put_self {a : Act} {d : Nat} {v : Value} (h : d < a.tmps.size) : (a.put (some d) v).tmps[d]? = some v := by simp [Act.put, h]
theorem put_ne {a : Act} {d k : Nat} {v : Value} (h : k ≠ d) : (a.put (some d) v).tmps[k]? = a.tmps[k]? := by
  have hne : d ≠ k := fun e => h e.symm
  simp [Act.put, Array.getElem?_setIfInBounds, hne]
theorem eval_of {a : Act} {k : Nat} {v : Value} (h : a.tmps[k]? = some v) : a.eval (.tmp k) = v := by
  show a.tmps.getD k undef = v
  rw [Array.getD_eq_getD_getElem?, h]
  rfl
theorem fold_put (f : Nat → Value) (k : Nat) : ∀ (S : List Nat) (b : Act), (S.foldl (fun b k => b.put (some k) (f k)) b).defers = b.defers ∧ (S.foldl (fun b k => b.put (some k) (f k)) b).tmps.size = b.tmps.size ∧
    (S.foldl (fun b k => b.put (some k) (f k)) b).tmps[k]? = if k ∈ S ∧ k < b.tmps.size then some (f k) else b.tmps[k]?
  | [], b => by simp
  | d :: S, b => by
    obtain ⟨h1, h2, h3⟩ := fold_put f k S (b.put (some d) (f d))
    have hs : (b.put (some d) (f d)).tmps.size = b.tmps.size := by simp [Act.put]
    rw [List.foldl_cons]
    refine ⟨h1, h2.trans hs, h3.trans ?_⟩
    rw [hs]
    by_cases hS : k ∈ S ∧ k < b.tmps.size
    · rw [if_pos hS, if_pos ⟨List.mem_cons_of_mem _ hS.1, hS.2⟩]
    · rw [if_neg hS]
      by_cases hd : k = d
      · subst hd
        by_cases hk : k < b.tmps.size
        · rw [put_self hk, if_pos ⟨List.mem_cons_self, hk⟩]
        · rw [if_neg (fun h => hk h.2), Array.getElem?_eq_none (by omega), Array.getElem?_eq_none (by omega)]
      · rw [put_ne hd, if_neg (fun h => by
          rcases List.mem_cons.1 h.1 with h1 | h1
          · exact hd h1
          · exact hS ⟨h1, h.2⟩)]
theorem Fr.canon {S : List Nat} {A a : Act} (h : Fr S A a) : a = S.foldl (fun b k => b.put (some k) (a.tmps.getD k undef)) A := by
  have hp := fun k => fold_put (fun k => a.tmps.getD k undef) k S A
  have e : a.tmps = (S.foldl (fun b k => b.put (some k) (a.tmps.getD k undef)) A).tmps := by
    apply Array.ext_getElem?
    intro k
    rw [(hp k).2.2]
    by_cases hk : k ∈ S ∧ k < A.tmps.size
    · rw [if_pos hk, Array.getD_eq_getD_getElem?, Array.getElem?_eq_getElem (by rw [h.s]; exact hk.2)]
      rfl
    · rw [if_neg hk]
      by_cases hS : k ∈ S
      · have hn : ¬ k < A.tmps.size := fun h2 => hk ⟨hS, h2⟩
        rw [Array.getElem?_eq_none (by rw [h.s]; omega), Array.getElem?_eq_none (by omega)]
      · exact h.e k hS
  have d : a.defers = (S.foldl (fun b k => b.put (some k) (a.tmps.getD k undef)) A).defers := h.d.trans (hp 0).1.symm
  cases a
  simp only at e d ⊢
  generalize List.foldl _ A S = B at e d
  cases B
  simp only at e d
  subst e d
  rfl
def desc (o : Oper) : Option Tmp × Op × Option (Nat × Bool) × List Nat := (o.dst, o.op, o.guard, preOf o)
theorem desc_at {ops : Array Oper} {D : List (Option Tmp × Op × Option (Nat × Bool) × List Nat)} (hops : ops.toList.map desc = D) {i : Nat} {o : Oper} (ho : ops[i]? = some o) : D[i]? = some (desc o) := by
  rw [← hops, List.getElem?_map, Array.getElem?_toList, ho]
  rfl
/-! the values of a region's slots, so far as their operations are done -/
structure Rg (S : List Nat) (A : Act) (dst : Nat → Nat) (n : Nat) (Pr : World → Value → Nat → Prop) (L : Nat → Bool) (a : Act) (W : World) : Prop where
  fr : Fr S A a
  v : ∀ j, j < n → L j = true → ∃ u, a.tmps[dst j]? = some u ∧ Pr W u j
theorem Rg.step {S : List Nat} {A : Act} {dst : Nat → Nat} {n : Nat} {Pr : World → Value → Nat → Prop} {L : Nat → Bool} {a : Act} {W W' : World} (h : Rg S A dst n Pr L a W) {i : Nat} {u : Value} (hi : i < n) (hinj : ∀ i, i < n → ∀ j, j < n → dst i = dst j → i = j) (hmem : dst i ∈ S) (hsz : dst i < A.tmps.size)
    (hmono : ∀ j x, j < n → L j = true → Pr W x j → Pr W' x j) (hp : Pr W' u i) : Rg S A dst n Pr (mark L i) (a.put (some (dst i)) u) W' := by
  refine ⟨h.fr.put hmem u, fun j hj hL => ?_⟩
  by_cases hji : j = i
  · subst hji
    exact ⟨u, put_self (by rw [h.fr.s]; exact hsz), hp⟩
  · rw [mark_ne _ hji] at hL
    obtain ⟨x, hx, hpx⟩ := h.v j hj hL
    exact ⟨x, (put_ne (fun e => hji (hinj j hj i hi e))).trans hx, hmono j x hj hL hpx⟩
theorem Rg.start {S : List Nat} {A : Act} {dst : Nat → Nat} {n : Nat} {Pr : World → Value → Nat → Prop} {W : World} : Rg S A dst n Pr (fun _ => false) A W := ⟨⟨rfl, rfl, fun _ _ => rfl⟩, fun _ _ h => by cases h⟩
theorem Rg.ev {S : List Nat} {A : Act} {dst : Nat → Nat} {n : Nat} {Pr : World → Value → Nat → Prop} {L : Nat → Bool} {a : Act} {W : World} (h : Rg S A dst n Pr L a W) (k : Nat) (hk : k ∉ S) : a.eval (.tmp k) = A.eval (.tmp k) := by
  show a.tmps.getD k undef = A.tmps.getD k undef
  rw [Array.getD_eq_getD_getElem?, Array.getD_eq_getD_getElem?, h.fr.e k hk]
end Go.Proofs.YteigcnamkfebgaaGreatDoor
