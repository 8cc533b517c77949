import Derived.Test.YtlipahfkfhcniaaDoorNA
namespace Go.Proofs.YtlipahfkfhcniaaDoor
open Go.RowKit
section
variable {o : Oper} {a : Act} {W : World} {K : Act → World → Prop} {Q : Exit → Act → World → Prop}
theorem ex_move {x : Operand} (ho : o.op = .move x) (h : K (a.put o.dst (a.eval x)) W) : o.wp Tryd.prog a W K Q := by
  unfold Oper.wp execOp
  simp only [ho]
  exact h
theorem ex_load26 {t : Operand} {k : Nat} {x : Option Addr} {n c : Nat} (ho : o.op = .load 26 t) (he : a.eval t = .pointer (some ⟨k, 0, none⟩)) (hc : W.cell? ⟨k, 0, none⟩ = some (.slice x n c)) (h : K (a.put o.dst (.agg #[.slice x n c])) W) : o.wp Tryd.prog a W K Q := by
  unfold Oper.wp execOp
  simp only [ho, he]
  go_simp
  exact h
theorem ex_load41 {t : Operand} {k : Nat} {x : ActD} (ho : o.op = .load 41 t) (he : a.eval t = .pointer (some ⟨k, 0, none⟩)) (h0 : W.cell? ⟨k, 0, none⟩ = some (.int .i64 x.kind)) (h1 : W.cell? ⟨k, 1, none⟩ = some (.string x.key)) (h2 : W.cell? ⟨k, 2, none⟩ = some (.int .i64 x.root)) (h3 : W.cell? ⟨k, 3, none⟩ = some (.int .i64 x.err)) (h : K (a.put o.dst (.agg #[.int .i64 x.kind, .string x.key, .int .i64 x.root, .int .i64 x.err])) W) : o.wp Tryd.prog a W K Q := by
  unfold Oper.wp execOp
  simp only [ho, he]
  go_simp
  exact h
theorem ex_alloc26 (ho : o.op = .alloc 26) (h : K (a.put o.dst (.pointer (some ⟨W.heap.size, 0, none⟩))) (W.alloc (.cells #[.slice none 0 0] 26))) : o.wp Tryd.prog a W K Q := by
  unfold Oper.wp execOp
  simp only [ho]
  go_simp
  exact h
theorem ex_store26 {t x : Operand} {k : Nat} {y : Option Addr} {n c : Nat} {u : Value} (ho : o.op = .store 26 t x) (he : a.eval t = .pointer (some ⟨k, 0, none⟩)) (hx : a.eval x = .agg #[.slice y n c]) (hc : W.heap[k]? = some (.cells #[u] 26 (0, 0))) (h : K (a.put o.dst undef) (W.setCell ⟨k, 0, none⟩ (.slice y n c))) : o.wp Tryd.prog a W K Q := by
  have c1 := cell_of_one hc
  have f1 := free_of_one hc
  unfold Oper.wp execOp
  simp only [ho, he, hx]
  go_simp
  exact h
theorem ex_call8 {t x y : Operand} {v u : Value} (ho : o.op = .call { callee := .value t, args := #[x, y], argTypes := #[26, 41] }) (he : a.eval t = .func (.func 8) #[] #[]) (hx : a.eval x = v) (hy : a.eval y = u)
    (h : Calls Tryd.prog 8 #[v, u] W fun e w' => ∃ r, e = .returned r ∧ K (a.put o.dst r) w') : o.wp Tryd.prog a W K Q := by
  unfold Oper.wp execOp
  simp only [ho, resolve, he, hx, hy, invoke, Sem.run_bind, Sem.run_pure, Result.andThen_ok, List.map_toArray, List.map_cons, List.map_nil]
  refine Calls.mono (R := fun e w' => ∃ r, e = .returned r ∧ K (a.put o.dst r) w') ?_ ?_
  · simpa using h
  · rintro e w' ⟨r, rfl, hk⟩
    exact hk
end
/-! A region that draws its order, by an invariant over what has been done. -/
def preOf (o : Oper) : List Nat := (o.after.toList.filter (Region.binds .any)).map (·.on)
theorem count_set : ∀ (l : List Bool) (i : Nat), l[i]? = some false → ((l.set i true).filter (fun b => !b)).length + 1 = (l.filter (fun b => !b)).length
  | [], i, h => by simp at h
  | b :: l, 0, h => by simp at h; subst h; simp
  | b :: l, i + 1, h => by
    simp at h
    have := count_set l i h
    cases b <;> simp <;> omega
theorem wpOp_of {P : Program} {ops : Array Oper} {Q : Exit → Act → World → Prop} {i : Nat} {o : Oper} {K : Act → World → Prop} {a : Act} {w : World} (ho : ops[i]? = some o) (hg : o.guard = none) (h : o.wp P a w K Q) : wpOp P ops Q i K a w := by
  unfold wpOp
  rw [ho]
  show if Region.wanted o (yielded ops a.tmps) = true then _ else _
  rw [if_pos (by unfold Region.wanted; rw [hg])]
  exact .inl h
theorem mem_ready {ops : Array Oper} {listed : Array Bool} {i : Nat} (h : i ∈ Region.ready .any ops listed) : ∃ o, ops[i]? = some o ∧ i < ops.size ∧ listed.getD i true = false ∧ ∀ j ∈ preOf o, listed.getD j false = true := by
  unfold Region.ready at h
  rw [List.mem_filter, List.mem_range] at h
  obtain ⟨hi, h⟩ := h
  rw [Bool.and_eq_true] at h
  have ho : ops[i]? = some ops[i] := Array.getElem?_eq_getElem hi
  refine ⟨ops[i], ho, hi, by simpa using h.1, fun j hj => ?_⟩
  rw [ho] at h
  have h2 : (ops[i].after.all fun e => !Region.binds .any e || listed.getD e.on false) = true := h.2
  unfold preOf at hj
  obtain ⟨e, he, rfl⟩ := List.mem_map.1 hj
  obtain ⟨he1, he2⟩ := List.mem_filter.1 he
  rw [Array.all_eq_true'] at h2
  have := h2 e (Array.mem_toList_iff.1 he1)
  rw [he2] at this
  simpa using this
theorem ready_nil {ops : Array Oper} {listed : Array Bool} (h : Region.ready .any ops listed = []) (hback : ∀ (i : Nat) (o : Oper), ops[i]? = some o → ∀ j ∈ preOf o, j < i) (hs : listed.size = ops.size) : ∀ i, i < ops.size → listed.getD i false = true := by
  intro i
  induction i using Nat.strongRecOn with
  | _ i ih =>
    intro hi
    have ho : ops[i]? = some ops[i] := Array.getElem?_eq_getElem hi
    cases hl : listed.getD i false with
    | true => rfl
    | false =>
      exfalso
      have hm : i ∈ Region.ready .any ops listed := by
        unfold Region.ready
        rw [List.mem_filter, List.mem_range]
        refine ⟨hi, ?_⟩
        rw [Bool.and_eq_true]
        refine ⟨?_, ?_⟩
        · have hl2 : i < listed.size := by omega
          rw [Array.getD_eq_getD_getElem?, Array.getElem?_eq_getElem hl2] at hl ⊢
          simpa using hl
        · rw [ho]
          show (ops[i].after.all fun e => !Region.binds .any e || listed.getD e.on false) = true
          rw [Array.all_eq_true']
          intro e he
          cases hb : Region.binds .any e with
          | false => rfl
          | true =>
            have hj : e.on ∈ preOf ops[i] := List.mem_map.2 ⟨e, List.mem_filter.2 ⟨Array.mem_toList_iff.2 he, hb⟩, rfl⟩
            have hlt := hback i _ ho _ hj
            rw [ih e.on hlt (by omega)]
            rfl
      rw [h] at hm
      cases hm
def mark (L : Nat → Bool) (i : Nat) : Nat → Bool := fun j => if j = i then true else L j
theorem mark_self (L : Nat → Bool) (i : Nat) : mark L i i = true := by simp [mark]
theorem mark_ne (L : Nat → Bool) {i j : Nat} (h : j ≠ i) : mark L i j = L j := by simp [mark, h]
theorem mark_mono {L : Nat → Bool} {i j : Nat} (h : L j = true) : mark L i j = true := by simp [mark, h]
theorem getD_set (listed : Array Bool) (i : Nat) (hi : i < listed.size) : (fun j => (listed.setIfInBounds i true).getD j false) = mark (fun j => listed.getD j false) i := by
  funext j
  unfold mark
  rw [Array.getD_eq_getD_getElem?, Array.getElem?_setIfInBounds]
  by_cases h : i = j
  · subst h; simp [hi]
  · rw [if_neg h, if_neg (fun e => h e.symm)]
    show _ = listed.getD j false
    rw [Array.getD_eq_getD_getElem?]
/-- what is done closes backward -/
def Shut28 (ops : Array Oper) (L : Nat → Bool) : Prop := ∀ (j : Nat) (o : Oper), ops[j]? = some o → L j = true → ∀ k ∈ preOf o, L k = true
theorem wpAny_inv {P : Program} {ops : Array Oper} {Q : Exit → Act → World → Prop} (Inv : (Nat → Bool) → Act → World → Prop)
    (hback : ∀ (i : Nat) (o : Oper), ops[i]? = some o → ∀ j ∈ preOf o, j < i)
    (hstep : ∀ L a w, Inv L a w → Shut28 ops L → ∀ i o, ops[i]? = some o → L i = false → (∀ j ∈ preOf o, L j = true) → wpOp P ops Q i (Inv (mark L i)) a w)
    (hend : ∀ L a w, Inv L a w → (∀ i, i < ops.size → L i = true) → Q .normal a w) :
    ∀ fuel (listed : Array Bool) a w, (listed.toList.filter (fun b => !b)).length ≤ fuel → listed.size = ops.size → Shut28 ops (fun j => listed.getD j false) → Inv (fun j => listed.getD j false) a w → wpAny P .any ops Q fuel listed a w := by
  intro fuel
  induction fuel with
  | zero =>
    intro listed a w hf hs hc h
    have hall : ∀ i, i < listed.size → listed[i]? = some true := by
      intro i hi
      have hn : listed.toList.filter (fun b => !b) = [] := List.eq_nil_of_length_eq_zero (by omega)
      rw [List.filter_eq_nil_iff] at hn
      have := hn listed[i] (by simp)
      rw [Array.getElem?_eq_getElem hi]
      simpa using this
    have hr : Region.ready .any ops listed = [] := by
      rw [List.eq_nil_iff_forall_not_mem]
      intro i hi
      obtain ⟨o, ho, hlt, hl, _⟩ := mem_ready hi
      rw [Array.getD_eq_getD_getElem?, hall i (by omega)] at hl
      cases hl
    exact ⟨hr, hend _ a w h (ready_nil hr hback hs)⟩
  | succ fuel ih =>
    intro listed a w hf hs hc h
    refine ⟨fun hr => hend _ a w h (ready_nil hr hback hs), fun i hi => ?_⟩
    obtain ⟨o, ho, hlt, hl, hp⟩ := mem_ready hi
    have hls : i < listed.size := by omega
    have hl2 : listed[i]? = some false := by
      rw [Array.getD_eq_getD_getElem?, Array.getElem?_eq_getElem hls] at hl
      rw [Array.getElem?_eq_getElem hls]
      simpa using hl
    have hl3 : listed.getD i false = false := by rw [Array.getD_eq_getD_getElem?, hl2]; rfl
    refine wpOp_mono (fun a' w' h' => ?_) (hstep _ a w h hc i o ho hl3 hp)
    refine ih _ a' w' ?_ (by simpa using hs) ?_ (by rw [getD_set listed i hls]; exact h')
    · have h1 : listed.toList[i]? = some false := by rw [Array.getElem?_toList]; exact hl2
      have h2 := count_set _ _ h1
      rw [Array.toList_setIfInBounds]
      omega
    · rw [getD_set listed i hls]
      intro j o' ho' hj k hk
      by_cases hji : j = i
      · subst hji
        rw [ho] at ho'
        obtain rfl := Option.some.inj ho'
        exact mark_mono (hp k hk)
      · rw [mark_ne _ hji] at hj
        exact mark_mono (hc j o' ho' hj k hk)
theorem wp_region_inv {P : Program} {ops : Array Oper} {Q : Exit → Act → World → Prop} {id : Nat} {a : Act} {w : World} (hm : P.follows .mixedOrders = true) (Inv : (Nat → Bool) → Act → World → Prop)
    (hback : ∀ (i : Nat) (o : Oper), ops[i]? = some o → ∀ j ∈ preOf o, j < i)
    (hstart : Inv (fun _ => false) a w.drew)
    (hstep : ∀ L a w, Inv L a w → Shut28 ops L → ∀ i o, ops[i]? = some o → L i = false → (∀ j ∈ preOf o, L j = true) → wpOp P ops Q i (Inv (mark L i)) a w)
    (hend : ∀ L a w, Inv L a w → (∀ i, i < ops.size → L i = true) → Q .normal a w) : (Code.region id ops true).wp P Q a w := by
  refine wp_region_any hm ?_
  have e : (fun j => (Array.replicate ops.size false).getD j false) = (fun _ => false) := by
    funext j
    rw [Array.getD_eq_getD_getElem?, Array.getElem?_replicate]
    split <;> rfl
  refine wpAny_inv Inv hback hstep hend ops.size _ a _ ?_ (by simp) ?_ (by rw [e]; exact hstart)
  · rw [Array.toList_replicate]
    exact Nat.le_trans (List.length_filter_le _ _) (by simp)
  · rw [e]
    intro j o _ h
    cases h
/-! The region itself. -/
structure Fr (S : List Nat) (A a : Act) : Prop where
  d : a.defers = A.defers
  s : a.tmps.size = A.tmps.size
  e : ∀ k, k ∉ S → a.tmps[k]? = A.tmps[k]?
theorem Fr.put {S : List Nat} {A a : Act} (h : Fr S A a) {d : Nat} (hd : d ∈ S) (v : Value) : Fr S A (a.put (some d) v) :=
  ⟨h.d, by simp [Act.put, h.s], fun k hk => by
    have hne : d ≠ k := fun e => hk (e ▸ hd)
    rw [← h.e k hk]
    simp [Act.put, Array.getElem?_setIfInBounds, hne]⟩
theorem put_self {a : Act} {d : Nat} {v : Value} (h : d < a.tmps.size) : (a.put (some d) v).tmps[d]? = some v := by simp [Act.put, h]
theorem put_ne {a : Act} {d k : Nat} {v : Value} (h : k ≠ d) : (a.put (some d) v).tmps[k]? = a.tmps[k]? := by
  have hne : d ≠ k := fun e => h e.symm
  simp [Act.put, Array.getElem?_setIfInBounds, hne]
theorem eval_of {a : Act} {k : Nat} {v : Value} (h : a.tmps[k]? = some v) : a.eval (.tmp k) = v := by
  show a.tmps.getD k undef = v
  rw [Array.getD_eq_getD_getElem?, h]
  rfl
theorem fold_put (f : Nat → Value) (k : Nat) : ∀ (S : List Nat) (b : Act), (S.foldl (fun b k => b.put (some k) (f k)) b).defers = b.defers ∧ (S.foldl (fun b k => b.put (some k) (f k)) b).tmps.size = b.tmps.size ∧
    (S.foldl (fun b k => b.put (some k) (f k)) b).tmps[k]? = if k ∈ S ∧ k < b.tmps.size then some (f k) else b.tmps[k]?
  | [], b => by simp
  | d :: S, b => by
    obtain ⟨h1, h2, h3⟩ := fold_put f k S (b.put (some d) (f d))
    have hs : (b.put (some d) (f d)).tmps.size = b.tmps.size := by simp [Act.put]
    rw [List.foldl_cons]
    refine ⟨h1, h2.trans hs, h3.trans ?_⟩
    rw [hs]
    by_cases hS : k ∈ S ∧ k < b.tmps.size
    · rw [if_pos hS, if_pos ⟨List.mem_cons_of_mem _ hS.1, hS.2⟩]
    · rw [if_neg hS]
      by_cases hd : k = d
      · subst hd
        by_cases hk : k < b.tmps.size
        · rw [put_self hk, if_pos ⟨List.mem_cons_self, hk⟩]
        · rw [if_neg (fun h => hk h.2), Array.getElem?_eq_none (by omega), Array.getElem?_eq_none (by omega)]
      · rw [put_ne hd, if_neg (fun h => by
          rcases List.mem_cons.1 h.1 with h1 | h1
          · exact hd h1
          · exact hS ⟨h1, h.2⟩)]
theorem Fr.canon {S : List Nat} {A a : Act} (h : Fr S A a) : a = S.foldl (fun b k => b.put (some k) (a.tmps.getD k undef)) A := by
  have hp := fun k => fold_put (fun k => a.tmps.getD k undef) k S A
  have e : a.tmps = (S.foldl (fun b k => b.put (some k) (a.tmps.getD k undef)) A).tmps := by
    apply Array.ext_getElem?
    intro k
    rw [(hp k).2.2]
    by_cases hk : k ∈ S ∧ k < A.tmps.size
    · rw [if_pos hk, Array.getD_eq_getD_getElem?, Array.getElem?_eq_getElem (by rw [h.s]; exact hk.2)]
      rfl
    · rw [if_neg hk]
      by_cases hS : k ∈ S
      · have hn : ¬ k < A.tmps.size := fun h2 => hk ⟨hS, h2⟩
        rw [Array.getElem?_eq_none (by rw [h.s]; omega), Array.getElem?_eq_none (by omega)]
      · exact h.e k hS
  have d : a.defers = (S.foldl (fun b k => b.put (some k) (a.tmps.getD k undef)) A).defers := h.d.trans (hp 0).1.symm
  cases a
  simp only at e d ⊢
  generalize List.foldl _ A S = B at e d
  cases B
  simp only at e d
  subst e d
  rfl
def S28 : List Nat := [20, 21, 127, 128, 129, 130, 131, 132, 133, 134, 135, 136, 137]
def dst28 (j : Nat) : Nat := [127, 128, 129, 130, 131, 132, 133, 134, 135, 136, 137, 20, 21].getD j 0
def clos8 : Value := .func (.func 8) #[] #[]
def actA (x : ActD) : Value := .agg #[.int .i64 x.kind, .string x.key, .int .i64 x.root, .int .i64 x.err]
def isBox (W : World) (nb : Nat) (v : Value) : Prop := ∃ X, v = .pointer (some ⟨X, 0, none⟩) ∧ W.heap[X]? = some (.cells #[.slice none 0 0] 26 (0, 0)) ∧ nb < X
def isRd (W : World) (v : Value) (l : List Ent) : Prop := ∃ b n c, v = .agg #[.slice b n c] ∧ Rd W (.slice b n c) l
theorem isBox.below {W W' : World} {nb : Nat} {v : Value} (h : isBox W nb v) (hb : Below W.heap.size W W') : isBox W' nb v := by
  obtain ⟨X, e, hx, hn⟩ := h
  exact ⟨X, e, (hb.block _ (lt_of_block hx)).trans hx, hn⟩
theorem isRd.below {W W' : World} {v : Value} {l : List Ent} (h : isRd W v l) (hb : Below W.heap.size W W') : isRd W' v l := by
  obtain ⟨b, n, c, e, hr⟩ := h
  exact ⟨b, n, c, e, hr.below hb⟩
section
variable (w : World) (one two : ActD) (mb nb : Nat) (sl sn : Value) (ml mn : List Ent)
def Pr28 (W : World) (v : Value) : Nat → Prop
  | 0 => v = clos8
  | 1 => v = .agg #[sn]
  | 2 => v = actA two
  | 3 => isRd W v (putL two.key two.root two.err mn)
  | 4 => v = clos8
  | 5 => v = clos8
  | 6 => v = .agg #[sl]
  | 7 => v = actA two
  | 8 => isRd W v (putL two.key two.root two.err ml)
  | 9 => v = actA one
  | 10 => isRd W v (putL one.key one.root one.err (putL two.key two.root two.err ml))
  | 11 => isBox W nb v
  | 12 => isBox W nb v
  | _ => True
theorem Pr28.below {W W' : World} {v : Value} {j : Nat} (h : Pr28 one two nb sl sn ml mn W v j) (hb : Below W.heap.size W W') : Pr28 one two nb sl sn ml mn W' v j := by
  match j, h with
  | 0, h => exact h
  | 1, h => exact h
  | 2, h => exact h
  | 3, h => exact isRd.below h hb
  | 4, h => exact h
  | 5, h => exact h
  | 6, h => exact h
  | 7, h => exact h
  | 8, h => exact isRd.below h hb
  | 9, h => exact h
  | 10, h => exact isRd.below h hb
  | 11, h => exact isBox.below h hb
  | 12, h => exact isBox.below h hb
  | _ + 13, _ => trivial
/-- ahead of the stores -/
structure A28 (A : Act) (L : Nat → Bool) (a : Act) (W : World) : Prop where
  n13 : L 13 = false
  n14 : L 14 = false
  fr : Fr S28 A a
  rx : RX w W one two mb sl nb sn ml mn
  v : ∀ j, j < 13 → L j = true → ∃ u, a.tmps[dst28 j]? = some u ∧ Pr28 one two nb sl sn ml mn W u j
  ne : L 11 = true → L 12 = true → a.tmps[20]? ≠ a.tmps[21]?
/-- behind the first store -/
structure B28 (A : Act) (L : Nat → Bool) (a : Act) (W : World) : Prop where
  n14 : L 14 = false
  all : ∀ j, j < 14 → L j = true
  fr : Fr S28 A a
  v : ∃ (X Y : Nat) (sx : Value) (b : Option Addr) (n c : Nat), a.tmps[20]? = some (.pointer (some ⟨X, 0, none⟩)) ∧ a.tmps[21]? = some (.pointer (some ⟨Y, 0, none⟩)) ∧ a.tmps[137]? = some (.agg #[.slice b n c]) ∧
    RY w W one two X sx (.slice b n c) (putL two.key two.root two.err mn) (putL one.key one.root one.err (putL two.key two.root two.err ml)) ∧ X ≠ Y ∧ W.heap[Y]? = some (.cells #[.slice none 0 0] 26 (0, 0)) ∧ w.heap.size + 1 < Y
/-- at the end -/
structure C28 (A : Act) (L : Nat → Bool) (a : Act) (W : World) : Prop where
  all : ∀ j, j < 15 → L j = true
  fr : Fr S28 A a
  v : ∃ x y, a.tmps[20]? = some x ∧ a.tmps[21]? = some y ∧ RQ w W one two x y (putL two.key two.root two.err mn) (putL one.key one.root one.err (putL two.key two.root two.err ml))
end
theorem dst_inj {i j : Nat} (hi : i < 13) (hj : j < 13) (h : dst28 i = dst28 j) : i = j := by
  have : ∀ i, i < 13 → ∀ j, j < 13 → dst28 i = dst28 j → i = j := by decide
  exact this i hi j hj h
theorem dst_mem {i : Nat} (hi : i < 13) : dst28 i ∈ S28 := by
  have : ∀ i, i < 13 → dst28 i ∈ S28 := by decide
  exact this i hi
theorem dst_le {i : Nat} (hi : i < 13) : dst28 i ≤ 137 := by
  have : ∀ i, i < 13 → dst28 i ≤ 137 := by decide
  exact this i hi
theorem A28.step {w : World} {one two : ActD} {mb nb : Nat} {sl sn : Value} {ml mn : List Ent} {A a : Act} {L : Nat → Bool} {W W' : World} (h : A28 w one two mb nb sl sn ml mn A L a W) {i : Nat} {u : Value} (hi : i < 13) (hA : 137 < A.tmps.size)
    (hb : Below W.heap.size W W') (hp : Pr28 one two nb sl sn ml mn W' u i) (hne : 11 ≤ i → u = .pointer (some ⟨W.heap.size, 0, none⟩)) : A28 w one two mb nb sl sn ml mn A (mark L i) (a.put (some (dst28 i)) u) W' := by
  have hlt : dst28 i < a.tmps.size := by rw [h.fr.s]; have := dst_le hi; omega
  refine ⟨by rw [mark_ne _ (by omega)]; exact h.n13, by rw [mark_ne _ (by omega)]; exact h.n14, h.fr.put (dst_mem hi) u, h.rx.step hb, fun j hj hL => ?_, fun h1 h2 => ?_⟩
  · by_cases hji : j = i
    · subst hji
      exact ⟨u, put_self hlt, hp⟩
    · rw [mark_ne _ hji] at hL
      obtain ⟨x, hx, hpx⟩ := h.v j hj hL
      exact ⟨x, (put_ne (fun e => hji (dst_inj hj hi e))).trans hx, hpx.below _ _ _ _ _ _ _ hb⟩
  · by_cases h11 : i = 11
    · subst h11
      rw [mark_ne _ (by omega)] at h2
      obtain ⟨y, hy, X, rfl, hX, _⟩ := h.v 12 (by omega) h2
      rw [show (20 : Nat) = dst28 11 from rfl, put_self hlt, put_ne (by decide), show a.tmps[21]? = _ from hy, hne (by omega)]
      intro e
      have := lt_of_block hX
      injection e with e
      injection e with e
      injection e with e
      injection e with e
      omega
    · by_cases h12 : i = 12
      · subst h12
        rw [mark_ne _ (by omega)] at h1
        obtain ⟨y, hy, X, rfl, hX, _⟩ := h.v 11 (by omega) h1
        rw [show (21 : Nat) = dst28 12 from rfl, put_self hlt, put_ne (by decide), show a.tmps[20]? = _ from hy, hne (by omega)]
        intro e
        have := lt_of_block hX
        injection e with e
        injection e with e
        injection e with e
        injection e with e
        omega
      · rw [mark_ne _ (fun e => h11 e.symm)] at h1
        rw [mark_ne _ (fun e => h12 e.symm)] at h2
        have e1 : (a.put (some (dst28 i)) u).tmps[20]? = a.tmps[20]? := put_ne (fun e => h11 (dst_inj (i := i) (j := 11) hi (by omega) e.symm))
        have e2 : (a.put (some (dst28 i)) u).tmps[21]? = a.tmps[21]? := put_ne (fun e => h12 (dst_inj (i := i) (j := 12) hi (by omega) e.symm))
        rw [e1, e2]
        exact h.ne h1 h2
def desc (o : Oper) : Option Tmp × Op × Option (Nat × Bool) × List Nat := (o.dst, o.op, o.guard, preOf o)
def D28 : List (Option Tmp × Op × Option (Nat × Bool) × List Nat) :=
  [(some 127, .move (.tmp 12), none, []), (some 128, .load 26 (.tmp 14), none, []), (some 129, .load 41 (.tmp 5), none, []),
   (some 130, .call { callee := .value (.tmp 127), args := #[.tmp 128, .tmp 129], argTypes := #[26, 41] }, none, [0, 1, 2]),
   (some 131, .move (.tmp 12), none, []), (some 132, .move (.tmp 12), none, []), (some 133, .load 26 (.tmp 7), none, []), (some 134, .load 41 (.tmp 5), none, []),
   (some 135, .call { callee := .value (.tmp 132), args := #[.tmp 133, .tmp 134], argTypes := #[26, 41] }, none, [5, 6, 7, 3]),
   (some 136, .load 41 (.tmp 4), none, []),
   (some 137, .call { callee := .value (.tmp 131), args := #[.tmp 135, .tmp 136], argTypes := #[26, 41] }, none, [4, 8, 9, 8]),
   (some 20, .alloc 26, none, []), (some 21, .alloc 26, none, []),
   (none, .store 26 (.tmp 20) (.tmp 130), none, [11, 3, 10, 0, 1, 2, 3, 11, 12]),
   (none, .store 26 (.tmp 21) (.tmp 137), none, [12, 10, 13, 0, 1, 2, 3, 4, 5, 6, 7, 8, 9, 10, 11, 12, 13])]
theorem desc_at {ops : Array Oper} (hops : ops.toList.map desc = D28) {i : Nat} {o : Oper} (ho : ops[i]? = some o) : D28[i]? = some (desc o) := by
  rw [← hops, List.getElem?_map, Array.getElem?_toList, ho]
  rfl
theorem back28 : ∀ (i : Nat) (d : Option Tmp × Op × Option (Nat × Bool) × List Nat), D28[i]? = some d → ∀ j ∈ d.2.2.2, j < i := by
  intro i d h
  have hi : i < 15 := (List.getElem?_eq_some_iff.1 h).1
  rcases (show i = 0 ∨ i = 1 ∨ i = 2 ∨ i = 3 ∨ i = 4 ∨ i = 5 ∨ i = 6 ∨ i = 7 ∨ i = 8 ∨ i = 9 ∨ i = 10 ∨ i = 11 ∨ i = 12 ∨ i = 13 ∨ i = 14 by omega) with rfl | rfl | rfl | rfl | rfl | rfl | rfl | rfl | rfl | rfl | rfl | rfl | rfl | rfl | rfl <;>
    (obtain rfl := Option.some.inj h; intro j hj; simp [D28] at hj <;> omega)
/-- REGION 28, in whatever order. -/
theorem reg28 {ops : Array Oper} (hops : ops.toList.map desc = D28) {id : Nat} {w : World} {one two : ActD} {mb nb : Nat} {a1 a3 : Option Addr} {n1 c1 n3 c3 : Nat} {ml mn : List Ent} {A : Act} {W : World} {Q : Exit → Act → World → Prop}
    (hA : 137 < A.tmps.size) (h4 : A.eval (.tmp 4) = .pointer (some ⟨w.heap.size, 0, none⟩)) (h5 : A.eval (.tmp 5) = .pointer (some ⟨w.heap.size + 1, 0, none⟩)) (h7 : A.eval (.tmp 7) = .pointer (some ⟨mb, 0, none⟩)) (h12 : A.eval (.tmp 12) = clos8) (h14 : A.eval (.tmp 14) = .pointer (some ⟨nb, 0, none⟩))
    (hg : Good ml) (hg1 : Good mn) (hk1 : one.key.size ≤ 100) (hk2 : two.key.size ≤ 100)
    (hrx : RX w W one two mb (.slice a1 n1 c1) nb (.slice a3 n3 c3) ml mn)
    (hQ : ∀ a' W' x y, Fr S28 A a' → a'.tmps[20]? = some x → a'.tmps[21]? = some y → RQ w W' one two x y (putL two.key two.root two.err mn) (putL one.key one.root one.err (putL two.key two.root two.err ml)) → Q .normal a' W') :
    (Code.region id ops true).wp Tryd.prog Q A W := by
  have hsz : ops.size = 15 := by
    have := congrArg List.length hops
    simpa [D28] using this
  have hop : ∀ i o, ops[i]? = some o → D28[i]? = some (desc o) := fun i o h => desc_at hops h
  clear hops
  refine wp_region_inv (by kernel_rfl) (fun L a W => A28 w one two mb nb (.slice a1 n1 c1) (.slice a3 n3 c3) ml mn A L a W ∨ B28 w one two ml mn A L a W ∨ C28 w one two ml mn A L a W)
    (fun i o ho => back28 i _ (hop i o ho)) (.inl ⟨rfl, rfl, ⟨rfl, rfl, fun _ _ => rfl⟩, hrx.drew, fun j _ h => (by cases h), fun h => (by cases h)⟩) ?_ ?_
  · intro L a W hI hC i o ho hL hp
    have hd := hop i o ho
    have hi : i < 15 := (List.getElem?_eq_some_iff.1 hd).1
    rcases hI with hI | hI | hI
    · have ev : ∀ k, k ∉ S28 → a.eval (.tmp k) = A.eval (.tmp k) := fun k hk => by
        show a.tmps.getD k undef = A.tmps.getD k undef
        rw [Array.getD_eq_getD_getElem?, Array.getD_eq_getD_getElem?, hI.fr.e k hk]
      have st := hI.rx.s
      obtain ⟨s1, s2, s3, s4, s5, s6, s7, s8, s9, s10⟩ := st
      have refl := Below.refl W.heap.size W
      have hcl : ∀ j d, D28[j]? = some d → L j = true → ∀ k ∈ d.2.2.2, L k = true := fun j d hj hl k hk => by
        have hlt : j < ops.size := by rw [hsz]; exact (List.getElem?_eq_some_iff.1 hj).1
        have h1 := hop j ops[j] (Array.getElem?_eq_getElem hlt)
        rw [hj] at h1
        obtain rfl := Option.some.inj h1
        exact hC j _ (Array.getElem?_eq_getElem hlt) hl k hk
      have no : ∀ {k : Nat} {P : Prop}, k < 11 → 11 ≤ k → P := fun h1 h2 => absurd h1 (by omega)
      rcases (show i = 0 ∨ i = 1 ∨ i = 2 ∨ i = 3 ∨ i = 4 ∨ i = 5 ∨ i = 6 ∨ i = 7 ∨ i = 8 ∨ i = 9 ∨ i = 10 ∨ i = 11 ∨ i = 12 ∨ i = 13 ∨ i = 14 by omega) with rfl | rfl | rfl | rfl | rfl | rfl | rfl | rfl | rfl | rfl | rfl | rfl | rfl | rfl | rfl <;>
        (have hd := Option.some.inj hd; simp only [desc, Prod.mk.injEq] at hd; obtain ⟨e1, e2, e3, e4⟩ := hd; refine wpOp_of ho e3.symm ?_; rw [← e4] at hp)
      · refine ex_move e2.symm ?_
        rw [← e1, ev 12 (by decide), h12]
        exact .inl (hI.step (i := 0) (by omega) hA refl rfl (no (by omega)))
      · refine ex_load26 e2.symm ((ev 14 (by decide)).trans h14) s2 ?_
        rw [← e1]
        exact .inl (hI.step (i := 1) (by omega) hA refl rfl (no (by omega)))
      · refine ex_load41 e2.symm ((ev 5 (by decide)).trans h5) s7 s8 s9 s10 ?_
        rw [← e1]
        exact .inl (hI.step (i := 2) (by omega) hA refl rfl (no (by omega)))
      · obtain ⟨u0, g0, p0⟩ := hI.v 0 (by omega) (hp 0 (by simp))
        obtain rfl : u0 = clos8 := p0
        obtain ⟨u1, g1, p1⟩ := hI.v 1 (by omega) (hp 1 (by simp))
        obtain rfl : u1 = .agg #[.slice a3 n3 c3] := p1
        obtain ⟨u2, g2, p2⟩ := hI.v 2 (by omega) (hp 2 (by simp))
        obtain rfl : u2 = actA two := p2
        refine ex_call8 e2.symm (eval_of g0) (eval_of g1) (eval_of g2) ?_
        refine (putC_any mn (.slice a3 n3 c3) two W (by have := hg1.len; omega) (by omega) hI.rx.rn hI.rx.tab hI.rx.pos).mono ?_
        rintro e w' ⟨sx, rfl, hx, hb⟩
        obtain ⟨b, n, c, rfl⟩ := hx.form
        refine ⟨_, rfl, ?_⟩
        rw [← e1]
        exact .inl (hI.step (i := 3) (by omega) hA hb ⟨b, n, c, rfl, hx⟩ (no (by omega)))
      · refine ex_move e2.symm ?_
        rw [← e1, ev 12 (by decide), h12]
        exact .inl (hI.step (i := 4) (by omega) hA refl rfl (no (by omega)))
      · refine ex_move e2.symm ?_
        rw [← e1, ev 12 (by decide), h12]
        exact .inl (hI.step (i := 5) (by omega) hA refl rfl (no (by omega)))
      · refine ex_load26 e2.symm ((ev 7 (by decide)).trans h7) s1 ?_
        rw [← e1]
        exact .inl (hI.step (i := 6) (by omega) hA refl rfl (no (by omega)))
      · refine ex_load41 e2.symm ((ev 5 (by decide)).trans h5) s7 s8 s9 s10 ?_
        rw [← e1]
        exact .inl (hI.step (i := 7) (by omega) hA refl rfl (no (by omega)))
      · obtain ⟨u0, g0, p0⟩ := hI.v 5 (by omega) (hp 5 (by simp))
        obtain rfl : u0 = clos8 := p0
        obtain ⟨u1, g1, p1⟩ := hI.v 6 (by omega) (hp 6 (by simp))
        obtain rfl : u1 = .agg #[.slice a1 n1 c1] := p1
        obtain ⟨u2, g2, p2⟩ := hI.v 7 (by omega) (hp 7 (by simp))
        obtain rfl : u2 = actA two := p2
        refine ex_call8 e2.symm (eval_of g0) (eval_of g1) (eval_of g2) ?_
        refine (putC_any ml (.slice a1 n1 c1) two W (by have := hg.len; omega) (by omega) hI.rx.rm hI.rx.tab hI.rx.pos).mono ?_
        rintro e w' ⟨sx, rfl, hx, hb⟩
        obtain ⟨b, n, c, rfl⟩ := hx.form
        refine ⟨_, rfl, ?_⟩
        rw [← e1]
        exact .inl (hI.step (i := 8) (by omega) hA hb ⟨b, n, c, rfl, hx⟩ (no (by omega)))
      · refine ex_load41 e2.symm ((ev 4 (by decide)).trans h4) s3 s4 s5 s6 ?_
        rw [← e1]
        exact .inl (hI.step (i := 9) (by omega) hA refl rfl (no (by omega)))
      · obtain ⟨u0, g0, p0⟩ := hI.v 4 (by omega) (hp 4 (by simp))
        obtain rfl : u0 = clos8 := p0
        obtain ⟨u1, g1, p1⟩ := hI.v 8 (by omega) (hp 8 (by simp))
        obtain ⟨b1, m1, d1, rfl, hr1⟩ := p1
        obtain ⟨u2, g2, p2⟩ := hI.v 9 (by omega) (hp 9 (by simp))
        obtain rfl : u2 = actA one := p2
        refine ex_call8 e2.symm (eval_of g0) (eval_of g1) (eval_of g2) ?_
        refine (putC_any _ (.slice b1 m1 d1) one W (by have := (good_put hg two.key two.root two.err).len; omega) (by omega) hr1 hI.rx.tab hI.rx.pos).mono ?_
        rintro e w' ⟨sx, rfl, hx, hb⟩
        obtain ⟨b, n, c, rfl⟩ := hx.form
        refine ⟨_, rfl, ?_⟩
        rw [← e1]
        exact .inl (hI.step (i := 10) (by omega) hA hb ⟨b, n, c, rfl, hx⟩ (no (by omega)))
      · refine ex_alloc26 e2.symm ?_
        rw [← e1]
        exact .inl (hI.step (i := 11) (by omega) hA (refl.alloc (Nat.le_refl _) _) ⟨_, rfl, alloc_get _ _ _ rfl, lt_of_block hI.rx.ix.n⟩ (fun _ => rfl))
      · refine ex_alloc26 e2.symm ?_
        rw [← e1]
        exact .inl (hI.step (i := 12) (by omega) hA (refl.alloc (Nat.le_refl _) _) ⟨_, rfl, alloc_get _ _ _ rfl, lt_of_block hI.rx.ix.n⟩ (fun _ => rfl))
      · have l10 := hp 10 (by simp)
        have l11 := hp 11 (by simp)
        have l12 := hp 12 (by simp)
        have l3 := hp 3 (by simp)
        obtain ⟨u1, g1, X, rfl, hX, hnX⟩ := hI.v 11 (by omega) l11
        obtain ⟨u2, g2, Y, rfl, hY, hnY⟩ := hI.v 12 (by omega) l12
        obtain ⟨u3, g3, b3, m3, d3, rfl, hr3⟩ := hI.v 3 (by omega) l3
        obtain ⟨u4, g4, b4, m4, d4, rfl, hr4⟩ := hI.v 10 (by omega) l10
        have hne : X ≠ Y := fun e => hI.ne l11 l12 (by subst e; exact Eq.trans g1 (Eq.symm g2))
        have z1 := hI.rx.ix.lo
        have z2 := hI.rx.ix.im.lo
        have l8 := hcl 10 _ rfl l10 8 (by simp)
        refine ex_store26 e2.symm (eval_of g1) (eval_of g3) hX ?_
        rw [← e1]
        refine .inr (.inl ⟨by rw [mark_ne _ (by omega)]; exact hI.n14, fun j hj => ?_, hI.fr, X, Y, _, b4, m4, d4, g1, g2, g4,
          RZ.sx ⟨hI.rx.ix.im.ib, hr3, hr4, hI.rx.tab⟩ hX (by omega), hne, (heap_setCell_other _ _ _ _ hne.symm).trans hY, by omega⟩)
        rcases (show j = 13 ∨ j < 13 by omega) with rfl | hj
        · exact mark_self _ _
        · refine mark_mono ?_
          rcases (show j = 0 ∨ j = 1 ∨ j = 2 ∨ j = 3 ∨ j = 4 ∨ j = 5 ∨ j = 6 ∨ j = 7 ∨ j = 8 ∨ j = 9 ∨ j = 10 ∨ j = 11 ∨ j = 12 by omega) with rfl | rfl | rfl | rfl | rfl | rfl | rfl | rfl | rfl | rfl | rfl | rfl | rfl
          · exact hp 0 (by simp)
          · exact hp 1 (by simp)
          · exact hp 2 (by simp)
          · exact l3
          · exact hcl 10 _ rfl l10 4 (by simp)
          · exact hcl 8 _ rfl l8 5 (by simp)
          · exact hcl 8 _ rfl l8 6 (by simp)
          · exact hcl 8 _ rfl l8 7 (by simp)
          · exact l8
          · exact hcl 10 _ rfl l10 9 (by simp)
          · exact l10
          · exact l11
          · exact l12
      · have := hp 13 (by simp)
        rw [hI.n13] at this
        cases this
    · have h14 : i = 14 := by
        by_cases h : i = 14
        · exact h
        · have := hI.all i (by omega)
          rw [hL] at this
          cases this
      subst h14
      have hd := Option.some.inj hd
      simp only [desc, Prod.mk.injEq] at hd
      obtain ⟨e1, e2, e3, e4⟩ := hd
      refine wpOp_of ho e3.symm ?_
      obtain ⟨X, Y, sx, b, n, c, g1, g2, g3, hRY, hne, hY, hl⟩ := hI.v
      refine ex_store26 e2.symm (eval_of g2) (eval_of g3) hY ?_
      rw [← e1]
      refine .inr (.inr ⟨fun j hj => ?_, hI.fr, _, _, g1, g2, hRY.sy hY hne hl⟩)
      rcases (show j = 14 ∨ j < 14 by omega) with rfl | hj
      · exact mark_self _ _
      · exact mark_mono (hI.all j hj)
    · have := hI.all i hi
      rw [hL] at this
      cases this
  · intro L a W hI hall
    rcases hI with hI | hI | hI
    · exfalso
      have := hall 13 (by omega)
      rw [hI.n13] at this
      cases this
    · exfalso
      have := hall 14 (by omega)
      rw [hI.n14] at this
      cases this
    · obtain ⟨x, y, h1, h2, h3⟩ := hI.v
      exact hQ a W x y hI.fr h1 h2 h3
theorem canon28 {A a : Act} {x y : Value} (h : Fr S28 A a) (hx : a.tmps[20]? = some x) (hy : a.tmps[21]? = some y) : ∃ u127 u128 u129 u130 u131 u132 u133 u134 u135 u136 u137 : Value,
    a = ((((((((((((A.put (some 20) x).put (some 21) y).put (some 127) u127).put (some 128) u128).put (some 129) u129).put (some 130) u130).put (some 131) u131).put (some 132) u132).put (some 133) u133).put (some 134) u134).put (some 135) u135).put (some 136) u136).put (some 137) u137 := by
  have e := h.canon
  simp only [S28, List.foldl_cons, List.foldl_nil, Array.getD_eq_getD_getElem?, hx, hy, Option.getD_some] at e
  exact ⟨_, _, _, _, _, _, _, _, _, _, _, e⟩
end Go.Proofs.YtlipahfkfhcniaaDoor
