import Derived.Test.YteigcnamkfebgaaGreatDoorAL
import Derived.Deep.RegionHeld3
namespace Go.Proofs.YteigcnamkfebgaaGreatDoor
open Go.RowKit Go.Shelf
attribute [local go_sem] Oper.semAt_some
section
variable {P : Program} {ops : Array Oper} {Q : Exit → Act → World → Prop} {md : Region.Mode}
theorem uponIn_of_upon (l n : Nat) (o : Oper) (a : Act) {K K' : Act → World → Prop} (hK : ∀ a w, K a w → K' a w) (r : Result Next) (h : o.upon P a K Q r) : o.uponIn (Fence.wide.inRound l) n P a K' Q r := by
  match r, h with
  | .ok (.value v) w', h => exact hK _ _ h
  | .ok .skip w', h => exact hK _ _ h
  | .ok (.defer d) w', h => exact hK _ _ h
  | .ok (.enter f args) w', h =>
    refine ⟨fun hc => by simp [Fence.wide] at hc, CallsIn.inRound l (callsIn_wide.2 (h.mono ?_))⟩
    intro e w'' he
    cases e with
    | returned v => exact hK _ _ he
    | panicked c => exact he
    | outgrown => exact he
  | .ok (.row row args) w', h =>
    refine ⟨fun hc => by simp [Fence.wide] at hc, fun c cs hroom => ?_⟩
    obtain ⟨v, w'', r, s⟩ := h c cs
    exact ⟨v, w'', hK _ _ r, stepsIn_wide.2 s⟩
  | .halt (.panic v) w', h => exact h
theorem wpAnyIn_of_wpAny (l n : Nat) (hd : ∀ (i : Nat) (o : Oper), ops[i]? = some o → ∀ c, o.op ≠ .defer c) (hlo : ¬ LetsOut Q) : ∀ (fuel : Nat) (listed : Array Bool) (a : Act) (w : World), wpAny P md ops Q fuel listed a w → wpAnyIn (Fence.wide.inRound l) n P md ops Q fuel listed a w
  | 0, listed, a, w, h => h
  | fuel + 1, listed, a, w, h => by
    refine ⟨h.1, fun i hi => ?_⟩
    have h2 := h.2 i hi
    unfold wpOp at h2
    unfold wpOpIn
    split
    · rename_i ho
      rw [ho] at h2
      exact wpAnyIn_of_wpAny l n hd hlo fuel _ a w h2
    · rename_i o ho
      rw [ho] at h2
      simp only at h2
      split
      · rename_i hw
        rw [if_pos hw] at h2
        rcases h2 with h2 | ⟨_, h2⟩
        · refine ⟨fun f _ => trivial, ?_⟩
          have hs : o.semAt (Fence.wide.inRound l).round a.eval = execOp a.eval o := Oper.semAt_some l a.eval o (hd i o ho)
          rw [hs]
          exact uponIn_of_upon l n o a (fun a w h => wpAnyIn_of_wpAny l n hd hlo fuel _ a w h) _ h2
        · exact absurd h2 hlo
      · rename_i hw
        rw [if_neg hw] at h2
        exact ⟨fun f _ => trivial, wpAnyIn_of_wpAny l n hd hlo fuel _ _ w h2⟩
/-- a drawn region in a round, by the plain law under a condition S -/
theorem wpIn_region_round {id : Nat} {a : Act} {w : World} (l n : Nat) (S : World → Prop) (hm : P.follows .mixedOrders = true) (hd : (ops.all fun o => match o.op with | .defer _ => false | _ => true) = true) (hlo : ¬ LetsOut Q) (hS : S w.drew)
    (h : S w.drew → wpAnyH P .any ops Q S ops.size (Array.replicate ops.size false) a w.drew) : (Code.region id ops true).wpIn (Fence.wide.inRound l) n P Q a w :=
  wpIn_region_any hm (wpAnyIn_of_wpAny l n (fun i o ho c hc => by
    have h1 := (Array.all_eq_true_iff_forall_mem.1 hd) o (Array.mem_of_getElem? ho)
    rw [hc] at h1
    cases h1) hlo _ _ _ _ (wpAny_of_held _ _ _ _ (h hS)))
end
theorem run_lookup_raw {P : Program} {w : World} (t : TypeId) (c : Bool) (k e : TypeId) (ht : P.underlying t = some (.map k e)) (z : Value) (hz : ∀ w, (zeroValue e).run P w = .ok z w)
    (b : Nat) (es : Array MapEntry) (clock : Nat) (hb : w.heap[b]? = some (.map es clock)) (key : Value)
    (hck : ∀ em w, (Instr.checkKey em 10000 k key).run P w = .ok () w) (r : Option (Nat × Value)) (hf : ∀ w, (Instr.findKey k key es.toList).run P w = .ok r w) :
    (Instr.lookup t (.map (some b)) key c).run P w = .ok (if c then .tuple #[(r.map (·.2)).getD z, .bool r.isSome] else (r.map (·.2)).getD z) w := by
  cases r with
  | none => simp [Instr.lookup, run_underlying ht, MapKept.run_getObj_map hb, hck, hf, hz, Result.andThen]
  | some r => simp [Instr.lookup, run_underlying ht, MapKept.run_getObj_map hb, hck, hf, Result.andThen]
theorem und91 : Tryz.prog.underlying 91 = some (.slice 4) := by kernel_rfl
theorem und117 : Tryz.prog.underlying 117 = some (.map 38 22) := by kernel_rfl
theorem info4 : (Tryz.prog.info? 4).map (fun i => (i.zero, i.size, i.bytes)) = some (some (.bool false), 1, 1) := by kernel_rfl
def boolsV (D : List Bool) : Array Value := (D.map Value.bool).toArray
/-- what Live's loop keeps: the row of answers, the boxes, the empty map -/
def LiveI (n B : Nat) (w : World) (pre : List (Fin n)) (W : World) : Prop :=
  (∃ D : List Bool, D.length = n ∧ W.heap[B]? = some (.cells (boolsV D) 4 (0, 0)) ∧ ∀ j ∈ pre, D[j.val]? = some true) ∧
  W.heap[B + 1]? = some (.cells #[.slice (some ⟨B, 0, none⟩) n n] 91 (0, 0)) ∧ W.heap[B + 2]? = some (.map #[] 0) ∧ W.heap[B + 3]? = some (.cells #[.map (some (B + 2))] 117 (0, 0)) ∧ Below B w W ∧ B + 5 ≤ W.heap.size
theorem LiveI.own {n B : Nat} {w : World} (m : Nat) (hm : B + 5 ≤ m) : OwnFrom m (LiveI n B w) := fun pre W W' row h hg hr => by
  obtain ⟨⟨D, h1, h2, h3⟩, h4, h5, h6, h7, h8⟩ := h
  have hne : ∀ i, i < m → some i ≠ row := fun i hi e => by have := (hr i e.symm).1; omega
  exact ⟨⟨D, h1, (hg.block _ (lt_of_block h2) (hne _ (by omega))).trans h2, h3⟩, (hg.block _ (lt_of_block h4) (hne _ (by omega))).trans h4, (hg.block _ (lt_of_block h5) (hne _ (by omega))).trans h5,
    (hg.block _ (lt_of_block h6) (hne _ (by omega))).trans h6, h7.grown hg (by have := lt_of_block h2; omega) (fun j hj => by have := (hr j hj).1; omega), Nat.le_trans h8 hg.size⟩
set_option maxRecDepth 100000 in
set_option maxHeartbeats 6400000 in
theorem live_any (E : List EdD) (b off cap : Nat) (w : World) (hr : w.rangeAt b off (edY.flat E)) (hl : E.length ≤ 1000) (hpos : 0 < E.length) (hk : ∀ e ∈ E, e.kind = 1 ∨ e.kind = 3) :
    Calls Tryz.prog 38 #[.slice (some ⟨b, off, none⟩) E.length cap] w fun e w' => ∃ v', e = .returned v' ∧ w'.ownsRow w.heap.size 4 1 v' E.length ((List.replicate E.length true).map Value.bool) ∧ Below w.heap.size w w' := by
  have hb : b < w.heap.size := by
    obtain ⟨e, r, rfl⟩ : ∃ e r, E = e :: r := by cases E with | nil => simp at hpos | cons e r => exact ⟨e, r, rfl⟩
    have h0 : w.cell? ⟨b, off + 0, none⟩ = some (.string e.id.a) := hr 0 (.string e.id.a) rfl
    exact World.block_lt_of_cell? w _ h0
  have HR := Lib.hid hr
  have HK := Lib.hid hk
  have hmk := run_make_row' (P := Tryz.prog) 91 4 (.bool false) 1 und91 info4 rfl .i64 .i64 E.length (by omega) (by omega)
  have hmm := @run_makeMap Tryz.prog
  clear hr hk
  refine (callsIn_wide (n := 3)).1 ?_
  refine callsIn_of_wp_marks Tryz.func38 rfl trivial ?_ rfl
  simp only [Tryz.ntmps38, List.size_toArray, List.length_cons, List.length_nil, Nat.reduceAdd, Nat.reduceSub, Array.replicate_succ, Array.replicate_zero, List.push_toArray, List.append_toArray, List.nil_append, List.cons_append]
  gi_wp2_with (refine ⟨trivial, ?_⟩; gi_at_call 68; refine (callsIn_wide.2 (backward_any _ _ _ _)).mono ?_; rintro e w' ⟨rfl, rfl⟩)
  have hcell : (((((w.alloc (.cells (madeCells #[Value.bool false] E.length) 4)).alloc (.cells #[.slice (some ⟨w.heap.size, 0, none⟩) E.length E.length] 91)).alloc (.map #[] 0)).alloc (.cells #[.map (some (w.heap.size + 1 + 1))] 117)).alloc (.cells #[.slice (some ⟨b, off, none⟩) E.length cap] 22)).cell? ⟨w.heap.size + 1 + 1 + 1 + 1, 0, none⟩ = some (.slice (some ⟨b, off, none⟩) E.length cap) := cell_of_row _ _ 0 _ _ _ (alloc_get _ _ _ (by simp))
  have hrange : (((((w.alloc (.cells (madeCells #[Value.bool false] E.length) 4)).alloc (.cells #[.slice (some ⟨w.heap.size, 0, none⟩) E.length E.length] 91)).alloc (.map #[] 0)).alloc (.cells #[.map (some (w.heap.size + 1 + 1))] 117)).alloc (.cells #[.slice (some ⟨b, off, none⟩) E.length cap] 22)).rangeAt b off (edY.flat E) :=
    World.rangeAt_alloc (World.rangeAt_alloc (World.rangeAt_alloc (World.rangeAt_alloc (World.rangeAt_alloc HR.out _) _) _) _) _
  have hbel : Below w.heap.size w (((((w.alloc (.cells (madeCells #[Value.bool false] E.length) 4)).alloc (.cells #[.slice (some ⟨w.heap.size, 0, none⟩) E.length E.length] 91)).alloc (.map #[] 0)).alloc (.cells #[.map (some (w.heap.size + 1 + 1))] 117)).alloc (.cells #[.slice (some ⟨b, off, none⟩) E.length cap] 22)) :=
    ((((((Below.refl _ w).alloc (Nat.le_refl _) _).alloc (by simp) _).alloc (by simp <;> omega) _).alloc (by simp <;> omega) _).alloc (by simp <;> omega) _)
  have hdone0 : ∃ D : List Bool, D.length = E.length ∧ madeCells #[Value.bool false] E.length = boolsV D := ⟨List.replicate E.length false, by simp, by apply Array.toList_inj.1; rw [toList_madeCells_one]; simp [boolsV]⟩
  obtain ⟨D0, hD1, hD2⟩ := hdone0
  have hI0 : LiveI E.length w.heap.size w [] (((((w.alloc (.cells (madeCells #[Value.bool false] E.length) 4)).alloc (.cells #[.slice (some ⟨w.heap.size, 0, none⟩) E.length E.length] 91)).alloc (.map #[] 0)).alloc (.cells #[.map (some (w.heap.size + 1 + 1))] 117)).alloc (.cells #[.slice (some ⟨b, off, none⟩) E.length cap] 22)) := by
    refine ⟨⟨D0, hD1, ?_, by simp⟩, ?_, ?_, ?_, hbel, by simp⟩
    · rw [← hD2]; exact alloc_old _ _ _ _ (alloc_old _ _ _ _ (alloc_old _ _ _ _ (alloc_old _ _ _ _ (alloc_get _ _ _ rfl))))
    · exact alloc_old _ _ _ _ (alloc_old _ _ _ _ (alloc_old _ _ _ _ (alloc_get _ _ _ (by simp))))
    · exact alloc_old _ _ _ _ (alloc_old _ _ _ _ (alloc_get _ _ _ (by simp)))
    · exact alloc_old _ _ _ _ (alloc_get _ _ _ (by simp))
  have hsz5 : (((((w.alloc (.cells (madeCells #[Value.bool false] E.length) 4)).alloc (.cells #[.slice (some ⟨w.heap.size, 0, none⟩) E.length E.length] 91)).alloc (.map #[] 0)).alloc (.cells #[.map (some (w.heap.size + 1 + 1))] 117)).alloc (.cells #[.slice (some ⟨b, off, none⟩) E.length cap] 22)).heap.size = w.heap.size + 5 := by simp
  clear hmk hmm hD2 hbel
  generalize (((((w.alloc (.cells (madeCells #[Value.bool false] E.length) 4)).alloc (.cells #[.slice (some ⟨w.heap.size, 0, none⟩) E.length E.length] 91)).alloc (.map #[] 0)).alloc (.cells #[.map (some (w.heap.size + 1 + 1))] 117)).alloc (.cells #[.slice (some ⟨b, off, none⟩) E.length cap] 22)) = W5 at *
  refine wpIn_rangeFunc_ownH rfl (by omega) (gf := 112) (lb := #[.pointer (some ⟨w.heap.size + 1 + 1 + 1 + 1, 0, none⟩)]) rfl trivial (enters_of Tryz.func112 (by kernel_rfl) rfl)
    (back_stops 2 (by omega) (w.heap.size + 1 + 1 + 1 + 1) w.heap.size b off cap E hl W5 (by omega) (by omega) (by omega) (by omega) hcell hrange)
    (fun h h' => h.trans h') (fun W l o o' hle hlo _ _ => ⟨by simp, fun i hi _ => World.putObj_heap_other (by omega)⟩) (Below.refl _ _) (fun _ => rfl)
    (LiveI E.length w.heap.size w) (fun _ _ _ => False) (LiveI.own _ (by omega)) (fun _ _ _ _ _ h _ _ => h) hI0
    (fun x a' W => ∃ q, w.heap.size + 5 ≤ q ∧ W.heap[q]? = some (.cells (edV E[x]).toArray 45 (0, 0)) ∧ a' = { tmps := #[.slice (some ⟨b, off, none⟩) E.length cap, undef, .slice none 0 0, .pointer (some ⟨w.heap.size + 1, 0, none⟩), .pointer (some ⟨w.heap.size + 1 + 1 + 1, 0, none⟩), .int .i64 (x.val : Int), .pointer (some ⟨q, 0, none⟩), .slice (some ⟨b, off, none⟩) E.length cap, .int .i64 (E.length : Nat), .slice (some ⟨w.heap.size, 0, none⟩) E.length E.length, .map (some (w.heap.size + 1 + 1)), .slice (some ⟨b, off, none⟩) E.length cap, .func (.func 112) #[] #[.pointer (some ⟨w.heap.size + 1 + 1 + 1 + 1, 0, none⟩)], .int .i64 (x.val : Int), .agg (edV E[x]).toArray, undef, undef, undef, undef, undef, undef, undef, undef, undef, undef, undef, undef, undef, undef, undef, undef, undef, undef, undef, undef, undef, undef, undef, undef, undef, undef, undef, undef, undef], defers := [] })
    (fun x a' u W W' row h hg hrow => by
      obtain ⟨q, h1, h2, h3⟩ := h
      exact ⟨q, h1, (hg.block q (lt_of_block h2) (fun e => by obtain ⟨_, o, ho, hc⟩ := hrow q e.symm; rw [h2] at ho; cases ho; cases hc)).trans h2, h3⟩) ?assign ?body ?done ?stop
  case assign =>
    intro l pre x W K hI hK
    have HI := Lib.hid hI
    have HKK := Lib.hid hK
    clear hI hK hcell hrange hI0
    have hfr : (#[13, 14].zip (encE E x)).foldl (fun t (p, v) => t.setIfInBounds p v) (#[.slice (some ⟨b, off, none⟩) E.length cap, undef, .slice none 0 0, .pointer (some ⟨w.heap.size + 1, 0, none⟩), .pointer (some ⟨w.heap.size + 1 + 1 + 1, 0, none⟩), undef, undef, .slice (some ⟨b, off, none⟩) E.length cap, .int .i64 (E.length : Nat), .slice (some ⟨w.heap.size, 0, none⟩) E.length E.length, .map (some (w.heap.size + 1 + 1)), .slice (some ⟨b, off, none⟩) E.length cap, .func (.func 112) #[] #[.pointer (some ⟨w.heap.size + 1 + 1 + 1 + 1, 0, none⟩)], undef, undef, undef, undef, undef, undef, undef, undef, undef, undef, undef, undef, undef, undef, undef, undef, undef, undef, undef, undef, undef, undef, undef, undef, undef, undef, undef, undef, undef, undef, undef] : Array Value) = #[.slice (some ⟨b, off, none⟩) E.length cap, undef, .slice none 0 0, .pointer (some ⟨w.heap.size + 1, 0, none⟩), .pointer (some ⟨w.heap.size + 1 + 1 + 1, 0, none⟩), undef, undef, .slice (some ⟨b, off, none⟩) E.length cap, .int .i64 (E.length : Nat), .slice (some ⟨w.heap.size, 0, none⟩) E.length E.length, .map (some (w.heap.size + 1 + 1)), .slice (some ⟨b, off, none⟩) E.length cap, .func (.func 112) #[] #[.pointer (some ⟨w.heap.size + 1 + 1 + 1 + 1, 0, none⟩)], .int .i64 (x.val : Int), .agg (edV E[x]).toArray, undef, undef, undef, undef, undef, undef, undef, undef, undef, undef, undef, undef, undef, undef, undef, undef, undef, undef, undef, undef, undef, undef, undef, undef, undef, undef, undef, undef, undef] := by simp [encE]
    rw [hfr]
    clear hfr
    gi_wp2_with (first
      | refine wpListIn_store_new W rfl 45 _ _ rfl _ _ rfl rfl (by kernel_rfl) (by rfl) (all_oneCell_toArray (edY.one _)) ?_)
    exact HKK.out _ _ ((KeepsOthers.alloc W _).from _) ⟨by simp, fun i hi _ => Below.heap_alloc W _ i (by have := HI.out.2.2.2.2.2; omega)⟩ (OwnFrom.alloc (LiveI.own W5.heap.size (by omega)) _ HI.out) ⟨W.heap.size, HI.out.2.2.2.2.2, alloc_get _ _ _ rfl, rfl⟩
  case body =>
    rintro l pre x a' W hle hlp hI ⟨q, hq, hqb, rfl⟩ hlen
    have hki : E[x].kind = 1 ∨ E[x].kind = 3 := HK.out _ (by simp)
    generalize E[x] = e at hki hqb ⊢
    obtain ⟨⟨D, h1, h2, h3⟩, h4, h5, h6, h7, h8⟩ := hI
    have hxl : x.val < D.length := by rw [h1]; exact x.isLt
    have e0 : W.cell? ⟨w.heap.size, x.val, none⟩ = some (.bool D[x.val]) := by rw [cell_of_row _ _ _ _ _ _ h2]; simp [boolsV, hxl]
    have f0 : W.frozen? ⟨w.heap.size, x.val, none⟩ = false := frozen_of_row W w.heap.size x.val _ _ h2
    have e1 : W.cell? ⟨w.heap.size + 1, 0, none⟩ = some (.slice (some ⟨w.heap.size, 0, none⟩) E.length E.length) := cell_of_row _ _ 0 _ _ _ h4
    have e3 : W.cell? ⟨w.heap.size + 1 + 1 + 1, 0, none⟩ = some (.map (some (w.heap.size + 1 + 1))) := cell_of_row _ _ 0 _ _ _ h6
    have q0 : W.cell? ⟨q, 0, none⟩ = some (.string e.id.a) := cell_of_row _ _ 0 _ _ _ hqb
    have q1 : W.cell? ⟨q, 1, none⟩ = some (.int .i64 e.id.n) := cell_of_row _ _ 1 _ _ _ hqb
    have q5 : W.cell? ⟨q, 5, none⟩ = some (.int .i64 e.kind) := cell_of_row _ _ 5 _ _ _ hqb
    have hxi : (x.val : Int) < (E.length : Int) := by have := x.isLt; omega
    have hmx : Tryz.prog.follows .mixedOrders = true := by kernel_rfl
    have hd : 1 ≤ 3 - 1 - 1 := by omega
    have H2 := Lib.hid h2
    have H3 := Lib.hid h3
    have H4 := Lib.hid h4
    have H5 := Lib.hid h5
    have H6 := Lib.hid h6
    have H7 := Lib.hid h7
    have H1 := Lib.hid h1
    clear h1 h2 h3 h4 h5 h6 h7 hqb hlp hcell hrange hI0 hD1 D0
    gi_wp2
    refine wpIn_region_round l _ (fun w' => w'.cell? ⟨q, 0, none⟩ = some (.string e.id.a) ∧ w'.cell? ⟨q, 1, none⟩ = some (.int .i64 e.id.n) ∧ w'.cell? ⟨w.heap.size + 1, 0, none⟩ = some (.slice (some ⟨w.heap.size, 0, none⟩) E.length E.length) ∧ w'.cell? ⟨w.heap.size + 1 + 1 + 1, 0, none⟩ = some (.map (some (w.heap.size + 1 + 1))) ∧ w'.heap[w.heap.size + 1 + 1]? = some (.map #[] 0) ∧ (∃ bb, w'.cell? ⟨w.heap.size, x.val, none⟩ = some (.bool bb)) ∧ w'.frozen? ⟨w.heap.size, x.val, none⟩ = false) (by kernel_rfl) (by kernel_rfl) (by rintro ⟨a9, w9, h9⟩; exact h9) ⟨q0, q1, e1, e3, H5.out, ⟨_, e0⟩, f0⟩ (fun hS => ?_)
    refine wpAnyH_take (i := 0) (v := .slice (some ⟨w.heap.size, 0, none⟩) E.length E.length) rfl (by kernel_rfl) (by kernel_rfl) (by kernel_rfl) (fun _ _ _ h => h) (Or.inl ⟨by rfl, fun w' hS => by obtain ⟨q0, q1, e1, e3, h5, e0, f0⟩ := hS; go_simp⟩) hS ?_
    simp only [Act.put, List.setIfInBounds_toArray, List.set_cons_zero, List.set_cons_succ]
    refine wpAnyH_take (i := 1) (v := .int .i64 (x.val : Int)) rfl (by kernel_rfl) (by kernel_rfl) (by kernel_rfl) (fun _ _ _ h => h) (Or.inl ⟨by rfl, fun w' hS => by go_simp⟩) hS ?_
    simp only [Act.put, List.setIfInBounds_toArray, List.set_cons_zero, List.set_cons_succ]
    refine wpAnyH_take (i := 2) (v := .map (some (w.heap.size + 1 + 1))) rfl (by kernel_rfl) (by kernel_rfl) (by kernel_rfl) (fun _ _ _ h => h) (Or.inl ⟨by rfl, fun w' hS => by obtain ⟨q0, q1, e1, e3, h5, e0, f0⟩ := hS; go_simp⟩) hS ?_
    simp only [Act.put, List.setIfInBounds_toArray, List.set_cons_zero, List.set_cons_succ]
    refine wpAnyH_take (i := 3) (v := .pointer (some ⟨q, 0, none⟩)) rfl (by kernel_rfl) (by kernel_rfl) (by kernel_rfl) (fun _ _ _ h => h) (Or.inl ⟨by rfl, fun w' hS => by go_simp⟩) hS ?_
    simp only [Act.put, List.setIfInBounds_toArray, List.set_cons_zero, List.set_cons_succ]
    refine wpAnyH_take (i := 4) (v := .agg #[.string e.id.a, .int .i64 e.id.n]) rfl (by kernel_rfl) (by kernel_rfl) (by kernel_rfl) (fun _ _ _ h => h) (Or.inl ⟨by rfl, fun w' hS => by obtain ⟨q0, q1, e1, e3, h5, e0, f0⟩ := hS; go_simp⟩) hS ?_
    simp only [Act.put, List.setIfInBounds_toArray, List.set_cons_zero, List.set_cons_succ]
    refine wpAnyH_take (i := 5) (v := .slice none 0 0) rfl (by kernel_rfl) (by kernel_rfl) (by kernel_rfl) (fun _ _ _ h => h) (Or.inl ⟨by rfl, fun w' hS => by obtain ⟨q0, q1, e1, e3, h5, e0, f0⟩ := hS; have hlk := run_lookup_raw (P := Tryz.prog) (w := w') 117 false 38 22 und117 (.slice none 0 0) (fun w => by kernel_rfl) (w.heap.size + 1 + 1) #[] 0 h5 (.agg #[.string e.id.a, .int .i64 e.id.n]) (ck38 _ _) none (miss0 _ _); simp only [Option.map_none, Option.getD_none, Bool.false_eq_true, if_false] at hlk; go_simp⟩) hS ?_
    simp only [Act.put, List.setIfInBounds_toArray, List.set_cons_zero, List.set_cons_succ]
    refine wpAnyH_take (i := 6) (v := .func (.func 70) #[] #[.pointer (some ⟨q, 0, none⟩)]) rfl (by kernel_rfl) (by kernel_rfl) (by kernel_rfl) (fun _ _ _ h => h) (Or.inl ⟨by rfl, fun w' hS => by go_simp⟩) hS ?_
    simp only [Act.put, List.setIfInBounds_toArray, List.set_cons_zero, List.set_cons_succ]
    refine wpAnyH_ready (rs := [7]) (by kernel_rfl) (by simp) ?_
    refine AllReadyH.cons rfl (fun K9 hK9 => ?_) AllReadyH.nil
    go_simp
    refine (containsNil _ _ _ _).mono ?_
    rintro e9 w9 ⟨rfl, rfl⟩
    refine hK9.out _ _ hS (fun _ => ?_)
    clear hK9
    try simp only [Act.put, List.setIfInBounds_toArray, List.set_cons_zero, List.set_cons_succ]
    refine wpAnyH_take (i := 8) (v := .bool true) rfl (by kernel_rfl) (by kernel_rfl) (by kernel_rfl) (fun _ _ _ h => h) (Or.inl ⟨by rfl, fun w' hS => by go_simp⟩) hS ?_
    simp only [Act.put, List.setIfInBounds_toArray, List.set_cons_zero, List.set_cons_succ]
    refine wpAnyH_take (i := 9) (v := .pointer (some ⟨w.heap.size, x.val, none⟩)) rfl (by kernel_rfl) (by kernel_rfl) (by kernel_rfl) (fun _ _ _ h => h) (Or.inl ⟨by rfl, fun w' hS => by go_simp⟩) hS ?_
    simp only [Act.put, List.setIfInBounds_toArray, List.set_cons_zero, List.set_cons_succ]
    refine wpAnyH_ready (rs := [10]) (by kernel_rfl) (by simp) ?_
    refine AllReadyH.cons rfl (fun K9 hK9 => ?_) AllReadyH.nil
    go_simp
    have hqB : w.heap.size ≠ q := by omega
    have g0 : (W.setCell ⟨w.heap.size, x.val, none⟩ (.bool true)).drew.cell? ⟨w.heap.size, x.val, none⟩ = some (.bool true) := World.cell?_setCell_same' W ⟨w.heap.size, x.val, none⟩ (.bool true) (by rw [e0]; rfl)
    have g1 : (W.setCell ⟨w.heap.size, x.val, none⟩ (.bool true)).drew.cell? ⟨w.heap.size + 1, 0, none⟩ = some (.slice (some ⟨w.heap.size, 0, none⟩) E.length E.length) := by
      show (W.setCell _ _).cell? _ = _; rw [World.cell?_setCell_far _ _ _ _ (by show w.heap.size ≠ w.heap.size + 1; omega)]; exact e1
    have g3 : (W.setCell ⟨w.heap.size, x.val, none⟩ (.bool true)).drew.cell? ⟨w.heap.size + 1 + 1 + 1, 0, none⟩ = some (.map (some (w.heap.size + 1 + 1))) := by
      show (W.setCell _ _).cell? _ = _; rw [World.cell?_setCell_far _ _ _ _ (by show w.heap.size ≠ w.heap.size + 1 + 1 + 1; omega)]; exact e3
    have gq0 : (W.setCell ⟨w.heap.size, x.val, none⟩ (.bool true)).drew.cell? ⟨q, 0, none⟩ = some (.string e.id.a) := by
      show (W.setCell _ _).cell? _ = _; rw [World.cell?_setCell_far _ _ _ _ hqB]; exact q0
    have gq1 : (W.setCell ⟨w.heap.size, x.val, none⟩ (.bool true)).drew.cell? ⟨q, 1, none⟩ = some (.int .i64 e.id.n) := by
      show (W.setCell _ _).cell? _ = _; rw [World.cell?_setCell_far _ _ _ _ hqB]; exact q1
    have gq5 : (W.setCell ⟨w.heap.size, x.val, none⟩ (.bool true)).drew.cell? ⟨q, 5, none⟩ = some (.int .i64 e.kind) := by
      show (W.setCell _ _).cell? _ = _; rw [World.cell?_setCell_far _ _ _ _ hqB]; exact q5
    have gf : (W.setCell ⟨w.heap.size, x.val, none⟩ (.bool true)).drew.frozen? ⟨w.heap.size, x.val, none⟩ = false := by
      show (W.setCell _ _).frozen? _ = _; rw [World.frozen?_setCell]; exact f0
    have gh : ∀ i, i ≠ w.heap.size → (W.setCell ⟨w.heap.size, x.val, none⟩ (.bool true)).drew.heap[i]? = W.heap[i]? := fun i hi => heap_setCell_other W ⟨w.heap.size, x.val, none⟩ i _ hi
    have gB : (W.setCell ⟨w.heap.size, x.val, none⟩ (.bool true)).drew.heap[w.heap.size]? = some (.cells (boolsV (D.set x.val true)) 4 (0, 0)) := by
      show (W.setCell ⟨w.heap.size, x.val, none⟩ (.bool true)).heap[w.heap.size]? = _
      rw [setCell_eq_setRow W w.heap.size x.val _ 4 (0, 0) (.bool true) H2.out, setRow_heap _ _ _ _ _ _ H2.out]
      congr 2
      apply Array.toList_inj.1
      simp [boolsV, List.map_set]
    have gk : KeepsFrom W5.heap.size W (W.setCell ⟨w.heap.size, x.val, none⟩ (.bool true)).drew := ((KeepsOthers.setCell _ _ _).trans (KeepsOthers.drew _)).from _
    have gb : Below w.heap.size w (W.setCell ⟨w.heap.size, x.val, none⟩ (.bool true)).drew := (H7.out.setCell (p := ⟨w.heap.size, x.val, none⟩) (Nat.le_refl _) _).drew
    have gs : (W.setCell ⟨w.heap.size, x.val, none⟩ (.bool true)).drew.heap.size = W.heap.size := by simp [World.drew]
    refine hK9.out _ _ ⟨gq0, gq1, g1, g3, (gh _ (by omega)).trans H5.out, ⟨_, g0⟩, gf⟩ (fun _ => ?_)
    clear e0 f0 e1 e3 q0 q1 q5 hS
    generalize (W.setCell ⟨w.heap.size, x.val, none⟩ (.bool true)).drew = W2 at *
    try simp only [Act.put, List.setIfInBounds_toArray, List.set_cons_zero, List.set_cons_succ]
    refine wpAnyH_done (by kernel_rfl) ?_ _
    have hpost : KeepsFrom W5.heap.size W W2 ∧ KeepsBut W5.heap.size w.heap.size W W2 ∧ LiveI E.length w.heap.size w (pre ++ [x]) W2 := by
      refine ⟨gk, ⟨by omega, fun i _ hd => gh i hd⟩, ⟨D.set x.val true, by rw [List.length_set]; exact H1.out, gB, ?_⟩, (gh _ (by omega)).trans H4.out, (gh _ (by omega)).trans H5.out, (gh _ (by omega)).trans H6.out, gb, by omega⟩
      intro j hj
      by_cases h : x.val = j.val
      · rw [List.getElem?_set, if_pos h, if_pos hxl]
      · rw [List.getElem?_set, if_neg h]
        rw [List.mem_append] at hj
        rcases hj with hj | hj
        · exact H3.out j hj
        · simp at hj; subst hj; exact absurd rfl h
    have HPOST := Lib.hid hpost
    clear hpost gh gB gk gb gs g3 gq0 gq1 gf
    rcases hki with hki | hki
    · rw [hki] at gq5
      gi_wp2
      exact HPOST.out
    · rw [hki] at gq5
      gi_wp2
      exact HPOST.out
  case done =>
    rintro D xs W hD rfl hI hK
    obtain ⟨⟨L, h1, h2, h3⟩, h4, h5, h6, h7, h8⟩ := hI
    have e1 : W.cell? ⟨w.heap.size + 1, 0, none⟩ = some (.slice (some ⟨w.heap.size, 0, none⟩) E.length E.length) := cell_of_row _ _ 0 _ _ _ h4
    have hL : L = List.replicate E.length true := by
      apply List.ext_getElem?
      intro i
      by_cases hi : i < E.length
      · rw [h3 ⟨i, hi⟩ (backAt_all E.length ⟨i, hi⟩)]
        simp [hi]
      · rw [List.getElem?_eq_none (by omega), List.getElem?_eq_none (by simp; omega)]
    have H2 := Lib.hid h2
    have H7 := Lib.hid h7
    have HLL := Lib.hid hL
    clear h1 h2 h3 h4 h5 h6 h7 hL hcell hrange hI0
    gi_wp2
    refine ⟨by simp, .inl ⟨_, _, rfl, run_takeDeferred hK, ?_⟩⟩
    refine ⟨_, results_tmp rfl _ _ _, _, rfl, ?_, ?_⟩
    · refine ⟨by simp, .inr ⟨w.heap.size, E.length, boolsV L, rfl, Nat.le_refl _, ?_, Nat.le_refl _, by unfold maxLen; omega, ?_, ?_⟩⟩
      · exact (World.putObj_heap_other (by omega)).trans H2.out
      · rw [HLL.out]; simp [boolsV]
      · rw [HLL.out]; simp [boolsV]
    · exact H7.out.grown (grownBy_putObj' _ _ _) (by omega) (fun j hj => by cases hj; omega)
  case stop =>
    rintro D c pre W _ _ h _
    exact h.elim
end Go.Proofs.YteigcnamkfebgaaGreatDoor
