import Derived.Test.YteigcnamkfebgaaGreatDoorAH
namespace Go.Proofs.YteigcnamkfebgaaGreatDoor
open Go.RowKit
theorem run_store_box {P : Program} {W : World} {k : Nat} {t : TypeId} {x : Value} (v : Value) (hv : v.oneCell' = true) (h : W.heap[k]? = some (.cells #[x] t (0, 0))) : (store ⟨k, 0, none⟩ v).run P W = .ok () (W.setCell ⟨k, 0, none⟩ v) := by
  have h1 : W.cell? ⟨k, 0, none⟩ = some x := cell_of_row _ _ 0 _ _ _ h
  have h2 : W.frozen? ⟨k, 0, none⟩ = false := frozen_of_row _ _ 0 _ _ h
  rw [run_store P W _ v .plain hv, h1]
  simp [h2]
set_option maxHeartbeats 6400000 in
set_option maxRecDepth 100000 in
theorem walk_any (c : TnD → TnD → Int) (l : List TnD) (v : Value) (K : List IdD) (M : Nat → Array MapEntry) (w : World) (hv : tnY.Rd w v l) (hl : l.length ≤ 1000) (hf : (below l rootI l.length).length ≤ 2) (hc : CmpF 130 c (below l rootI l.length))
    (hK : (sort2 c (below l rootI l.length)).map (·.node) = K) (hleaf : ∀ x ∈ K, below l x l.length = [])
    (hM : ∀ k x, K[k]? = some x → (∀ w, (Instr.findKey 38 (.agg #[.string x.a, .int .i64 x.n]) (M k).toList).run Tryz.prog w = .ok none w) ∧ M (k + 1) = (M k).push ⟨.agg #[.string x.a, .int .i64 x.n], .bool true, k + 1⟩)
    (hM0 : M 0 = #[⟨.agg #[.string ⟨#[]⟩, .int .i64 0], .bool true, 0⟩]) :
    Calls Tryz.prog 17 #[v] w fun e w' => ∃ v', e = .returned v' ∧ w'.ownsRow w.heap.size 38 2 v' K.length (idY.flat K) ∧ Below w.heap.size w w' := by
  have HR := Lib.hid (fun (W : World) => visitRoot c l v K M w W hv hl hf hc hK hleaf hM w.heap.size rfl)
  obtain ⟨a, n0, cc, rfl⟩ := hv.form
  have HM0 := Lib.hid hM0
  clear hv hf hc hK hleaf hM hM0
  have hmm := @run_makeMap Tryz.prog
  go_enter Tryz.func17, Tryz.ntmps17
  go_wp2_with (first
    | (refine wpList_update_raw _ rfl _ _ _ 95 (.inr rfl) 38 4 Tryz.underlying95 (w.heap.size + 2) #[] 0 rfl (alloc_get _ _ _ (by simp)) (.agg #[.string ⟨#[]⟩, .int .i64 0]) (.bool true) rfl rfl (ck38 _ _) (miss0 _ _) ?_; intro w2 hm2 hg2 hsz2; have HS2 := Lib.hid hsz2; have HM2 := Lib.hid hm2; have HG2 := Lib.hid hg2; clear hsz2 hm2 hg2; have B5 : ((w2.alloc (.cells #[.map (some (w.heap.size + 1 + 1))] 95)).alloc (.cells #[.nilFunc] 96)).heap[w2.heap.size + 1]? = _ := box2.2; have q5 : ((w2.alloc (.cells #[.map (some (w.heap.size + 1 + 1))] 95)).alloc (.cells #[.nilFunc] 96)).cell? ⟨w2.heap.size + 1, 0, none⟩ = some .nilFunc := cell_of_row _ _ 0 _ _ _ B5; have hst := run_store_box (P := Tryz.prog) (.func (.func 43) #[] #[.pointer (some ⟨w.heap.size, 0, none⟩), .pointer (some ⟨w2.heap.size, 0, none⟩), .pointer (some ⟨w.heap.size + 1, 0, none⟩), .pointer (some ⟨w2.heap.size + 1, 0, none⟩)]) rfl B5))
  have hs : w2.heap.size = w.heap.size + 3 := by have := HS2.out; simpa using this
  clear hst q5 B5 hmm
  rw [hs]
  have hw : Below w.heap.size w w2 := Below.grown (((((Below.refl _ w).alloc (Nat.le_refl _) _).alloc (by simp) _).alloc (by simp <;> omega) _)) HG2.out (by simp; omega) (fun j hj => by cases hj; omega)
  refine (HR.out _ ((hw.alloc (by omega) _).alloc (by simp; omega) _) (alloc_old _ _ _ _ (alloc_old _ _ _ _ ((HG2.out.block w.heap.size (by simp <;> omega) (by simp)).trans (alloc_old _ _ _ _ (alloc_old _ _ _ _ (alloc_get _ _ _ rfl))))))
    (alloc_old _ _ _ _ (alloc_old _ _ _ _ ((HG2.out.block (w.heap.size + 1) (by simp <;> omega) (by simp)).trans (alloc_old _ _ _ _ (alloc_get _ _ _ (by simp))))))
    (alloc_old _ _ _ _ (alloc_old _ _ _ _ (HM2.out.trans (by rw [HM0.out]; rfl)))) (alloc_old _ _ _ _ (alloc_get _ _ _ hs.symm)) (alloc_get _ _ _ (by simp [hs]))).mono ?_
  rintro e w9 ⟨rfl, hb9, s, ho9, hown9⟩
  have o9 : w9.cell? ⟨w.heap.size + 1, 0, none⟩ = some (.slice s.a s.len s.cap) := cell_of_row _ _ 0 _ _ _ ho9
  have HQ := Lib.hid (And.intro hb9 hown9)
  clear hb9 hown9 ho9 HR HM0
  go_wp2
  go_ret
  exact ⟨_, rfl, ownsRow_mono HQ.out.2 (by omega), HQ.out.1⟩
/-! the two trees of the law -/
def met0 : Array MapEntry := #[⟨.agg #[.string ⟨#[]⟩, .int .i64 0], .bool true, 0⟩]
def met1 : Array MapEntry := met0.push ⟨.agg #[.string ⟨#[97, 110, 110]⟩, .int .i64 1], .bool true, 1⟩
def metM : Nat → Array MapEntry
  | 0 => met0
  | 1 => met1
  | _ => met1.push ⟨.agg #[.string ⟨#[97, 110, 110]⟩, .int .i64 4], .bool true, 2⟩
def cSib (_ _ : TnD) : Int := 1
theorem bel14r : below [node1, node4] rootI [node1, node4].length = [node1, node4] := by kernel_rfl
theorem bel14a : below [node1, node4] ann1 [node1, node4].length = [] := by kernel_rfl
theorem bel14b : below [node1, node4] ann4 [node1, node4].length = [] := by kernel_rfl
theorem bel1r : below [node1] rootI [node1].length = [node1] := by kernel_rfl
theorem bel1a : below [node1] ann1 [node1].length = [] := by kernel_rfl
theorem walk14 (v : Value) (w : World) (hv : tnY.Rd w v [node1, node4]) : Calls Tryz.prog 17 #[v] w fun e w' => ∃ v', e = .returned v' ∧ w'.ownsRow w.heap.size 38 2 v' 2 (idY.flat [ann1, ann4]) ∧ Below w.heap.size w w' := by
  refine walk_any cSib [node1, node4] v [ann1, ann4] metM w hv (by simp) (by rw [bel14r]; decide) ?_ (by rw [bel14r]; rfl) ?_ ?_ rfl
  · intro x y h W
    rw [bel14r] at h
    simp only [List.cons.injEq, and_true] at h
    obtain ⟨rfl, rfl⟩ := h
    exact sibCmp41 W
  · intro x hx
    simp only [List.mem_cons, List.not_mem_nil, or_false] at hx
    rcases hx with rfl | rfl
    · exact bel14a
    · exact bel14b
  · intro k x hx
    match k, hx with
    | 0, hx => simp at hx; subst hx; exact ⟨miss1, rfl⟩
    | 1, hx => simp at hx; subst hx; exact ⟨miss2, rfl⟩
theorem walk1 (v : Value) (w : World) (hv : tnY.Rd w v [node1]) : Calls Tryz.prog 17 #[v] w fun e w' => ∃ v', e = .returned v' ∧ w'.ownsRow w.heap.size 38 2 v' 1 (idY.flat [ann1]) ∧ Below w.heap.size w w' := by
  refine walk_any cSib [node1] v [ann1] metM w hv (by simp) (by rw [bel1r]; decide) ?_ (by rw [bel1r]; rfl) ?_ ?_ rfl
  · intro x y h W
    rw [bel1r] at h
    simp at h
  · intro x hx
    simp only [List.mem_cons, List.not_mem_nil, or_false] at hx
    subst hx
    exact bel1a
  · intro k x hx
    match k, hx with
    | 0, hx => simp at hx; subst hx; exact ⟨miss1, rfl⟩
end Go.Proofs.YteigcnamkfebgaaGreatDoor
