import Derived.Test.YteigcnamkfebgaaGreatDoorAT
namespace Go.Proofs.YteigcnamkfebgaaGreatDoor
open Go.RowKit
theorem Lay.Rd.but {E : Type} {Y : Lay E} {w w' : World} {v : Value} {l : List E} (h : Y.Rd w v l) {k : Nat} (hb : But k w w') (hk : ∀ j u, w.cell? ⟨k, j, none⟩ = some u → ∃ a n c, u = .slice a n c) (hf : ∀ x, ∃ s, (Y.V x)[0]? = some (.string s)) : Y.Rd w' v l := by
  rcases h with h | ⟨b, off, cap, h1, h2, h3⟩
  · exact .inl h
  · refine .inr ⟨b, off, cap, h1, h2, ?_⟩
    cases l with
    | nil => intro j u hj; simp [Lay.flat] at hj
    | cons x r =>
      obtain ⟨s, hs⟩ := hf x
      have h4 : (Y.flat (x :: r))[0]? = some (.string s) := by
        rw [Y.flat_cons, List.getElem?_append_left (by have := (List.getElem?_eq_some_iff.1 hs).1; exact this)]
        exact hs
      have h5 := h3 0 _ h4
      have hlt : b < w.heap.size := block_lt_of_cell h5
      have hbk : b ≠ k := by
        rintro rfl
        obtain ⟨a, n, c, hc⟩ := hk _ _ h5
        cases hc
      intro j u hj
      exact (World.cell?_of_block (w := w) (w' := w') (a := ⟨b, off + j, none⟩) (hb.2 b hlt hbk)).trans (h3 j u hj)
theorem RRegs.but {w w' : World} {v : Value} {R : List RegP} (h : RRegs w v R) {k : Nat} (hb : But k w w') (hk : ∀ j u, w.cell? ⟨k, j, none⟩ = some u → ∃ a n c, u = .slice a n c) : RRegs w' v R := by
  obtain ⟨ds, h1, h2, h3⟩ := h
  exact ⟨ds, h1.but hb hk (fun x => ⟨_, rfl⟩), h2, fun i d r a b => ⟨(h3 i d r a b).1, (h3 i d r a b).2.1, (h3 i d r a b).2.2.but hb hk (fun x => ⟨_, rfl⟩)⟩⟩
theorem five_slices {W : World} {k : Nat} {a b c d e : SlV} {t : TypeId} (h : W.heap[k]? = some (.cells #[.slice a.a a.len a.cap, .slice b.a b.len b.cap, .slice c.a c.len c.cap, .slice d.a d.len d.cap, .slice e.a e.len e.cap] t (0, 0))) : ∀ j u, W.cell? ⟨k, j, none⟩ = some u → ∃ a n c, u = .slice a n c := fun j u hu => by
  rw [cell_of_row _ _ j _ _ _ h] at hu
  match j, hu with
  | 0, hu => simp at hu; exact ⟨_, _, _, hu.symm⟩
  | 1, hu => simp at hu; exact ⟨_, _, _, hu.symm⟩
  | 2, hu => simp at hu; exact ⟨_, _, _, hu.symm⟩
  | 3, hu => simp at hu; exact ⟨_, _, _, hu.symm⟩
  | 4, hu => simp at hu; exact ⟨_, _, _, hu.symm⟩
  | j + 5, hu => simp at hu
theorem ownsRow_but {w w' : World} {base : Nat} {e : TypeId} {size : Nat} {v : Value} {n : Nat} {xs : List Value} (h : w.ownsRow base e size v n xs) {k : Nat} (hb : But k w w') (hk : k < base) : w'.ownsRow base e size v n xs := by
  obtain ⟨h1, h2⟩ := h
  refine ⟨h1, ?_⟩
  rcases h2 with h2 | ⟨g, cap, cur, a, b, c, d⟩
  · exact .inl h2
  · exact .inr ⟨g, cap, cur, a, b, (hb.2 g (lt_of_block c) (by omega)).trans c, d⟩
/-- registers in a conflict, in a row of the call's own -/
def CR (w : World) (base : Nat) (v : Value) (C : List RegP) : Prop :=
  ∃ ds : List RegD, w.ownsRow base 48 4 v C.length (regY.flat ds) ∧ ds.length = C.length ∧ ∀ (i : Nat) (d : RegD) (r : RegP), ds[i]? = some d → C[i]? = some r → d.node = r.node ∧ d.field = r.field ∧ w.ownsRow base 50 4 d.w.v r.w.length (wrY.flat r.w)
theorem CR.nil (w : World) (base : Nat) : CR w base (.slice none 0 0) [] := ⟨[], owns_nil0 _ _ _ _, rfl, fun i d r h _ => by simp at h⟩
theorem CR.but {w w' : World} {base : Nat} {v : Value} {C : List RegP} (h : CR w base v C) {k : Nat} (hb : But k w w') (hk : k < base) : CR w' base v C := by
  obtain ⟨ds, h1, h2, h3⟩ := h
  exact ⟨ds, ownsRow_but h1 hb hk, h2, fun i d r a b => ⟨(h3 i d r a b).1, (h3 i d r a b).2.1, ownsRow_but (h3 i d r a b).2.2 hb hk⟩⟩
theorem CR.below {w w' : World} {base : Nat} {v : Value} {C : List RegP} (h : CR w base v C) (hb : Below w.heap.size w w') : CR w' base v C := by
  obtain ⟨ds, h1, h2, h3⟩ := h
  exact ⟨ds, ownsRow_below h1 hb, h2, fun i d r a b => ⟨(h3 i d r a b).1, (h3 i d r a b).2.1, ownsRow_below (h3 i d r a b).2.2 hb⟩⟩
def isClash (n : IdD) (r : RegP) : Bool := eqId r.node n && decide (1 < r.w.length)
def clash (n : IdD) (R : List RegP) (k : Nat) : List RegP := (R.take k).filter (isClash n)
theorem clash_no {n : IdD} {R : List RegP} {k : Nat} {r : RegP} (h : R[k]? = some r) (hp : isClash n r = false) : clash n R (k + 1) = clash n R k := by
  unfold clash; rw [list_snoc R k r h, List.filter_append]; simp [hp]
theorem clash_yes {n : IdD} {R : List RegP} {k : Nat} {r : RegP} (h : R[k]? = some r) (hp : isClash n r = true) : clash n R (k + 1) = clash n R k ++ [r] := by
  unfold clash; rw [list_snoc R k r h, List.filter_append]; simp [hp]
theorem clash_len (n : IdD) (R : List RegP) (k : Nat) : (clash n R k).length ≤ (clash n R R.length).length := by
  unfold clash
  rw [List.take_length]
  exact (List.Sublist.filter _ (List.take_sublist k R)).length_le
end Go.Proofs.YteigcnamkfebgaaGreatDoor
