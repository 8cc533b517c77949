import Derived.Test.YteigcnamkfebgaaGreatDoorM
namespace Go.Proofs.YteigcnamkfebgaaGreatDoor
open Go.RowKit
theorem idx_find (n : IdD) (f : ByteArray) : ∀ (ds : List RegD) (R : List RegP) (k : Nat), ds.length = R.length → (∀ (i : Nat) (d : RegD) (r : RegP), ds[i]? = some d → R[i]? = some r → d.node = r.node ∧ d.field = r.field) →
    (idxL (isReg n f) ds k = -1 ∧ lookF n f R = []) ∨ ∃ (i : Nat) (d : RegD) (r : RegP), idxL (isReg n f) ds k = ((k + i : Nat) : Int) ∧ ds[i]? = some d ∧ R[i]? = some r ∧ lookF n f R = r.w
  | [], [], k, _, _ => .inl ⟨rfl, rfl⟩
  | [], _ :: _, _, h, _ => by simp at h
  | _ :: _, [], _, h, _ => by simp at h
  | d :: ds, r :: R, k, hl, h => by
    obtain ⟨e1, e2⟩ := h 0 d r rfl rfl
    cases hp : isReg n f d with
    | true =>
      right
      refine ⟨0, d, r, by simp [idxL, hp], rfl, rfl, ?_⟩
      unfold isReg at hp
      rw [e1, e2] at hp
      simp [lookF, hp]
    | false =>
      have hp2 : (eqId r.node n && eqS r.field f) = false := by unfold isReg at hp; rw [e1, e2] at hp; exact hp
      have hlk : lookF n f (r :: R) = lookF n f R := by unfold lookF; rw [List.find?_cons, hp2]
      rcases idx_find n f ds R (k + 1) (by simpa using hl) (fun i d' r' h1 h2 => h (i + 1) d' r' (by simpa using h1) (by simpa using h2)) with ⟨h1, h2⟩ | ⟨i, d', r', h1, h2, h3, h4⟩
      · left; exact ⟨by simp [idxL, hp, h1], by rw [hlk]; exact h2⟩
      · right; exact ⟨i + 1, d', r', by simp only [idxL, hp]; rw [if_neg (by simp), h1]; congr 1; omega, by simpa using h2, by simpa using h3, by rw [hlk]; exact h4⟩
set_option maxHeartbeats 1000000 in
theorem lookup_any (R : List RegP) (v : Value) (n : IdD) (f : ByteArray) (w : World) (hl : R.length ≤ 100000) (hwl : ∀ r ∈ R, r.w.length ≤ 100000) (hv : RRegs w v R) :
    Calls Tryz.prog 94 #[v, .agg #[.string n.a, .int .i64 n.n], .string f] w fun e' w' => ∃ v', e' = .returned v' ∧ wrY.Rd w' v' (lookF n f R) ∧ Below w.heap.size w w' := by
  obtain ⟨m2, m3⟩ := box2 (w := w) (o := .cells #[.string n.a, .int .i64 n.n] 38) (o' := .cells #[.string f] 9)
  have hb := below2 w (.cells #[.string n.a, .int .i64 n.n] 38) (.cells #[.string f] 9)
  obtain ⟨ds, h1, h2, h3⟩ := hv.below hb
  have hform := h1.form
  obtain ⟨a, nn, c, rfl⟩ := hform
  obtain rfl := h1.len
  have HF := Lib.hid (idx_find n f ds R 0 h2 (fun i d r x y => ⟨(h3 i d r x y).1, (h3 i d r x y).2.1⟩))
  have H3 := Lib.hid h3
  have H2 := Lib.hid h2
  have hdl : ds.length ≤ 100000 := by omega
  have HR := Lib.hid h1
  clear h2 h3 hv h1
  generalize hn : ds.length = nn at *
  have HN := Lib.hid hn
  clear hn
  go_enter Tryz.func94, Tryz.ntmps94
  go_wp2_with fail
  change Calls Tryz.prog 136 _ ((w.alloc (.cells #[.string n.a, .int .i64 n.n] 38)).alloc (.cells #[.string f] 9)) _
  generalize (w.alloc (.cells #[.string n.a, .int .i64 n.n] 38)).alloc (.cells #[.string f] 9) = W at *
  have hP : PredE regY W.heap.size 137 #[.pointer (some ⟨w.heap.size, 0, none⟩), .pointer (some ⟨w.heap.size + 1, 0, none⟩)] (isReg n f) W := fun x V hB =>
    look1_any x w.heap.size (w.heap.size + 1) n f V ((hB.block _ (lt_of_block m2)).trans m2) ((hB.block _ (lt_of_block m3)).trans m3)
  refine (indexReg_any 137 _ (isReg n f) ds _ W W.heap.size (Nat.le_refl _) (by rw [HN.out]; omega) HR.out Tryz.call137 hP).mono ?_
  rintro e w1 ⟨rfl, hb1⟩
  have hbel1 : Below w.heap.size w w1 := hb.trans (hb1.mono hb.size)
  clear hP m2 m3
  rcases HF.out with ⟨hi, hlk⟩ | ⟨i, d, r, hi, hd, hr, hlk⟩
  · rw [hi]
    have HL := Lib.hid hlk
    clear hi hlk
    go_wp2
    go_ret
    exact ⟨_, rfl, by rw [HL.out]; exact .inl ⟨rfl, rfl⟩, hbel1⟩
  · rw [hi, Nat.zero_add]
    have HL := Lib.hid hlk
    have hil : i < nn := by rw [← HN.out]; exact (List.getElem?_eq_some_iff.1 hd).1
    obtain ⟨b, off, rfl, hra⟩ : ∃ b off, a = some ⟨b, off, none⟩ ∧ W.rangeAt b off (regY.flat ds) := by
      rcases HR.out with ⟨q1, q2⟩ | ⟨b, off, cap, q1, q2, q3⟩
      · rw [q2] at hd; cases hd
      · simp at q1; exact ⟨b, off, q1.1, q3⟩
    have k3 : w1.cell? ⟨b, off + i * 4 + 3, none⟩ = some (.slice d.w.a d.w.len d.w.cap) := (regY.elem (rangeAt_below hra hb1) i d hd) 3 _ rfl
    have hrd := (H3.out i d r hd hr).2.2.below hb1
    have hrw := hwl r (List.mem_of_getElem? hr)
    have hilZ : (i : Int) < (nn : Int) := by omega
    have hi0 : decide ((i : Int) < 0) = false := by simp
    clear hi hlk hra hd hr
    go_wp2_with fail
    refine (cloneWr_any r.w d.w.v w1 (by omega) hrd).mono ?_
    rintro e w2 ⟨v2, rfl, hown2, hb2⟩
    have hbel2 := hbel1.trans (hb2.mono hbel1.size)
    have HRd := Lib.hid (Lay.Rd.of_owns (Y := wrY) hown2)
    clear hown2 k3 hrd
    go_wp2
    go_ret
    exact ⟨_, rfl, by rw [HL.out]; exact HRd.out, hbel2⟩
end Go.Proofs.YteigcnamkfebgaaGreatDoor
