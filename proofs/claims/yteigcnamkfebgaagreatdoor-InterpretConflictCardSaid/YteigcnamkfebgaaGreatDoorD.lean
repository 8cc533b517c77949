import Derived.Test.YteigcnamkfebgaaGreatDoorC
namespace Go.Proofs.YteigcnamkfebgaaGreatDoor
open Go.RowKit
theorem place_any (l : List IdD) (v : Value) (s : ByteArray) (w : World) (hl : l.length ≤ 1000000) (hv : idY.Rd w v l) :
    Calls Tryz.prog 153 #[v, .string s] w fun e w' => ∃ r : Nat, r = bs (fun x => cmpS x.a s) l 0 l.length ∧ r ≤ l.length ∧ e = .returned (.tuple #[.int .i64 r, .bool (found (fun x => cmpS x.a s) l r)]) ∧ Below w.heap.size w w' := by
  go_enter Tryz.func153, Tryz.ntmps153
  go_wp2_with fail
  refine (bsId_any l v s w hl hv).mono ?_
  rintro e w1 ⟨r, hr, hrl, rfl, hb⟩
  have HR := Lib.hid hr
  clear hr
  obtain ⟨f, hf⟩ : ∃ f, f = found (fun x => cmpS x.a s) l r := ⟨_, rfl⟩
  rw [← hf]
  have HF := Lib.hid hf
  clear hf
  go_wp2
  go_ret2
  exact ⟨r, HR.out, hrl, by rw [← HF.out]; rfl, hb⟩
theorem Below_drewN {B : Nat} {a w : World} (h : Below B a w) (n : Nat) : Below B a (w.drewN n) := ⟨h.os, h.tape, h.output, h.size, h.block⟩
def containsF (l : List IdD) (x : IdD) : Bool :=
  found (fun y => cmpS y.a x.a) l (bs (fun y => cmpS y.a x.a) l 0 l.length) && (decide (1 ≤ x.n) && match l[bs (fun y : IdD => cmpS y.a x.a) l 0 l.length]? with | some y => decide (x.n ≤ y.n) | none => false)
set_option maxHeartbeats 2000000 in
theorem contains_any (l : List IdD) (v : Value) (x : IdD) (w : World) (hl : l.length ≤ 1000000) (hv : idY.Rd w v l) :
    Calls Tryz.prog 114 #[v, .agg #[.string x.a, .int .i64 x.n]] w fun e w' => e = .returned (.bool (containsF l x)) ∧ Below w.heap.size w w' := by
  obtain ⟨a, n, c, rfl⟩ := hv.form
  obtain rfl := hv.len
  have hbA : Below w.heap.size w (w.alloc (.cells #[.string x.a, .int .i64 x.n] 38)) := (Below.refl _ _).alloc (Nat.le_refl _) _
  go_enter Tryz.func114, Tryz.ntmps114
  go_wp2_with fail
  refine (place_any l _ x.a _ hl (hv.alloc _)).mono ?_
  rintro e w1 ⟨r, hr, hrl, rfl, hb⟩
  have hm : w1.heap[w.heap.size]? = some (.cells #[.string x.a, .int .i64 x.n] 38 (0, 0)) := (hb.block _ (by simp)).trans (alloc_get _ _ _ rfl)
  have k0 : w1.cell? ⟨w.heap.size, 0, none⟩ = some (.string x.a) := by rw [cell_of_row _ _ 0 _ _ _ hm]; rfl
  have k1 : w1.cell? ⟨w.heap.size, 1, none⟩ = some (.int .i64 x.n) := by rw [cell_of_row _ _ 1 _ _ _ hm]; rfl
  have hbel : Below w.heap.size w w1 := hbA.trans (hb.mono (by simp))
  have hV := (hv.alloc (.cells #[.string x.a, .int .i64 x.n] 38)).below hb
  have hF : containsF l x = (found (fun y => cmpS y.a x.a) l r && (decide (1 ≤ x.n) && match l[r]? with | some y => decide (x.n ≤ y.n) | none => false)) := by
    unfold containsF; rw [← hr]
  have HF := Lib.hid hF
  clear hF hb hbA hm hr hv
  generalize hf : found (fun y => cmpS y.a x.a) l r = f at *
  cases f with
  | false =>
    clear hf
    go_wp2_with fail
    go_quiet (fail)
    go_wp2
    go_ret
    exact ⟨by rw [HF.out]; rfl, Below_drewN hbel _⟩
  | true =>
    by_cases h1 : 1 ≤ x.n
    · have hd : decide ((1 : Int) ≤ x.n) = true := by simpa using h1
      obtain ⟨y, hy⟩ : ∃ y, l[r]? = some y := by
        unfold found at hf
        cases hy : l[r]? with
        | none => rw [hy] at hf; cases hf
        | some y => exact ⟨y, rfl⟩
      have hr2 : ∃ b off cap, a = some ⟨b, off, none⟩ ∧ c = cap ∧ w1.rangeAt b off (idY.flat l) := by
        rcases hV with ⟨h1, h2⟩ | ⟨b, off, cap, h1, h2, h3⟩
        · rw [h2] at hy; cases hy
        · simp at h1; exact ⟨b, off, cap, h1.1, h1.2, h3⟩
      obtain ⟨b, off, cap, rfl, rfl, hr2⟩ := hr2
      have hrx : w1.rangeAt b (off + r * 2) [.string y.a, .int .i64 y.n] := idY.elem hr2 r y hy
      have j1 : w1.cell? ⟨b, off + r * 2 + 1, none⟩ = some (.int .i64 y.n) := hrx 1 _ rfl
      have hrl2 : (r : Int) < (l.length : Int) := by have := (List.getElem?_eq_some_iff.1 hy).1; omega
      have HY := Lib.hid hy
      clear hf hy hrx hr2 hV h1
      go_wp2_with fail
      go_quiet (fail)
      go_wp2
      go_ret
      exact ⟨by rw [HF.out, HY.out, hd]; rfl, Below_drewN hbel _⟩
    · have hd : decide ((1 : Int) ≤ x.n) = false := by simpa using h1
      clear hf h1 hV
      go_wp2_with fail
      go_quiet (fail)
      go_wp2
      go_ret
      exact ⟨by rw [HF.out, hd]; rfl, Below_drewN hbel _⟩
end Go.Proofs.YteigcnamkfebgaaGreatDoor
