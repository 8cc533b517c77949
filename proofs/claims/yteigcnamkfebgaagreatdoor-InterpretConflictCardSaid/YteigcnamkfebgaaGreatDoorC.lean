import Derived.Test.YteigcnamkfebgaaGreatDoorB
namespace Go.Proofs.YteigcnamkfebgaaGreatDoor
open Go.RowKit
theorem bsearch_enough {E : Type} (c : E → Int) (l : List E) : ∀ (f f' i j : Nat), j - i ≤ f → j - i ≤ f' → bsearch c l f i j = bsearch c l f' i j
  | 0, 0, _, _, _, _ => rfl
  | 0, f' + 1, i, j, h, _ => by
    unfold bsearch
    rw [if_neg (by omega)]
  | f + 1, 0, i, j, _, h => by
    unfold bsearch
    rw [if_neg (by omega)]
  | f + 1, f' + 1, i, j, h, h' => by
    unfold bsearch
    by_cases hij : i < j
    · rw [if_pos hij, if_pos hij]
      split
      · split
        · exact bsearch_enough c l f f' _ _ (by omega) (by omega)
        · exact bsearch_enough c l f f' _ _ (by omega) (by omega)
      · rfl
    · rw [if_neg hij, if_neg hij]
def bs {E : Type} (c : E → Int) (l : List E) (i j : Nat) : Nat := bsearch c l (j - i) i j
theorem bs_lt {E : Type} {c : E → Int} {l : List E} {i j : Nat} {x : E} (hij : i < j) (hx : l[(i + j) / 2]? = some x) (hc : c x < 0) : bs c l i j = bs c l ((i + j) / 2 + 1) j := by
  obtain ⟨f, hf⟩ : ∃ f, j - i = f + 1 := ⟨j - i - 1, by omega⟩
  unfold bs
  rw [hf, bsearch, if_pos hij, hx]
  simp only [if_pos hc]
  exact bsearch_enough c l _ _ _ _ (by omega) (Nat.le_refl _)
theorem bs_ge {E : Type} {c : E → Int} {l : List E} {i j : Nat} {x : E} (hij : i < j) (hx : l[(i + j) / 2]? = some x) (hc : ¬ c x < 0) : bs c l i j = bs c l i ((i + j) / 2) := by
  obtain ⟨f, hf⟩ : ∃ f, j - i = f + 1 := ⟨j - i - 1, by omega⟩
  unfold bs
  rw [hf, bsearch, if_pos hij, hx]
  simp only [if_neg hc]
  exact bsearch_enough c l _ _ _ _ (by omega) (Nat.le_refl _)
theorem bs_end {E : Type} {c : E → Int} {l : List E} {i j : Nat} (hij : ¬ i < j) : bs c l i j = i := by
  unfold bs
  rw [show j - i = 0 by omega]
  rfl
def found {E : Type} (c : E → Int) (l : List E) (r : Nat) : Bool := match l[r]? with | some x => c x == 0 | none => false
/-- place's comparison -/
theorem placeCmp_any (x : IdD) (s : ByteArray) (w : World) : Calls Tryz.prog 191 #[.agg #[.string x.a, .int .i64 x.n], .string s] w fun e w' => e = .returned (.int .i64 (cmpS x.a s)) ∧ Below w.heap.size w w' := by
  go_enter Tryz.func191, Tryz.ntmps191
  go_wp2_with (go_at_call 32; refine (strcmp_any _ _ _).mono ?_; rintro e w1 ⟨rfl, rfl⟩)
  go_ret
  exact ⟨rfl, (Below.refl _ _).alloc (Nat.le_refl _) _⟩
set_option maxHeartbeats 2000000 in
theorem bsId_any (l : List IdD) (v : Value) (s : ByteArray) (w : World) (hl : l.length ≤ 1000000) (hv : idY.Rd w v l) :
    Calls Tryz.prog 190 #[v, .string s, .func (.func 191) #[] #[]] w fun e w' => ∃ r : Nat, r = bs (fun x => cmpS x.a s) l 0 l.length ∧ r ≤ l.length ∧ e = .returned (.tuple #[.int .i64 r, .bool (found (fun x => cmpS x.a s) l r)]) ∧ Below w.heap.size w w' := by
  obtain ⟨a, n, c, rfl⟩ := hv.form
  obtain rfl := hv.len
  have HV := Lib.hid hv
  clear hv
  generalize hn : l.length = n at *
  have HN := Lib.hid hn
  clear hn
  go_enter Tryz.func190, Tryz.ntmps190
  go_wp2
  go_loopg [9, 10] n (fun gn t1 t2 wr => ∃ i j : Nat, i + gn = j ∧ j ≤ n ∧ t1 = .int .i64 i ∧ t2 = .int .i64 j ∧ bs (fun x => cmpS x.a s) l i j = bs (fun x => cmpS x.a s) l 0 n ∧ Below w.heap.size w wr)
  case atStart => exact ⟨0, n, by omega, Nat.le_refl _, rfl, rfl, rfl, Below.refl _ _⟩
  case round =>
    obtain ⟨i, j, hij, hjn, rfl, rfl, hbs, hbel⟩ := hrel
    have HBS := Lib.hid hbs
    have HIJ := Lib.hid hij
    clear hbs hij
    by_cases hlt : i < j
    · obtain ⟨m, hm⟩ : ∃ m, m = (i + j) / 2 := ⟨_, rfl⟩
      have hmj : m < j := by omega
      have him : i ≤ m := by omega
      have hx : l[m]? = some (l[m]'(by rw [HN.out]; omega)) := List.getElem?_eq_getElem _
      generalize l[m]'(by rw [HN.out]; omega) = x at hx
      have hr : ∃ b off cap, a = some ⟨b, off, none⟩ ∧ c = cap ∧ w.rangeAt b off (idY.flat l) := by
        rcases HV.out with ⟨h1, h2⟩ | ⟨b, off, cap, h1, h2, h3⟩
        · rw [h2] at hx; cases hx
        · simp at h1; exact ⟨b, off, cap, h1.1, h1.2.2, h3⟩
      obtain ⟨b, off, cap, rfl, rfl, hr⟩ := hr
      have hrx : wr.rangeAt b (off + m * 2) [.string x.a, .int .i64 x.n] := idY.elem (rangeAt_below hr hbel) m x hx
      have HX := Lib.hid hx
      have HM := Lib.hid hm
      clear hx hr
      have hltZ : (i : Int) < (j : Int) := by omega
      have hmz : ((i : Int) + j) / 2 = (m : Int) := by omega
      have hu : IntKind.u64.wrap ((i : Int) + j) = (i : Int) + j := by rw [IntKind.wrap_u64]; omega
      clear hm
      go_wp2_with (first
        | refine wpList_load_mid rfl 38 _ rfl b (off + m * 2) rfl _ _ hrx Tryz.underlying38 rfl (by kernel_rfl) ?_)
      refine (placeCmp_any x s wr).mono ?_
      rintro e w1 ⟨rfl, hb1⟩
      have hbel1 := hbel.trans (hb1.mono hbel.size)
      clear hrx hb1 hbel
      by_cases hc : cmpS x.a s < 0
      · have HB := Lib.hid (bs_lt (c := fun x : IdD => cmpS x.a s) hlt (by rw [← HM.out]; exact HX.out) hc)
        go_wp2
        go_roundg (j - (m + 1))
        case rel => exact ⟨m + 1, j, by omega, hjn, by go_num, rfl, by rw [← HBS.out, HB.out, ← HM.out], hbel1⟩
        case measure => have := HIJ.out; omega
      · have HB := Lib.hid (bs_ge (c := fun x : IdD => cmpS x.a s) hlt (by rw [← HM.out]; exact HX.out) hc)
        have hc2 : decide (cmpS x.a s < 0) = false := by simpa using hc
        clear hc
        go_wp2
        go_roundg (m - i)
        case rel => exact ⟨i, m, by omega, by omega, rfl, rfl, by rw [← HBS.out, HB.out, ← HM.out], hbel1⟩
        case measure => have := HIJ.out; omega
    · have hr : i = bs (fun x => cmpS x.a s) l 0 n := by rw [← HBS.out, bs_end hlt]
      have HR := Lib.hid hr
      clear hr
      have hge : (j : Int) ≤ (i : Int) := by omega
      by_cases hin : i < n
      · have hinZ : (i : Int) < (n : Int) := by omega
        have hx : l[i]? = some (l[i]'(by rw [HN.out]; omega)) := List.getElem?_eq_getElem _
        generalize l[i]'(by rw [HN.out]; omega) = x at hx
        have hr : ∃ b off cap, a = some ⟨b, off, none⟩ ∧ c = cap ∧ w.rangeAt b off (idY.flat l) := by
          rcases HV.out with ⟨h1, h2⟩ | ⟨b, off, cap, h1, h2, h3⟩
          · rw [h2] at hx; cases hx
          · simp at h1; exact ⟨b, off, cap, h1.1, h1.2.2, h3⟩
        obtain ⟨b, off, cap, rfl, rfl, hr⟩ := hr
        have hrx : wr.rangeAt b (off + i * 2) [.string x.a, .int .i64 x.n] := idY.elem (rangeAt_below hr hbel) i x hx
        have HX := Lib.hid hx
        clear hx hr
        have k0 : wr.cell? ⟨b, off + i * 2, none⟩ = some (.string x.a) := hrx 0 _ rfl
        have k1 : wr.cell? ⟨b, off + i * 2 + 1, none⟩ = some (.int .i64 x.n) := hrx 1 _ rfl
        clear hrx
        go_wp2_with fail
        refine (placeCmp_any x s wr).mono ?_
        rintro e w1 ⟨rfl, hb1⟩
        have hbel1 := hbel.trans (hb1.mono hbel.size)
        clear k0 k1 hb1 hbel
        go_wp2
        go_ret2
        exact ⟨i, HR.out, by omega, by unfold found; rw [HX.out]; rfl, hbel1⟩
      · have hinZ : decide ((i : Int) < (n : Int)) = false := by simp; omega
        go_wp2
        go_ret2
        exact ⟨i, HR.out, by have := HIJ.out; omega, by unfold found; rw [List.getElem?_eq_none (by rw [HN.out]; omega)]; rfl, hbel⟩
end Go.Proofs.YteigcnamkfebgaaGreatDoor
