import Derived.Test.YteigcnamkfebgaaGreatDoorF
namespace Go.Proofs.YteigcnamkfebgaaGreatDoor
open Go.RowKit
set_option maxRecDepth 100000 in
set_option maxHeartbeats 4000000 in
theorem bsWr_any (l : List WrD) (v : Value) (t : WrD) (w : World) (hl : l.length ≤ 1000000) (hv : wrY.Rd w v l) :
    Calls Tryz.prog 126 #[v, .agg #[.string t.id.a, .int .i64 t.id.n, .int .i64 t.clock, .string t.text], .func (.func 127) #[] #[]] w fun e w' => ∃ r : Nat, r = bs (fun x => cmpWr x t) l 0 l.length ∧ r ≤ l.length ∧ e = .returned (.tuple #[.int .i64 r, .bool (found (fun x => cmpWr x t) l r)]) ∧ Below w.heap.size w w' := by
  obtain ⟨a, n, c, rfl⟩ := hv.form
  obtain rfl := hv.len
  have HV := Lib.hid hv
  clear hv
  generalize hn : l.length = n at *
  have HN := Lib.hid hn
  clear hn
  have hT0 := alloc_get w (.cells #[.string t.id.a, .int .i64 t.id.n, .int .i64 t.clock, .string t.text] 50) w.heap.size rfl
  have hb0 : Below w.heap.size w (w.alloc (.cells #[.string t.id.a, .int .i64 t.id.n, .int .i64 t.clock, .string t.text] 50)) := (Below.refl _ _).alloc (Nat.le_refl _) _
  go_enter Tryz.func126, Tryz.ntmps126
  go_wp2
  generalize w.alloc (.cells #[.string t.id.a, .int .i64 t.id.n, .int .i64 t.clock, .string t.text] 50) = w0 at *
  generalize hp : w.heap.size = p at *
  have HP := Lib.hid hp
  clear hp
  go_loopg [9, 10] n (fun gn t1 t2 wr => ∃ i j : Nat, i + gn = j ∧ j ≤ n ∧ t1 = .int .i64 i ∧ t2 = .int .i64 j ∧ bs (fun x => cmpWr x t) l i j = bs (fun x => cmpWr x t) l 0 n ∧ Below p w wr ∧ wr.heap[p]? = some (.cells #[.string t.id.a, .int .i64 t.id.n, .int .i64 t.clock, .string t.text] 50 (0, 0)))
  case atStart => exact ⟨0, n, by omega, Nat.le_refl _, rfl, rfl, rfl, hb0, hT0⟩
  case round =>
    clear hT0 hb0
    obtain ⟨i, j, hij, hjn, rfl, rfl, hbs, hbel0, hT⟩ := hrel
    have HBS := Lib.hid hbs
    have HIJ := Lib.hid hij
    have HT := Lib.hid hT
    have hbel : Below w.heap.size w wr := by rw [HP.out]; exact hbel0
    have lp := lt_of_block hT
    have hps : p ≤ wr.heap.size := Nat.le_of_lt lp
    clear hbs hij hbel0
    have t0 : wr.cell? ⟨p, 0, none⟩ = some (.string t.id.a) := by rw [cell_of_row _ _ 0 _ _ _ hT]; rfl
    have t1 : wr.cell? ⟨p, 1, none⟩ = some (.int .i64 t.id.n) := by rw [cell_of_row _ _ 1 _ _ _ hT]; rfl
    have t2 : wr.cell? ⟨p, 2, none⟩ = some (.int .i64 t.clock) := by rw [cell_of_row _ _ 2 _ _ _ hT]; rfl
    have t3 : wr.cell? ⟨p, 3, none⟩ = some (.string t.text) := by rw [cell_of_row _ _ 3 _ _ _ hT]; rfl
    clear hT
    by_cases hlt : i < j
    · obtain ⟨m, hm⟩ : ∃ m, m = (i + j) / 2 := ⟨_, rfl⟩
      have hmj : m < j := by omega
      have him : i ≤ m := by omega
      have hx : l[m]? = some (l[m]'(by rw [HN.out]; omega)) := List.getElem?_eq_getElem _
      generalize l[m]'(by rw [HN.out]; omega) = x at hx
      have hr : ∃ b off cap, a = some ⟨b, off, none⟩ ∧ c = cap ∧ w.rangeAt b off (wrY.flat l) := by
        rcases HV.out with ⟨h1, h2⟩ | ⟨b, off, cap, h1, h2, h3⟩
        · rw [h2] at hx; cases hx
        · simp at h1; exact ⟨b, off, cap, h1.1, h1.2.2, h3⟩
      obtain ⟨b, off, cap, rfl, rfl, hr⟩ := hr
      have hrx : wr.rangeAt b (off + m * 4) [.string x.id.a, .int .i64 x.id.n, .int .i64 x.clock, .string x.text] := wrY.elem (rangeAt_below hr hbel) m x hx
      have HX := Lib.hid hx
      have HM := Lib.hid hm
      clear hx hr
      have hltZ : (i : Int) < (j : Int) := by omega
      have hmn : (m : Int) < (n : Int) := by omega
      have hmz : ((i : Int) + j) / 2 = (m : Int) := by omega
      have hu : IntKind.u64.wrap ((i : Int) + j) = (i : Int) + j := by rw [IntKind.wrap_u64]; omega
      have k0 : wr.cell? ⟨b, off + m * 4, none⟩ = some (.string x.id.a) := hrx 0 _ rfl
      have k1 : wr.cell? ⟨b, off + m * 4 + 1, none⟩ = some (.int .i64 x.id.n) := hrx 1 _ rfl
      have k2 : wr.cell? ⟨b, off + m * 4 + 2, none⟩ = some (.int .i64 x.clock) := hrx 2 _ rfl
      have k3 : wr.cell? ⟨b, off + m * 4 + 3, none⟩ = some (.string x.text) := hrx 3 _ rfl
      have lb := block_lt_of_cell k0
      clear hm hrx
      go_wp2_with fail
      go_region_held3 (fun w' => w'.cell? ⟨b, off + m * 4, none⟩ = some (.string x.id.a) ∧ w'.cell? ⟨b, off + m * 4 + 1, none⟩ = some (.int .i64 x.id.n) ∧ w'.cell? ⟨b, off + m * 4 + 2, none⟩ = some (.int .i64 x.clock) ∧ w'.cell? ⟨b, off + m * 4 + 3, none⟩ = some (.string x.text) ∧ w'.cell? ⟨p, 0, none⟩ = some (.string t.id.a) ∧ w'.cell? ⟨p, 1, none⟩ = some (.int .i64 t.id.n) ∧ w'.cell? ⟨p, 2, none⟩ = some (.int .i64 t.clock) ∧ w'.cell? ⟨p, 3, none⟩ = some (.string t.text)) (first | go_keep | exact ⟨(hb1.cell (p := ⟨b, off + m * 4, none⟩) lb).trans k0, (hb1.cell (p := ⟨b, off + m * 4 + 1, none⟩) lb).trans k1, (hb1.cell (p := ⟨b, off + m * 4 + 2, none⟩) lb).trans k2, (hb1.cell (p := ⟨b, off + m * 4 + 3, none⟩) lb).trans k3, (hb1.cell (p := ⟨p, 0, none⟩) lp).trans t0, (hb1.cell (p := ⟨p, 1, none⟩) lp).trans t1, (hb1.cell (p := ⟨p, 2, none⟩) lp).trans t2, (hb1.cell (p := ⟨p, 3, none⟩) lp).trans t3⟩)
        (first
          | (go_at_call 127; refine (compareMarks_any x t _).mono ?_; rintro e w1 ⟨rfl, hb1⟩))
      have hbel1 : Below p w w1 := by rw [← HP.out]; exact hbel.drew.trans (hb1.mono hbel.size)
      have hT1 := (hb1.block p lp).trans HT.out
      by_cases hc : cmpWr x t < 0
      · have HB := Lib.hid (bs_lt (c := fun x : WrD => cmpWr x t) hlt (by rw [← HM.out]; exact HX.out) hc)
        clear hb1 hbel k0 t0 k1 t1 k2 t2 k3 t3 lb lp
        go_wp2
        go_roundg (j - (m + 1))
        case rel => exact ⟨m + 1, j, by omega, hjn, by go_num, rfl, by rw [← HBS.out, HB.out, ← HM.out], hbel1, hT1⟩
        case measure => have := HIJ.out; omega
      · have HB := Lib.hid (bs_ge (c := fun x : WrD => cmpWr x t) hlt (by rw [← HM.out]; exact HX.out) hc)
        have hc2 : 0 ≤ cmpWr x t := by omega
        clear hb1 hbel k0 t0 k1 t1 k2 t2 k3 t3 lb lp
        go_wp2
        go_roundg (m - i)
        case rel => exact ⟨i, m, by omega, by omega, rfl, rfl, by rw [← HBS.out, HB.out, ← HM.out], hbel1, hT1⟩
        case measure => have := HIJ.out; omega
    · have hr : i = bs (fun x => cmpWr x t) l 0 n := by rw [← HBS.out, bs_end hlt]
      have HR := Lib.hid hr
      clear hr
      have hge : (j : Int) ≤ (i : Int) := by omega
      by_cases hin : i < n
      · have hinZ : (i : Int) < (n : Int) := by omega
        have hx : l[i]? = some (l[i]'(by rw [HN.out]; omega)) := List.getElem?_eq_getElem _
        generalize l[i]'(by rw [HN.out]; omega) = x at hx
        have hr : ∃ b off cap, a = some ⟨b, off, none⟩ ∧ c = cap ∧ w.rangeAt b off (wrY.flat l) := by
          rcases HV.out with ⟨h1, h2⟩ | ⟨b, off, cap, h1, h2, h3⟩
          · rw [h2] at hx; cases hx
          · simp at h1; exact ⟨b, off, cap, h1.1, h1.2.2, h3⟩
        obtain ⟨b, off, cap, rfl, rfl, hr⟩ := hr
        have hrx : wr.rangeAt b (off + i * 4) [.string x.id.a, .int .i64 x.id.n, .int .i64 x.clock, .string x.text] := wrY.elem (rangeAt_below hr hbel) i x hx
        have HX := Lib.hid hx
        clear hx hr
        have k0 : wr.cell? ⟨b, off + i * 4, none⟩ = some (.string x.id.a) := hrx 0 _ rfl
        have k1 : wr.cell? ⟨b, off + i * 4 + 1, none⟩ = some (.int .i64 x.id.n) := hrx 1 _ rfl
        have k2 : wr.cell? ⟨b, off + i * 4 + 2, none⟩ = some (.int .i64 x.clock) := hrx 2 _ rfl
        have k3 : wr.cell? ⟨b, off + i * 4 + 3, none⟩ = some (.string x.text) := hrx 3 _ rfl
        have lb := block_lt_of_cell k0
        clear hrx
        go_wp2_with fail
        go_region_held3 (fun w' => w'.cell? ⟨b, off + i * 4, none⟩ = some (.string x.id.a) ∧ w'.cell? ⟨b, off + i * 4 + 1, none⟩ = some (.int .i64 x.id.n) ∧ w'.cell? ⟨b, off + i * 4 + 2, none⟩ = some (.int .i64 x.clock) ∧ w'.cell? ⟨b, off + i * 4 + 3, none⟩ = some (.string x.text) ∧ w'.cell? ⟨p, 0, none⟩ = some (.string t.id.a) ∧ w'.cell? ⟨p, 1, none⟩ = some (.int .i64 t.id.n) ∧ w'.cell? ⟨p, 2, none⟩ = some (.int .i64 t.clock) ∧ w'.cell? ⟨p, 3, none⟩ = some (.string t.text)) (first | go_keep | exact ⟨(hb1.cell (p := ⟨b, off + i * 4, none⟩) lb).trans k0, (hb1.cell (p := ⟨b, off + i * 4 + 1, none⟩) lb).trans k1, (hb1.cell (p := ⟨b, off + i * 4 + 2, none⟩) lb).trans k2, (hb1.cell (p := ⟨b, off + i * 4 + 3, none⟩) lb).trans k3, (hb1.cell (p := ⟨p, 0, none⟩) lp).trans t0, (hb1.cell (p := ⟨p, 1, none⟩) lp).trans t1, (hb1.cell (p := ⟨p, 2, none⟩) lp).trans t2, (hb1.cell (p := ⟨p, 3, none⟩) lp).trans t3⟩)
          (first
            | (go_at_call 127; refine (compareMarks_any x t _).mono ?_; rintro e w1 ⟨rfl, hb1⟩))
        all_goals go_wp2
        all_goals go_ret2
        all_goals exact ⟨i, HR.out, by omega, by unfold found; rw [HX.out]; rfl, by rw [HP.out]; exact (by rw [← HP.out]; exact hbel.drew.trans (hb1.mono hbel.size))⟩
      · have hinZ : decide ((i : Int) < (n : Int)) = false := by simp; omega
        go_wp2_with fail
        go_quiet (fail)
        go_wp2
        go_ret2
        exact ⟨i, HR.out, by have := HIJ.out; omega, by unfold found; rw [List.getElem?_eq_none (by rw [HN.out]; omega)]; rfl, by rw [HP.out]; rw [HP.out] at hbel; exact Below_drewN hbel _⟩
end Go.Proofs.YteigcnamkfebgaaGreatDoor
