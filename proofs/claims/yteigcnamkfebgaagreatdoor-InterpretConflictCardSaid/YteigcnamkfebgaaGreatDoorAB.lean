import Derived.Test.YteigcnamkfebgaaGreatDoorAA
namespace Go.Proofs.YteigcnamkfebgaaGreatDoor
open Go.RowKit
set_option maxHeartbeats 6400000 in
set_option maxRecDepth 100000 in
theorem subI10 (w : World) : Calls Tryz.prog 204 #[.agg #[.bool false, .string ⟨#[1]⟩], .agg #[.bool false, .string ⟨#[]⟩]] w fun e w' => e = .returned (.agg #[.bool false, .string ⟨#[1]⟩]) ∧ Below w.heap.size w w' := by
  have R2 : ((((w.alloc (.cells #[.bool false, .string ⟨#[1]⟩] 207)).alloc (.cells #[.bool false, .string ⟨#[]⟩] 207)).alloc (.cells #[.bool false, .string ⟨#[]⟩] 207)).drew).heap[w.heap.size]? = _ := alloc_old _ _ _ _ (alloc_old _ _ _ _ (alloc_get _ _ _ rfl))
  have R3 : ((((w.alloc (.cells #[.bool false, .string ⟨#[1]⟩] 207)).alloc (.cells #[.bool false, .string ⟨#[]⟩] 207)).alloc (.cells #[.bool false, .string ⟨#[]⟩] 207)).drew).heap[w.heap.size + 1]? = _ := alloc_old _ _ _ _ (alloc_get _ _ _ (by simp))
  have R4 : ((((w.alloc (.cells #[.bool false, .string ⟨#[1]⟩] 207)).alloc (.cells #[.bool false, .string ⟨#[]⟩] 207)).alloc (.cells #[.bool false, .string ⟨#[]⟩] 207)).drew).heap[w.heap.size + 1 + 1]? = _ := alloc_get _ _ _ (by simp)
  have BL : Below w.heap.size w ((((w.alloc (.cells #[.bool false, .string ⟨#[1]⟩] 207)).alloc (.cells #[.bool false, .string ⟨#[]⟩] 207)).alloc (.cells #[.bool false, .string ⟨#[]⟩] 207)).drew) := ((((Below.refl _ _).alloc (Nat.le_refl _) _).alloc (by simp) _).alloc (by simp <;> omega) _).drew
  go_enter Tryz.func204, Tryz.ntmps204
  go_wp2_with fail
  go_region_held3 (fun w' => w'.cell? ⟨w.heap.size, 0, none⟩ = some (.bool false) ∧ w'.cell? ⟨w.heap.size, 1, none⟩ = some (.string ⟨#[1]⟩) ∧ w'.cell? ⟨w.heap.size + 1, 0, none⟩ = some (.bool false) ∧ w'.cell? ⟨w.heap.size + 1, 1, none⟩ = some (.string ⟨#[]⟩))
    (first
      | with_reducible exact rows4 R2 R3
      | with_reducible exact far4 (by assumption) (by omega) (by omega)
      | go_keep)
    (first
      | (go_at_call 231; refine (negE _).mono ?_; rintro e w4 ⟨rfl, hb⟩; have R2 := (hb.block _ (lt_of_block R2)).trans R2; have R3 := (hb.block _ (lt_of_block R3)).trans R3; have R4 := (hb.block _ (lt_of_block R4)).trans R4; have BL := BL.trans (hb.mono BL.size))
      | (go_at_call 230; refine (addI ⟨#[1]⟩ ⟨#[]⟩ ⟨#[1]⟩ norm1 normE add1E _).mono ?_; rintro e w7 ⟨rfl, hb⟩; have R2 := (hb.block _ (lt_of_block R2)).trans R2; have R3 := (hb.block _ (lt_of_block R3)).trans R3; have R4 := (hb.block _ (lt_of_block R4)).trans R4; have BL := BL.trans (hb.mono BL.size); obtain ⟨s1, s2⟩ := two_cells R4; obtain ⟨s3, s4⟩ := two_free R4))
  go_wp2
  exact bodyPost_ret (results_cell_row Tryz.results204 _ _ (w.heap.size + 1 + 1) 207 _ (0, 0) _ rfl (set2 R4) Tryz.underlying207 rfl (by kernel_rfl)) rfl ⟨rfl, (BL.setCell (by simp <;> omega) _).setCell (by simp <;> omega) _⟩
set_option maxRecDepth 100000 in
theorem signI1 (w : World) : Calls Tryz.prog 203 #[.agg #[.bool false, .string ⟨#[1]⟩]] w fun e w' => e = .returned (.int .i64 1) ∧ Below w.heap.size w w' := by
  have R0 := alloc_get w (.cells #[.bool false, .string ⟨#[1]⟩] 207) w.heap.size rfl
  have BL := (Below.refl w.heap.size w).alloc (Nat.le_refl _) (.cells #[.bool false, .string ⟨#[1]⟩] 207)
  go_enter Tryz.func203, Tryz.ntmps203
  go_wp2_with fail
  refine (normI ⟨#[1]⟩ norm1 _).mono ?_
  rintro e w1 ⟨rfl, hb⟩
  have Q0 := (hb.block _ (lt_of_block R0)).trans R0
  have BQ := BL.trans (hb.mono BL.size)
  obtain ⟨s1, s2⟩ := two_cells Q0
  obtain ⟨s3, s4⟩ := two_free Q0
  have P0 := set2 (x' := .bool false) (y' := .string ⟨#[1]⟩) Q0
  obtain ⟨s5, s6⟩ := two_cells P0
  go_wp2
  go_ret
  exact ⟨rfl, (BQ.setCell (by simp <;> omega) _).setCell (by simp <;> omega) _⟩
set_option maxRecDepth 100000 in
theorem cmpI10 (w : World) : Calls Tryz.prog 172 #[.agg #[.bool false, .string ⟨#[1]⟩], .agg #[.bool false, .string ⟨#[]⟩]] w fun e w' => e = .returned (.int .i64 1) ∧ Below w.heap.size w w' := by
  go_enter Tryz.func172, Tryz.ntmps172
  go_wp2_with fail
  refine (subI10 _).mono ?_
  rintro e w1 ⟨rfl, hb1⟩
  go_wp2_with fail
  refine (signI1 _).mono ?_
  rintro e w2 ⟨rfl, hb2⟩
  go_wp2
  go_ret
  exact ⟨rfl, ((below2 w _ _).trans (hb1.mono (by simp <;> omega))).trans (hb2.mono (by have := hb1.size; simp at this; omega))⟩
end Go.Proofs.YteigcnamkfebgaaGreatDoor
