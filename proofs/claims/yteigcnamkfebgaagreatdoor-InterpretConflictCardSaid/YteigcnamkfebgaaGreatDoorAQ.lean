import Derived.Test.YteigcnamkfebgaaGreatDoorAP
namespace Go.Proofs.YteigcnamkfebgaaGreatDoor
open Go.RowKit
/-! edit.FormatID at the fourth edit -/
set_option maxRecDepth 100000 in
theorem validAuthor_ann (w : World) : Calls Tryz.prog 138 #[.string ⟨#[97, 110, 110]⟩] w fun e w' => e = .returned (.bool true) ∧ w = w' := by
  go_enter Tryz.func138, Tryz.ntmps138
  go_wp2
  refine wp_loop_rounds 4 ?_
  rw [rounds_succ]; go_wp2
  rw [rounds_succ]; go_wp2
  rw [rounds_succ]; go_wp2
  rw [rounds_succ]; go_wp2
  go_ret
  exact ⟨rfl, rfl⟩
set_option maxRecDepth 100000 in
theorem valid_ann4 (w : World) : Calls Tryz.prog 95 #[.agg #[.string ⟨#[97, 110, 110]⟩, .int .i64 4]] w fun e w' => e = .returned (.bool true) ∧ Below w.heap.size w w' := by
  go_enter Tryz.func95, Tryz.ntmps95
  go_wp2_with (go_at_call 138; refine (validAuthor_ann _).mono ?_; rintro e w1 ⟨rfl, rfl⟩)
  go_ret
  exact ⟨rfl, (Below.refl _ _).alloc (Nat.le_refl _) _⟩
set_option maxRecDepth 100000 in
theorem small4 (w : World) : Calls Tryz.prog 211 #[.int .i64 4] w fun e w' => e = .returned (.string ⟨#[52]⟩) ∧ w = w' := by
  go_enter Tryz.func211, Tryz.ntmps211
  go_wp2
  go_ret
  exact ⟨rfl, rfl⟩
set_option maxRecDepth 100000 in
theorem fmtInt4 (w : World) : Calls Tryz.prog 177 #[.int .i64 4, .int .i64 10] w fun e w' => e = .returned (.string ⟨#[52]⟩) ∧ w = w' := by
  go_enter Tryz.func177, Tryz.ntmps177
  go_wp2_with (go_at_call 211; refine (small4 _).mono ?_; rintro e w1 ⟨rfl, rfl⟩)
  go_ret
  exact ⟨rfl, rfl⟩
theorem itoa4i (w : World) : Calls Tryz.prog 139 #[.int .i64 4] w fun e w' => e = .returned (.string ⟨#[52]⟩) ∧ w = w' := by
  go_enter Tryz.func139, Tryz.ntmps139
  go_wp2_with (go_at_call 177; refine (fmtInt4 _).mono ?_; rintro e w1 ⟨rfl, rfl⟩)
  go_ret
  exact ⟨rfl, rfl⟩
theorem itoa4 (w : World) : Calls Tryz.prog 96 #[.int .i64 4] w fun e w' => e = .returned (.string ⟨#[52]⟩) ∧ w = w' := by
  go_enter Tryz.func96, Tryz.ntmps96
  go_wp2_with (go_at_call 139; refine (itoa4i _).mono ?_; rintro e w1 ⟨rfl, rfl⟩)
  go_ret
  exact ⟨rfl, rfl⟩
set_option maxRecDepth 100000 in
theorem formatId4 (w : World) : Calls Tryz.prog 58 #[.agg #[.string ⟨#[97, 110, 110]⟩, .int .i64 4]] w fun e w' => e = .returned (.string ⟨#[97, 110, 110, 46, 52]⟩) ∧ Below w.heap.size w w' := by
  have R0 : (w.alloc (.cells #[.string ⟨#[97, 110, 110]⟩, .int .i64 4] 38)).heap[w.heap.size]? = _ := alloc_get _ _ _ rfl
  have hb0 : Below w.heap.size w (w.alloc (.cells #[.string ⟨#[97, 110, 110]⟩, .int .i64 4] 38)) := (Below.refl _ _).alloc (Nat.le_refl _) _
  go_enter Tryz.func58, Tryz.ntmps58
  go_wp2_with fail
  refine (valid_ann4 _).mono ?_
  rintro e w1 ⟨rfl, hb1⟩
  have R1 := (hb1.block _ (lt_of_block R0)).trans R0
  have hb2 := hb0.trans (hb1.mono hb0.size)
  have R1 : w1.drew.heap[w.heap.size]? = _ := R1
  clear R0 hb0 hb1
  go_wp2_with fail
  go_region_held3 (fun w' => w'.cell? ⟨w.heap.size, 0, none⟩ = some (.string ⟨#[97, 110, 110]⟩) ∧ w'.cell? ⟨w.heap.size, 1, none⟩ = some (.int .i64 4))
    (first
      | with_reducible exact two_cells R1
      | go_keep)
    (first
      | (go_at_call 96; with_reducible refine (itoa4 _).mono ?_; rintro e w1 ⟨rfl, rfl⟩))
  go_wp2
  go_ret
  exact ⟨rfl, hb2.drew⟩
end Go.Proofs.YteigcnamkfebgaaGreatDoor
