import Derived.Test.YteigcnamkfebgaaGreatDoorX
namespace Go.Proofs.YteigcnamkfebgaaGreatDoor
open Go.RowKit
theorem below_drewN {B : Nat} {w w' : World} (h : Below B w w') (n : Nat) : Below B w (w'.drewN n) := ⟨h.os, h.tape, h.output, h.size, h.block⟩
set_option maxRecDepth 100000 in
theorem mulE1 (w : World) : Calls Tryz.prog 206 #[.string ⟨#[]⟩, .string ⟨#[1]⟩] w fun e w' => e = .returned (.string ⟨#[]⟩) ∧ Below w.heap.size w w' := by
  have hmk := mk32_1
  go_enter Tryz.func206, Tryz.ntmps206
  go_wp2_with fail
  refine (limbsE _).mono ?_
  rintro e w1 ⟨rfl, hb1⟩
  go_wp2_with fail
  refine (limbs1 _).mono ?_
  rintro e w2 ⟨rfl, hc2, hb2⟩
  have k0 := cell_of_one (alloc_get w2 (.cells #[.int .u32 0] 197) w2.heap.size rfl)
  have hM := mag0 w2.heap.size 1 _ k0
  clear hc2 k0
  go_wp2
  refine wp_loop_rounds 1 ?_
  rw [rounds_succ]
  go_wp2_with (first | (go_at_call 233; refine hM.mono ?_; rintro e w3 ⟨rfl, hb3⟩))
  go_ret
  exact ⟨rfl, ((hb1.trans (hb2.mono hb1.size)).alloc (by have := hb1.size; have := hb2.size; omega) _).trans (hb3.mono (by have := hb1.size; have := hb2.size; simp <;> omega))⟩
set_option maxRecDepth 100000 in
theorem mul11 (w : World) : Calls Tryz.prog 206 #[.string ⟨#[1]⟩, .string ⟨#[1]⟩] w fun e w' => e = .returned (.string ⟨#[1]⟩) ∧ Below w.heap.size w w' := by
  have hmk := mk32_2
  go_enter Tryz.func206, Tryz.ntmps206
  go_wp2_with fail
  refine (limbs1 _).mono ?_
  rintro e w1 ⟨rfl, hc1, hb1⟩
  go_wp2_with fail
  refine (limbs1 _).mono ?_
  rintro e w2 ⟨rfl, hc2, hb2⟩
  have l1 := World.block_lt_of_cell? _ _ hc1
  have l2 := World.block_lt_of_cell? _ _ hc2
  have n1 := keep1 (hb2.alloc hb2.size (.cells #[.int .u32 0, .int .u32 0] 197)) hc1
  have n2 : (w2.alloc (.cells #[.int .u32 0, .int .u32 0] 197)).cell? ⟨w1.heap.size, 0, none⟩ = some (.int .u32 1) := keep1 ((Below.refl _ _).alloc (Nat.le_refl _) _) hc2
  have r0 := alloc_get w2 (.cells #[.int .u32 0, .int .u32 0] 197) w2.heap.size rfl
  obtain ⟨n3, n4⟩ := two_cells r0
  obtain ⟨f3, f4⟩ := two_free r0
  clear hc1 hc2
  go_wp2
  clear hmk
  refine wp_loop_rounds 2 ?_
  rw [rounds_succ]; go_wp2
  refine wp_loop_rounds 2 ?_
  rw [rounds_succ]; go_wp2_with fail
  go_quiet (fail)
  go_wp2
  rw [rounds_succ]; go_wp2
  rw [rounds_succ]; go_wp2_with fail

  have hc := two_cells (set2 (x' := .int .u32 1) (y' := .int .u32 0) (show ((w2.alloc (.cells #[.int .u32 0, .int .u32 0] 197)).drewN nq).heap[w2.heap.size]? = _ from r0))
  refine (mag10 _ 2 _ hc.1 hc.2).mono ?_
  rintro e w3 ⟨rfl, hb3⟩
  go_wp2
  go_ret
  exact ⟨rfl, (((below_drewN ((hb1.trans (hb2.mono hb1.size)).alloc (by omega) _) nq).setCell (by simp <;> omega) _).setCell (by simp <;> omega) _).trans (hb3.mono (by simp <;> omega))⟩
end Go.Proofs.YteigcnamkfebgaaGreatDoor
