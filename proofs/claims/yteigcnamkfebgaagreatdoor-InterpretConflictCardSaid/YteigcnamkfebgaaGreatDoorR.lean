import Derived.Test.YteigcnamkfebgaaGreatDoorQ
import Derived.Deep.OwnRows
namespace Go.Proofs.YteigcnamkfebgaaGreatDoor
open Go.RowKit
def annS : ByteArray := ⟨#[97, 110, 110]⟩
theorem ann_any (n : Int) (w : World) : Calls Tryz.prog 14 #[.int .i64 n] w fun e w' => e = .returned (.agg #[.string ⟨#[97, 110, 110]⟩, .int .i64 n]) ∧ Below w.heap.size w w' := by
  go_enter Tryz.func14, Tryz.ntmps14
  go_wp2
  exact bodyPost_ret (v := .agg #[.string ⟨#[97, 110, 110]⟩, .int .i64 n]) (by simp [results, Tryz.results14, go_sem]) rfl ⟨rfl, (Below.refl _ _).alloc (Nat.le_refl _) _⟩
/-! the sum of the work on the two magnitudes that the road meets: nothing, and one byte 1 -/
def sE : ByteArray := ⟨#[]⟩
def s1 : ByteArray := ⟨#[1]⟩
theorem trimE (w : World) : Calls Tryz.prog 228 #[.string ⟨#[]⟩, .string ⟨#[0]⟩] w fun e w' => e = .returned (.string ⟨#[]⟩) ∧ w = w' := by
  go_enter Tryz.func228, Tryz.ntmps228
  go_wp2
  go_ret
  exact ⟨rfl, rfl⟩
theorem trimByte1 (w : World) : Calls Tryz.prog 251 #[.string ⟨#[1]⟩, .int .u8 0] w fun e w' => e = .returned (.string ⟨#[1]⟩) ∧ w = w' := by
  go_enter Tryz.func251, Tryz.ntmps251
  go_wp2
  refine wp_loop_rounds 1 ?_
  rw [rounds_succ]
  go_wp2
  go_ret
  exact ⟨rfl, rfl⟩
set_option maxRecDepth 100000 in
theorem trim1 (w : World) : Calls Tryz.prog 228 #[.string ⟨#[1]⟩, .string ⟨#[0]⟩] w fun e w' => e = .returned (.string ⟨#[1]⟩) ∧ w = w' := by
  go_enter Tryz.func228, Tryz.ntmps228
  go_wp2_with (first | (go_at_call 251; refine (trimByte1 _).mono ?_; rintro e w1 ⟨rfl, rfl⟩) | go_in)
  go_ret
  exact ⟨rfl, rfl⟩
theorem normE (w : World) : Calls Tryz.prog 200 #[.string ⟨#[]⟩] w fun e w' => e = .returned (.string ⟨#[]⟩) ∧ w = w' := by
  go_enter Tryz.func200, Tryz.ntmps200
  go_wp2_with (go_at_call 228; refine (trimE _).mono ?_; rintro e w1 ⟨rfl, rfl⟩)
  go_ret
  exact ⟨rfl, rfl⟩
theorem norm1 (w : World) : Calls Tryz.prog 200 #[.string ⟨#[1]⟩] w fun e w' => e = .returned (.string ⟨#[1]⟩) ∧ w = w' := by
  go_enter Tryz.func200, Tryz.ntmps200
  go_wp2_with (go_at_call 228; refine (trim1 _).mono ?_; rintro e w1 ⟨rfl, rfl⟩)
  go_ret
  exact ⟨rfl, rfl⟩
end Go.Proofs.YteigcnamkfebgaaGreatDoor
namespace Go.Proofs.YteigcnamkfebgaaGreatDoor
open Go.RowKit
theorem und260 : Tryz.prog.underlying 260 = some (.slice 197) := by kernel_rfl
theorem info197 : (Tryz.prog.info? 197).map (fun i => (i.zero, i.size, i.bytes)) = some (some (.int .u32 0), 1, 4) := by kernel_rfl
theorem made0 (z : Value) : madeCells #[z] 0 = #[] := by apply Array.toList_inj.1; rw [toList_madeCells_one]; rfl
theorem made1 (z : Value) : madeCells #[z] 1 = #[z] := by apply Array.toList_inj.1; rw [toList_madeCells_one]; rfl
theorem made2 (z : Value) : madeCells #[z] 2 = #[z, z] := by apply Array.toList_inj.1; rw [toList_madeCells_one]; rfl
theorem mk32_0 (w : World) : (Instr.makeSlice 260 (.int .i64 0) (.int .i64 0)).run Tryz.prog w = .ok (.slice (some ⟨w.heap.size, 0, none⟩) 0 0) (w.alloc (.cells #[] 197)) := by
  have h := run_make_row' (P := Tryz.prog) 260 197 (.int .u32 0) 4 und260 info197 rfl .i64 .i64 0 (by omega) (by omega) w
  rw [made0] at h
  exact h
theorem mk32_1 (w : World) : (Instr.makeSlice 260 (.int .i64 1) (.int .i64 1)).run Tryz.prog w = .ok (.slice (some ⟨w.heap.size, 0, none⟩) 1 1) (w.alloc (.cells #[.int .u32 0] 197)) := by
  have h := run_make_row' (P := Tryz.prog) 260 197 (.int .u32 0) 4 und260 info197 rfl .i64 .i64 1 (by omega) (by omega) w
  rw [made1] at h
  exact h
theorem mk32_2 (w : World) : (Instr.makeSlice 260 (.int .i64 2) (.int .i64 2)).run Tryz.prog w = .ok (.slice (some ⟨w.heap.size, 0, none⟩) 2 2) (w.alloc (.cells #[.int .u32 0, .int .u32 0] 197)) := by
  have h := run_make_row' (P := Tryz.prog) 260 197 (.int .u32 0) 4 und260 info197 rfl .i64 .i64 2 (by omega) (by omega) w
  rw [made2] at h
  exact h
set_option maxRecDepth 100000 in
theorem limbsE (w : World) : Calls Tryz.prog 232 #[.string ⟨#[]⟩] w fun e w' => e = .returned (.slice (some ⟨w.heap.size, 0, none⟩) 0 0) ∧ Below w.heap.size w w' := by
  have hmk := mk32_0
  go_enter Tryz.func232, Tryz.ntmps232
  go_wp2_with (first | (go_at_call 200; refine (normE _).mono ?_; rintro e w1 ⟨rfl, rfl⟩))
  refine wp_loop_rounds 1 ?_
  rw [rounds_succ]
  go_wp2
  go_ret
  exact ⟨rfl, (Below.refl _ _).alloc (Nat.le_refl _) _⟩
set_option maxRecDepth 100000 in
theorem limbs1 (w : World) : Calls Tryz.prog 232 #[.string ⟨#[1]⟩] w fun e w' => e = .returned (.slice (some ⟨w.heap.size, 0, none⟩) 1 1) ∧ w'.cell? ⟨w.heap.size, 0, none⟩ = some (.int .u32 1) ∧ Below w.heap.size w w' := by
  have hm := alloc_get w (.cells #[.int .u32 0] 197) w.heap.size rfl
  have c0 := cell_of_one hm
  have f0 := free_of_one hm
  have hmk := mk32_1
  go_enter Tryz.func232, Tryz.ntmps232
  go_wp2_with (first | (go_at_call 200; refine (norm1 _).mono ?_; rintro e w1 ⟨rfl, rfl⟩))
  refine wp_loop_rounds 2 ?_
  rw [rounds_succ]
  clear hmk
  go_wp2
  go_region
  all_goals go_wp2
  all_goals rw [rounds_succ]
  all_goals go_wp2
  all_goals go_ret
  refine ⟨rfl, ?_, ?_⟩
  · exact (show (World.alloc w _).cell? _ = _ from cell_of_one (alloc_get w _ w.heap.size rfl)).trans (by kernel_rfl)
  · exact ((Below.refl _ _).alloc (Nat.le_refl _) _).drew
end Go.Proofs.YteigcnamkfebgaaGreatDoor
namespace Go.Proofs.YteigcnamkfebgaaGreatDoor
open Go.RowKit
set_option maxRecDepth 100000 in
theorem trimByte8 (w : World) : Calls Tryz.prog 251 #[.string ⟨#[1, 0, 0, 0, 0, 0, 0, 0]⟩, .int .u8 0] w fun e w' => e = .returned (.string ⟨#[1]⟩) ∧ w = w' := by
  go_enter Tryz.func251, Tryz.ntmps251
  go_wp2
  refine wp_loop_rounds 8 ?_
  rw [rounds_succ]; go_wp2
  rw [rounds_succ]; go_wp2
  rw [rounds_succ]; go_wp2
  rw [rounds_succ]; go_wp2
  rw [rounds_succ]; go_wp2
  rw [rounds_succ]; go_wp2
  rw [rounds_succ]; go_wp2
  rw [rounds_succ]; go_wp2
  go_ret
  exact ⟨rfl, rfl⟩
set_option maxRecDepth 100000 in
theorem trimByte4 (w : World) : Calls Tryz.prog 251 #[.string ⟨#[0, 0, 0, 0]⟩, .int .u8 0] w fun e w' => e = .returned (.string ⟨#[]⟩) ∧ w = w' := by
  go_enter Tryz.func251, Tryz.ntmps251
  go_wp2
  refine wp_loop_rounds 5 ?_
  rw [rounds_succ]; go_wp2
  rw [rounds_succ]; go_wp2
  rw [rounds_succ]; go_wp2
  rw [rounds_succ]; go_wp2
  rw [rounds_succ]; go_wp2
  go_ret
  exact ⟨rfl, rfl⟩
set_option maxRecDepth 100000 in
theorem trim8 (w : World) : Calls Tryz.prog 228 #[.string ⟨#[1, 0, 0, 0, 0, 0, 0, 0]⟩, .string ⟨#[0]⟩] w fun e w' => e = .returned (.string ⟨#[1]⟩) ∧ w = w' := by
  go_enter Tryz.func228, Tryz.ntmps228
  go_wp2_with (first | (go_at_call 251; refine (trimByte8 _).mono ?_; rintro e w1 ⟨rfl, rfl⟩) | go_in)
  go_ret
  exact ⟨rfl, rfl⟩
set_option maxRecDepth 100000 in
theorem trim4 (w : World) : Calls Tryz.prog 228 #[.string ⟨#[0, 0, 0, 0]⟩, .string ⟨#[0]⟩] w fun e w' => e = .returned (.string ⟨#[]⟩) ∧ w = w' := by
  go_enter Tryz.func228, Tryz.ntmps228
  go_wp2_with (first | (go_at_call 251; refine (trimByte4 _).mono ?_; rintro e w1 ⟨rfl, rfl⟩) | go_in)
  go_ret
  exact ⟨rfl, rfl⟩
theorem norm8 (w : World) : Calls Tryz.prog 200 #[.string ⟨#[1, 0, 0, 0, 0, 0, 0, 0]⟩] w fun e w' => e = .returned (.string ⟨#[1]⟩) ∧ w = w' := by
  go_enter Tryz.func200, Tryz.ntmps200
  go_wp2_with (go_at_call 228; refine (trim8 _).mono ?_; rintro e w1 ⟨rfl, rfl⟩)
  go_ret
  exact ⟨rfl, rfl⟩
theorem norm4 (w : World) : Calls Tryz.prog 200 #[.string ⟨#[0, 0, 0, 0]⟩] w fun e w' => e = .returned (.string ⟨#[]⟩) ∧ w = w' := by
  go_enter Tryz.func200, Tryz.ntmps200
  go_wp2_with (go_at_call 228; refine (trim4 _).mono ?_; rintro e w1 ⟨rfl, rfl⟩)
  go_ret
  exact ⟨rfl, rfl⟩
end Go.Proofs.YteigcnamkfebgaaGreatDoor
