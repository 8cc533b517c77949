import Derived.Test.YteigcnamkfebgaaGreatDoorN
namespace Go.Proofs.YteigcnamkfebgaaGreatDoor
open Go.RowKit
set_option maxHeartbeats 2000000 in
theorem less_any (x y : IdD) (w : World) : Calls Tryz.prog 75 #[.agg #[.string x.a, .int .i64 x.n], .agg #[.string y.a, .int .i64 y.n]] w fun e w' => e = .returned (.int .i64 (cmpId x y)) ∧ Below w.heap.size w w' := by
  obtain ⟨m2, m3⟩ := box2 (w := w) (o := .cells #[.string x.a, .int .i64 x.n] 38) (o' := .cells #[.string y.a, .int .i64 y.n] 38)
  have hb := below2 w (.cells #[.string x.a, .int .i64 x.n] 38) (.cells #[.string y.a, .int .i64 y.n] 38)
  go_enter Tryz.func75, Tryz.ntmps75
  go_wp2_with fail
  generalize ((w.alloc (.cells #[.string x.a, .int .i64 x.n] 38)).alloc (.cells #[.string y.a, .int .i64 y.n] 38)) = W at *
  generalize hp : w.heap.size = p at *
  have HP := Lib.hid hp
  clear hp
  have c20 : W.cell? ⟨p, 0, none⟩ = some (.string x.a) := by rw [cell_of_row _ _ 0 _ _ _ m2]; rfl
  have c21 : W.cell? ⟨p, 1, none⟩ = some (.int .i64 x.n) := by rw [cell_of_row _ _ 1 _ _ _ m2]; rfl
  have c30 : W.cell? ⟨p + 1, 0, none⟩ = some (.string y.a) := by rw [cell_of_row _ _ 0 _ _ _ m3]; rfl
  have c31 : W.cell? ⟨p + 1, 1, none⟩ = some (.int .i64 y.n) := by rw [cell_of_row _ _ 1 _ _ _ m3]; rfl
  have l2 := lt_of_block m2
  have l3 := lt_of_block m3
  clear m2 m3
  go_region_held3 (fun w' => w'.cell? ⟨p, 0, none⟩ = some (.string x.a) ∧ w'.cell? ⟨p, 1, none⟩ = some (.int .i64 x.n) ∧ w'.cell? ⟨p + 1, 0, none⟩ = some (.string y.a) ∧ w'.cell? ⟨p + 1, 1, none⟩ = some (.int .i64 y.n)) (go_keep)
    (first
      | (go_at_call 119; refine (genstr_any _ _ _).mono ?_; rintro e w1 ⟨rfl, rfl⟩)
      | (go_at_call 120; refine (intcmp_any _ _ _).mono ?_; rintro e w1 ⟨rfl, rfl⟩)
      | (go_at_call 118; refine (or2_any (cmpS x.a y.a) (Lib.compareInt x.n y.n) W.heap.size 2 _ (arr2 W.drew _ _).1 (arr2 W.drew _ _).2).mono ?_; rintro e w1 ⟨rfl, rfl⟩))
  all_goals go_wp2
  all_goals go_ret
  all_goals exact ⟨rfl, by rw [HP.out]; exact (hb.alloc (by have := hb.size; rw [HP.out] at this; exact this) _).drew⟩
def boxesTn (w : World) (x y : TnD) : World := (w.alloc (.cells (tnV x).toArray 55)).alloc (.cells (tnV y).toArray 55)
set_option maxRecDepth 100000 in
theorem nodeCmp_any (x y : TnD) (w : World) : Calls Tryz.prog 74 #[.agg (tnV x).toArray, .agg (tnV y).toArray] w fun e' w' => e' = .returned (.int .i64 (cmpId x.node y.node)) ∧ Below w.heap.size w w' := by
  obtain ⟨m2, m3⟩ := box2 (w := w) (o := .cells (tnV x).toArray 55) (o' := .cells (tnV y).toArray 55)
  have hb := below2 w (.cells (tnV x).toArray 55) (.cells (tnV y).toArray 55)
  have c20 : ((w.alloc (.cells (tnV x).toArray 55)).alloc (.cells (tnV y).toArray 55)).cell? ⟨w.heap.size, 0, none⟩ = some (.string x.node.a) := by rw [cell_of_row _ _ 0 _ _ _ m2]; rfl
  have c21 : ((w.alloc (.cells (tnV x).toArray 55)).alloc (.cells (tnV y).toArray 55)).cell? ⟨w.heap.size, 1, none⟩ = some (.int .i64 x.node.n) := by rw [cell_of_row _ _ 1 _ _ _ m2]; rfl
  have c30 : ((w.alloc (.cells (tnV x).toArray 55)).alloc (.cells (tnV y).toArray 55)).cell? ⟨w.heap.size + 1, 0, none⟩ = some (.string y.node.a) := by rw [cell_of_row _ _ 0 _ _ _ m3]; rfl
  have c31 : ((w.alloc (.cells (tnV x).toArray 55)).alloc (.cells (tnV y).toArray 55)).cell? ⟨w.heap.size + 1, 1, none⟩ = some (.int .i64 y.node.n) := by rw [cell_of_row _ _ 1 _ _ _ m3]; rfl
  clear m2 m3
  unfold tnV at *
  go_enter Tryz.func74, Tryz.ntmps74
  go_wp2_with (go_at_call 75; refine (less_any x.node y.node _).mono ?_; rintro e w1 ⟨rfl, hb1⟩)
  go_ret
  exact ⟨rfl, hb.trans (hb1.mono hb.size)⟩
end Go.Proofs.YteigcnamkfebgaaGreatDoor
