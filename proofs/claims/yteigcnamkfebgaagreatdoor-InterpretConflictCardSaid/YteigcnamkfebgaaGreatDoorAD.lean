import Derived.Test.YteigcnamkfebgaaGreatDoorAC
namespace Go.Proofs.YteigcnamkfebgaaGreatDoor
open Go.RowKit
def rootI : IdD := ⟨⟨#[]⟩, 0⟩
def ann1 : IdD := ⟨⟨#[97, 110, 110]⟩, 1⟩
def ann4 : IdD := ⟨⟨#[97, 110, 110]⟩, 4⟩
def node1 : TnD := ⟨ann1, rootI, false, ⟨#[]⟩, ⟨#[]⟩, ⟨#[112, 97, 114, 97, 109]⟩⟩
def node4 : TnD := ⟨ann4, rootI, false, ⟨#[1]⟩, ⟨#[]⟩, ⟨#[109, 105, 114, 114, 111, 114]⟩⟩
theorem cells10 {W : World} {p q : Nat} {a0 a1 a2 a3 a4 a5 a6 a7 b0 b1 b2 b3 b4 b5 b6 b7 : Value} {t : TypeId} (h : W.heap[p]? = some (.cells #[a0, a1, a2, a3, a4, a5, a6, a7] t (0, 0))) (h' : W.heap[q]? = some (.cells #[b0, b1, b2, b3, b4, b5, b6, b7] t (0, 0))) :
    W.cell? ⟨p, 0, none⟩ = some a0 ∧ W.cell? ⟨p, 1, none⟩ = some a1 ∧ W.cell? ⟨p, 4, none⟩ = some a4 ∧ W.cell? ⟨p, 5, none⟩ = some a5 ∧ W.cell? ⟨p, 6, none⟩ = some a6 ∧
    W.cell? ⟨q, 0, none⟩ = some b0 ∧ W.cell? ⟨q, 1, none⟩ = some b1 ∧ W.cell? ⟨q, 4, none⟩ = some b4 ∧ W.cell? ⟨q, 5, none⟩ = some b5 ∧ W.cell? ⟨q, 6, none⟩ = some b6 :=
  ⟨cell_of_row _ _ _ _ _ _ h, cell_of_row _ _ _ _ _ _ h, cell_of_row _ _ _ _ _ _ h, cell_of_row _ _ _ _ _ _ h, cell_of_row _ _ _ _ _ _ h, cell_of_row _ _ _ _ _ _ h', cell_of_row _ _ _ _ _ _ h', cell_of_row _ _ _ _ _ _ h', cell_of_row _ _ _ _ _ _ h', cell_of_row _ _ _ _ _ _ h'⟩
set_option maxHeartbeats 6400000 in
set_option maxRecDepth 100000 in
/-- siblings' comparison at the two nodes: the mirror stands behind the parameter -/
theorem sibCmp41 (w : World) : Calls Tryz.prog 130 #[.agg (tnV node4).toArray, .agg (tnV node1).toArray] w fun e w' => e = .returned (.int .i64 1) ∧ Below w.heap.size w w' := by
  obtain ⟨m2, m3⟩ := box2 (w := w) (o := .cells (tnV node4).toArray 55) (o' := .cells (tnV node1).toArray 55)
  have BL := (below2 w (.cells (tnV node4).toArray 55) (.cells (tnV node1).toArray 55)).drew
  have R2 : (((w.alloc (.cells (tnV node4).toArray 55)).alloc (.cells (tnV node1).toArray 55)).drew).heap[w.heap.size]? = _ := m2
  have R3 : (((w.alloc (.cells (tnV node4).toArray 55)).alloc (.cells (tnV node1).toArray 55)).drew).heap[w.heap.size + 1]? = _ := m3
  clear m2 m3
  unfold tnV node1 node4 ann1 ann4 rootI at *
  go_enter Tryz.func130, Tryz.ntmps130
  go_wp2_with fail
  go_region_held3 (fun w' => w'.cell? ⟨w.heap.size, 0, none⟩ = some (.string ⟨#[97, 110, 110]⟩) ∧ w'.cell? ⟨w.heap.size, 1, none⟩ = some (.int .i64 4) ∧ w'.cell? ⟨w.heap.size, 4, none⟩ = some (.bool false) ∧ w'.cell? ⟨w.heap.size, 5, none⟩ = some (.string ⟨#[1]⟩) ∧ w'.cell? ⟨w.heap.size, 6, none⟩ = some (.string ⟨#[]⟩) ∧ w'.cell? ⟨w.heap.size + 1, 0, none⟩ = some (.string ⟨#[97, 110, 110]⟩) ∧ w'.cell? ⟨w.heap.size + 1, 1, none⟩ = some (.int .i64 1) ∧ w'.cell? ⟨w.heap.size + 1, 4, none⟩ = some (.bool false) ∧ w'.cell? ⟨w.heap.size + 1, 5, none⟩ = some (.string ⟨#[]⟩) ∧ w'.cell? ⟨w.heap.size + 1, 6, none⟩ = some (.string ⟨#[]⟩))
    (first
      | with_reducible exact cells10 R2 R3
      | go_keep)
    (first
      | (go_at_call 131; with_reducible refine (ratCmp10 _).mono ?_; rintro e w4 ⟨rfl, hb⟩; have R2 := (hb.block _ (lt_of_block R2)).trans R2; have R3 := (hb.block _ (lt_of_block R3)).trans R3; have BL := BL.trans (hb.mono BL.size))
      | (go_at_call 75; refine (less_any ⟨⟨#[97, 110, 110]⟩, 4⟩ ⟨⟨#[97, 110, 110]⟩, 1⟩ _).mono ?_; rintro e w5 ⟨rfl, hb⟩; have R2 := (hb.block _ (lt_of_block R2)).trans R2; have R3 := (hb.block _ (lt_of_block R3)).trans R3; have BL := BL.trans (hb.mono BL.size))
      | (go_at_call 118; refine (or2_any 1 (cmpId ⟨⟨#[97, 110, 110]⟩, 4⟩ ⟨⟨#[97, 110, 110]⟩, 1⟩) _ 2 _ (arr2 _ _ _).1 (arr2 _ _ _).2).mono ?_; rintro e w6 ⟨rfl, rfl⟩))
  go_wp2
  go_ret
  exact ⟨rfl, BL.alloc BL.size _⟩
end Go.Proofs.YteigcnamkfebgaaGreatDoor
