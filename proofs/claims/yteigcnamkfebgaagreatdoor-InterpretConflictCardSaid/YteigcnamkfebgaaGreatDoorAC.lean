import Derived.Test.YteigcnamkfebgaaGreatDoorAB
namespace Go.Proofs.YteigcnamkfebgaaGreatDoor
open Go.RowKit
theorem rows8 {W : World} {k m p q : Nat} {a b c d e f g h : Value} {t : TypeId} (h1 : W.heap[k]? = some (.cells #[a, b] t (0, 0))) (h2 : W.heap[m]? = some (.cells #[c, d] t (0, 0))) (h3 : W.heap[p]? = some (.cells #[e, f] t (0, 0))) (h4 : W.heap[q]? = some (.cells #[g, h] t (0, 0))) :
    W.cell? ⟨k, 0, none⟩ = some a ∧ W.cell? ⟨k, 1, none⟩ = some b ∧ W.cell? ⟨m, 0, none⟩ = some c ∧ W.cell? ⟨m, 1, none⟩ = some d ∧ W.cell? ⟨p, 0, none⟩ = some e ∧ W.cell? ⟨p, 1, none⟩ = some f ∧ W.cell? ⟨q, 0, none⟩ = some g ∧ W.cell? ⟨q, 1, none⟩ = some h :=
  ⟨(two_cells h1).1, (two_cells h1).2, (two_cells h2).1, (two_cells h2).2, (two_cells h3).1, (two_cells h3).2, (two_cells h4).1, (two_cells h4).2⟩
set_option maxHeartbeats 6400000 in
set_option maxRecDepth 100000 in
theorem ratCmp10 (w : World) : Calls Tryz.prog 131 #[.agg #[.bool false, .string ⟨#[1]⟩, .string ⟨#[]⟩], .agg #[.bool false, .string ⟨#[]⟩, .string ⟨#[]⟩]] w fun e w' => e = .returned (.int .i64 1) ∧ Below w.heap.size w w' := by
  have R0 : (((w.alloc (.cells #[.bool false, .string ⟨#[1]⟩, .string ⟨#[]⟩] 43)).alloc (.cells #[.bool false, .string ⟨#[]⟩, .string ⟨#[]⟩] 43))).heap[w.heap.size]? = _ := alloc_old _ _ _ _ (alloc_get _ _ _ rfl)
  have R1 : (((w.alloc (.cells #[.bool false, .string ⟨#[1]⟩, .string ⟨#[]⟩] 43)).alloc (.cells #[.bool false, .string ⟨#[]⟩, .string ⟨#[]⟩] 43))).heap[w.heap.size + 1]? = _ := alloc_get _ _ _ (by simp)
  have BL := below2 w (.cells #[.bool false, .string ⟨#[1]⟩, .string ⟨#[]⟩] 43) (.cells #[.bool false, .string ⟨#[]⟩, .string ⟨#[]⟩] 43)
  go_enter Tryz.func131, Tryz.ntmps131
  go_wp2_with fail
  refine (parts_any ⟨#[1]⟩ norm1 _).mono ?_
  rintro e w1 ⟨rfl, hb1⟩
  have Q1 := alloc_old _ _ (.cells #[.bool false, .string ⟨#[1]⟩] 207) _ (alloc_old _ _ (.cells #[.bool false, .string ⟨#[1]⟩] 207) _ ((hb1.block _ (lt_of_block R1)).trans R1))
  obtain ⟨t1, t2, t3⟩ := three_cells Q1
  have BQ := BL.trans (hb1.mono BL.size)
  have BZ := (BQ.alloc BQ.size (.cells #[.bool false, .string ⟨#[1]⟩] 207)).alloc (by have := BQ.size; simp <;> omega) (.cells #[.bool false, .string ⟨#[1]⟩] 207)
  have A5 : ((w1.alloc (.cells #[.bool false, .string ⟨#[1]⟩] 207)).alloc (.cells #[.bool false, .string ⟨#[1]⟩] 207)).heap[w1.heap.size]? = _ := box2.1
  have A6 : ((w1.alloc (.cells #[.bool false, .string ⟨#[1]⟩] 207)).alloc (.cells #[.bool false, .string ⟨#[1]⟩] 207)).heap[w1.heap.size + 1]? = _ := box2.2
  clear R0 R1 BL hb1 BQ
  go_wp2_with fail
  refine (parts_any ⟨#[]⟩ normE _).mono ?_
  rintro e w2 ⟨rfl, hb2⟩
  have A5 := (hb2.block _ (lt_of_block A5)).trans A5
  have A6 := (hb2.block _ (lt_of_block A6)).trans A6
  have BL := BZ.trans (hb2.mono BZ.size)
  have l5 := lt_of_block A5
  have l6 := lt_of_block A6
  have R5 : (((w2.alloc (.cells #[.bool false, .string ⟨#[]⟩] 207)).alloc (.cells #[.bool false, .string ⟨#[1]⟩] 207)).drew).heap[w1.heap.size]? = _ := alloc_old _ _ _ _ (alloc_old _ _ _ _ A5)
  have R6 : (((w2.alloc (.cells #[.bool false, .string ⟨#[]⟩] 207)).alloc (.cells #[.bool false, .string ⟨#[1]⟩] 207)).drew).heap[w1.heap.size + 1]? = _ := alloc_old _ _ _ _ (alloc_old _ _ _ _ A6)
  have R7 : (((w2.alloc (.cells #[.bool false, .string ⟨#[]⟩] 207)).alloc (.cells #[.bool false, .string ⟨#[1]⟩] 207)).drew).heap[w2.heap.size]? = _ := box2.1
  have R8 : (((w2.alloc (.cells #[.bool false, .string ⟨#[]⟩] 207)).alloc (.cells #[.bool false, .string ⟨#[1]⟩] 207)).drew).heap[w2.heap.size + 1]? = _ := box2.2
  have BL := ((BL.alloc BL.size (.cells #[.bool false, .string ⟨#[]⟩] 207)).alloc (by have := BL.size; simp <;> omega) (.cells #[.bool false, .string ⟨#[1]⟩] 207)).drew
  clear A5 A6 t1 t2 t3 Q1 hb2 BZ
  go_wp2_with fail
  go_region_held3 (fun w' => w'.cell? ⟨w1.heap.size, 0, none⟩ = some (.bool false) ∧ w'.cell? ⟨w1.heap.size, 1, none⟩ = some (.string ⟨#[1]⟩) ∧ w'.cell? ⟨w1.heap.size + 1, 0, none⟩ = some (.bool false) ∧ w'.cell? ⟨w1.heap.size + 1, 1, none⟩ = some (.string ⟨#[1]⟩) ∧ w'.cell? ⟨w2.heap.size, 0, none⟩ = some (.bool false) ∧ w'.cell? ⟨w2.heap.size, 1, none⟩ = some (.string ⟨#[]⟩) ∧ w'.cell? ⟨w2.heap.size + 1, 0, none⟩ = some (.bool false) ∧ w'.cell? ⟨w2.heap.size + 1, 1, none⟩ = some (.string ⟨#[1]⟩))
    (first
      | with_reducible exact rows8 R5 R6 R7 R8
      | go_keep)
    (first
      | (go_at_call 173; with_reducible refine (mulI ⟨#[1]⟩ ⟨#[1]⟩ ⟨#[1]⟩ norm1 norm1 mul11 _).mono ?_; rintro e w4 ⟨rfl, hb⟩; have R5 := (hb.block _ (lt_of_block R5)).trans R5; have R6 := (hb.block _ (lt_of_block R6)).trans R6; have R7 := (hb.block _ (lt_of_block R7)).trans R7; have R8 := (hb.block _ (lt_of_block R8)).trans R8; have BL := BL.trans (hb.mono BL.size))
      | (go_at_call 173; with_reducible refine (mulI ⟨#[]⟩ ⟨#[1]⟩ ⟨#[]⟩ normE norm1 mulE1 _).mono ?_; rintro e w5 ⟨rfl, hb⟩; have R5 := (hb.block _ (lt_of_block R5)).trans R5; have R6 := (hb.block _ (lt_of_block R6)).trans R6; have R7 := (hb.block _ (lt_of_block R7)).trans R7; have R8 := (hb.block _ (lt_of_block R8)).trans R8; have BL := BL.trans (hb.mono BL.size))
      | (go_at_call 172; with_reducible refine (cmpI10 _).mono ?_; rintro e w7 ⟨rfl, hb⟩; have R5 := (hb.block _ (lt_of_block R5)).trans R5; have R6 := (hb.block _ (lt_of_block R6)).trans R6; have R7 := (hb.block _ (lt_of_block R7)).trans R7; have R8 := (hb.block _ (lt_of_block R8)).trans R8; have BL := BL.trans (hb.mono BL.size)))
  go_wp2
  go_ret
  exact ⟨rfl, BL⟩
end Go.Proofs.YteigcnamkfebgaaGreatDoor
