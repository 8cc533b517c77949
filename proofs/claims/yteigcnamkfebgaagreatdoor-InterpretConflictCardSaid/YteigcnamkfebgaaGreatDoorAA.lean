import Derived.Test.YteigcnamkfebgaaGreatDoorZ
namespace Go.Proofs.YteigcnamkfebgaaGreatDoor
open Go.RowKit
set_option maxHeartbeats 6400000 in
set_option maxRecDepth 100000 in
theorem addI (a b r : ByteArray) (hNa : ∀ w : World, Calls Tryz.prog 200 #[.string a] w fun e w' => e = .returned (.string a) ∧ w = w') (hNb : ∀ w : World, Calls Tryz.prog 200 #[.string b] w fun e w' => e = .returned (.string b) ∧ w = w')
    (hM : ∀ w : World, Calls Tryz.prog 262 #[.string a, .string b] w fun e w' => e = .returned (.string r) ∧ Below w.heap.size w w') (w : World) :
    Calls Tryz.prog 230 #[.agg #[.bool false, .string a], .agg #[.bool false, .string b]] w fun e w' => e = .returned (.agg #[.bool false, .string r]) ∧ Below w.heap.size w w' := by
  have hNa' : ∀ W : World, Calls Tryz.prog 202 #[.agg #[.bool false, .string a]] W fun e w' => e = .returned (.agg #[.bool false, .string a]) ∧ Below W.heap.size W w' := fun W => normI a hNa W
  have hNb' : ∀ W : World, Calls Tryz.prog 202 #[.agg #[.bool false, .string b]] W fun e w' => e = .returned (.agg #[.bool false, .string b]) ∧ Below W.heap.size W w' := fun W => normI b hNb W
  have HA := Lib.hid hNa'
  have HB := Lib.hid hNb'
  have HM := Lib.hid hM
  clear hNa hNb hNa' hNb' hM
  have R2 : ((((w.alloc (.cells #[.bool false, .string a] 207)).alloc (.cells #[.bool false, .string b] 207)).alloc (.cells #[.bool false, .string ⟨#[]⟩] 207)).drew).heap[w.heap.size]? = _ := alloc_old _ _ _ _ (alloc_old _ _ _ _ (alloc_get _ _ _ rfl))
  have R3 : ((((w.alloc (.cells #[.bool false, .string a] 207)).alloc (.cells #[.bool false, .string b] 207)).alloc (.cells #[.bool false, .string ⟨#[]⟩] 207)).drew).heap[w.heap.size + 1]? = _ := alloc_old _ _ _ _ (alloc_get _ _ _ (by simp))
  have R4 : ((((w.alloc (.cells #[.bool false, .string a] 207)).alloc (.cells #[.bool false, .string b] 207)).alloc (.cells #[.bool false, .string ⟨#[]⟩] 207)).drew).heap[w.heap.size + 1 + 1]? = _ := alloc_get _ _ _ (by simp)
  have BL : Below w.heap.size w ((((w.alloc (.cells #[.bool false, .string a] 207)).alloc (.cells #[.bool false, .string b] 207)).alloc (.cells #[.bool false, .string ⟨#[]⟩] 207)).drew) := ((((Below.refl _ _).alloc (Nat.le_refl _) _).alloc (by simp) _).alloc (by simp <;> omega) _).drew
  go_enter Tryz.func230, Tryz.ntmps230
  go_wp2_with fail
  go_region_held3 (fun w' => w'.cell? ⟨w.heap.size, 0, none⟩ = some (.bool false) ∧ w'.cell? ⟨w.heap.size, 1, none⟩ = some (.string a) ∧ w'.cell? ⟨w.heap.size + 1, 0, none⟩ = some (.bool false) ∧ w'.cell? ⟨w.heap.size + 1, 1, none⟩ = some (.string b))
    (first
      | with_reducible exact rows4 R2 R3
      | with_reducible exact same4 (by assumption) (.inl ⟨rfl, rfl, rfl⟩)
      | with_reducible exact same4 (by assumption) (.inr ⟨rfl, rfl, rfl⟩)
      | go_keep)
    (first
      | (go_at_call 202; refine (HA.out _).mono ?_; rintro e w4 ⟨rfl, hb⟩; have R2 := (hb.block _ (lt_of_block R2)).trans R2; have R3 := (hb.block _ (lt_of_block R3)).trans R3; have R4 := (hb.block _ (lt_of_block R4)).trans R4; have BL := BL.trans (hb.mono BL.size); obtain ⟨s1, s2⟩ := two_cells R2; obtain ⟨s3, s4⟩ := two_free R2; obtain ⟨s5, s6⟩ := two_cells R3; obtain ⟨s7, s8⟩ := two_free R3)
      | (go_at_call 202; refine (HB.out _).mono ?_; rintro e w4 ⟨rfl, hb⟩; have R2 := (hb.block _ (lt_of_block R2)).trans R2; have R3 := (hb.block _ (lt_of_block R3)).trans R3; have R4 := (hb.block _ (lt_of_block R4)).trans R4; have BL := BL.trans (hb.mono BL.size); obtain ⟨s1, s2⟩ := two_cells R2; obtain ⟨s3, s4⟩ := two_free R2; obtain ⟨s5, s6⟩ := two_cells R3; obtain ⟨s7, s8⟩ := two_free R3))
  clear s1 s2 s3 s4 s5 s6 s7 s8
  have Q2 := setOther (v := .string b) (j := 1) (g := w.heap.size + 1) (setOther (v := .bool false) (j := 0) (g := w.heap.size + 1) (set2 (x' := .bool false) (y' := .string a) R2) (by omega)) (by omega)
  have Q3 := set2 (x' := .bool false) (y' := .string b) (setOther (v := .string a) (j := 1) (g := w.heap.size) (setOther (v := .bool false) (j := 0) (g := w.heap.size) R3 (by omega)) (by omega))
  have Q4 := setOther (v := .string b) (j := 1) (g := w.heap.size + 1) (setOther (v := .bool false) (j := 0) (g := w.heap.size + 1) (setOther (v := .string a) (j := 1) (g := w.heap.size) (setOther (v := .bool false) (j := 0) (g := w.heap.size) R4 (by omega)) (by omega)) (by omega)) (by omega)
  have BQ := (((BL.setCell (p := ⟨w.heap.size, 0, none⟩) (Nat.le_refl _) (.bool false)).setCell (p := ⟨w.heap.size, 1, none⟩) (Nat.le_refl _) (.string a)).setCell (p := ⟨w.heap.size + 1, 0, none⟩) (by simp) (.bool false)).setCell (p := ⟨w.heap.size + 1, 1, none⟩) (by simp) (.string b)
  generalize ((((w4.setCell ⟨w.heap.size, 0, none⟩ (.bool false)).setCell ⟨w.heap.size, 1, none⟩ (.string a)).setCell ⟨w.heap.size + 1, 0, none⟩ (.bool false)).setCell ⟨w.heap.size + 1, 1, none⟩ (.string b)) = w5 at *
  clear R2 R3 R4 BL
  have R2 : w5.drew.heap[w.heap.size]? = _ := Q2
  have R3 : w5.drew.heap[w.heap.size + 1]? = _ := Q3
  have R4 : w5.drew.heap[w.heap.size + 1 + 1]? = _ := Q4
  have BL := BQ.drew
  obtain ⟨t1, t2⟩ := two_cells Q2
  obtain ⟨t3, t4⟩ := two_cells Q3
  clear Q2 Q3 Q4 BQ
  go_wp2_with fail
  clear t1 t2 t3 t4
  go_region_held3 (fun w' => w'.cell? ⟨w.heap.size, 0, none⟩ = some (.bool false) ∧ w'.cell? ⟨w.heap.size, 1, none⟩ = some (.string a) ∧ w'.cell? ⟨w.heap.size + 1, 0, none⟩ = some (.bool false) ∧ w'.cell? ⟨w.heap.size + 1, 1, none⟩ = some (.string b))
    (first
      | with_reducible exact rows4 R2 R3
      | with_reducible exact far4 (by assumption) (by omega) (by omega)
      | go_keep)
    (first
      | (go_at_call 262; refine (HM.out _).mono ?_; rintro e w6 ⟨rfl, hb⟩; have R2 := (hb.block _ (lt_of_block R2)).trans R2; have R3 := (hb.block _ (lt_of_block R3)).trans R3; have R4 := (hb.block _ (lt_of_block R4)).trans R4; have BL := BL.trans (hb.mono BL.size))
      | (go_at_call 205; refine (of_false _ _).mono ?_; rintro e w7 ⟨rfl, hb⟩; have R2 := (hb.block _ (lt_of_block R2)).trans R2; have R3 := (hb.block _ (lt_of_block R3)).trans R3; have R4 := (hb.block _ (lt_of_block R4)).trans R4; have BL := BL.trans (hb.mono BL.size); obtain ⟨s1, s2⟩ := two_cells R4; obtain ⟨s3, s4⟩ := two_free R4))
  go_wp2
  exact bodyPost_ret (results_cell_row Tryz.results230 _ _ (w.heap.size + 1 + 1) 207 _ (0, 0) _ rfl (set2 R4) Tryz.underlying207 rfl (by kernel_rfl)) rfl ⟨rfl, (BL.setCell (by simp <;> omega) _).setCell (by simp <;> omega) _⟩
set_option maxRecDepth 100000 in
theorem negE (w : World) : Calls Tryz.prog 231 #[.agg #[.bool false, .string ⟨#[]⟩]] w fun e w' => e = .returned (.agg #[.bool false, .string ⟨#[]⟩]) ∧ Below w.heap.size w w' := by
  have R0 : ((w.alloc (.cells #[.bool false, .string ⟨#[]⟩] 207)).alloc (.cells #[.bool false, .string ⟨#[]⟩] 207)).heap[w.heap.size]? = _ := box2.1
  have R1 : ((w.alloc (.cells #[.bool false, .string ⟨#[]⟩] 207)).alloc (.cells #[.bool false, .string ⟨#[]⟩] 207)).heap[w.heap.size + 1]? = _ := box2.2
  have BL := below2 w (.cells #[.bool false, .string ⟨#[]⟩] 207) (.cells #[.bool false, .string ⟨#[]⟩] 207)
  go_enter Tryz.func231, Tryz.ntmps231
  go_wp2_with fail
  refine (normI ⟨#[]⟩ normE _).mono ?_
  rintro e w1 ⟨rfl, hb⟩
  have Q0 := (hb.block _ (lt_of_block R0)).trans R0
  have Q1 := (hb.block _ (lt_of_block R1)).trans R1
  have BQ := BL.trans (hb.mono BL.size)
  obtain ⟨s1, s2⟩ := two_cells Q0
  obtain ⟨s3, s4⟩ := two_free Q0
  have P0 := set2 (x' := .bool false) (y' := .string ⟨#[]⟩) Q0
  have P1 := setOther (v := .string ⟨#[]⟩) (j := 1) (g := w.heap.size) (setOther (v := .bool false) (j := 0) (g := w.heap.size) Q1 (by omega)) (by omega)
  obtain ⟨s5, s6⟩ := two_cells P0
  go_wp2_with fail
  refine (of_trueE _).mono ?_
  rintro e w2 ⟨rfl, hb2⟩
  have U1 := (hb2.block _ (lt_of_block P1)).trans P1
  obtain ⟨u1, u2⟩ := two_cells U1
  obtain ⟨u3, u4⟩ := two_free U1
  have BU := ((BQ.setCell (p := ⟨w.heap.size, 0, none⟩) (Nat.le_refl _) (.bool false)).setCell (p := ⟨w.heap.size, 1, none⟩) (Nat.le_refl _) (.string ⟨#[]⟩)).trans (hb2.mono (by have := BQ.size; simp <;> omega))
  clear s1 s2 s3 s4 s5 s6
  go_wp2
  exact bodyPost_ret (results_cell_row Tryz.results231 _ _ (w.heap.size + 1) 207 _ (0, 0) _ rfl (set2 U1) Tryz.underlying207 rfl (by kernel_rfl)) rfl ⟨rfl, (BU.setCell (by simp <;> omega) _).setCell (by simp <;> omega) _⟩
end Go.Proofs.YteigcnamkfebgaaGreatDoor
