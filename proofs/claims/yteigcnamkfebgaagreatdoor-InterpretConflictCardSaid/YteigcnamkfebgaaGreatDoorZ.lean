import Derived.Test.YteigcnamkfebgaaGreatDoorY
namespace Go.Proofs.YteigcnamkfebgaaGreatDoor
open Go.RowKit
theorem add32 (w : World) : Calls Tryz.prog 288 #[.int .u32 1, .int .u32 0, .int .u32 0] w fun e w' => e = .returned (.tuple #[.int .u32 1, .int .u32 0]) ∧ w = w' := by
  go_enter Tryz.func288, Tryz.ntmps288
  go_wp2
  exact bodyPost_ret (v := .tuple #[.int .u32 1, .int .u32 0]) (by simp [results, Tryz.results288, go_sem]) rfl ⟨rfl, rfl⟩
set_option maxRecDepth 100000 in
theorem add1E (w : World) : Calls Tryz.prog 262 #[.string ⟨#[1]⟩, .string ⟨#[]⟩] w fun e w' => e = .returned (.string ⟨#[1]⟩) ∧ Below w.heap.size w w' := by
  have hmk := mk32_2
  go_enter Tryz.func262, Tryz.ntmps262
  go_wp2_with fail
  refine (limbs1 _).mono ?_
  rintro e w1 ⟨rfl, hc1, hb1⟩
  go_wp2_with fail
  refine (limbsE _).mono ?_
  rintro e w2 ⟨rfl, hb2⟩
  have l1 := World.block_lt_of_cell? _ _ hc1
  have l2 := hb2.size
  have n1 := keep1 (hb2.alloc hb2.size (.cells #[.int .u32 0, .int .u32 0] 197)) hc1
  have r0 := alloc_get w2 (.cells #[.int .u32 0, .int .u32 0] 197) w2.heap.size rfl
  obtain ⟨n3, n4⟩ := two_cells r0
  obtain ⟨f3, f4⟩ := two_free r0
  clear hc1
  go_wp2
  clear hmk
  refine wp_loop_rounds 2 ?_
  rw [rounds_succ]; go_wp2_with (go_at_call 288; refine (add32 _).mono ?_; rintro e w3 ⟨rfl, rfl⟩)
  rw [rounds_succ]; go_wp2_with fail
  have hc := two_cells (alloc_get w2 (.cells #[.int .u32 1, .int .u32 0] 197) w2.heap.size rfl)
  refine (mag10 _ 2 _ hc.1 hc.2).mono ?_
  rintro e w3 ⟨rfl, hb3⟩
  go_wp2
  go_ret
  exact ⟨rfl, (((hb1.trans (hb2.mono hb1.size)).alloc (by omega) _)).trans (hb3.mono (by simp <;> omega))⟩
theorem rows4 {W : World} {k m : Nat} {a b c d : Value} {t : TypeId} (h : W.heap[k]? = some (.cells #[a, b] t (0, 0))) (h' : W.heap[m]? = some (.cells #[c, d] t (0, 0))) : W.cell? ⟨k, 0, none⟩ = some a ∧ W.cell? ⟨k, 1, none⟩ = some b ∧ W.cell? ⟨m, 0, none⟩ = some c ∧ W.cell? ⟨m, 1, none⟩ = some d :=
  ⟨(two_cells h).1, (two_cells h).2, (two_cells h').1, (two_cells h').2⟩
theorem sameC {W : World} {k b o : Nat} {v x y : Value} (hx : W.cell? ⟨k, 0, none⟩ = some x) (hy : W.cell? ⟨k, 1, none⟩ = some y) (h : W.cell? ⟨b, o, none⟩ = some v) : ((W.setCell ⟨k, 0, none⟩ x).setCell ⟨k, 1, none⟩ y).cell? ⟨b, o, none⟩ = some v := by
  have one : ∀ {U : World} {p q : Addr} {u u' : Value}, U.cell? p = some u → U.cell? q = some u' → (U.setCell p u).cell? q = some u' := by
    intro U p q u u' h1 h2
    by_cases e : p = q
    · subst e
      rw [World.cell?_setCell_same _ _ _ h1, ← h2, h1]
    · rw [World.cell?_setCell_other _ _ _ _ e]; exact h2
  exact one (one hx hy) (one hx h)
theorem same4 {W : World} {k n m : Nat} {a b c d x y : Value} (h : W.cell? ⟨n, 0, none⟩ = some a ∧ W.cell? ⟨n, 1, none⟩ = some b ∧ W.cell? ⟨m, 0, none⟩ = some c ∧ W.cell? ⟨m, 1, none⟩ = some d) (he : k = n ∧ x = a ∧ y = b ∨ k = m ∧ x = c ∧ y = d) :
    ((W.setCell ⟨k, 0, none⟩ x).setCell ⟨k, 1, none⟩ y).cell? ⟨n, 0, none⟩ = some a ∧ ((W.setCell ⟨k, 0, none⟩ x).setCell ⟨k, 1, none⟩ y).cell? ⟨n, 1, none⟩ = some b ∧ ((W.setCell ⟨k, 0, none⟩ x).setCell ⟨k, 1, none⟩ y).cell? ⟨m, 0, none⟩ = some c ∧ ((W.setCell ⟨k, 0, none⟩ x).setCell ⟨k, 1, none⟩ y).cell? ⟨m, 1, none⟩ = some d := by
  obtain ⟨h1, h2, h3, h4⟩ := h
  rcases he with ⟨rfl, rfl, rfl⟩ | ⟨rfl, rfl, rfl⟩
  · exact ⟨sameC h1 h2 h1, sameC h1 h2 h2, sameC h1 h2 h3, sameC h1 h2 h4⟩
  · exact ⟨sameC h3 h4 h1, sameC h3 h4 h2, sameC h3 h4 h3, sameC h3 h4 h4⟩
set_option maxHeartbeats 6400000 in
set_option maxRecDepth 100000 in
theorem mulI (a b r : ByteArray) (hNa : ∀ w : World, Calls Tryz.prog 200 #[.string a] w fun e w' => e = .returned (.string a) ∧ w = w') (hNb : ∀ w : World, Calls Tryz.prog 200 #[.string b] w fun e w' => e = .returned (.string b) ∧ w = w')
    (hM : ∀ w : World, Calls Tryz.prog 206 #[.string a, .string b] w fun e w' => e = .returned (.string r) ∧ Below w.heap.size w w') (w : World) :
    Calls Tryz.prog 173 #[.agg #[.bool false, .string a], .agg #[.bool false, .string b]] w fun e w' => e = .returned (.agg #[.bool false, .string r]) ∧ Below w.heap.size w w' := by
  have hNa' : ∀ W : World, Calls Tryz.prog 202 #[.agg #[.bool false, .string a]] W fun e w' => e = .returned (.agg #[.bool false, .string a]) ∧ Below W.heap.size W w' := fun W => normI a hNa W
  have hNb' : ∀ W : World, Calls Tryz.prog 202 #[.agg #[.bool false, .string b]] W fun e w' => e = .returned (.agg #[.bool false, .string b]) ∧ Below W.heap.size W w' := fun W => normI b hNb W
  have HA := Lib.hid hNa'
  have HB := Lib.hid hNb'
  have HM := Lib.hid hM
  clear hNa hNb hNa' hNb' hM
  have R2 : ((((w.alloc (.cells #[.bool false, .string a] 207)).alloc (.cells #[.bool false, .string b] 207)).alloc (.cells #[.bool false, .string ⟨#[]⟩] 207)).drew).heap[w.heap.size]? = _ := alloc_old _ _ _ _ (alloc_old _ _ _ _ (alloc_get _ _ _ rfl))
  have R3 : ((((w.alloc (.cells #[.bool false, .string a] 207)).alloc (.cells #[.bool false, .string b] 207)).alloc (.cells #[.bool false, .string ⟨#[]⟩] 207)).drew).heap[w.heap.size + 1]? = _ := alloc_old _ _ _ _ (alloc_get _ _ _ (by simp))
  have R4 : ((((w.alloc (.cells #[.bool false, .string a] 207)).alloc (.cells #[.bool false, .string b] 207)).alloc (.cells #[.bool false, .string ⟨#[]⟩] 207)).drew).heap[w.heap.size + 1 + 1]? = _ := alloc_get _ _ _ (by simp)
  have BL : Below w.heap.size w ((((w.alloc (.cells #[.bool false, .string a] 207)).alloc (.cells #[.bool false, .string b] 207)).alloc (.cells #[.bool false, .string ⟨#[]⟩] 207)).drew) := ((((Below.refl _ _).alloc (Nat.le_refl _) _).alloc (by simp) _).alloc (by simp <;> omega) _).drew
  go_enter Tryz.func173, Tryz.ntmps173
  go_wp2_with fail
  go_region_held3 (fun w' => w'.cell? ⟨w.heap.size, 0, none⟩ = some (.bool false) ∧ w'.cell? ⟨w.heap.size, 1, none⟩ = some (.string a) ∧ w'.cell? ⟨w.heap.size + 1, 0, none⟩ = some (.bool false) ∧ w'.cell? ⟨w.heap.size + 1, 1, none⟩ = some (.string b))
    (first
      | with_reducible exact rows4 R2 R3
      | with_reducible exact same4 (by assumption) (.inl ⟨rfl, rfl, rfl⟩)
      | with_reducible exact same4 (by assumption) (.inr ⟨rfl, rfl, rfl⟩)
      | go_keep)
    (first
      | (go_at_call 202; refine (HA.out _).mono ?_; rintro e w4 ⟨rfl, hb⟩; have R2 := (hb.block _ (lt_of_block R2)).trans R2; have R3 := (hb.block _ (lt_of_block R3)).trans R3; have R4 := (hb.block _ (lt_of_block R4)).trans R4; have BL := BL.trans (hb.mono BL.size); obtain ⟨s1, s2⟩ := two_cells R2; obtain ⟨s3, s4⟩ := two_free R2; obtain ⟨s5, s6⟩ := two_cells R3; obtain ⟨s7, s8⟩ := two_free R3)
      | (go_at_call 202; refine (HB.out _).mono ?_; rintro e w4 ⟨rfl, hb⟩; have R2 := (hb.block _ (lt_of_block R2)).trans R2; have R3 := (hb.block _ (lt_of_block R3)).trans R3; have R4 := (hb.block _ (lt_of_block R4)).trans R4; have BL := BL.trans (hb.mono BL.size); obtain ⟨s1, s2⟩ := two_cells R2; obtain ⟨s3, s4⟩ := two_free R2; obtain ⟨s5, s6⟩ := two_cells R3; obtain ⟨s7, s8⟩ := two_free R3))
  clear s1 s2 s3 s4 s5 s6 s7 s8
  have Q2 := setOther (v := .string b) (j := 1) (g := w.heap.size + 1) (setOther (v := .bool false) (j := 0) (g := w.heap.size + 1) (set2 (x' := .bool false) (y' := .string a) R2) (by omega)) (by omega)
  have Q3 := set2 (x' := .bool false) (y' := .string b) (setOther (v := .string a) (j := 1) (g := w.heap.size) (setOther (v := .bool false) (j := 0) (g := w.heap.size) R3 (by omega)) (by omega))
  have Q4 := setOther (v := .string b) (j := 1) (g := w.heap.size + 1) (setOther (v := .bool false) (j := 0) (g := w.heap.size + 1) (setOther (v := .string a) (j := 1) (g := w.heap.size) (setOther (v := .bool false) (j := 0) (g := w.heap.size) R4 (by omega)) (by omega)) (by omega)) (by omega)
  have BQ := (((BL.setCell (p := ⟨w.heap.size, 0, none⟩) (Nat.le_refl _) (.bool false)).setCell (p := ⟨w.heap.size, 1, none⟩) (Nat.le_refl _) (.string a)).setCell (p := ⟨w.heap.size + 1, 0, none⟩) (by simp) (.bool false)).setCell (p := ⟨w.heap.size + 1, 1, none⟩) (by simp) (.string b)
  generalize ((((w4.setCell ⟨w.heap.size, 0, none⟩ (.bool false)).setCell ⟨w.heap.size, 1, none⟩ (.string a)).setCell ⟨w.heap.size + 1, 0, none⟩ (.bool false)).setCell ⟨w.heap.size + 1, 1, none⟩ (.string b)) = w5 at *
  clear R2 R3 R4 BL
  have R2 : w5.drew.heap[w.heap.size]? = _ := Q2
  have R3 : w5.drew.heap[w.heap.size + 1]? = _ := Q3
  have R4 : w5.drew.heap[w.heap.size + 1 + 1]? = _ := Q4
  have BL := BQ.drew
  clear Q2 Q3 Q4 BQ
  go_wp2_with fail
  go_region_held3 (fun w' => w'.cell? ⟨w.heap.size, 0, none⟩ = some (.bool false) ∧ w'.cell? ⟨w.heap.size, 1, none⟩ = some (.string a) ∧ w'.cell? ⟨w.heap.size + 1, 0, none⟩ = some (.bool false) ∧ w'.cell? ⟨w.heap.size + 1, 1, none⟩ = some (.string b))
    (first
      | with_reducible exact rows4 R2 R3
      | with_reducible exact far4 (by assumption) (by omega) (by omega)
      | go_keep)
    (first
      | (go_at_call 206; refine (HM.out _).mono ?_; rintro e w6 ⟨rfl, hb⟩; have R2 := (hb.block _ (lt_of_block R2)).trans R2; have R3 := (hb.block _ (lt_of_block R3)).trans R3; have R4 := (hb.block _ (lt_of_block R4)).trans R4; have BL := BL.trans (hb.mono BL.size))
      | (go_at_call 205; refine (of_false _ _).mono ?_; rintro e w7 ⟨rfl, hb⟩; have R2 := (hb.block _ (lt_of_block R2)).trans R2; have R3 := (hb.block _ (lt_of_block R3)).trans R3; have R4 := (hb.block _ (lt_of_block R4)).trans R4; have BL := BL.trans (hb.mono BL.size); obtain ⟨s1, s2⟩ := two_cells R4; obtain ⟨s3, s4⟩ := two_free R4))
  go_wp2
  exact bodyPost_ret (results_cell_row Tryz.results173 _ _ (w.heap.size + 1 + 1) 207 _ (0, 0) _ rfl (set2 R4) Tryz.underlying207 rfl (by kernel_rfl)) rfl ⟨rfl, (BL.setCell (by simp <;> omega) _).setCell (by simp <;> omega) _⟩
end Go.Proofs.YteigcnamkfebgaaGreatDoor
