import Derived.Test.YteigcnamkfebgaaGreatDoorAW
namespace Go.Proofs.YteigcnamkfebgaaGreatDoor
open Go.RowKit
def edsAt (k : Nat) (s2 s3 s4 : SlV) : List EdD :=
  [if 0 < k then ed1 else edAdd rootI 0 SlV.nil ⟨#[]⟩ ⟨#[112, 97, 114, 97, 109]⟩, if 1 < k then edN s2 else edSet rootI 0 SlV.nil ⟨#[110, 97, 109, 101]⟩ ⟨#[119]⟩,
   if 2 < k then edT s3 else edSet rootI 0 SlV.nil ⟨#[116, 101, 120, 116]⟩ ⟨#[50, 109, 109]⟩, if 3 < k then ed4 s4 else edAdd rootI 0 SlV.nil ⟨#[1]⟩ ⟨#[109, 105, 114, 114, 111, 114]⟩]
theorem row_set {W : World} {g j : Nat} {cs : Array Value} {t : TypeId} {fr : Nat × Nat} {v : Value} (h : W.heap[g]? = some (.cells cs t fr)) : (W.setCell ⟨g, j, none⟩ v).heap[g]? = some (.cells (cs.setIfInBounds j v) t fr) := by
  rw [setCell_eq_setRow W g j _ t fr v h]; exact setRow_heap _ _ _ _ _ _ h
theorem dep_new (W : World) (g m : Nat) (x : IdD) (base : Nat) (v : Value) (hg : g < W.heap.size) (hb : base ≤ W.heap.size) : ((W.setCell ⟨g, m, none⟩ v).alloc (.cells #[.string x.a, .int .i64 x.n] 38)).ownsRow base 38 2 (.slice (some ⟨W.heap.size, 0, none⟩) 1 1) 1 (idV x) := by
  refine ⟨rfl, .inr ⟨W.heap.size, 1, #[.string x.a, .int .i64 x.n], rfl, hb, ?_, by omega, by unfold maxLen; omega, rfl, rfl⟩⟩
  exact alloc_get _ _ _ (by simp)
theorem dep_keep {wr w5 w7 : World} {g i j l m base : Nat} {s : SlV} {x : IdD} {cs : Array Value} {rest : Obj} {a b c d : Value} (h : wr.ownsRow base 38 2 s.v 1 (idV x)) (R : wr.heap[g]? = some (.cells cs 45 (0, 0))) (h5 : Below wr.heap.size wr w5)
    (h7 : Below (((w5.setCell ⟨g, i, none⟩ a).setCell ⟨g, j, none⟩ b).setCell ⟨g, l, none⟩ c).heap.size (((w5.setCell ⟨g, i, none⟩ a).setCell ⟨g, j, none⟩ b).setCell ⟨g, l, none⟩ c) w7) :
    ((w7.setCell ⟨g, m, none⟩ d).alloc rest).ownsRow base 38 2 s.v 1 (idV x) := by
  have h1 := ownsRow_below h h5
  have R1 := (h5.block g (lt_of_block R)).trans R
  have h2 := ((h1.kept (grownBy_set w5 g i a) (own_ne_ty h1 ⟨_, R1, _, R1⟩ (by decide))))
  have R2 := row_set (j := i) (v := a) R1
  have h3 := ((h2.kept (grownBy_set _ g j b) (own_ne_ty h2 ⟨_, R2, _, R2⟩ (by decide))))
  have R3 := row_set (j := j) (v := b) R2
  have h4 := ((h3.kept (grownBy_set _ g l c) (own_ne_ty h3 ⟨_, R3, _, R3⟩ (by decide))))
  have R4 := row_set (j := l) (v := c) R3
  have h6 := ownsRow_below h4 h7
  have R6 := (h7.block g (lt_of_block R4)).trans R4
  exact (h6.kept (grownBy_set _ g m d) (own_ne_ty h6 ⟨_, R6, _, R6⟩ (by decide))).alloc rest
set_option maxHeartbeats 6400000 in
set_option maxRecDepth 100000 in
theorem edits_any (w : World) : Calls Tryz.prog 13 #[] w fun e w' => ∃ (g : Nat) (s2 s3 s4 : SlV), e = .returned (.slice (some ⟨g, 0, none⟩) 4 4) ∧ w'.ownsRow w.heap.size 45 18 (.slice (some ⟨g, 0, none⟩) 4 4) 4 (edY.flat [ed1, edN s2, edT s3, ed4 s4]) ∧
    w'.ownsRow w.heap.size 38 2 s2.v 1 (idV (annI 1)) ∧ w'.ownsRow w.heap.size 38 2 s3.v 1 (idV (annI 2)) ∧ w'.ownsRow w.heap.size 38 2 s4.v 1 (idV (annI 3)) ∧ Below w.heap.size w w' := by
  have BL : Below w.heap.size w w := Below.refl _ _
  go_enter Tryz.func13, Tryz.ntmps13
  go_wp2_with (first
    | (go_at_call 14; refine (ann_any 1 _).mono ?_; rintro e w1 ⟨rfl, hb⟩; have BL := BL.trans (hb.mono BL.size)))
  have HBL := Lib.hid BL
  have hs1 := BL.size
  clear BL hb
  go_loopg [2] 4 (fun gn t2 wr => ∃ (k : Nat) (s2 s3 s4 : SlV), k + gn = 4 ∧ t2 = .int .i64 k ∧ wr.heap[w1.heap.size]? = some (.cells (edY.flat (edsAt k s2 s3 s4)).toArray 45 (0, 0)) ∧
    (2 ≤ k → wr.ownsRow w.heap.size 38 2 s2.v 1 (idV (annI 1))) ∧ (3 ≤ k → wr.ownsRow w.heap.size 38 2 s3.v 1 (idV (annI 2))) ∧ (4 ≤ k → wr.ownsRow w.heap.size 38 2 s4.v 1 (idV (annI 3))) ∧ Below w.heap.size w wr)
  case atStart => exact ⟨0, SlV.nil, SlV.nil, SlV.nil, by omega, rfl, alloc_get _ _ _ rfl, by omega, by omega, by omega, HBL.out.alloc hs1 _⟩
  case round =>
    obtain ⟨G, rfl⟩ : ∃ G, G = gk := ⟨_, rfl⟩
    obtain ⟨k, s2, s3, s4, hk, rfl, R, o2, o3, o4, BL⟩ := hrel
    have lg : w1.heap.size < wr.heap.size := lt_of_block R
    generalize hg : w1.heap.size = g at *
    rcases (show k = 0 ∨ k = 1 ∨ k = 2 ∨ k = 3 ∨ k = 4 by omega) with rfl | rfl | rfl | rfl | rfl
    · have HBL := Lib.hid BL
      have HO := Lib.hid (And.intro o2 (And.intro o3 o4))
      clear BL o2 o3 o4
      go_wp2_with fail
      refine (ann_any 1 _).mono ?_
      rintro e w5 ⟨rfl, hb5⟩
      have R5 := (hb5.block _ lg).trans R
      have l5 := lt_of_block R5
      have f0 := frozen_of_row w5 g 0 _ _ R5
      have f1 := frozen_of_row w5 g 1 _ _ R5
      have f2 := frozen_of_row w5 g 2 _ _ R5
      have c0 : w5.cell? ⟨g, 0, none⟩ = some (.string ⟨#[]⟩) := cell_of_row _ _ 0 _ _ _ R5
      have c1 : w5.cell? ⟨g, 1, none⟩ = some (.int .i64 0) := cell_of_row _ _ 1 _ _ _ R5
      have c2 : w5.cell? ⟨g, 2, none⟩ = some (.int .i64 0) := cell_of_row _ _ 2 _ _ _ R5
      have R6 := Lib.hid (row_set (j := 2) (v := .int .i64 1) (row_set (j := 1) (v := .int .i64 1) (row_set (j := 0) (v := .string ⟨#[97, 110, 110]⟩) R5)))
      have BL6 := Lib.hid (Below.setCell (Below.setCell (Below.setCell (HBL.out.trans (hb5.mono HBL.out.size)) (p := ⟨g, 0, none⟩) hs1 (.string ⟨#[97, 110, 110]⟩)) (p := ⟨g, 1, none⟩) hs1 (.int .i64 1)) (p := ⟨g, 2, none⟩) hs1 (.int .i64 1))
      have BB := Lib.hid hb5
      clear R R5 hb5
      go_wp2
      go_roundg 3
      case rel => exact ⟨1, s2, s3, s4, by omega, by go_num, R6.out.trans (by kernel_rfl), by omega, by omega, by omega, BL6.out⟩
      case measure => omega
    · have HBL := Lib.hid BL
      have HO := Lib.hid (And.intro o2 (And.intro o3 o4))
      clear BL o2 o3 o4
      go_wp2_with fail
      refine (ann_any 2 _).mono ?_
      rintro e w5 ⟨rfl, hb5⟩
      have R0 := Lib.hid R
      have R5 := (hb5.block _ lg).trans R
      have l5 := lt_of_block R5
      have f0 := frozen_of_row w5 g 18 _ _ R5
      have f1 := frozen_of_row w5 g 19 _ _ R5
      have f2 := frozen_of_row w5 g 20 _ _ R5
      have c0 : w5.cell? ⟨g, 18, none⟩ = some (.string ⟨#[]⟩) := cell_of_row _ _ 18 _ _ _ R5
      have c1 : w5.cell? ⟨g, 19, none⟩ = some (.int .i64 0) := cell_of_row _ _ 19 _ _ _ R5
      have c2 : w5.cell? ⟨g, 20, none⟩ = some (.int .i64 0) := cell_of_row _ _ 20 _ _ _ R5
      have R6 := Lib.hid (row_set (j := 20) (v := .int .i64 2) (row_set (j := 19) (v := .int .i64 2) (row_set (j := 18) (v := .string ⟨#[97, 110, 110]⟩) R5)))
      have BL6 := Lib.hid (Below.setCell (Below.setCell (Below.setCell (HBL.out.trans (hb5.mono HBL.out.size)) (p := ⟨g, 18, none⟩) hs1 (.string ⟨#[97, 110, 110]⟩)) (p := ⟨g, 19, none⟩) hs1 (.int .i64 2)) (p := ⟨g, 20, none⟩) hs1 (.int .i64 2))
      have BB := Lib.hid hb5
      clear R R5 hb5
      go_wp2_with fail
      refine (ann_any 1 _).mono ?_
      rintro e w7 ⟨rfl, hb7⟩
      have R7 := (hb7.block _ (by simp; exact l5)).trans R6.out
      have l7 := lt_of_block R7
      have R8 := alloc_old _ _ (.cells #[.string ⟨#[97, 110, 110]⟩, .int .i64 1] 38) _ R7
      have f4 := frozen_of_row _ g 22 _ _ R8
      have c4 : (w7.alloc (.cells #[.string ⟨#[97, 110, 110]⟩, .int .i64 1] 38)).cell? ⟨g, 22, none⟩ = some (.slice none 0 0) := (cell_of_row _ _ 22 _ _ _ R8).trans (by kernel_rfl)
      have R9 := Lib.hid (alloc_old _ _ (.cells #[.string ⟨#[97, 110, 110]⟩, .int .i64 1] 38) _ (row_set (j := 22) (v := .slice (some ⟨w7.heap.size, 0, none⟩) 1 1) R7))
      have BL9 := Lib.hid ((Below.setCell (BL6.out.trans (hb7.mono BL6.out.size)) (p := ⟨g, 22, none⟩) hs1 (.slice (some ⟨w7.heap.size, 0, none⟩) 1 1)).alloc (by simp; exact (BL6.out.trans (hb7.mono BL6.out.size)).size) (.cells #[.string ⟨#[97, 110, 110]⟩, .int .i64 1] 38))
      have HB7 := Lib.hid hb7
      have D9 := Lib.hid (dep_new w7 g 22 (annI 1) w.heap.size (.slice (some ⟨w7.heap.size, 0, none⟩) 1 1) l7 (BL6.out.trans (hb7.mono BL6.out.size)).size)
      have KP := Lib.hid (fun (s : SlV) (x : IdD) (h : wr.ownsRow w.heap.size 38 2 s.v 1 (idV x)) => dep_keep (rest := .cells #[.string ⟨#[97, 110, 110]⟩, .int .i64 1] 38) h R0.out BB.out hb7 (i := 18) (j := 19) (l := 20) (m := 22) (a := .string ⟨#[97, 110, 110]⟩) (b := .int .i64 2) (c := .int .i64 2) (d := .slice (some ⟨w7.heap.size, 0, none⟩) 1 1))
      clear R7 R8 hb7
      go_wp2
      go_roundg 2
      case rel => exact ⟨2, ⟨some ⟨w7.heap.size, 0, none⟩, 1, 1⟩, s3, s4, by omega, by go_num, R9.out.trans (by kernel_rfl), fun _ => D9.out, by omega, by omega, BL9.out⟩
      case measure => omega
    · have HBL := Lib.hid BL
      have HO := Lib.hid (And.intro o2 (And.intro o3 o4))
      clear BL o2 o3 o4
      go_wp2_with fail
      refine (ann_any 3 _).mono ?_
      rintro e w5 ⟨rfl, hb5⟩
      have R0 := Lib.hid R
      have R5 := (hb5.block _ lg).trans R
      have l5 := lt_of_block R5
      have f0 := frozen_of_row w5 g 36 _ _ R5
      have f1 := frozen_of_row w5 g 37 _ _ R5
      have f2 := frozen_of_row w5 g 38 _ _ R5
      have c0 : w5.cell? ⟨g, 36, none⟩ = some (.string ⟨#[]⟩) := cell_of_row _ _ 36 _ _ _ R5
      have c1 : w5.cell? ⟨g, 37, none⟩ = some (.int .i64 0) := cell_of_row _ _ 37 _ _ _ R5
      have c2 : w5.cell? ⟨g, 38, none⟩ = some (.int .i64 0) := cell_of_row _ _ 38 _ _ _ R5
      have R6 := Lib.hid (row_set (j := 38) (v := .int .i64 3) (row_set (j := 37) (v := .int .i64 3) (row_set (j := 36) (v := .string ⟨#[97, 110, 110]⟩) R5)))
      have BL6 := Lib.hid (Below.setCell (Below.setCell (Below.setCell (HBL.out.trans (hb5.mono HBL.out.size)) (p := ⟨g, 36, none⟩) hs1 (.string ⟨#[97, 110, 110]⟩)) (p := ⟨g, 37, none⟩) hs1 (.int .i64 3)) (p := ⟨g, 38, none⟩) hs1 (.int .i64 3))
      have BB := Lib.hid hb5
      clear R R5 hb5
      go_wp2_with fail
      refine (ann_any 2 _).mono ?_
      rintro e w7 ⟨rfl, hb7⟩
      have R7 := (hb7.block _ (by simp; exact l5)).trans R6.out
      have l7 := lt_of_block R7
      have R8 := alloc_old _ _ (.cells #[.string ⟨#[97, 110, 110]⟩, .int .i64 2] 38) _ R7
      have f4 := frozen_of_row _ g 40 _ _ R8
      have c4 : (w7.alloc (.cells #[.string ⟨#[97, 110, 110]⟩, .int .i64 2] 38)).cell? ⟨g, 40, none⟩ = some (.slice none 0 0) := (cell_of_row _ _ 40 _ _ _ R8).trans (by kernel_rfl)
      have R9 := Lib.hid (alloc_old _ _ (.cells #[.string ⟨#[97, 110, 110]⟩, .int .i64 2] 38) _ (row_set (j := 40) (v := .slice (some ⟨w7.heap.size, 0, none⟩) 1 1) R7))
      have BL9 := Lib.hid ((Below.setCell (BL6.out.trans (hb7.mono BL6.out.size)) (p := ⟨g, 40, none⟩) hs1 (.slice (some ⟨w7.heap.size, 0, none⟩) 1 1)).alloc (by simp; exact (BL6.out.trans (hb7.mono BL6.out.size)).size) (.cells #[.string ⟨#[97, 110, 110]⟩, .int .i64 2] 38))
      have HB7 := Lib.hid hb7
      have D9 := Lib.hid (dep_new w7 g 40 (annI 2) w.heap.size (.slice (some ⟨w7.heap.size, 0, none⟩) 1 1) l7 (BL6.out.trans (hb7.mono BL6.out.size)).size)
      have KP := Lib.hid (fun (s : SlV) (x : IdD) (h : wr.ownsRow w.heap.size 38 2 s.v 1 (idV x)) => dep_keep (rest := .cells #[.string ⟨#[97, 110, 110]⟩, .int .i64 2] 38) h R0.out BB.out hb7 (i := 36) (j := 37) (l := 38) (m := 40) (a := .string ⟨#[97, 110, 110]⟩) (b := .int .i64 3) (c := .int .i64 3) (d := .slice (some ⟨w7.heap.size, 0, none⟩) 1 1))
      clear R7 R8 hb7
      go_wp2
      go_roundg 1
      case rel => exact ⟨3, s2, ⟨some ⟨w7.heap.size, 0, none⟩, 1, 1⟩, s4, by omega, by go_num, R9.out.trans (by kernel_rfl), fun _ => KP.out _ _ (HO.out.1 (by omega)), fun _ => D9.out, by omega, BL9.out⟩
      case measure => omega
    · have HBL := Lib.hid BL
      have HO := Lib.hid (And.intro o2 (And.intro o3 o4))
      clear BL o2 o3 o4
      go_wp2_with fail
      refine (ann_any 4 _).mono ?_
      rintro e w5 ⟨rfl, hb5⟩
      have R0 := Lib.hid R
      have R5 := (hb5.block _ lg).trans R
      have l5 := lt_of_block R5
      have f0 := frozen_of_row w5 g 54 _ _ R5
      have f1 := frozen_of_row w5 g 55 _ _ R5
      have f2 := frozen_of_row w5 g 56 _ _ R5
      have c0 : w5.cell? ⟨g, 54, none⟩ = some (.string ⟨#[]⟩) := cell_of_row _ _ 54 _ _ _ R5
      have c1 : w5.cell? ⟨g, 55, none⟩ = some (.int .i64 0) := cell_of_row _ _ 55 _ _ _ R5
      have c2 : w5.cell? ⟨g, 56, none⟩ = some (.int .i64 0) := cell_of_row _ _ 56 _ _ _ R5
      have R6 := Lib.hid (row_set (j := 56) (v := .int .i64 4) (row_set (j := 55) (v := .int .i64 4) (row_set (j := 54) (v := .string ⟨#[97, 110, 110]⟩) R5)))
      have BL6 := Lib.hid (Below.setCell (Below.setCell (Below.setCell (HBL.out.trans (hb5.mono HBL.out.size)) (p := ⟨g, 54, none⟩) hs1 (.string ⟨#[97, 110, 110]⟩)) (p := ⟨g, 55, none⟩) hs1 (.int .i64 4)) (p := ⟨g, 56, none⟩) hs1 (.int .i64 4))
      have BB := Lib.hid hb5
      clear R R5 hb5
      go_wp2_with fail
      refine (ann_any 3 _).mono ?_
      rintro e w7 ⟨rfl, hb7⟩
      have R7 := (hb7.block _ (by simp; exact l5)).trans R6.out
      have l7 := lt_of_block R7
      have R8 := alloc_old _ _ (.cells #[.string ⟨#[97, 110, 110]⟩, .int .i64 3] 38) _ R7
      have f4 := frozen_of_row _ g 58 _ _ R8
      have c4 : (w7.alloc (.cells #[.string ⟨#[97, 110, 110]⟩, .int .i64 3] 38)).cell? ⟨g, 58, none⟩ = some (.slice none 0 0) := (cell_of_row _ _ 58 _ _ _ R8).trans (by kernel_rfl)
      have R9 := Lib.hid (alloc_old _ _ (.cells #[.string ⟨#[97, 110, 110]⟩, .int .i64 3] 38) _ (row_set (j := 58) (v := .slice (some ⟨w7.heap.size, 0, none⟩) 1 1) R7))
      have BL9 := Lib.hid ((Below.setCell (BL6.out.trans (hb7.mono BL6.out.size)) (p := ⟨g, 58, none⟩) hs1 (.slice (some ⟨w7.heap.size, 0, none⟩) 1 1)).alloc (by simp; exact (BL6.out.trans (hb7.mono BL6.out.size)).size) (.cells #[.string ⟨#[97, 110, 110]⟩, .int .i64 3] 38))
      have HB7 := Lib.hid hb7
      have D9 := Lib.hid (dep_new w7 g 58 (annI 3) w.heap.size (.slice (some ⟨w7.heap.size, 0, none⟩) 1 1) l7 (BL6.out.trans (hb7.mono BL6.out.size)).size)
      have KP := Lib.hid (fun (s : SlV) (x : IdD) (h : wr.ownsRow w.heap.size 38 2 s.v 1 (idV x)) => dep_keep (rest := .cells #[.string ⟨#[97, 110, 110]⟩, .int .i64 3] 38) h R0.out BB.out hb7 (i := 54) (j := 55) (l := 56) (m := 58) (a := .string ⟨#[97, 110, 110]⟩) (b := .int .i64 4) (c := .int .i64 4) (d := .slice (some ⟨w7.heap.size, 0, none⟩) 1 1))
      clear R7 R8 hb7
      go_wp2
      go_roundg 0
      case rel => exact ⟨4, s2, s3, ⟨some ⟨w7.heap.size, 0, none⟩, 1, 1⟩, by omega, by go_num, R9.out.trans (by kernel_rfl), fun _ => KP.out _ _ (HO.out.1 (by omega)), fun _ => KP.out _ _ (HO.out.2.1 (by omega)), fun _ => D9.out, BL9.out⟩
      case measure => omega
    · have HE := Lib.hid (And.intro (o2 (by omega)) (And.intro (o3 (by omega)) (And.intro (o4 (by omega)) BL)))
      have HR := Lib.hid R
      clear o2 o3 o4 BL R
      go_wp2
      go_ret
      refine ⟨g, s2, s3, s4, rfl, ⟨by kernel_rfl, .inr ⟨g, 4, _, rfl, hs1, HR.out, by omega, by unfold maxLen; omega, by kernel_rfl, by kernel_rfl⟩⟩, HE.out.1, HE.out.2.1, HE.out.2.2.1, HE.out.2.2.2⟩
end Go.Proofs.YteigcnamkfebgaaGreatDoor
