import Derived.Test.YteigcnamkfebgaaGreatDoorBB
namespace Go.Proofs.YteigcnamkfebgaaGreatDoor
open Go.RowKit
theorem wr_two {w : World} {base : Nat} {s : SlV} {x y : WrD} (h : w.ownsRow base 50 4 s.v 2 (wrY.flat [x, y])) : ∃ b off c, s = ⟨some ⟨b, off, none⟩, 2, c⟩ ∧ w.rangeAt b off (wrV x ++ wrV y) := by
  have h := Lay.Rd.of_owns (Y := wrY) (l := [x, y]) h
  obtain ⟨a, n, c⟩ := s
  rcases h with ⟨_, h2⟩ | ⟨b, off, cap, h1, _, h3⟩
  · cases h2
  · simp [SlV.v] at h1
    obtain ⟨rfl, rfl, rfl⟩ := h1
    exact ⟨b, off, c, rfl, by have h4 : w.rangeAt b off (wrY.V x ++ wrY.V y) := by simpa [Lay.flat] using h3
                              exact h4⟩
/-- p's data behind region 9 -/
theorem p_facts {W0 W9 : World} {B1 b3 n kp : Nat} {s8 sp sf sc : SlV} {xs : List Value} {one two : ByteArray} (hO : W0.ownsRow B1 45 18 (.slice s8.a s8.len s8.cap) n xs) (hP : W0.ownsRow b3 52 2 sp.v 1 (pdY.flat [⟨⟨#[]⟩, two⟩])) (hC : CR W0 b3 sc.v (RP one two))
    (hk : W0.heap[kp]? = some (.cells #[.slice sp.a sp.len sp.cap, .slice sf.a sf.len sf.cap, .slice sc.a sc.len sc.cap] 34 (0, 0))) (hg : W0.grownBy W9 (Value.slice s8.a s8.len s8.cap).ownBlock) :
    ∃ bp op cp bc oc cc bw ow cw, sp = ⟨some ⟨bp, op, none⟩, 1, cp⟩ ∧ sc = ⟨some ⟨bc, oc, none⟩, 1, cc⟩ ∧ W9.rangeAt bp op [.string ⟨#[]⟩, .string two] ∧ W9.rangeAt bc oc [.string ⟨#[97, 110, 110]⟩, .int .i64 1, .string ⟨#[116, 101, 120, 116]⟩, .slice (some ⟨bw, ow, none⟩) 2 cw] ∧
      W9.rangeAt bw ow [.string ⟨#[97, 110, 110]⟩, .int .i64 2, .int .i64 2, .string one, .string ⟨#[98, 111, 98]⟩, .int .i64 1, .int .i64 2, .string two] ∧ W9.heap[kp]? = some (.cells #[.slice sp.a sp.len sp.cap, .slice sf.a sf.len sf.cap, .slice sc.a sc.len sc.cap] 34 (0, 0)) := by
  obtain ⟨bp, op, cp, e1, h1⟩ := rd_one (Lay.Rd.of_owns (Y := pdY) (World.ownsRow.kept hP hg (own_diff hP hO (by decide))))
  obtain ⟨ds, c1, c2, c3⟩ := hC
  obtain ⟨d, rfl⟩ : ∃ d, ds = [d] := by
    match ds, c2 with
    | [d], _ => exact ⟨d, rfl⟩
  obtain ⟨q1, q2, q3⟩ := c3 0 d _ rfl rfl
  obtain ⟨bc, oc, cc, e2, h2⟩ := rd_one (Lay.Rd.of_owns (Y := regY) (World.ownsRow.kept c1 hg (own_diff c1 hO (by decide))))
  obtain ⟨bw, ow, cw, e3, h3⟩ := wr_two (World.ownsRow.kept q3 hg (own_diff q3 hO (by decide)))
  obtain ⟨⟨da, dn⟩, df, dw⟩ := d
  obtain ⟨rfl, rfl⟩ : da = ⟨#[97, 110, 110]⟩ ∧ dn = 1 := by
    have : (⟨da, dn⟩ : IdD) = annI 1 := q1
    unfold annI at this
    simpa using this
  obtain rfl : df = ⟨#[116, 101, 120, 116]⟩ := q2
  obtain rfl : dw = ⟨some ⟨bw, ow, none⟩, 2, cw⟩ := e3
  refine ⟨bp, op, cp, bc, oc, cc, bw, ow, cw, e1, e2, h1, h2, h3, (hg.block kp (lt_of_block hk) (fun e => ?_)).trans hk⟩
  rcases hO.2 with ⟨h, _⟩ | ⟨g, cap, cur, h, _, hg', _⟩
  · rw [h] at e; simp [Value.ownBlock] at e
  · rw [h] at e; simp [Value.ownBlock] at e; subst e; rw [hk] at hg'; cases hg'
theorem s13 {W : World} {kt kp kq bw ow bp op bq oq cw cp cq cc bc oc srl : Nat} {sf sg : SlV} {sra : Option Addr} {src : Nat} {one two fin : ByteArray}
    (h1 : W.heap[kt]? = some (.cells #[.string ⟨#[97, 110, 110]⟩, .int .i64 1, .string ⟨#[116, 101, 120, 116]⟩, .slice (some ⟨bw, ow, none⟩) 2 cw] 48 (0, 0)))
    (h2 : W.heap[kp]? = some (.cells #[.slice (some ⟨bp, op, none⟩) 1 cp, .slice sf.a sf.len sf.cap, .slice (some ⟨bc, oc, none⟩) 1 cc] 34 (0, 0)))
    (h3 : W.heap[kq]? = some (.cells #[.slice (some ⟨bq, oq, none⟩) 1 cq, .slice sg.a sg.len sg.cap, .slice sra srl src] 34 (0, 0)))
    (h4 : W.rangeAt bp op [.string ⟨#[]⟩, .string two]) (h5 : W.rangeAt bw ow [.string ⟨#[97, 110, 110]⟩, .int .i64 2, .int .i64 2, .string one, .string ⟨#[98, 111, 98]⟩, .int .i64 1, .int .i64 2, .string two]) (h6 : W.rangeAt bq oq [.string ⟨#[]⟩, .string fin]) :
    W.cell? ⟨kt, 0, none⟩ = some (.string ⟨#[97, 110, 110]⟩) ∧ W.cell? ⟨kt, 1, none⟩ = some (.int .i64 1) ∧ W.cell? ⟨kt, 2, none⟩ = some (.string ⟨#[116, 101, 120, 116]⟩) ∧ W.cell? ⟨kt, 3, none⟩ = some (.slice (some ⟨bw, ow, none⟩) 2 cw) ∧
    W.cell? ⟨kp, 0, none⟩ = some (.slice (some ⟨bp, op, none⟩) 1 cp) ∧ W.cell? ⟨kq, 0, none⟩ = some (.slice (some ⟨bq, oq, none⟩) 1 cq) ∧ W.cell? ⟨kq, 2, none⟩ = some (.slice sra srl src) ∧
    W.cell? ⟨bw, ow + 3, none⟩ = some (.string one) ∧ W.cell? ⟨bw, ow + 4 + 3, none⟩ = some (.string two) ∧ W.cell? ⟨bp, op + 1, none⟩ = some (.string two) ∧ W.cell? ⟨bq, oq + 1, none⟩ = some (.string fin) :=
  ⟨cell_of_row _ _ 0 _ _ _ h1, cell_of_row _ _ 1 _ _ _ h1, cell_of_row _ _ 2 _ _ _ h1, cell_of_row _ _ 3 _ _ _ h1, (three_cells h2).1, (three_cells h3).1, (three_cells h3).2.2, h5 3 _ rfl, h5 7 _ rfl, h4 1 _ rfl, h6 1 _ rfl⟩
set_option maxHeartbeats 6400000 in
set_option maxRecDepth 100000 in
theorem conflict_any (one two fin : ByteArray) (w : World) (KA : KindsAt w) : Calls Tryz.prog 4 #[.string one, .string two, .string fin] w fun e w' => e = .returned (.bool true) ∧ Below w.heap.size w w' := by
  have HKA := Lib.hid KA
  clear KA
  go_enter Tryz.func4, Tryz.ntmps4
  go_wp2_with fail
  refine (alive_any w HKA.out).mono ?_
  rintro e w1 ⟨rfl, hb1⟩
  have HB1 := Lib.hid hb1
  clear hb1
  by_cases g1 : 200 < one.size
  · have d1 : decide ((200 : Int) < (one.size : Int)) = true := by simp; omega
    go_wp2_with fail
    go_ret
    exact ⟨rfl, HB1.out⟩
  have d1 : decide ((200 : Int) < (one.size : Int)) = false := by simp; omega
  by_cases g2 : 200 < two.size
  · have d2 : decide ((200 : Int) < (two.size : Int)) = true := by simp; omega
    go_wp2_with fail
    go_ret
    exact ⟨rfl, HB1.out⟩
  have d2 : decide ((200 : Int) < (two.size : Int)) = false := by simp; omega
  by_cases g3 : 200 < fin.size
  · have d3 : decide ((200 : Int) < (fin.size : Int)) = true := by simp; omega
    go_wp2_with fail
    go_ret
    exact ⟨rfl, HB1.out⟩
  have d3 : decide ((200 : Int) < (fin.size : Int)) = false := by simp; omega
  clear g1 g2 g3
  go_wp2_with fail
  obtain ⟨W1, hW1⟩ : ∃ W1, W1 = w1.alloc (.cells #[.string ⟨#[98, 111, 98]⟩, .int .i64 1] 38) := ⟨_, rfl⟩
  have R0 : W1.heap[w1.heap.size]? = some (.cells #[.string ⟨#[98, 111, 98]⟩, .int .i64 1] 38 (0, 0)) := by rw [hW1]; exact alloc_get _ _ _ rfl
  have HBA : Below w.heap.size w W1 := by rw [hW1]; exact HB1.out.alloc HB1.out.size _
  rw [← hW1]
  have hR0 := Lib.hid R0
  have hBA := Lib.hid HBA
  clear hW1 HB1 R0 HBA
  refine (edits_any _).mono ?_
  rintro e w2 ⟨g, s2, s3, s4, rfl, ho, _, _, _, hb2⟩
  have ho1 : w2.ownsRow W1.heap.size 45 18 (.slice (some ⟨g, 0, none⟩) 1 4) 1 (edV ed1) := by
    have h := ownsRow_cut ho 1 (by omega)
    exact h
  have HO2 := Lib.hid ho1
  have HB2 := Lib.hid hb2
  clear ho hb2 ho1
  go_wp2_with fail
  refine reg7 (one := one) (two := two) (g := g) (BX := w1.heap.size) (B1 := W1.heap.size) (W1 := W1) (by kernel_rfl) (by simp) rfl rfl rfl rfl HB2.out HB2.out.size ((HB2.out.block _ (lt_of_block hR0.out)).trans hR0.out) HO2.out ?_
  rename_i K0 hK
  intro a' W' s8 sd1 sd2 hFr h8 o8 o1 o2 hb7
  obtain ⟨u30, u31, u32, u33, u34, u35, u36, u37, u38, u39, u40, u41, u42, u43, u44, rfl⟩ := canon7 hFr h8
  clear hFr h8
  have HO8 := Lib.hid o8
  have HO1 := Lib.hid o1
  have HO2 := Lib.hid o2
  have HB7 := Lib.hid hb7
  have HAP := Lib.hid (apply_P sd1 sd2 one two (.slice s8.a s8.len s8.cap) W' (edits_EP o8 o1 o2))
  clear o8 o1 o2 hb7
  refine hK _ _ ?_
  clear hK
  go_simp
  go_wp2_with fail
  refine HAP.out.mono ?_
  rintro e w3 ⟨t1, t2, rfl, hn, hr, hb3⟩
  have BL3 := HB7.out.trans (hb3.mono HB7.out.size)
  have BW3 := hBA.out.trans (BL3.mono hBA.out.size)
  have HDP := Lib.hid (design_P one two t1 t2 w3 hn hr (HKA.out.below BW3))
  have O8 := Lib.hid (ownsRow_below HO8.out hb3)
  have O1 := Lib.hid (ownsRow_below HO1.out hb3)
  have O2 := Lib.hid (ownsRow_below HO2.out hb3)
  have HB3 := Lib.hid BL3
  clear hn hr hb3 BL3 BW3 HAP HB7 HO8 HO1 HO2 HB2
  go_wp2_with fail
  refine HDP.out.mono ?_
  rintro e w4 ⟨sp, sf, sc, rfl, hp, _, hc, hb4⟩
  have BL4 := HB3.out.trans (hb4.mono HB3.out.size)
  have HP := Lib.hid hp
  have HC := Lib.hid hc
  have P8 := Lib.hid (ownsRow_below O8.out hb4)
  have P1 := Lib.hid (ownsRow_below O1.out hb4)
  have P2 := Lib.hid (ownsRow_below O2.out hb4)
  have HB4 := Lib.hid BL4
  clear hp hc hb4 BL4 HDP HB3 O8 O1 O2
  go_wp2_with fail
  have HPO := HP.out.alloc (.cells #[.slice sp.a sp.len sp.cap, .slice sf.a sf.len sf.cap, .slice sc.a sc.len sc.cap] 34)
  have HCO := HC.out.below ((Below.refl _ _).alloc (Nat.le_refl _) (.cells #[.slice sp.a sp.len sp.cap, .slice sf.a sf.len sf.cap, .slice sc.a sc.len sc.cap] 34))
  have HKO : (w4.alloc (.cells #[.slice sp.a sp.len sp.cap, .slice sf.a sf.len sf.cap, .slice sc.a sc.len sc.cap] 34)).heap[w4.heap.size]? = _ := alloc_get _ _ _ rfl
  have BL5 := HB4.out.alloc HB4.out.size (.cells #[.slice sp.a sp.len sp.cap, .slice sf.a sf.len sf.cap, .slice sc.a sc.len sc.cap] 34)
  have PO8 := P8.out.alloc (.cells #[.slice sp.a sp.len sp.cap, .slice sf.a sf.len sf.cap, .slice sc.a sc.len sc.cap] 34)
  have PO1 := P1.out.alloc (.cells #[.slice sp.a sp.len sp.cap, .slice sf.a sf.len sf.cap, .slice sc.a sc.len sc.cap] 34)
  have PO2 := P2.out.alloc (.cells #[.slice sp.a sp.len sp.cap, .slice sf.a sf.len sf.cap, .slice sc.a sc.len sc.cap] 34)
  have BW5 := hBA.out.trans (BL5.mono hBA.out.size)
  refine reg9 (one := one) (two := two) (fin := fin) (BX := w1.heap.size) (B1 := W1.heap.size) (s8 := s8) (sd1 := sd1) (sd2 := sd2) (w := w) (by kernel_rfl) (by simp) rfl rfl rfl BW5 HKA.out hBA.out.size BL5.size ((BL5.block _ (lt_of_block hR0.out)).trans hR0.out) PO8 PO1 PO2 ?_
  rename_i K1 hK
  intro a' W9 kq sq sg sr hFr h10 hkq hpq hsr hkz hg9
  obtain ⟨u49, u50, u51, u52, u53, u54, u55, u56, u57, u58, u59, u60, u61, rfl⟩ := canon9 hFr h10
  obtain ⟨bp, op, cp, bc, oc, cc, bw, ow, cw, rfl, rfl, r1, r2, r3, hkp⟩ := p_facts PO8 HPO HCO HKO hg9
  obtain ⟨bq, oq, cq, rfl, r4⟩ := rd_one hpq
  have BW9 : Below w.heap.size w W9 := BW5.grown hg9 BW5.size (fun j hj => Nat.le_trans hBA.out.size (PO8.lt j hj).1)
  obtain ⟨sra, srl, src⟩ := sr
  obtain rfl : srl = 0 := hsr
  have HR1 := Lib.hid r1
  have HR2 := Lib.hid r2
  have HR3 := Lib.hid r3
  have HR4 := Lib.hid r4
  have HKP := Lib.hid hkp
  have HKQ := Lib.hid hkq
  have HB9 := Lib.hid BW9
  have p0 := (three_cells hkp).1
  have p2 := (three_cells hkp).2.2
  have q0 := (three_cells hkq).1
  have q2 := (three_cells hkq).2.2
  have c3 : W9.cell? ⟨bc, oc + 3, none⟩ = some (.slice (some ⟨bw, ow, none⟩) 2 cw) := r2 3 _ rfl
  clear HPO HCO HKO BL5 PO8 PO1 PO2 BW5 hFr h10 hkq hpq hkz hg9 r1 r3 r4 hkp BW9 HP HC P8 P1 P2 HB4
  refine hK _ _ ?_
  clear hK
  go_simp
  go_wp2_with (first
    | refine wpList_load_mid rfl 48 _ rfl bc oc rfl _ _ r2 Tryz.underlying48 rfl (by kernel_rfl) ?_)
  obtain ⟨WX, hWX⟩ : ∃ WX, WX = W9.alloc (.cells #[.string ⟨#[97, 110, 110]⟩, .int .i64 1, .string ⟨#[116, 101, 120, 116]⟩, .slice (some ⟨bw, ow, none⟩) 2 cw] 48) := ⟨_, rfl⟩
  have BX : Below W9.heap.size W9 WX := by rw [hWX]; exact (Below.refl _ _).alloc (Nat.le_refl _) _
  have R1 : WX.drew.heap[W9.heap.size]? = some (.cells #[.string ⟨#[97, 110, 110]⟩, .int .i64 1, .string ⟨#[116, 101, 120, 116]⟩, .slice (some ⟨bw, ow, none⟩) 2 cw] 48 (0, 0)) := by rw [hWX]; exact alloc_get _ _ _ rfl
  have R2 : WX.drew.heap[w4.heap.size]? = _ := (BX.block _ (lt_of_block HKP.out)).trans HKP.out
  have R3 : WX.drew.heap[kq]? = _ := (BX.block _ (lt_of_block HKQ.out)).trans HKQ.out
  have R4 : WX.drew.rangeAt bp op [.string ⟨#[]⟩, .string two] := rangeAt_below HR1.out BX.drew
  have R5 : WX.drew.rangeAt bw ow _ := rangeAt_below HR3.out BX.drew
  have R6 : WX.drew.rangeAt bq oq [.string ⟨#[]⟩, .string fin] := rangeAt_below HR4.out BX.drew
  have BL : Below w.heap.size w WX.drew := (HB9.out.trans (BX.mono HB9.out.size)).drew
  rw [← hWX]
  clear hWX BX r2 p0 p2 q0 q2 c3 HR1 HR2 HR3 HR4 HKP HKQ HB9
  go_region_held3 (fun W => W.cell? ⟨W9.heap.size, 0, none⟩ = some (.string ⟨#[97, 110, 110]⟩) ∧ W.cell? ⟨W9.heap.size, 1, none⟩ = some (.int .i64 1) ∧ W.cell? ⟨W9.heap.size, 2, none⟩ = some (.string ⟨#[116, 101, 120, 116]⟩) ∧ W.cell? ⟨W9.heap.size, 3, none⟩ = some (.slice (some ⟨bw, ow, none⟩) 2 cw) ∧ W.cell? ⟨w4.heap.size, 0, none⟩ = some (.slice (some ⟨bp, op, none⟩) 1 cp) ∧ W.cell? ⟨kq, 0, none⟩ = some (.slice (some ⟨bq, oq, none⟩) 1 cq) ∧ W.cell? ⟨kq, 2, none⟩ = some (.slice sra 0 src) ∧ W.cell? ⟨bw, ow + 3, none⟩ = some (.string one) ∧ W.cell? ⟨bw, ow + 4 + 3, none⟩ = some (.string two) ∧ W.cell? ⟨bp, op + 1, none⟩ = some (.string two) ∧ W.cell? ⟨bq, oq + 1, none⟩ = some (.string fin))
    (first
      | with_reducible exact s13 R1 R2 R3 R4 R5 R6
      | go_keep)
    (first
      | (go_at_call 14; with_reducible refine (ann_any 1 _).mono ?_; rintro e wz ⟨rfl, hb⟩; have R1 := (hb.block _ (lt_of_block R1)).trans R1; have R2 := (hb.block _ (lt_of_block R2)).trans R2; have R3 := (hb.block _ (lt_of_block R3)).trans R3; have R4 := rangeAt_below R4 hb; have R5 := rangeAt_below R5 hb; have R6 := rangeAt_below R6 hb; have BL := BL.trans (hb.mono BL.size)))
  go_wp2
  go_ret
  exact ⟨rfl, BL⟩
end Go.Proofs.YteigcnamkfebgaaGreatDoor
