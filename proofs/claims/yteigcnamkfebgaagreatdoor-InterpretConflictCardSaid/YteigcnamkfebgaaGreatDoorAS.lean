import Derived.Test.YteigcnamkfebgaaGreatDoorAR
namespace Go.Proofs.YteigcnamkfebgaaGreatDoor
open Go.RowKit
structure FeD where
  id : ByteArray
def feV (x : FeD) : List Value := [.string x.id, .int .i64 0, .string ⟨#[]⟩, .slice none 0 0, .string ⟨#[]⟩, .slice none 0 0, .string ⟨#[]⟩, .string ⟨#[]⟩, .string ⟨#[]⟩, .string ⟨#[]⟩, .string ⟨#[]⟩, .string ⟨#[]⟩]
def feY : Lay FeD := ⟨12, feV, fun _ => rfl, by
  intro x u hu
  simp only [feV, List.mem_cons, List.not_mem_nil, or_false] at hu
  rcases hu with rfl | rfl | rfl | rfl | rfl | rfl | rfl | rfl | rfl | rfl | rfl | rfl <;> rfl⟩
theorem info62 : (Tryz.prog.info? 62).map (fun i => (i.zero, i.size, i.bytes)) = some (some (.agg z62), 12, 200) := by kernel_rfl
set_option maxHeartbeats 6400000 in
set_option maxRecDepth 100000 in
theorem step_any (R : List RegP) (hRn : ∀ r ∈ R, r.node = ann1 ∧ (winF r.w).2 = true ∧ r.w.length ≤ 100000) (hl : R.length ≤ 1000) (rb : Nat) (sn sr sp sc : SlV) (base : Nat) (w : World)
    (hr : w.heap[rb]? = some (.cells #[.slice sn.a sn.len sn.cap, .slice sr.a sr.len sr.cap, .slice sp.a sp.len sp.cap, .slice none 0 0, .slice sc.a sc.len sc.cap] 75 (0, 0))) (hv : RRegs w sr.v R) (hbase : base ≤ rb) (KA : KindsAt w) :
    Calls Tryz.prog 28 #[.pointer (some ⟨rb, 0, none⟩), .agg (tnV node4).toArray] w fun e w' => e = .returned (.tuple #[]) ∧ But rb w w' ∧ Below base w w' ∧ ∃ sf : SlV, w'.heap[rb]? = some (.cells #[.slice sn.a sn.len sn.cap, .slice sr.a sr.len sr.cap, .slice sp.a sp.len sp.cap, .slice sf.a sf.len sf.cap, .slice sc.a sc.len sc.cap] 75 (0, 0)) ∧
      w'.ownsRow w.heap.size 62 12 sf.v 1 (feY.flat [⟨⟨#[97, 110, 110, 46, 52]⟩⟩]) := by
  obtain ⟨i0, hi, hz0, hz1, hz2⟩ := info_parts info62
  have B0 : Below w.heap.size w (w.alloc (.cells (tnV node4).toArray 55)) := (Below.refl _ w).alloc (Nat.le_refl _) _
  have R1 : (w.alloc (.cells (tnV node4).toArray 55)).heap[rb]? = _ := alloc_old _ _ _ _ hr
  have RX : (w.alloc (.cells (tnV node4).toArray 55)).heap[w.heap.size]? = _ := alloc_get _ _ _ rfl
  have lrb : rb < w.heap.size := lt_of_block hr
  obtain ⟨ds, hd1, hd2, hd3⟩ := hv.below B0
  have KA0 := KA.below B0
  have r11 := (five_cells R1).2.1
  obtain ⟨sa, sl, scp⟩ := sr
  have hsl : sl = R.length := by have h := hd1.len; rw [hd2] at h; exact h
  subst hsl
  generalize hn : R.length = n at *
  have HN := Lib.hid hn
  have HD1 := Lib.hid hd1
  have HD2 := Lib.hid hd2
  have HD3 := Lib.hid hd3
  have HRN := Lib.hid hRn
  have HB0 := Lib.hid B0
  have HR1 := Lib.hid R1
  have HRX := Lib.hid RX
  have HKA := Lib.hid KA0
  clear hr hv KA hd1 hd2 hd3 hRn B0 R1 RX hn KA0
  unfold tnV node4 ann4 rootI at *
  go_enter Tryz.func28, Tryz.ntmps28
  go_wp2
  clear r11
  generalize hW0 : w.alloc (.cells _ 55) = W0 at *
  have hW0s : w.heap.size ≤ W0.heap.size := HB0.out.size
  clear hW0
  go_loopg [4, 18] n (fun gn t4 t18 wr => ∃ k : Nat, k + gn = n ∧ t4 = .slice none 0 0 ∧ t18 = .int .i64 k ∧ Below W0.heap.size W0 wr)
  case atStart => exact ⟨0, by omega, rfl, rfl, Below.refl _ _⟩
  case round =>
    obtain ⟨G, rfl⟩ : ∃ G, G = gk := ⟨_, rfl⟩
    obtain ⟨k, hk, rfl, rfl, hbel⟩ := hrel
    have HK := Lib.hid hk
    have HBL := Lib.hid hbel
    have hszr : W0.heap.size ≤ wr.heap.size := hbel.size
    clear hk
    by_cases hlt : k < n
    · obtain ⟨d, hd⟩ : ∃ d, ds[k]? = some d := ⟨_, List.getElem?_eq_getElem (by rw [HD2.out]; exact hlt)⟩
      obtain ⟨r, hr⟩ : ∃ r, R[k]? = some r := ⟨_, List.getElem?_eq_getElem (by rw [HN.out]; exact hlt)⟩
      have hdr := HD3.out k d r hd hr
      have hrn := HRN.out r (List.mem_of_getElem? hr)
      obtain ⟨b, off, rfl, hrg⟩ : ∃ b off, sa = some ⟨b, off, none⟩ ∧ W0.rangeAt b off (regY.flat ds) := by
        rcases HD1.out with ⟨h1, h2⟩ | ⟨b, off, cap, h1, h2, h3⟩
        · rw [h2] at hd; cases hd
        · simp [SlV.v] at h1; exact ⟨b, off, h1.1, h3⟩
      have hrx : wr.rangeAt b (off + k * 4) (regV d) := rangeAt_below (regY.elem hrg k d hd) hbel
      have hna : d.node.a = ⟨#[97, 110, 110]⟩ := by rw [hdr.1, hrn.1]; rfl
      have hnn : d.node.n = 1 := by rw [hdr.1, hrn.1]; rfl
      unfold regV at hrx
      rw [hna, hnn] at hrx
      have hwd := (hdr.2.2.below hbel).alloc (.cells #[.string ⟨#[97, 110, 110]⟩, .int .i64 1, .string d.field, .slice d.w.a d.w.len d.w.cap] 48)
      have hwl : r.w.length ≤ 1000000 := by have := hrn.2.2; omega
      have HW := Lib.hid (winner_any r.w _ _ hwl hwd)
      rw [hrn.2.1] at HW
      have hltZ : (k : Int) < (n : Int) := by omega
      have X1 := (hbel.block _ (lt_of_block HRX.out)).trans HRX.out
      have lx : w.heap.size < wr.heap.size := lt_of_block X1
      have hx0 := (two8 X1).1
      have hx1 := (two8 X1).2
      clear hbel hdr hrn hrg hd hr hna hnn hwd X1
      go_wp2_with (first
        | refine wpList_load_mid rfl 48 _ rfl b (off + k * 4) rfl _ _ hrx Tryz.underlying48 rfl (by kernel_rfl) ?_
        | (go_at_call 57; refine HW.out.mono ?_; rintro e w2 ⟨rfl, rfl⟩))
      go_roundg (n - 1 - k)
      case rel => exact ⟨k + 1, by have := HK.out; omega, rfl, by go_num, HBL.out.alloc hszr _⟩
      case measure => have := HK.out; omega
    · obtain rfl : k = n := by have := HK.out; omega
      have X1 := (hbel.block _ (lt_of_block HRX.out)).trans HRX.out
      have hx0 := (two8 X1).1
      have hx1 := (two8 X1).2
      have hx7 : wr.cell? ⟨w.heap.size, 7, none⟩ = some (.string ⟨#[109, 105, 114, 114, 111, 114]⟩) := cell_of_row _ _ 7 _ _ _ X1
      clear hbel
      go_wp2_with fail
      with_reducible refine (formatId4 _).mono ?_
      rintro e w3 ⟨rfl, hb3⟩
      have BL := HBL.out.trans (hb3.mono hszr)
      have X1 := (BL.block _ (lt_of_block HRX.out)).trans HRX.out
      have hx7 : w3.cell? ⟨w.heap.size, 7, none⟩ = some (.string ⟨#[109, 105, 114, 114, 111, 114]⟩) := cell_of_row _ _ 7 _ _ _ X1
      clear hb3 hx0 hx1
      go_wp2_with fail
      with_reducible refine (fromFieldsMirror _ (HKA.out.below BL)).mono ?_
      rintro e w4 ⟨rfl, hb4⟩
      have BL := BL.trans (hb4.mono BL.size)
      unfold z62
      clear hb4 hx7 X1
      go_wp2_with (first
        | refine wpList_store_new w4 rfl 62 _ _ rfl _ _ rfl rfl (by kernel_rfl) (by rfl) (by simp [Value.oneCell']) ?_)
      have R2 : (w4.alloc (.cells #[.string ⟨#[97, 110, 110, 46, 52]⟩, .int .i64 0, .string ⟨#[]⟩, .slice none 0 0, .string ⟨#[]⟩, .slice none 0 0, .string ⟨#[]⟩, .string ⟨#[]⟩, .string ⟨#[]⟩, .string ⟨#[]⟩, .string ⟨#[]⟩, .string ⟨#[]⟩] 62)).drew.heap[w4.heap.size]? = _ := alloc_get _ _ _ rfl
      have R1 : (w4.alloc (.cells #[.string ⟨#[97, 110, 110, 46, 52]⟩, .int .i64 0, .string ⟨#[]⟩, .slice none 0 0, .string ⟨#[]⟩, .slice none 0 0, .string ⟨#[]⟩, .string ⟨#[]⟩, .string ⟨#[]⟩, .string ⟨#[]⟩, .string ⟨#[]⟩, .string ⟨#[]⟩] 62)).drew.heap[rb]? = _ := alloc_old _ _ _ _ ((BL.block _ (lt_of_block HR1.out)).trans HR1.out)
      have hs4 : w.heap.size ≤ w4.heap.size := Nat.le_trans hW0s BL.size
      have hrq : rb < w4.heap.size := by omega
      have BL : Below w.heap.size w (w4.alloc (.cells #[.string ⟨#[97, 110, 110, 46, 52]⟩, .int .i64 0, .string ⟨#[]⟩, .slice none 0 0, .string ⟨#[]⟩, .slice none 0 0, .string ⟨#[]⟩, .string ⟨#[]⟩, .string ⟨#[]⟩, .string ⟨#[]⟩, .string ⟨#[]⟩, .string ⟨#[]⟩] 62)).drew := ((HB0.out.trans (BL.mono hW0s)).alloc hs4 _).drew
      generalize w4.alloc (.cells #[.string ⟨#[97, 110, 110, 46, 52]⟩, .int .i64 0, .string ⟨#[]⟩, .slice none 0 0, .string ⟨#[]⟩, .slice none 0 0, .string ⟨#[]⟩, .string ⟨#[]⟩, .string ⟨#[]⟩, .string ⟨#[]⟩, .string ⟨#[]⟩, .string ⟨#[]⟩] 62) = W4 at *
      refine wp_region_held_drew (S := fun w' => w'.heap[w4.heap.size]? = some (.cells #[.string ⟨#[97, 110, 110, 46, 52]⟩, .int .i64 0, .string ⟨#[]⟩, .slice none 0 0, .string ⟨#[]⟩, .slice none 0 0, .string ⟨#[]⟩, .string ⟨#[]⟩, .string ⟨#[]⟩, .string ⟨#[]⟩, .string ⟨#[]⟩, .string ⟨#[]⟩] 62 (0, 0))) (by kernel_rfl) R2 (fun hS => ?_)
      refine wpAnyH_take (i := 0) (v := .pointer (some ⟨rb, 0, none⟩)) rfl (by kernel_rfl) (by kernel_rfl) (by kernel_rfl) (fun _ _ _ h => h) (Or.inl ⟨by rfl, fun w' hS => by go_simp⟩) hS ?_
      try simp only [Act.put, List.setIfInBounds_toArray, List.set_cons_zero, List.set_cons_succ]
      refine wpAnyH_take (i := 1) (v := .pointer (some ⟨rb, 0, none⟩)) rfl (by kernel_rfl) (by kernel_rfl) (by kernel_rfl) (fun _ _ _ h => h) (Or.inl ⟨by rfl, fun w' hS => by go_simp⟩) hS ?_
      try simp only [Act.put, List.setIfInBounds_toArray, List.set_cons_zero, List.set_cons_succ]
      refine wpAnyH_take (i := 2) (v := .pointer (some ⟨rb, 0, none⟩)) rfl (by kernel_rfl) (by kernel_rfl) (by kernel_rfl) (fun _ _ _ h => h) (Or.inl ⟨by rfl, fun w' hS => by go_simp⟩) hS ?_
      try simp only [Act.put, List.setIfInBounds_toArray, List.set_cons_zero, List.set_cons_succ]
      refine wpAnyH_take (i := 3) (v := .pointer (some ⟨rb, 2, none⟩)) rfl (by kernel_rfl) (by kernel_rfl) (by kernel_rfl) (fun _ _ _ h => h) (Or.inl ⟨by rfl, fun w' hS => by go_simp⟩) hS ?_
      try simp only [Act.put, List.setIfInBounds_toArray, List.set_cons_zero, List.set_cons_succ]
      refine wpAnyH_take (i := 4) (v := .pointer (some ⟨rb, 3, none⟩)) rfl (by kernel_rfl) (by kernel_rfl) (by kernel_rfl) (fun _ _ _ h => h) (Or.inl ⟨by rfl, fun w' hS => by go_simp⟩) hS ?_
      try simp only [Act.put, List.setIfInBounds_toArray, List.set_cons_zero, List.set_cons_succ]
      refine wpAnyH_take (i := 6) (v := .agg #[.string ⟨#[97, 110, 110, 46, 52]⟩, .int .i64 0, .string ⟨#[]⟩, .slice none 0 0, .string ⟨#[]⟩, .slice none 0 0, .string ⟨#[]⟩, .string ⟨#[]⟩, .string ⟨#[]⟩, .string ⟨#[]⟩, .string ⟨#[]⟩, .string ⟨#[]⟩]) rfl (by kernel_rfl) (by kernel_rfl) (by kernel_rfl) (fun _ _ _ h => h) (Or.inl ⟨by rfl, fun w' hS => by have hl := run_loadVar_row (P := Tryz.prog) w' w4.heap.size 62 62 _ (0, 0) _ hS Tryz.underlying62 rfl (by kernel_rfl); simp only [execOp, Act.eval, Instr.loadAt, Instr.sureAddr, Sem.run_bind, Sem.run_pure, Result.andThen_ok]; first | (simp [hl, Result.andThen]; done) | (go_simp; done)⟩) hS ?_
      try simp only [Act.put, List.setIfInBounds_toArray, List.set_cons_zero, List.set_cons_succ]
      refine wpAnyH_ready (rs := [5, 7]) (by kernel_rfl) (by simp) ?_
      refine AllReadyH.cons rfl (fun K9 hK9 => ?_) (AllReadyH.cons rfl (fun K9 hK9 => ?_) AllReadyH.nil)
      · have r13 := (five_cells R1).2.2.2.1
        go_simp
        clear r13
        refine hK9.out _ _ hS (fun _ => ?_)
        clear hK9
        try simp only [Act.put, List.setIfInBounds_toArray, List.set_cons_zero, List.set_cons_succ]
        refine wpAnyH_ready (rs := [7]) (by kernel_rfl) (by simp) ?_
        refine AllReadyH.cons rfl (fun K9 hK9 => ?_) AllReadyH.nil
        go_simp
        have R1 : (W4.alloc (.cells #[.string ⟨#[97, 110, 110, 46, 52]⟩, .int .i64 0, .string ⟨#[]⟩, .slice none 0 0, .string ⟨#[]⟩, .slice none 0 0, .string ⟨#[]⟩, .string ⟨#[]⟩, .string ⟨#[]⟩, .string ⟨#[]⟩, .string ⟨#[]⟩, .string ⟨#[]⟩] 62)).drew.heap[rb]? = _ := alloc_old W4 _ _ _ R1
        have R2 : (W4.alloc (.cells #[.string ⟨#[97, 110, 110, 46, 52]⟩, .int .i64 0, .string ⟨#[]⟩, .slice none 0 0, .string ⟨#[]⟩, .slice none 0 0, .string ⟨#[]⟩, .string ⟨#[]⟩, .string ⟨#[]⟩, .string ⟨#[]⟩, .string ⟨#[]⟩, .string ⟨#[]⟩] 62)).drew.heap[w4.heap.size]? = _ := alloc_old W4 _ _ _ R2
        have RN : (W4.alloc (.cells #[.string ⟨#[97, 110, 110, 46, 52]⟩, .int .i64 0, .string ⟨#[]⟩, .slice none 0 0, .string ⟨#[]⟩, .slice none 0 0, .string ⟨#[]⟩, .string ⟨#[]⟩, .string ⟨#[]⟩, .string ⟨#[]⟩, .string ⟨#[]⟩, .string ⟨#[]⟩] 62)).drew.heap[W4.heap.size]? = _ := alloc_get W4 _ _ rfl
        have BL : Below w.heap.size w (W4.alloc (.cells #[.string ⟨#[97, 110, 110, 46, 52]⟩, .int .i64 0, .string ⟨#[]⟩, .slice none 0 0, .string ⟨#[]⟩, .slice none 0 0, .string ⟨#[]⟩, .string ⟨#[]⟩, .string ⟨#[]⟩, .string ⟨#[]⟩, .string ⟨#[]⟩, .string ⟨#[]⟩] 62)).drew := BL.alloc BL.size _
        have hS := R2
        refine hK9.out _ _ hS (fun _ => ?_)
        clear hK9
        try simp only [Act.put, List.setIfInBounds_toArray, List.set_cons_zero, List.set_cons_succ]
        refine wpAnyH_ready (rs := [8]) (by kernel_rfl) (by simp) ?_
        refine AllReadyH.cons rfl (fun K9 hK9 => ?_) AllReadyH.nil
        refine step_append_src _ rfl _ _ 32 rfl w.heap.size 62 i0 (.agg z62) 12 200 Tryz.underlying32 hi hz0 hz1 hz2 rfl (by decide) (.slice none 0 0) 0 [] rfl (owns_nil0 _ _ _ _) (some ⟨_, 0, none⟩) 1 1 (feV ⟨⟨#[97, 110, 110, 46, 52]⟩⟩) rfl rfl (fun _ => ⟨_, rfl, news_of (cs := feV ⟨⟨#[97, 110, 110, 46, 52]⟩⟩) RN⟩) (feY.one _) (by unfold maxLen; omega) (by omega) BL.size ?_
        intro v6 w6 hown6 hg6
        obtain ⟨s6, hs6⟩ := ownsForm hown6
        subst hs6
        have R1 := (hg6.block _ (lt_of_block R1) (by simp [Value.ownBlock])).trans R1
        have R2 := (hg6.block _ (lt_of_block R2) (by simp [Value.ownBlock])).trans R2
        have BL := BL.grown hg6 BL.size (by intro k hk; simp [Value.ownBlock] at hk)
        have hS := R2
        refine hK9.out _ _ hS (fun _ => ?_)
        clear hK9
        try simp only [Act.put, List.setIfInBounds_toArray, List.set_cons_zero, List.set_cons_succ]
        refine wpAnyH_take (i := 9) (v := .pointer (some ⟨rb, 0, none⟩)) rfl (by kernel_rfl) (by kernel_rfl) (by kernel_rfl) (fun _ _ _ h => h) (Or.inl ⟨by rfl, fun w' hS => by go_simp⟩) hS ?_
        try simp only [Act.put, List.setIfInBounds_toArray, List.set_cons_zero, List.set_cons_succ]
        refine wpAnyH_take (i := 10) (v := .pointer (some ⟨rb, 2, none⟩)) rfl (by kernel_rfl) (by kernel_rfl) (by kernel_rfl) (fun _ _ _ h => h) (Or.inl ⟨by rfl, fun w' hS => by go_simp⟩) hS ?_
        try simp only [Act.put, List.setIfInBounds_toArray, List.set_cons_zero, List.set_cons_succ]
        refine wpAnyH_take (i := 11) (v := .pointer (some ⟨rb, 3, none⟩)) rfl (by kernel_rfl) (by kernel_rfl) (by kernel_rfl) (fun _ _ _ h => h) (Or.inl ⟨by rfl, fun w' hS => by go_simp⟩) hS ?_
        try simp only [Act.put, List.setIfInBounds_toArray, List.set_cons_zero, List.set_cons_succ]
        refine wpAnyH_ready (rs := [12]) (by kernel_rfl) (by simp) ?_
        refine AllReadyH.cons rfl (fun K9 hK9 => ?_) AllReadyH.nil
        have r13 := (five_cells R1).2.2.2.1
        have f13 : w6.frozen? ⟨rb, 3, none⟩ = false := frozen_of_row w6 rb 3 _ _ R1
        go_simp
        refine hK9.out _ _ ((heap_setCell_other _ _ _ _ (by show _ ≠ rb; omega)).trans hS) (fun _ => ?_)
        clear hK9
        try simp only [Act.put, List.setIfInBounds_toArray, List.set_cons_zero, List.set_cons_succ]
        refine wpAnyH_done (by kernel_rfl) ?_ _
        have HNE := Lib.hid (own_ne_ty hown6 ⟨_, R1, _, R1⟩ (by decide))
        have HF := Lib.hid (And.intro BL (And.intro (set5_3 (c' := .slice s6.a s6.len s6.cap) R1) hown6))
        clear hg6 hown6 r13 f13 R1 R2 BL hS
        go_wp2
        go_end0
        refine ⟨rfl, But.set (But.of_below HF.out.1) 3 _, Below.setCell (HF.out.1.mono (by omega)) (p := ⟨rb, 3, none⟩) hbase _, s6, HF.out.2.1, ?_⟩
        exact HF.out.2.2.kept (grownBy_set w6 rb 3 _) HNE.out
      · go_simp
        have R1 : (W4.alloc (.cells #[.string ⟨#[97, 110, 110, 46, 52]⟩, .int .i64 0, .string ⟨#[]⟩, .slice none 0 0, .string ⟨#[]⟩, .slice none 0 0, .string ⟨#[]⟩, .string ⟨#[]⟩, .string ⟨#[]⟩, .string ⟨#[]⟩, .string ⟨#[]⟩, .string ⟨#[]⟩] 62)).drew.heap[rb]? = _ := alloc_old W4 _ _ _ R1
        have R2 : (W4.alloc (.cells #[.string ⟨#[97, 110, 110, 46, 52]⟩, .int .i64 0, .string ⟨#[]⟩, .slice none 0 0, .string ⟨#[]⟩, .slice none 0 0, .string ⟨#[]⟩, .string ⟨#[]⟩, .string ⟨#[]⟩, .string ⟨#[]⟩, .string ⟨#[]⟩, .string ⟨#[]⟩] 62)).drew.heap[w4.heap.size]? = _ := alloc_old W4 _ _ _ R2
        have RN : (W4.alloc (.cells #[.string ⟨#[97, 110, 110, 46, 52]⟩, .int .i64 0, .string ⟨#[]⟩, .slice none 0 0, .string ⟨#[]⟩, .slice none 0 0, .string ⟨#[]⟩, .string ⟨#[]⟩, .string ⟨#[]⟩, .string ⟨#[]⟩, .string ⟨#[]⟩, .string ⟨#[]⟩] 62)).drew.heap[W4.heap.size]? = _ := alloc_get W4 _ _ rfl
        have BL : Below w.heap.size w (W4.alloc (.cells #[.string ⟨#[97, 110, 110, 46, 52]⟩, .int .i64 0, .string ⟨#[]⟩, .slice none 0 0, .string ⟨#[]⟩, .slice none 0 0, .string ⟨#[]⟩, .string ⟨#[]⟩, .string ⟨#[]⟩, .string ⟨#[]⟩, .string ⟨#[]⟩, .string ⟨#[]⟩] 62)).drew := BL.alloc BL.size _
        have hS := R2
        refine hK9.out _ _ hS (fun _ => ?_)
        clear hK9
        try simp only [Act.put, List.setIfInBounds_toArray, List.set_cons_zero, List.set_cons_succ]
        refine wpAnyH_ready (rs := [5]) (by kernel_rfl) (by simp) ?_
        refine AllReadyH.cons rfl (fun K9 hK9 => ?_) AllReadyH.nil
        have r13 := (five_cells R1).2.2.2.1
        go_simp
        clear r13
        refine hK9.out _ _ hS (fun _ => ?_)
        clear hK9
        try simp only [Act.put, List.setIfInBounds_toArray, List.set_cons_zero, List.set_cons_succ]
        refine wpAnyH_ready (rs := [8]) (by kernel_rfl) (by simp) ?_
        refine AllReadyH.cons rfl (fun K9 hK9 => ?_) AllReadyH.nil
        refine step_append_src _ rfl _ _ 32 rfl w.heap.size 62 i0 (.agg z62) 12 200 Tryz.underlying32 hi hz0 hz1 hz2 rfl (by decide) (.slice none 0 0) 0 [] rfl (owns_nil0 _ _ _ _) (some ⟨_, 0, none⟩) 1 1 (feV ⟨⟨#[97, 110, 110, 46, 52]⟩⟩) rfl rfl (fun _ => ⟨_, rfl, news_of (cs := feV ⟨⟨#[97, 110, 110, 46, 52]⟩⟩) RN⟩) (feY.one _) (by unfold maxLen; omega) (by omega) BL.size ?_
        intro v6 w6 hown6 hg6
        obtain ⟨s6, hs6⟩ := ownsForm hown6
        subst hs6
        have R1 := (hg6.block _ (lt_of_block R1) (by simp [Value.ownBlock])).trans R1
        have R2 := (hg6.block _ (lt_of_block R2) (by simp [Value.ownBlock])).trans R2
        have BL := BL.grown hg6 BL.size (by intro k hk; simp [Value.ownBlock] at hk)
        have hS := R2
        refine hK9.out _ _ hS (fun _ => ?_)
        clear hK9
        try simp only [Act.put, List.setIfInBounds_toArray, List.set_cons_zero, List.set_cons_succ]
        refine wpAnyH_take (i := 9) (v := .pointer (some ⟨rb, 0, none⟩)) rfl (by kernel_rfl) (by kernel_rfl) (by kernel_rfl) (fun _ _ _ h => h) (Or.inl ⟨by rfl, fun w' hS => by go_simp⟩) hS ?_
        try simp only [Act.put, List.setIfInBounds_toArray, List.set_cons_zero, List.set_cons_succ]
        refine wpAnyH_take (i := 10) (v := .pointer (some ⟨rb, 2, none⟩)) rfl (by kernel_rfl) (by kernel_rfl) (by kernel_rfl) (fun _ _ _ h => h) (Or.inl ⟨by rfl, fun w' hS => by go_simp⟩) hS ?_
        try simp only [Act.put, List.setIfInBounds_toArray, List.set_cons_zero, List.set_cons_succ]
        refine wpAnyH_take (i := 11) (v := .pointer (some ⟨rb, 3, none⟩)) rfl (by kernel_rfl) (by kernel_rfl) (by kernel_rfl) (fun _ _ _ h => h) (Or.inl ⟨by rfl, fun w' hS => by go_simp⟩) hS ?_
        try simp only [Act.put, List.setIfInBounds_toArray, List.set_cons_zero, List.set_cons_succ]
        refine wpAnyH_ready (rs := [12]) (by kernel_rfl) (by simp) ?_
        refine AllReadyH.cons rfl (fun K9 hK9 => ?_) AllReadyH.nil
        have r13 := (five_cells R1).2.2.2.1
        have f13 : w6.frozen? ⟨rb, 3, none⟩ = false := frozen_of_row w6 rb 3 _ _ R1
        go_simp
        refine hK9.out _ _ ((heap_setCell_other _ _ _ _ (by show _ ≠ rb; omega)).trans hS) (fun _ => ?_)
        clear hK9
        try simp only [Act.put, List.setIfInBounds_toArray, List.set_cons_zero, List.set_cons_succ]
        refine wpAnyH_done (by kernel_rfl) ?_ _
        have HNE := Lib.hid (own_ne_ty hown6 ⟨_, R1, _, R1⟩ (by decide))
        have HF := Lib.hid (And.intro BL (And.intro (set5_3 (c' := .slice s6.a s6.len s6.cap) R1) hown6))
        clear hg6 hown6 r13 f13 R1 R2 BL hS
        go_wp2
        go_end0
        refine ⟨rfl, But.set (But.of_below HF.out.1) 3 _, Below.setCell (HF.out.1.mono (by omega)) (p := ⟨rb, 3, none⟩) hbase _, s6, HF.out.2.1, ?_⟩
        exact HF.out.2.2.kept (grownBy_set w6 rb 3 _) HNE.out
end Go.Proofs.YteigcnamkfebgaaGreatDoor
