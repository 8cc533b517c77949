import Derived.Test.YteigcnamkfebgaaGreatDoorAO
namespace Go.Proofs.YteigcnamkfebgaaGreatDoor
open Go.RowKit
structure PdD where
  name : ByteArray
  text : ByteArray
def pdV (x : PdD) : List Value := [.string x.name, .string x.text]
def pdY : Lay PdD := ⟨2, pdV, fun _ => rfl, by intro x u hu; simp [pdV] at hu; rcases hu with rfl | rfl <;> rfl⟩
def z52 : Array Value := #[.string ⟨#[]⟩, .string ⟨#[]⟩]
theorem info52 : (Tryz.prog.info? 52).map (fun i => (i.zero, i.size, i.bytes)) = some (some (.agg z52), 2, 32) := by kernel_rfl
/-- nothing that lay has turned but block rb -/
def But (rb : Nat) (w w' : World) : Prop := w.heap.size ≤ w'.heap.size ∧ ∀ i, i < w.heap.size → i ≠ rb → w'.heap[i]? = w.heap[i]?
theorem But.of_below {rb : Nat} {w w' : World} (h : Below w.heap.size w w') : But rb w w' := ⟨h.size, fun i hi _ => h.block i hi⟩
theorem But.trans {rb : Nat} {a b c : World} (h : But rb a b) (h' : But rb b c) : But rb a c := ⟨Nat.le_trans h.1 h'.1, fun i hi hd => (h'.2 i (Nat.lt_of_lt_of_le hi h.1) hd).trans (h.2 i hi hd)⟩
theorem But.set {rb : Nat} {a b : World} (h : But rb a b) (j : Nat) (v : Value) : But rb a (b.setCell ⟨rb, j, none⟩ v) := ⟨by simp; exact h.1, fun i hi hd => (heap_setCell_other b ⟨rb, j, none⟩ i v hd).trans (h.2 i hi hd)⟩
theorem set5_2 {W : World} {k : Nat} {a b c d e c' : Value} {t : TypeId} (h : W.heap[k]? = some (.cells #[a, b, c, d, e] t (0, 0))) : (W.setCell ⟨k, 2, none⟩ c').heap[k]? = some (.cells #[a, b, c', d, e] t (0, 0)) := by
  rw [setCell_eq_setRow W k 2 _ t (0, 0) c' h]; exact setRow_heap _ _ _ _ _ _ h
theorem set5_3 {W : World} {k : Nat} {a b c d e c' : Value} {t : TypeId} (h : W.heap[k]? = some (.cells #[a, b, c, d, e] t (0, 0))) : (W.setCell ⟨k, 3, none⟩ c').heap[k]? = some (.cells #[a, b, c, c', e] t (0, 0)) := by
  rw [setCell_eq_setRow W k 3 _ t (0, 0) c' h]; exact setRow_heap _ _ _ _ _ _ h
theorem set5_4 {W : World} {k : Nat} {a b c d e c' : Value} {t : TypeId} (h : W.heap[k]? = some (.cells #[a, b, c, d, e] t (0, 0))) : (W.setCell ⟨k, 4, none⟩ c').heap[k]? = some (.cells #[a, b, c, d, c'] t (0, 0)) := by
  rw [setCell_eq_setRow W k 4 _ t (0, 0) c' h]; exact setRow_heap _ _ _ _ _ _ h
theorem two8 {W : World} {p : Nat} {a0 a1 a2 a3 a4 a5 a6 a7 : Value} {t : TypeId} (h : W.heap[p]? = some (.cells #[a0, a1, a2, a3, a4, a5, a6, a7] t (0, 0))) : W.cell? ⟨p, 0, none⟩ = some a0 ∧ W.cell? ⟨p, 1, none⟩ = some a1 := ⟨cell_of_row _ _ _ _ _ _ h, cell_of_row _ _ _ _ _ _ h⟩
theorem grownBy_set (W : World) (b j : Nat) (v : Value) : W.grownBy (W.setCell ⟨b, j, none⟩ v) (some b) := ⟨rfl, rfl, rfl, (KeepsWalks.setCell W _ v).size, fun k _ hk => Below.heap_setCell _ _ _ k (fun e => hk (by rw [e]))⟩
theorem own_ne_ty {w w' : World} {base : Nat} {e : TypeId} {size : Nat} {v : Value} {k : Nat} {xs : List Value} (h : w.ownsRow base e size v k xs) {r : Nat} {t : TypeId} (hr : ∃ cs, w'.heap[r]? = some (.cells cs t (0, 0)) ∧ (∃ cs', w.heap[r]? = some (.cells cs' t (0, 0)))) (hne : t ≠ e) : v.ownBlock = none ∨ v.ownBlock ≠ some r := by
  rcases h.2 with ⟨rfl, _⟩ | ⟨g, cap, cur, rfl, _, hg, _⟩
  · exact .inl rfl
  · right
    intro e2
    simp [Value.ownBlock] at e2
    subst e2
    obtain ⟨_, _, cs', h2⟩ := hr
    rw [hg] at h2
    cases h2
    exact hne rfl
set_option maxHeartbeats 6400000 in
set_option maxRecDepth 100000 in
theorem param_any (R : List RegP) (rb : Nat) (sn sr sf sc : SlV) (x : TnD) (base : Nat) (w : World) (hr : w.heap[rb]? = some (.cells #[.slice sn.a sn.len sn.cap, .slice sr.a sr.len sr.cap, .slice none 0 0, .slice sf.a sf.len sf.cap, .slice sc.a sc.len sc.cap] 75 (0, 0)))
    (hl : R.length ≤ 100000) (hwl : ∀ r ∈ R, r.w.length ≤ 100000) (hv : RRegs w sr.v R) (hbase : base ≤ rb) :
    Calls Tryz.prog 24 #[.pointer (some ⟨rb, 0, none⟩), .agg (tnV x).toArray] w fun e w' => e = .returned (.tuple #[]) ∧ But rb w w' ∧ Below base w w' ∧ ∃ sp : SlV, w'.heap[rb]? = some (.cells #[.slice sn.a sn.len sn.cap, .slice sr.a sr.len sr.cap, .slice sp.a sp.len sp.cap, .slice sf.a sf.len sf.cap, .slice sc.a sc.len sc.cap] 75 (0, 0)) ∧
      w'.ownsRow w.heap.size 52 2 sp.v 1 (pdY.flat [⟨(winF (lookF x.node ⟨#[110, 97, 109, 101]⟩ R)).1, (winF (lookF x.node ⟨#[116, 101, 120, 116]⟩ R)).1⟩]) := by
  obtain ⟨i0, hi, hz0, hz1, hz2⟩ := info_parts info52
  have R1 : (w.alloc (.cells (tnV x).toArray 55)).drew.heap[rb]? = _ := alloc_old _ _ _ _ hr
  have R2 : (w.alloc (.cells (tnV x).toArray 55)).drew.heap[w.heap.size]? = _ := alloc_get _ _ _ rfl
  have BL : Below w.heap.size w (w.alloc (.cells (tnV x).toArray 55)).drew := ((Below.refl _ w).alloc (Nat.le_refl _) _).drew
  have RV : RRegs (w.alloc (.cells (tnV x).toArray 55)).drew sr.v R := hv.below ((Below.refl _ w).alloc (Nat.le_refl _) _).drew
  have lrb : rb < w.heap.size := lt_of_block hr
  generalize hNM : (winF (lookF x.node ⟨#[110, 97, 109, 101]⟩ R)).1 = nm
  generalize hTX : (winF (lookF x.node ⟨#[116, 101, 120, 116]⟩ R)).1 = tx
  have FN := Lib.hid (fun (W : World) (h1 : W.heap[rb]? = some (.cells #[.slice sn.a sn.len sn.cap, .slice sr.a sr.len sr.cap, .slice none 0 0, .slice sf.a sf.len sf.cap, .slice sc.a sc.len sc.cap] 75 (0, 0))) (h2 : RRegs W sr.v R) => field_any R rb sn sr SlV.nil sf sc x.node ⟨#[110, 97, 109, 101]⟩ W h1 hl hwl h2)
  have FT := Lib.hid (fun (W : World) (h1 : W.heap[rb]? = some (.cells #[.slice sn.a sn.len sn.cap, .slice sr.a sr.len sr.cap, .slice none 0 0, .slice sf.a sf.len sf.cap, .slice sc.a sc.len sc.cap] 75 (0, 0))) (h2 : RRegs W sr.v R) => field_any R rb sn sr SlV.nil sf sc x.node ⟨#[116, 101, 120, 116]⟩ W h1 hl hwl h2)
  rw [hNM] at FN
  rw [hTX] at FT
  clear hr hv hNM hTX
  unfold tnV at *
  go_enter Tryz.func24, Tryz.ntmps24
  go_wp2_with fail
  refine wp_region_held_drew (S := fun w' => w'.cell? ⟨w.heap.size, 0, none⟩ = some (.string x.node.a) ∧ w'.cell? ⟨w.heap.size, 1, none⟩ = some (.int .i64 x.node.n)) (by kernel_rfl) (two8 R2) (fun hS => ?_)
  refine wpAnyH_take (i := 0) (v := .pointer (some ⟨rb, 0, none⟩)) rfl (by kernel_rfl) (by kernel_rfl) (by kernel_rfl) (fun _ _ _ h => h) (Or.inl ⟨by rfl, fun w' hS => by go_simp⟩) hS ?_
  try simp only [Act.put, List.setIfInBounds_toArray, List.set_cons_zero, List.set_cons_succ]
  refine wpAnyH_take (i := 1) (v := .pointer (some ⟨rb, 0, none⟩)) rfl (by kernel_rfl) (by kernel_rfl) (by kernel_rfl) (fun _ _ _ h => h) (Or.inl ⟨by rfl, fun w' hS => by go_simp⟩) hS ?_
  try simp only [Act.put, List.setIfInBounds_toArray, List.set_cons_zero, List.set_cons_succ]
  refine wpAnyH_take (i := 2) (v := .pointer (some ⟨rb, 0, none⟩)) rfl (by kernel_rfl) (by kernel_rfl) (by kernel_rfl) (fun _ _ _ h => h) (Or.inl ⟨by rfl, fun w' hS => by go_simp⟩) hS ?_
  try simp only [Act.put, List.setIfInBounds_toArray, List.set_cons_zero, List.set_cons_succ]
  refine wpAnyH_take (i := 3) (v := .pointer (some ⟨rb, 2, none⟩)) rfl (by kernel_rfl) (by kernel_rfl) (by kernel_rfl) (fun _ _ _ h => h) (Or.inl ⟨by rfl, fun w' hS => by go_simp⟩) hS ?_
  try simp only [Act.put, List.setIfInBounds_toArray, List.set_cons_zero, List.set_cons_succ]
  refine wpAnyH_take (i := 4) (v := .pointer (some ⟨rb, 2, none⟩)) rfl (by kernel_rfl) (by kernel_rfl) (by kernel_rfl) (fun _ _ _ h => h) (Or.inl ⟨by rfl, fun w' hS => by go_simp⟩) hS ?_
  try simp only [Act.put, List.setIfInBounds_toArray, List.set_cons_zero, List.set_cons_succ]
  refine wpAnyH_take (i := 6) (v := .pointer (some ⟨rb, 0, none⟩)) rfl (by kernel_rfl) (by kernel_rfl) (by kernel_rfl) (fun _ _ _ h => h) (Or.inl ⟨by rfl, fun w' hS => by go_simp⟩) hS ?_
  try simp only [Act.put, List.setIfInBounds_toArray, List.set_cons_zero, List.set_cons_succ]
  refine wpAnyH_take (i := 7) (v := .pointer (some ⟨w.heap.size, 0, none⟩)) rfl (by kernel_rfl) (by kernel_rfl) (by kernel_rfl) (fun _ _ _ h => h) (Or.inl ⟨by rfl, fun w' hS => by go_simp⟩) hS ?_
  try simp only [Act.put, List.setIfInBounds_toArray, List.set_cons_zero, List.set_cons_succ]
  refine wpAnyH_take (i := 8) (v := .agg #[.string x.node.a, .int .i64 x.node.n]) rfl (by kernel_rfl) (by kernel_rfl) (by kernel_rfl) (fun _ _ _ h => h) (Or.inl ⟨by rfl, fun w' hS => by obtain ⟨q0, q1⟩ := hS; go_simp⟩) hS ?_
  try simp only [Act.put, List.setIfInBounds_toArray, List.set_cons_zero, List.set_cons_succ]
  refine wpAnyH_take (i := 10) (v := .pointer (some ⟨rb, 0, none⟩)) rfl (by kernel_rfl) (by kernel_rfl) (by kernel_rfl) (fun _ _ _ h => h) (Or.inl ⟨by rfl, fun w' hS => by go_simp⟩) hS ?_
  try simp only [Act.put, List.setIfInBounds_toArray, List.set_cons_zero, List.set_cons_succ]
  refine wpAnyH_take (i := 11) (v := .pointer (some ⟨w.heap.size, 0, none⟩)) rfl (by kernel_rfl) (by kernel_rfl) (by kernel_rfl) (fun _ _ _ h => h) (Or.inl ⟨by rfl, fun w' hS => by go_simp⟩) hS ?_
  try simp only [Act.put, List.setIfInBounds_toArray, List.set_cons_zero, List.set_cons_succ]
  refine wpAnyH_take (i := 12) (v := .agg #[.string x.node.a, .int .i64 x.node.n]) rfl (by kernel_rfl) (by kernel_rfl) (by kernel_rfl) (fun _ _ _ h => h) (Or.inl ⟨by rfl, fun w' hS => by obtain ⟨q0, q1⟩ := hS; go_simp⟩) hS ?_
  try simp only [Act.put, List.setIfInBounds_toArray, List.set_cons_zero, List.set_cons_succ]
  refine wpAnyH_ready (rs := [5, 9]) (by kernel_rfl) (by simp) ?_
  refine AllReadyH.cons rfl (fun K9 hK9 => ?_) (AllReadyH.cons rfl (fun K9 hK9 => ?_) AllReadyH.nil)
  · have r12 := (five_cells R1).2.2.1
    go_simp
    clear r12
    refine hK9.out _ _ hS (fun _ => ?_)
    clear hK9
    try simp only [Act.put, List.setIfInBounds_toArray, List.set_cons_zero, List.set_cons_succ]
    refine wpAnyH_ready (rs := [9]) (by kernel_rfl) (by simp) ?_
    refine AllReadyH.cons rfl (fun K9 hK9 => ?_) AllReadyH.nil
    go_simp
    with_reducible refine (FN.out _ R1 RV).mono ?_
    rintro e9 w4 ⟨rfl, hb⟩
    have R1 := (hb.block _ (lt_of_block R1)).trans R1
    have R2 := (hb.block _ (lt_of_block R2)).trans R2
    have BL := BL.trans (hb.mono BL.size)
    have RV := RV.below hb
    have hS := two8 R2
    refine hK9.out _ _ hS (fun _ => ?_)
    clear hK9
    try simp only [Act.put, List.setIfInBounds_toArray, List.set_cons_zero, List.set_cons_succ]
    refine wpAnyH_ready (rs := [13]) (by kernel_rfl) (by simp) ?_
    refine AllReadyH.cons rfl (fun K9 hK9 => ?_) AllReadyH.nil
    go_simp
    with_reducible refine (FT.out _ R1 RV).mono ?_
    rintro e9 w5 ⟨rfl, hb⟩
    have R1 := (hb.block _ (lt_of_block R1)).trans R1
    have R2 := (hb.block _ (lt_of_block R2)).trans R2
    have BL := BL.trans (hb.mono BL.size)
    have RV := RV.below hb
    have hS := two8 R2
    refine hK9.out _ _ hS (fun _ => ?_)
    clear hK9
    try simp only [Act.put, List.setIfInBounds_toArray, List.set_cons_zero, List.set_cons_succ]
    refine wpAnyH_take (i := 14) (v := .agg #[.string nm, .string tx]) rfl (by kernel_rfl) (by kernel_rfl) (by kernel_rfl) (fun _ _ _ h => h) (Or.inl ⟨by rfl, fun w' hS => by go_simp⟩) hS ?_
    try simp only [Act.put, List.setIfInBounds_toArray, List.set_cons_zero, List.set_cons_succ]
    refine wpAnyH_ready (rs := [15]) (by kernel_rfl) (by simp) ?_
    refine AllReadyH.cons rfl (fun K9 hK9 => ?_) AllReadyH.nil
    go_simp
    have R1 := alloc_old _ _ (.cells #[.string nm, .string tx] 52) _ R1
    have R2 := alloc_old _ _ (.cells #[.string nm, .string tx] 52) _ R2
    have BL := BL.alloc BL.size (.cells #[.string nm, .string tx] 52)
    have hS := two8 R2
    refine hK9.out _ _ hS (fun _ => ?_)
    clear hK9
    try simp only [Act.put, List.setIfInBounds_toArray, List.set_cons_zero, List.set_cons_succ]
    refine wpAnyH_ready (rs := [16]) (by kernel_rfl) (by simp) ?_
    refine AllReadyH.cons rfl (fun K9 hK9 => ?_) AllReadyH.nil
    refine step_append_src _ rfl _ _ 31 rfl w.heap.size 52 i0 (.agg z52) 2 32 Tryz.underlying31 hi hz0 hz1 hz2 rfl (by decide) (.slice none 0 0) 0 [] rfl (owns_nil0 _ _ _ _) (some ⟨_, 0, none⟩) 1 1 (pdV ⟨nm, tx⟩) rfl rfl (fun _ => ⟨_, rfl, news_of (cs := pdV ⟨nm, tx⟩) (alloc_get _ _ _ rfl)⟩) (pdY.one ⟨nm, tx⟩) (by unfold maxLen; omega) (by omega) BL.size ?_
    intro v6 w6 hown6 hg6
    obtain ⟨s6, hs6⟩ := ownsForm hown6
    subst hs6
    have R1 := (hg6.block _ (lt_of_block R1) (by simp [Value.ownBlock])).trans R1
    have R2 := (hg6.block _ (lt_of_block R2) (by simp [Value.ownBlock])).trans R2
    have BL := BL.grown hg6 BL.size (by intro k hk; simp [Value.ownBlock] at hk)
    have hS := two8 R2
    refine hK9.out _ _ hS (fun _ => ?_)
    clear hK9
    try simp only [Act.put, List.setIfInBounds_toArray, List.set_cons_zero, List.set_cons_succ]
    refine wpAnyH_take (i := 17) (v := .pointer (some ⟨rb, 0, none⟩)) rfl (by kernel_rfl) (by kernel_rfl) (by kernel_rfl) (fun _ _ _ h => h) (Or.inl ⟨by rfl, fun w' hS => by go_simp⟩) hS ?_
    try simp only [Act.put, List.setIfInBounds_toArray, List.set_cons_zero, List.set_cons_succ]
    refine wpAnyH_take (i := 18) (v := .pointer (some ⟨rb, 2, none⟩)) rfl (by kernel_rfl) (by kernel_rfl) (by kernel_rfl) (fun _ _ _ h => h) (Or.inl ⟨by rfl, fun w' hS => by go_simp⟩) hS ?_
    try simp only [Act.put, List.setIfInBounds_toArray, List.set_cons_zero, List.set_cons_succ]
    refine wpAnyH_take (i := 19) (v := .pointer (some ⟨rb, 2, none⟩)) rfl (by kernel_rfl) (by kernel_rfl) (by kernel_rfl) (fun _ _ _ h => h) (Or.inl ⟨by rfl, fun w' hS => by go_simp⟩) hS ?_
    try simp only [Act.put, List.setIfInBounds_toArray, List.set_cons_zero, List.set_cons_succ]
    refine wpAnyH_ready (rs := [20]) (by kernel_rfl) (by simp) ?_
    refine AllReadyH.cons rfl (fun K9 hK9 => ?_) AllReadyH.nil
    have r12 := (five_cells R1).2.2.1
    have f12 : w6.frozen? ⟨rb, 2, none⟩ = false := frozen_of_row w6 rb 2 _ _ R1
    go_simp
    have hne : rb ≠ w.heap.size := by omega
    refine hK9.out _ _ ⟨(World.cell?_setCell_far _ _ _ _ hne).trans hS.1, (World.cell?_setCell_far _ _ _ _ hne).trans hS.2⟩ (fun _ => ?_)
    clear hK9
    try simp only [Act.put, List.setIfInBounds_toArray, List.set_cons_zero, List.set_cons_succ]
    refine wpAnyH_done (by kernel_rfl) ?_ _
    have HNE := Lib.hid (own_ne_ty hown6 ⟨_, R1, _, R1⟩ (by decide))
    have HF := Lib.hid (And.intro BL (And.intro (set5_2 (c' := .slice s6.a s6.len s6.cap) R1) hown6))
    clear hg6 hown6 r12 f12 R1 R2 BL hS RV hne
    go_wp2
    go_end0
    refine ⟨rfl, But.set (But.of_below HF.out.1) 2 _, Below.setCell (HF.out.1.mono (by omega)) (p := ⟨rb, 2, none⟩) hbase _, s6, HF.out.2.1, ?_⟩
    exact HF.out.2.2.kept (grownBy_set w6 rb 2 _) HNE.out
  · go_simp
    with_reducible refine (FN.out _ R1 RV).mono ?_
    rintro e9 w4 ⟨rfl, hb⟩
    have R1 := (hb.block _ (lt_of_block R1)).trans R1
    have R2 := (hb.block _ (lt_of_block R2)).trans R2
    have BL := BL.trans (hb.mono BL.size)
    have RV := RV.below hb
    have hS := two8 R2
    refine hK9.out _ _ hS (fun _ => ?_)
    clear hK9
    try simp only [Act.put, List.setIfInBounds_toArray, List.set_cons_zero, List.set_cons_succ]
    refine wpAnyH_ready (rs := [5, 13]) (by kernel_rfl) (by simp) ?_
    refine AllReadyH.cons rfl (fun K9 hK9 => ?_) (AllReadyH.cons rfl (fun K9 hK9 => ?_) AllReadyH.nil)
    · have r12 := (five_cells R1).2.2.1
      go_simp
      clear r12
      refine hK9.out _ _ hS (fun _ => ?_)
      clear hK9
      try simp only [Act.put, List.setIfInBounds_toArray, List.set_cons_zero, List.set_cons_succ]
      refine wpAnyH_ready (rs := [13]) (by kernel_rfl) (by simp) ?_
      refine AllReadyH.cons rfl (fun K9 hK9 => ?_) AllReadyH.nil
      go_simp
      with_reducible refine (FT.out _ R1 RV).mono ?_
      rintro e9 w5 ⟨rfl, hb⟩
      have R1 := (hb.block _ (lt_of_block R1)).trans R1
      have R2 := (hb.block _ (lt_of_block R2)).trans R2
      have BL := BL.trans (hb.mono BL.size)
      have RV := RV.below hb
      have hS := two8 R2
      refine hK9.out _ _ hS (fun _ => ?_)
      clear hK9
      try simp only [Act.put, List.setIfInBounds_toArray, List.set_cons_zero, List.set_cons_succ]
      refine wpAnyH_take (i := 14) (v := .agg #[.string nm, .string tx]) rfl (by kernel_rfl) (by kernel_rfl) (by kernel_rfl) (fun _ _ _ h => h) (Or.inl ⟨by rfl, fun w' hS => by go_simp⟩) hS ?_
      try simp only [Act.put, List.setIfInBounds_toArray, List.set_cons_zero, List.set_cons_succ]
      refine wpAnyH_ready (rs := [15]) (by kernel_rfl) (by simp) ?_
      refine AllReadyH.cons rfl (fun K9 hK9 => ?_) AllReadyH.nil
      go_simp
      have R1 := alloc_old _ _ (.cells #[.string nm, .string tx] 52) _ R1
      have R2 := alloc_old _ _ (.cells #[.string nm, .string tx] 52) _ R2
      have BL := BL.alloc BL.size (.cells #[.string nm, .string tx] 52)
      have hS := two8 R2
      refine hK9.out _ _ hS (fun _ => ?_)
      clear hK9
      try simp only [Act.put, List.setIfInBounds_toArray, List.set_cons_zero, List.set_cons_succ]
      refine wpAnyH_ready (rs := [16]) (by kernel_rfl) (by simp) ?_
      refine AllReadyH.cons rfl (fun K9 hK9 => ?_) AllReadyH.nil
      refine step_append_src _ rfl _ _ 31 rfl w.heap.size 52 i0 (.agg z52) 2 32 Tryz.underlying31 hi hz0 hz1 hz2 rfl (by decide) (.slice none 0 0) 0 [] rfl (owns_nil0 _ _ _ _) (some ⟨_, 0, none⟩) 1 1 (pdV ⟨nm, tx⟩) rfl rfl (fun _ => ⟨_, rfl, news_of (cs := pdV ⟨nm, tx⟩) (alloc_get _ _ _ rfl)⟩) (pdY.one ⟨nm, tx⟩) (by unfold maxLen; omega) (by omega) BL.size ?_
      intro v6 w6 hown6 hg6
      obtain ⟨s6, hs6⟩ := ownsForm hown6
      subst hs6
      have R1 := (hg6.block _ (lt_of_block R1) (by simp [Value.ownBlock])).trans R1
      have R2 := (hg6.block _ (lt_of_block R2) (by simp [Value.ownBlock])).trans R2
      have BL := BL.grown hg6 BL.size (by intro k hk; simp [Value.ownBlock] at hk)
      have hS := two8 R2
      refine hK9.out _ _ hS (fun _ => ?_)
      clear hK9
      try simp only [Act.put, List.setIfInBounds_toArray, List.set_cons_zero, List.set_cons_succ]
      refine wpAnyH_take (i := 17) (v := .pointer (some ⟨rb, 0, none⟩)) rfl (by kernel_rfl) (by kernel_rfl) (by kernel_rfl) (fun _ _ _ h => h) (Or.inl ⟨by rfl, fun w' hS => by go_simp⟩) hS ?_
      try simp only [Act.put, List.setIfInBounds_toArray, List.set_cons_zero, List.set_cons_succ]
      refine wpAnyH_take (i := 18) (v := .pointer (some ⟨rb, 2, none⟩)) rfl (by kernel_rfl) (by kernel_rfl) (by kernel_rfl) (fun _ _ _ h => h) (Or.inl ⟨by rfl, fun w' hS => by go_simp⟩) hS ?_
      try simp only [Act.put, List.setIfInBounds_toArray, List.set_cons_zero, List.set_cons_succ]
      refine wpAnyH_take (i := 19) (v := .pointer (some ⟨rb, 2, none⟩)) rfl (by kernel_rfl) (by kernel_rfl) (by kernel_rfl) (fun _ _ _ h => h) (Or.inl ⟨by rfl, fun w' hS => by go_simp⟩) hS ?_
      try simp only [Act.put, List.setIfInBounds_toArray, List.set_cons_zero, List.set_cons_succ]
      refine wpAnyH_ready (rs := [20]) (by kernel_rfl) (by simp) ?_
      refine AllReadyH.cons rfl (fun K9 hK9 => ?_) AllReadyH.nil
      have r12 := (five_cells R1).2.2.1
      have f12 : w6.frozen? ⟨rb, 2, none⟩ = false := frozen_of_row w6 rb 2 _ _ R1
      go_simp
      have hne : rb ≠ w.heap.size := by omega
      refine hK9.out _ _ ⟨(World.cell?_setCell_far _ _ _ _ hne).trans hS.1, (World.cell?_setCell_far _ _ _ _ hne).trans hS.2⟩ (fun _ => ?_)
      clear hK9
      try simp only [Act.put, List.setIfInBounds_toArray, List.set_cons_zero, List.set_cons_succ]
      refine wpAnyH_done (by kernel_rfl) ?_ _
      have HNE := Lib.hid (own_ne_ty hown6 ⟨_, R1, _, R1⟩ (by decide))
      have HF := Lib.hid (And.intro BL (And.intro (set5_2 (c' := .slice s6.a s6.len s6.cap) R1) hown6))
      clear hg6 hown6 r12 f12 R1 R2 BL hS RV hne
      go_wp2
      go_end0
      refine ⟨rfl, But.set (But.of_below HF.out.1) 2 _, Below.setCell (HF.out.1.mono (by omega)) (p := ⟨rb, 2, none⟩) hbase _, s6, HF.out.2.1, ?_⟩
      exact HF.out.2.2.kept (grownBy_set w6 rb 2 _) HNE.out
    · go_simp
      with_reducible refine (FT.out _ R1 RV).mono ?_
      rintro e9 w5 ⟨rfl, hb⟩
      have R1 := (hb.block _ (lt_of_block R1)).trans R1
      have R2 := (hb.block _ (lt_of_block R2)).trans R2
      have BL := BL.trans (hb.mono BL.size)
      have RV := RV.below hb
      have hS := two8 R2
      refine hK9.out _ _ hS (fun _ => ?_)
      clear hK9
      try simp only [Act.put, List.setIfInBounds_toArray, List.set_cons_zero, List.set_cons_succ]
      refine wpAnyH_take (i := 14) (v := .agg #[.string nm, .string tx]) rfl (by kernel_rfl) (by kernel_rfl) (by kernel_rfl) (fun _ _ _ h => h) (Or.inl ⟨by rfl, fun w' hS => by go_simp⟩) hS ?_
      try simp only [Act.put, List.setIfInBounds_toArray, List.set_cons_zero, List.set_cons_succ]
      refine wpAnyH_ready (rs := [5, 15]) (by kernel_rfl) (by simp) ?_
      refine AllReadyH.cons rfl (fun K9 hK9 => ?_) (AllReadyH.cons rfl (fun K9 hK9 => ?_) AllReadyH.nil)
      · have r12 := (five_cells R1).2.2.1
        go_simp
        clear r12
        refine hK9.out _ _ hS (fun _ => ?_)
        clear hK9
        try simp only [Act.put, List.setIfInBounds_toArray, List.set_cons_zero, List.set_cons_succ]
        refine wpAnyH_ready (rs := [15]) (by kernel_rfl) (by simp) ?_
        refine AllReadyH.cons rfl (fun K9 hK9 => ?_) AllReadyH.nil
        go_simp
        have R1 := alloc_old _ _ (.cells #[.string nm, .string tx] 52) _ R1
        have R2 := alloc_old _ _ (.cells #[.string nm, .string tx] 52) _ R2
        have BL := BL.alloc BL.size (.cells #[.string nm, .string tx] 52)
        have hS := two8 R2
        refine hK9.out _ _ hS (fun _ => ?_)
        clear hK9
        try simp only [Act.put, List.setIfInBounds_toArray, List.set_cons_zero, List.set_cons_succ]
        refine wpAnyH_ready (rs := [16]) (by kernel_rfl) (by simp) ?_
        refine AllReadyH.cons rfl (fun K9 hK9 => ?_) AllReadyH.nil
        refine step_append_src _ rfl _ _ 31 rfl w.heap.size 52 i0 (.agg z52) 2 32 Tryz.underlying31 hi hz0 hz1 hz2 rfl (by decide) (.slice none 0 0) 0 [] rfl (owns_nil0 _ _ _ _) (some ⟨_, 0, none⟩) 1 1 (pdV ⟨nm, tx⟩) rfl rfl (fun _ => ⟨_, rfl, news_of (cs := pdV ⟨nm, tx⟩) (alloc_get _ _ _ rfl)⟩) (pdY.one ⟨nm, tx⟩) (by unfold maxLen; omega) (by omega) BL.size ?_
        intro v6 w6 hown6 hg6
        obtain ⟨s6, hs6⟩ := ownsForm hown6
        subst hs6
        have R1 := (hg6.block _ (lt_of_block R1) (by simp [Value.ownBlock])).trans R1
        have R2 := (hg6.block _ (lt_of_block R2) (by simp [Value.ownBlock])).trans R2
        have BL := BL.grown hg6 BL.size (by intro k hk; simp [Value.ownBlock] at hk)
        have hS := two8 R2
        refine hK9.out _ _ hS (fun _ => ?_)
        clear hK9
        try simp only [Act.put, List.setIfInBounds_toArray, List.set_cons_zero, List.set_cons_succ]
        refine wpAnyH_take (i := 17) (v := .pointer (some ⟨rb, 0, none⟩)) rfl (by kernel_rfl) (by kernel_rfl) (by kernel_rfl) (fun _ _ _ h => h) (Or.inl ⟨by rfl, fun w' hS => by go_simp⟩) hS ?_
        try simp only [Act.put, List.setIfInBounds_toArray, List.set_cons_zero, List.set_cons_succ]
        refine wpAnyH_take (i := 18) (v := .pointer (some ⟨rb, 2, none⟩)) rfl (by kernel_rfl) (by kernel_rfl) (by kernel_rfl) (fun _ _ _ h => h) (Or.inl ⟨by rfl, fun w' hS => by go_simp⟩) hS ?_
        try simp only [Act.put, List.setIfInBounds_toArray, List.set_cons_zero, List.set_cons_succ]
        refine wpAnyH_take (i := 19) (v := .pointer (some ⟨rb, 2, none⟩)) rfl (by kernel_rfl) (by kernel_rfl) (by kernel_rfl) (fun _ _ _ h => h) (Or.inl ⟨by rfl, fun w' hS => by go_simp⟩) hS ?_
        try simp only [Act.put, List.setIfInBounds_toArray, List.set_cons_zero, List.set_cons_succ]
        refine wpAnyH_ready (rs := [20]) (by kernel_rfl) (by simp) ?_
        refine AllReadyH.cons rfl (fun K9 hK9 => ?_) AllReadyH.nil
        have r12 := (five_cells R1).2.2.1
        have f12 : w6.frozen? ⟨rb, 2, none⟩ = false := frozen_of_row w6 rb 2 _ _ R1
        go_simp
        have hne : rb ≠ w.heap.size := by omega
        refine hK9.out _ _ ⟨(World.cell?_setCell_far _ _ _ _ hne).trans hS.1, (World.cell?_setCell_far _ _ _ _ hne).trans hS.2⟩ (fun _ => ?_)
        clear hK9
        try simp only [Act.put, List.setIfInBounds_toArray, List.set_cons_zero, List.set_cons_succ]
        refine wpAnyH_done (by kernel_rfl) ?_ _
        have HNE := Lib.hid (own_ne_ty hown6 ⟨_, R1, _, R1⟩ (by decide))
        have HF := Lib.hid (And.intro BL (And.intro (set5_2 (c' := .slice s6.a s6.len s6.cap) R1) hown6))
        clear hg6 hown6 r12 f12 R1 R2 BL hS RV hne
        go_wp2
        go_end0
        refine ⟨rfl, But.set (But.of_below HF.out.1) 2 _, Below.setCell (HF.out.1.mono (by omega)) (p := ⟨rb, 2, none⟩) hbase _, s6, HF.out.2.1, ?_⟩
        exact HF.out.2.2.kept (grownBy_set w6 rb 2 _) HNE.out
      · go_simp
        have R1 := alloc_old _ _ (.cells #[.string nm, .string tx] 52) _ R1
        have R2 := alloc_old _ _ (.cells #[.string nm, .string tx] 52) _ R2
        have BL := BL.alloc BL.size (.cells #[.string nm, .string tx] 52)
        have hS := two8 R2
        refine hK9.out _ _ hS (fun _ => ?_)
        clear hK9
        try simp only [Act.put, List.setIfInBounds_toArray, List.set_cons_zero, List.set_cons_succ]
        refine wpAnyH_ready (rs := [5]) (by kernel_rfl) (by simp) ?_
        refine AllReadyH.cons rfl (fun K9 hK9 => ?_) AllReadyH.nil
        have r12 := (five_cells R1).2.2.1
        go_simp
        clear r12
        refine hK9.out _ _ hS (fun _ => ?_)
        clear hK9
        try simp only [Act.put, List.setIfInBounds_toArray, List.set_cons_zero, List.set_cons_succ]
        refine wpAnyH_ready (rs := [16]) (by kernel_rfl) (by simp) ?_
        refine AllReadyH.cons rfl (fun K9 hK9 => ?_) AllReadyH.nil
        refine step_append_src _ rfl _ _ 31 rfl w.heap.size 52 i0 (.agg z52) 2 32 Tryz.underlying31 hi hz0 hz1 hz2 rfl (by decide) (.slice none 0 0) 0 [] rfl (owns_nil0 _ _ _ _) (some ⟨_, 0, none⟩) 1 1 (pdV ⟨nm, tx⟩) rfl rfl (fun _ => ⟨_, rfl, news_of (cs := pdV ⟨nm, tx⟩) (alloc_get _ _ _ rfl)⟩) (pdY.one ⟨nm, tx⟩) (by unfold maxLen; omega) (by omega) BL.size ?_
        intro v6 w6 hown6 hg6
        obtain ⟨s6, hs6⟩ := ownsForm hown6
        subst hs6
        have R1 := (hg6.block _ (lt_of_block R1) (by simp [Value.ownBlock])).trans R1
        have R2 := (hg6.block _ (lt_of_block R2) (by simp [Value.ownBlock])).trans R2
        have BL := BL.grown hg6 BL.size (by intro k hk; simp [Value.ownBlock] at hk)
        have hS := two8 R2
        refine hK9.out _ _ hS (fun _ => ?_)
        clear hK9
        try simp only [Act.put, List.setIfInBounds_toArray, List.set_cons_zero, List.set_cons_succ]
        refine wpAnyH_take (i := 17) (v := .pointer (some ⟨rb, 0, none⟩)) rfl (by kernel_rfl) (by kernel_rfl) (by kernel_rfl) (fun _ _ _ h => h) (Or.inl ⟨by rfl, fun w' hS => by go_simp⟩) hS ?_
        try simp only [Act.put, List.setIfInBounds_toArray, List.set_cons_zero, List.set_cons_succ]
        refine wpAnyH_take (i := 18) (v := .pointer (some ⟨rb, 2, none⟩)) rfl (by kernel_rfl) (by kernel_rfl) (by kernel_rfl) (fun _ _ _ h => h) (Or.inl ⟨by rfl, fun w' hS => by go_simp⟩) hS ?_
        try simp only [Act.put, List.setIfInBounds_toArray, List.set_cons_zero, List.set_cons_succ]
        refine wpAnyH_take (i := 19) (v := .pointer (some ⟨rb, 2, none⟩)) rfl (by kernel_rfl) (by kernel_rfl) (by kernel_rfl) (fun _ _ _ h => h) (Or.inl ⟨by rfl, fun w' hS => by go_simp⟩) hS ?_
        try simp only [Act.put, List.setIfInBounds_toArray, List.set_cons_zero, List.set_cons_succ]
        refine wpAnyH_ready (rs := [20]) (by kernel_rfl) (by simp) ?_
        refine AllReadyH.cons rfl (fun K9 hK9 => ?_) AllReadyH.nil
        have r12 := (five_cells R1).2.2.1
        have f12 : w6.frozen? ⟨rb, 2, none⟩ = false := frozen_of_row w6 rb 2 _ _ R1
        go_simp
        have hne : rb ≠ w.heap.size := by omega
        refine hK9.out _ _ ⟨(World.cell?_setCell_far _ _ _ _ hne).trans hS.1, (World.cell?_setCell_far _ _ _ _ hne).trans hS.2⟩ (fun _ => ?_)
        clear hK9
        try simp only [Act.put, List.setIfInBounds_toArray, List.set_cons_zero, List.set_cons_succ]
        refine wpAnyH_done (by kernel_rfl) ?_ _
        have HNE := Lib.hid (own_ne_ty hown6 ⟨_, R1, _, R1⟩ (by decide))
        have HF := Lib.hid (And.intro BL (And.intro (set5_2 (c' := .slice s6.a s6.len s6.cap) R1) hown6))
        clear hg6 hown6 r12 f12 R1 R2 BL hS RV hne
        go_wp2
        go_end0
        refine ⟨rfl, But.set (But.of_below HF.out.1) 2 _, Below.setCell (HF.out.1.mono (by omega)) (p := ⟨rb, 2, none⟩) hbase _, s6, HF.out.2.1, ?_⟩
        exact HF.out.2.2.kept (grownBy_set w6 rb 2 _) HNE.out
end Go.Proofs.YteigcnamkfebgaaGreatDoor
