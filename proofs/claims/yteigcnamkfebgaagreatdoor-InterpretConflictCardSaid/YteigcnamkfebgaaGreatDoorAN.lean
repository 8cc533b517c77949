import Derived.Test.YteigcnamkfebgaaGreatDoorAM
namespace Go.Proofs.YteigcnamkfebgaaGreatDoor
open Go.RowKit
def z45 : Array Value := #[.string ⟨#[]⟩, .int .i64 0, .int .i64 0, .int .i64 0, .slice none 0 0, .int .i64 0, .string ⟨#[]⟩, .int .i64 0, .string ⟨#[]⟩, .int .i64 0, .bool false, .string ⟨#[]⟩, .string ⟨#[]⟩, .string ⟨#[]⟩, .string ⟨#[]⟩, .string ⟨#[]⟩, .int .i64 0, .string ⟨#[]⟩]
theorem info45 : (Tryz.prog.info? 45).map (fun i => (i.zero, i.size, i.bytes)) = some (some (.agg z45), 18, 232) := by kernel_rfl
theorem Edits.below {w w' : World} {v : Value} {E : List EdP} (h : Edits w v E) (hb : Below w.heap.size w w') : Edits w' v E := ⟨h.1.below hb, fun e he => ⟨(h.2 e he).1.below hb, (h.2 e he).2⟩⟩
theorem rows28 {W : World} {k : Nat} {x y : Value} {t : TypeId} (h : W.heap[k]? = some (.cells #[x, y] t (0, 0))) : W.cell? ⟨k, 0, none⟩ = some x ∧ W.cell? ⟨k, 1, none⟩ = some y := two_cells h
/-- what is read of structs that begin with a string does not lie in a box of slices -/
theorem Lay.Rd.past {E : Type} {Y : Lay E} {w w' : World} {v : Value} {l : List E} (h : Y.Rd w v l) (k : Nat) (hk : ∀ j u, w.cell? ⟨k, j, none⟩ = some u → ∃ a n c, u = .slice a n c) (hf : ∀ x, ∃ s, (Y.V x)[0]? = some (.string s)) (hw : ∀ i, i ≠ k → w'.heap[i]? = w.heap[i]?) : Y.Rd w' v l := by
  rcases h with h | ⟨b, off, cap, h1, h2, h3⟩
  · exact .inl h
  · refine .inr ⟨b, off, cap, h1, h2, ?_⟩
    cases l with
    | nil => intro j u hj; simp [Lay.flat] at hj
    | cons x r =>
      have hb : b ≠ k := by
        rintro rfl
        obtain ⟨s, hs⟩ := hf x
        have h4 : (Y.flat (x :: r))[0]? = some (.string s) := by
          rw [Y.flat_cons, List.getElem?_append_left (by have := (List.getElem?_eq_some_iff.1 hs).1; exact this)]
          exact hs
        obtain ⟨a, n, c, hc⟩ := hk _ _ (h3 0 _ h4)
        cases hc
      intro j u hj
      exact (World.cell?_of_block (w := w) (w' := w') (a := ⟨b, off + j, none⟩) (hw b hb)).trans (h3 j u hj)
theorem RRegs.past {w w' : World} {v : Value} {R : List RegP} (h : RRegs w v R) (k : Nat) (hk : ∀ j u, w.cell? ⟨k, j, none⟩ = some u → ∃ a n c, u = .slice a n c) (hw : ∀ i, i ≠ k → w'.heap[i]? = w.heap[i]?) : RRegs w' v R := by
  obtain ⟨ds, h1, h2, h3⟩ := h
  exact ⟨ds, h1.past k hk (fun x => ⟨_, rfl⟩) hw, h2, fun i d r a b => ⟨(h3 i d r a b).1, (h3 i d r a b).2.1, (h3 i d r a b).2.2.past k hk (fun x => ⟨_, rfl⟩) hw⟩⟩
theorem box_slices {W : World} {k : Nat} {x y : SlV} {t : TypeId} (h : W.heap[k]? = some (.cells #[.slice x.a x.len x.cap, .slice y.a y.len y.cap] t (0, 0))) : ∀ j u, W.cell? ⟨k, j, none⟩ = some u → ∃ a n c, u = .slice a n c := fun j u hu => by
  rw [cell_of_row _ _ j _ _ _ h] at hu
  match j, hu with
  | 0, hu => simp at hu; exact ⟨_, _, _, hu.symm⟩
  | 1, hu => simp at hu; exact ⟨_, _, _, hu.symm⟩
  | j + 2, hu => simp at hu
set_option maxHeartbeats 6400000 in
set_option maxRecDepth 100000 in
theorem stApply_any (E : List EdP) (v : Value) (w : World) (hE : Edits w v E) (hl : E.length ≤ 1000) (hpos : 0 < E.length) (N : List TnD) (hN : adds E = N) (hN2 : N.length ≤ 2)
    (hkind : ∀ (k : Nat) (e : EdP), E[k]? = some e → (e.d.kind = 1 ∨ e.d.kind = 3) ∧ e.d.parent = rootI)
    (hpar : ∀ (k : Nat) (e : EdP), E[k]? = some e → ∀ w, (Instr.findKey 38 (.agg #[.string ⟨#[]⟩, .int .i64 0]) (entsOf (adds (E.take k))).toList).run Tryz.prog w = .ok none w)
    (hnew : ∀ (k : Nat) (e : EdP), E[k]? = some e → e.d.kind = 1 → ∀ w, (Instr.findKey 38 (.agg #[.string e.d.id.a, .int .i64 e.d.id.n]) (entsOf (adds (E.take k))).toList).run Tryz.prog w = .ok none w)
    (hs1 : sort2 (fun x y => cmpId x.node y.node) N = N) (hs2 : sort2 (fun x y => cmpId x.node y.node) N.reverse = N) (hok : ∀ k e, E[k]? = some e → StepOk (regRun (E.take k)) e) :
    Calls Tryz.prog 15 #[.agg #[.slice none 0 0, .slice none 0 0], v] w fun e w' => ∃ s1 s2 : SlV, e = .returned (.agg #[.slice s1.a s1.len s1.cap, .slice s2.a s2.len s2.cap]) ∧ tnY.Rd w' s1.v N ∧ RRegs w' s2.v (regRun E) ∧ Below w.heap.size w w' := by
  obtain ⟨i0, hi, hz0, hz1, hz2⟩ := info_parts info45
  have HMT := Lib.hid (fun (v : Value) (W : World) (hW : Edits W v E) => mtApply_any E v W hW hl N hN hN2 hkind hpar hnew hs1 hs2)
  have HRG := Lib.hid (fun (v : Value) (W : World) (hW : Edits W v E) => regApply_any E v W hW hl hok)
  obtain ⟨hv, hd⟩ := hE
  obtain ⟨b, off, cap, rfl, hrange⟩ : ∃ b off cap, v = .slice (some ⟨b, off, none⟩) E.length cap ∧ w.rangeAt b off (edY.flat (E.map (·.d))) := by
    rcases hv with ⟨_, h2⟩ | ⟨b, off, cap, h1, _, h3⟩
    · have : E.length = 0 := by have := congrArg List.length h2; simpa using this
      omega
    · exact ⟨b, off, cap, by rw [h1, List.length_map], h3⟩
  have hkk : ∀ e ∈ E.map (·.d), e.kind = 1 ∨ e.kind = 3 := by
    intro e he
    obtain ⟨x, hx, rfl⟩ := List.mem_map.1 he
    obtain ⟨k, hk⟩ := List.getElem?_of_mem hx
    exact (hkind k x hk).1
  have hb0 := below2 w (.cells #[.slice none 0 0, .slice none 0 0] 28) (.cells #[.slice none 0 0, .slice none 0 0] 28)
  have HLV := Lib.hid (live_any (E.map (·.d)) b off cap ((w.alloc (.cells #[.slice none 0 0, .slice none 0 0] 28)).alloc (.cells #[.slice none 0 0, .slice none 0 0] 28)) (rangeAt_below hrange hb0) (by simpa using hl) (by simpa using hpos) hkk)
  rw [List.length_map] at HLV
  have R2 : ((w.alloc (.cells #[.slice none 0 0, .slice none 0 0] 28)).alloc (.cells #[.slice none 0 0, .slice none 0 0] 28)).heap[w.heap.size]? = _ := box2.1
  have R4 : ((w.alloc (.cells #[.slice none 0 0, .slice none 0 0] 28)).alloc (.cells #[.slice none 0 0, .slice none 0 0] 28)).heap[w.heap.size + 1]? = _ := box2.2
  have HRA := Lib.hid hrange
  have HD := Lib.hid hd
  clear hv hd hkind hpar hnew hs1 hs2 hok hrange hkk hN
  generalize hn : E.length = n at *
  have HN := Lib.hid hn
  clear hn
  go_enter Tryz.func15, Tryz.ntmps15
  go_wp2_with fail
  refine HLV.out.mono ?_
  rintro e w1 ⟨v1, rfl, ho1, hb1⟩
  have R2 := (hb1.block _ (lt_of_block R2)).trans R2
  have R4 := (hb1.block _ (lt_of_block R4)).trans R4
  have hbw : Below w.heap.size w w1 := hb0.trans (hb1.mono hb0.size)
  obtain ⟨g1, c1, hv1⟩ : ∃ g c, v1 = .slice (some ⟨g, 0, none⟩) n c := by
    rcases ho1.2 with ⟨_, h⟩ | ⟨g, cap, cur, h, _⟩
    · omega
    · exact ⟨g, cap, h⟩
  subst hv1
  have hb2 := ownsRow_rangeAt ho1
  have HB2 := Lib.hid hb2
  have HBW := Lib.hid hbw
  have HR2 := Lib.hid R2
  have HR4 := Lib.hid R4
  clear ho1 hb1 hb2 hbw R2 R4 hb0 HLV
  go_wp2
  go_loopg [5, 11] n (fun gn t5 t11 wr => ∃ (k : Nat) (s : SlV), k + gn = n ∧ t11 = .int .i64 k ∧ t5 = .slice s.a s.len s.cap ∧ wr.ownsRow w1.heap.size 45 18 s.v k (edY.flat ((E.take k).map (·.d))) ∧ Below w1.heap.size w1 wr)
  case atStart => exact ⟨0, SlV.nil, by omega, rfl, rfl, owns_nil0 _ _ _ _, Below.refl _ _⟩
  case round =>
    obtain ⟨G, rfl⟩ : ∃ G, G = gk := ⟨_, rfl⟩
    obtain ⟨k, s, hk, rfl, rfl, hown, hbel⟩ := hrel
    have HK := Lib.hid hk
    have hsz : w1.heap.size ≤ wr.heap.size := hbel.size
    have HBEL := Lib.hid hbel
    have HOWN := Lib.hid hown
    clear hk
    by_cases hlt : k < n
    · have hx : E[k]? = some (E[k]'(by rw [HN.out]; exact hlt)) := List.getElem?_eq_getElem _
      generalize E[k]'(by rw [HN.out]; exact hlt) = e at hx
      have HX := Lib.hid hx
      have hxd : (E.map (·.d))[k]? = some e.d := by rw [List.getElem?_map, hx]; rfl
      have hrx : wr.rangeAt b (off + k * 18) (edV e.d) := rangeAt_below (rangeAt_below (edY.elem HRA.out k e.d hxd) (HBW.out)) hbel
      have hlv : wr.cell? ⟨g1, k, none⟩ = some (.bool true) := by
        have h1 : w1.cell? ⟨g1, 0 + k, none⟩ = some (.bool true) := HB2.out k (.bool true) (by simp [hlt])
        rw [Nat.zero_add] at h1
        exact (hbel.cell (p := ⟨g1, k, none⟩) (World.block_lt_of_cell? _ _ h1)).trans h1
      have hltZ : (k : Int) < (n : Int) := by omega
      have HOA := Lib.hid (hown.alloc (.cells (edV e.d).toArray 45))
      unfold edV at hrx
      clear hx hxd hown hbel
      go_wp2_with (first
        | refine wpList_load_mid rfl 45 _ rfl b (off + k * 18) rfl _ _ hrx Tryz.underlying45 rfl (by kernel_rfl) ?_
        | (at_builtin; refine wpList_append_own_at _ rfl _ _ 22 rfl w1.heap.size 45 i0 (.agg z45) 18 232 Tryz.underlying22 hi hz0 hz1 hz2 rfl (by decide) s.v k _ rfl HOA.out ⟨wr.heap.size, 0, none⟩ 1 1 (edV e.d) rfl rfl (news_of (alloc_get _ _ _ rfl)) (edY.one e.d) (by unfold maxLen; omega) (by omega) (by simp; omega) ?_; intro v2 w2 hown1 hg1 _ hloc1))
      have hb1 := (HBEL.out.alloc hsz (.cells (edV e.d).toArray 45)).grown hg1 (by simp; omega) (fun j hj => (HOA.out.lt j hj).1)
      have hown3 : w2.ownsRow w1.heap.size 45 18 v2 (k + 1) (edY.flat ((E.take (k + 1)).map (·.d))) := by
        rw [list_snoc E k e HX.out, List.map_append, edY.flat_append]
        have : edY.flat ([e].map (·.d)) = edV e.d := by simp [Lay.flat, edY]
        rw [this]; exact hown1
      obtain ⟨s1, hs1⟩ := ownsForm hown1
      subst hs1
      clear hown1 hg1 hloc1 hrx hlv
      go_wp2
      go_roundg (n - 1 - k)
      case rel => exact ⟨k + 1, s1, by have := HK.out; omega, by go_num, rfl, hown3, hb1⟩
      case measure => have := HK.out; omega
    · obtain rfl : k = n := by have := HK.out; omega
      have hEd : Edits wr (.slice s.a s.len s.cap) E := by
        refine ⟨?_, fun e he => ?_⟩
        · have h1 := HOWN.out
          rw [← HN.out, List.take_length] at h1
          exact Lay.Rd.of_owns (Y := edY) (by rw [List.length_map]; exact h1)
        · have h2 := HD.out e he
          exact ⟨(h2.1.below HBW.out).below HBEL.out, h2.2⟩
      have ED := Edits.below hEd (Below.refl _ _).drew
      have R2 : wr.drew.heap[w.heap.size]? = _ := (HBEL.out.block _ (lt_of_block HR2.out)).trans HR2.out
      have R4 : wr.drew.heap[w.heap.size + 1]? = _ := (HBEL.out.block _ (lt_of_block HR4.out)).trans HR4.out
      have BL : Below w.heap.size w wr.drew := (HBW.out.trans (HBEL.out.mono HBW.out.size)).drew
      clear hown hbel hEd
      go_wp2_with fail
      go_region_held3 (fun w' => w'.cell? ⟨w.heap.size, 0, none⟩ = some (.slice none 0 0) ∧ w'.cell? ⟨w.heap.size, 1, none⟩ = some (.slice none 0 0))
        (first
          | with_reducible exact two_cells R2
          | exact ⟨far1 (two_cells R2).1 (by omega), far1 (two_cells R2).2 (by omega)⟩
          | go_keep)
        (first
          | (go_at_call 39; have gd := RR; refine (HMT.out _ _ ED).mono ?_; rintro e w4 ⟨v3, rfl, ho, hb⟩; obtain ⟨s3, hs3⟩ := ownsForm ho; subst hs3; have NN := Lay.Rd.of_owns (Y := tnY) ho; have RR := RR.below hb; have ED := ED.below hb; have R2 := (hb.block _ (lt_of_block R2)).trans R2; have R4 := (hb.block _ (lt_of_block R4)).trans R4; have BL := BL.trans (hb.mono BL.size); have q1 := two_cells R4; have q10 := q1.1; have q11 := q1.2; have q2 := two_free R4; have q20 := q2.1; have q21 := q2.2)
          | (go_at_call 39; refine (HMT.out _ _ ED).mono ?_; rintro e w4 ⟨v3, rfl, ho, hb⟩; obtain ⟨s3, hs3⟩ := ownsForm ho; subst hs3; have NN := Lay.Rd.of_owns (Y := tnY) ho; have ED := ED.below hb; have R2 := (hb.block _ (lt_of_block R2)).trans R2; have R4 := (hb.block _ (lt_of_block R4)).trans R4; have BL := BL.trans (hb.mono BL.size))
          | (go_at_call 40; have gd := NN; refine (HRG.out _ _ ED).mono ?_; rintro e w5 ⟨v4, rfl, ho, hb⟩; have hoo := ho; obtain ⟨ds4, ho4, hr4⟩ := hoo; obtain ⟨s4, hs4⟩ := ownsForm ho4; subst hs4; have RR := ho.read; have NN := NN.below hb; have ED := ED.below hb; have R2 := (hb.block _ (lt_of_block R2)).trans R2; have R4 := (hb.block _ (lt_of_block R4)).trans R4; have BL := BL.trans (hb.mono BL.size); have q1 := two_cells R4; have q10 := q1.1; have q11 := q1.2; have q2 := two_free R4; have q20 := q2.1; have q21 := q2.2)
          | (go_at_call 40; refine (HRG.out _ _ ED).mono ?_; rintro e w5 ⟨v4, rfl, ho, hb⟩; have hoo := ho; obtain ⟨ds4, ho4, hr4⟩ := hoo; obtain ⟨s4, hs4⟩ := ownsForm ho4; subst hs4; have RR := ho.read; have ED := ED.below hb; have R2 := (hb.block _ (lt_of_block R2)).trans R2; have R4 := (hb.block _ (lt_of_block R4)).trans R4; have BL := BL.trans (hb.mono BL.size)))
      all_goals go_wp2
      all_goals exact bodyPost_ret (results_cell_row Tryz.results15 _ _ (w.heap.size + 1) 28 _ (0, 0) _ rfl (set2 R4) Tryz.underlying28 rfl (by kernel_rfl)) rfl ⟨s3, s4, rfl,
        NN.past (w.heap.size + 1) (box_slices (x := SlV.nil) (y := SlV.nil) R4) (fun x => ⟨_, rfl⟩) (fun i hi => (heap_setCell_other _ _ _ _ hi).trans (heap_setCell_other _ _ _ _ hi)),
        RR.past (w.heap.size + 1) (box_slices (x := SlV.nil) (y := SlV.nil) R4) (fun i hi => (heap_setCell_other _ _ _ _ hi).trans (heap_setCell_other _ _ _ _ hi)), (BL.setCell (by simp) _).setCell (by simp) _⟩
end Go.Proofs.YteigcnamkfebgaaGreatDoor
