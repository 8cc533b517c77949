import Derived.Test.YtlipahfkfhcniaaDoorS
namespace Go.Proofs.YtlipahfkfhcniaaDoor
open Go.RowKit Go.Maps
/-- a list of entries stays, while nothing that was there is written -/
theorem Rd.kept {w w' : World} {v : Value} {l : List Ent} (h : Rd w v l) (hg : w.grownBy w' none) : Rd w' v l := by
  rcases h with h | ⟨b, off, cap, rfl, hc, hra⟩
  · exact .inl h
  · refine .inr ⟨b, off, cap, rfl, hc, fun j y hj => ?_⟩
    have h1 := hra j y hj
    rw [World.cell?_of_block (w := w) (hg.block b (block_lt_of_cell h1) (by simp))]
    exact h1
def RdB (w : World) (v : Value) (ns : List Int) : Prop := ∃ a c, v = .slice a ns.length c ∧ (0 < ns.length → ∃ b off, a = some ⟨b, off, none⟩ ∧ ∀ j, j < ns.length → w.cell? ⟨b, off + j, none⟩ = some (.int .u8 (ns.getD j 0)))
theorem law5 : Keyed Tryd.prog 5 := int_keyed Tryd.underlying5
theorem wf_u8 {x : Int} (h : 0 ≤ x ∧ x < 256) : (Lit.int .u8 x).wf = true := by
  show (decide ((0 : Int) ≤ x) && decide (x ≤ 255)) = true
  simp; omega
set_option maxHeartbeats 4000000 in
set_option maxRecDepth 100000 in
theorem ret_any (ns : List Int) (v : Value) (w : World) (hv : RdB w v ns) (hlen : ns.length ≤ 9223372036854775807) (hbyt : ∀ n ∈ ns, 0 ≤ n ∧ n < 256) (hT : Tab w) (h0 : 0 < w.heap.size) :
    Calls Tryd.prog 3 #[v] w fun e w' => e = .returned (.bool true) ∧ Below w.heap.size w w' := by
  obtain ⟨a0, c0, rfl, hsrc⟩ := hv
  have HT := Lib.hid hT
  have HS := Lib.hid hsrc
  have HBY := Lib.hid hbyt
  clear hT hsrc hbyt
  have hmm := @run_makeMap Tryd.prog
  go_enter Tryd.func3, Tryd.ntmps3
  go_wp2_with fail
  refine (alive_any w HT.out h0).mono ?_
  rintro e w1 ⟨rfl, hb1⟩
  by_cases h200 : ns.length ≤ 200
  · have hd : decide ((200 : Int) < (ns.length : Int)) = false := by simp; omega
    go_wp2_with fail
    have hm0 : ((w1.alloc (.cells #[.slice none 0 0] 26)).alloc (.map #[] 0)).heap[w1.heap.size]? = some (.cells #[.slice none 0 0] 26 (0, 0)) := alloc_old _ _ _ _ (alloc_get _ _ _ rfl)
    have ho0 : ((w1.alloc (.cells #[.slice none 0 0] 26)).alloc (.map #[] 0)).ownsMap Tryd.prog 5 (plainElem Tryd.prog 3) (w1.heap.size + 1) 0 (Cm ns 0) := by
      have := World.ownsMap_made (H := Unit) (w1.alloc (.cells #[.slice none 0 0] 26)) Tryd.prog 5 (plainElem Tryd.prog 3)
      rw [show (w1.alloc (.cells #[.slice none 0 0] 26)).heap.size = w1.heap.size + 1 by simp] at this
      exact this
    have hbel0 : Below w.heap.size w ((w1.alloc (.cells #[.slice none 0 0] 26)).alloc (.map #[] 0)) := (hb1.alloc hb1.size _).alloc (by simp; have := hb1.size; omega) _
    have hmb : w.heap.size ≤ w1.heap.size := hb1.size
    clear hb1 hd
    generalize w1.heap.size = mb at *
    generalize (w1.alloc (.cells #[.slice none 0 0] 26)).alloc (.map #[] 0) = w2 at *
    go_loopg [24] ns.length (fun gn t wr => ∃ (k : Nat) (a : Option Addr) (n c : Nat), k + gn = ns.length ∧ t = .int .i64 k ∧ wr.heap[mb]? = some (.cells #[.slice a n c] 26 (0, 0)) ∧ Rd wr (.slice a n c) (memoD (lastD ns k)) ∧
      wr.ownsMap Tryd.prog 5 (plainElem Tryd.prog 3) (mb + 1) k (Cm ns k) ∧ Below w.heap.size w wr)
    case atStart => exact ⟨0, none, 0, 0, by omega, rfl, hm0, .inl ⟨rfl, rfl⟩, ho0, hbel0⟩
    case round =>
      clear hm0 ho0 hbel0
      obtain ⟨k, a1, n1, c1, hk, rfl, hm, hr, hown, hbel⟩ := hrel
      have HK := Lib.hid hk
      clear hk
      have hcm := cell_of_one hm
      have hfm := free_of_one hm
      have hlm := lt_of_block hm
      by_cases hlt : k < ns.length
      · obtain ⟨b, off, rfl, hcb⟩ := HS.out (by omega)
        obtain ⟨x, hx⟩ : ∃ x, x = ns.getD k 0 := ⟨_, rfl⟩
        have hcx : wr.cell? ⟨b, off + k, none⟩ = some (.int .u8 x) := by
          have := hcb k hlt
          rw [← hx] at this
          exact (hbel.cell (block_lt_of_cell this)).trans this
        have hxb : 0 ≤ x ∧ x < 256 := by
          rw [hx]
          refine HBY.out _ ?_
          show ns.getD k 0 ∈ ns
          rw [List.getD, List.getElem?_eq_getElem hlt]
          exact List.getElem_mem _
        have hstep := memo_step (lastD_byt HBY.out k (by omega)) (lastD_nodup ns k) hxb k
        have HX := Lib.hid hx
        have HXB := Lib.hid hxb
        have HST := Lib.hid hstep
        clear hx hxb hstep hcb
        have hconv := conv2 wr 107 x
        have hbA : Below wr.heap.size wr (wr.alloc (.cells #[.int .u8 107, .int .u8 x] 5)) := (Below.refl _ _).alloc (Nat.le_refl _) _
        have hTr : Tab wr := HT.out.below hbel h0
        have hzr : 0 < wr.heap.size := by omega
        have hlt2 : (k : Int) < (ns.length : Int) := by omega
        go_wp2_with fail
        refine (put_any (memoD (lastD ns k)) (.slice a1 n1 c1) (keyN x) 0 k _ (by rw [memo_len]; omega) (by rw [keyN_size]; omega) (hr.below hbA) (hTr.below hbA hzr) (by simp)).mono ?_
        rintro e w3 ⟨s3, rfl, hr3, hb3⟩
        obtain ⟨a3, n3, c3, rfl⟩ := hr3.form
        have hm3 : w3.heap[mb]? = some (.cells #[.slice a1 n1 c1] 26 (0, 0)) := (hb3.block _ (by simp; omega)).trans (alloc_old _ _ _ _ hm)
        have hcm3 := cell_of_one hm3
        have hfm3 := free_of_one hm3
        have hbel3 : Below w.heap.size w w3 := (hbel.alloc hbel.size _).trans (hb3.mono (by simp; have := hbel.size; omega))
        have hown3 := (hown.alloc (.cells #[.int .u8 107, .int .u8 x] 5)).kept (below_none hb3) (by simp)
        have hr4 := hr3.set_one (x := .slice a3 n3 c3) hm3
        have hm4 : (w3.setCell ⟨mb, 0, none⟩ (.slice a3 n3 c3)).heap[mb]? = some (.cells #[.slice a3 n3 c3] 26 (0, 0)) := one_setCell hm3
        have hbel4 := hbel3.setCell (p := ⟨mb, 0, none⟩) hmb (.slice a3 n3 c3)
        have hown4 : (w3.setCell ⟨mb, 0, none⟩ (.slice a3 n3 c3)).ownsMap Tryd.prog 5 (plainElem Tryd.prog 3) (mb + 1) k (Cm ns k) := hown3.setCell (by simp) _
        have hsz4 : w.heap.size ≤ (w3.setCell ⟨mb, 0, none⟩ (.slice a3 n3 c3)).heap.size := hbel4.size
        clear hb3 hm hr hbel hTr hbA hconv hcm hfm hlm hown3 hr3 hbel3 hown hcx
        go_wp2_with (first
          | (at_mapUpdate; go_loud (refine wpList_mapUpdate_own _ rfl _ _ _ 27 rfl 5 3 law5 Tryd.underlying27 _ (mb + 1) k _ rfl hown4 (by unfold maxLen; omega) _ _ _ rfl rfl (keyOf_int_mk Tryd.underlying5 (wf_u8 HXB.out)) _ [] (plainElem_int Tryd.underlying3 (WalkArith.wf_i64 (by omega))) ?_; intro w5 hown5 hg5))
          | go_in)
        have hkk := HK.out
        go_roundg (ns.length - 1 - k)
        case rel =>
          refine ⟨k + 1, a3, n3, c3, by omega, by go_num, box_grown hm4 hg5 (by omega), ?_, ?_, hbel4.grown hg5 hsz4 (fun j hj => by cases hj; omega)⟩
          · have h1 := hr4.grown hg5 (no_cell_owns hown4)
            rw [HST.out, HX.out] at h1
            exact h1
          · have h1 := hown5
            rw [HX.out] at h1
            exact h1
        case measure => omega
      · have hkk := HK.out
        obtain rfl : k = ns.length := by omega
        clear HS HK hkk hlt
        have hn1 : n1 ≤ 64 ∧ n1 ≤ (lastD ns ns.length).length ∧ (n1 = 64 ∨ n1 = (lastD ns ns.length).length) := by
          have h1 := memo_len (lastD ns ns.length)
          have h2 := hr.len
          omega
        have HN1 := Lib.hid hn1
        clear hn1
        go_wp2_with (first
          | (at_range; refine wpList_range_own _ rfl _ 27 rfl 5 3 law5 Tryd.underlying27 _ (mb + 1) ns.length _ rfl hown ?_; intro w5 hrg5 hg5 hs5)
          | go_in)
        go_frame
        have hm5 := (hg5.block mb hlm (by simp)).trans hm
        have hr5 := hr.kept hg5
        have hbel5 := hbel.grown hg5 hbel.size (fun j hj => by cases hj)
        have hrb : mb + 1 < wr.heap.size := hown.lt
        clear hm hr hbel hown hg5 hs5 hcm hfm hlm
        generalize wr.heap.size = rb at *
        go_loopg [7] (Maps.size (Cm ns ns.length)) (fun gn _ wq => ∃ left : Lit → Bool, wq.ranges Tryd.prog 5 (plainElem Tryd.prog 3) (mb + 1) rb ns.length (Cm ns ns.length) left gn ∧ wq.heap[mb]? = some (.cells #[.slice a1 n1 c1] 26 (0, 0)) ∧
          Rd wq (.slice a1 n1 c1) (memoD (lastD ns ns.length)) ∧ Below w.heap.size w wq)
        case atStart => exact ⟨_, hrg5, hm5, hr5, hbel5⟩
        case round =>
          clear hrg5 hm5 hr5 hbel5
          obtain ⟨left, hrg, hm, hr, hbel⟩ := hrel
          have hcm := cell_of_one hm
          have hlm := lt_of_block hm
          go_wp2_with (first
            | (at_next; refine wpList_next_ranges_ii _ rfl _ rfl 5 3 .u8 .i64 law5 Tryd.underlying5 Tryd.underlying3 (mb + 1) rb ns.length _ _ _ rfl hrg ?_ ?_)
            | go_in)
          · intro _ _
            have hown := hrg.owns
            have hsz := Cm_size ns ns.length
            go_wp2_with (first
              | (at_len; refine wpList_len_own _ rfl _ 27 rfl 5 3 Tryd.underlying27 _ (mb + 1) ns.length _ rfl hown ?_)
              | go_in)
            all_goals (have hn1 := HN1.out; go_ret; refine ⟨?_, hbel⟩; show Ending.returned (Value.bool (_ == (_ : Int))) = Ending.returned (Value.bool true); simp only [Ending.returned.injEq, Value.bool.injEq, beq_iff_eq]; omega)
          · intro x c w6 cnt6 hwx hwc hlx hat hrg6 hlt6 hg6 hs6 hen6
            obtain ⟨i, rfl, hmem⟩ := Cm_out ns ns.length x c hat
            have hm6 := box_grown hm hg6 (by omega)
            have hr6 := hr.grown hg6 (no_cell_ranges hrg)
            have hbel6 := hbel.grown hg6 hbel.size (fun j hj => by cases hj; omega)
            clear hm hr hbel hcm hlm hrg hg6 hs6 hwx hwc hlx hat
            have HMEM := Lib.hid hmem
            clear hmem
            go_wp2_with (first
              | (at_range; refine wpList_range_own _ rfl _ 27 rfl 5 3 law5 Tryd.underlying27 _ (mb + 1) ns.length _ rfl hrg6.owns ?_; intro w7 hrg7 hg7 hs7)
              | go_in)
            go_frame
            have hrgo := hrg6.kept hg7 (by simp) (by simp)
            have hm7 := (hg7.block mb (lt_of_block hm6) (by simp)).trans hm6
            have hr7 := hr6.kept hg7
            have hbel7 := hbel6.grown hg7 hbel6.size (fun j hj => by cases hj)
            have hrb2 : rb < w6.heap.size := hrg6.lt
            clear hm6 hr6 hbel6 hrg6 hg7 hs7 hen6
            generalize w6.heap.size = rb2 at *
            go_loopg [9] (Maps.size (Cm ns ns.length)) (fun gm t wq => ∃ l2 : Lit → Bool, t = .int .i64 ((cntB (lastD ns ns.length) l2 i : Nat) : Int) ∧ wq.ranges Tryd.prog 5 (plainElem Tryd.prog 3) (mb + 1) rb2 ns.length (Cm ns ns.length) l2 gm ∧
              wq.ranges Tryd.prog 5 (plainElem Tryd.prog 3) (mb + 1) rb ns.length (Cm ns ns.length) (fun z => left z && !z.sameKey (.int .u8 x)) cnt6 ∧ wq.heap[mb]? = some (.cells #[.slice a1 n1 c1] 26 (0, 0)) ∧
              Rd wq (.slice a1 n1 c1) (memoD (lastD ns ns.length)) ∧ Below w.heap.size w wq)
            case atStart => exact ⟨_, by rw [cntB_start]; rfl, hrg7, hrgo, hm7, hr7, hbel7⟩
            case round =>
              clear hrg7 hrgo hm7 hr7 hbel7
              obtain ⟨l2, ht2, hrg2, hrgo, hm, hr, hbel⟩ := hrel
              have hcm := cell_of_one hm
              have hlm := lt_of_block hm
              obtain ⟨q, hq⟩ : ∃ q, q = cntB (lastD ns ns.length) l2 i := ⟨_, rfl⟩
              rw [← hq] at ht2
              subst ht2
              have hq2 : q ≤ 200 := by have h1 := cntB_le (lastD ns ns.length) l2 i; have h2 := lastD_len_le ns ns.length; omega
              have HQ := Lib.hid hq
              clear hq
              go_wp2_with (first
                | (at_next; refine wpList_next_ranges_ii _ rfl _ rfl 5 3 .u8 .i64 law5 Tryd.underlying5 Tryd.underlying3 (mb + 1) rb2 ns.length _ _ _ rfl hrg2 ?_ ?_)
                | go_in)
              · intro _ hl0
                have hqb : q = behindN (lastD ns ns.length) i := by rw [HQ.out, cntB_end _ _ _ hl0]
                have hmg := memo_get (lastD_byt HBY.out ns.length (Nat.le_refl _)) (lastD_nodup ns ns.length) (lastD_sorted ns ns.length) HMEM.out
                simp only at hmg
                rw [← hqb] at hmg
                have HMG := Lib.hid hmg
                clear hmg hl0 hqb HQ hrg2
                have hconv := conv2 wr 107 x
                have hbA : Below wr.heap.size wr (wr.alloc (.cells #[.int .u8 107, .int .u8 x] 5)) := (Below.refl _ _).alloc (Nat.le_refl _) _
                have hTr : Tab wr := HT.out.below hbel h0
                have hzr : 0 < wr.heap.size := by omega
                go_wp2_with fail
                have hget := get_any (memoD (lastD ns ns.length)) (.slice a1 n1 c1) (keyN x) _ (by rw [memo_len]; omega) (by rw [keyN_size]; omega) (hr.below hbA) (memo_nil _) (hTr.below hbA hzr) (by simp)
                have hbelA := hbel.alloc hbel.size (.cells #[.int .u8 107, .int .u8 x] 5)
                have hmA := alloc_old _ _ (.cells #[.int .u8 107, .int .u8 x] 5) _ hm
                have hrA := hr.below hbA
                have hrgA := hrgo.alloc (.cells #[.int .u8 107, .int .u8 x] 5)
                clear hconv hTr hbA hcm hlm hm hr hbel hrgo hzr
                by_cases hq64 : q < 64
                · have hgr : getR (keyN x) (memoD (lastD ns ns.length)) = .tuple #[bodyV 0, .int .i64 (i : Nat), .bool true] := by
                    unfold getR; rw [HMG.out.1 hq64]; rfl
                  refine hget.mono ?_
                  rw [hgr]
                  unfold bodyV
                  rintro e w9 ⟨rfl, hb9⟩
                  have hrg9 := (hrgA.kept (below_none hb9) (by simp) (by simp)).alloc (.cells #[.int .i64 0, .slice none 0 0, .slice none 0 0] 34)
                  have hm9 := alloc_old _ _ (.cells #[.int .i64 0, .slice none 0 0, .slice none 0 0] 34) _ ((hb9.block _ (lt_of_block hmA)).trans hmA)
                  have hr9 := (hrA.below hb9).below ((Below.refl _ _).alloc (Nat.le_refl _) (.cells #[.int .i64 0, .slice none 0 0, .slice none 0 0] 34))
                  have hbel9 := (hbelA.trans (hb9.mono hbelA.size)).alloc (hbelA.trans (hb9.mono hbelA.size)).size (.cells #[.int .i64 0, .slice none 0 0, .slice none 0 0] 34)
                  have hq64' : (q : Int) < 64 := by omega
                  clear hget hgr hb9 hrgA hmA hrA hbelA
                  go_wp2
                  go_roundg cnt6
                  case rel => exact ⟨_, hrg9, hm9, hr9, hbel9⟩
                  case measure => omega
                · have hgr : getR (keyN x) (memoD (lastD ns ns.length)) = .tuple #[bodyV 0, .int .i64 0, .bool false] := by
                    unfold getR; rw [HMG.out.2 (by omega)]
                  refine hget.mono ?_
                  rw [hgr]
                  unfold bodyV
                  rintro e w9 ⟨rfl, hb9⟩
                  have hrg9 := (hrgA.kept (below_none hb9) (by simp) (by simp)).alloc (.cells #[.int .i64 0, .slice none 0 0, .slice none 0 0] 34)
                  have hm9 := alloc_old _ _ (.cells #[.int .i64 0, .slice none 0 0, .slice none 0 0] 34) _ ((hb9.block _ (lt_of_block hmA)).trans hmA)
                  have hr9 := (hrA.below hb9).below ((Below.refl _ _).alloc (Nat.le_refl _) (.cells #[.int .i64 0, .slice none 0 0, .slice none 0 0] 34))
                  have hbel9 := (hbelA.trans (hb9.mono hbelA.size)).alloc (hbelA.trans (hb9.mono hbelA.size)).size (.cells #[.int .i64 0, .slice none 0 0, .slice none 0 0] 34)
                  have hq64' : decide ((q : Int) < 64) = false := by simp; omega
                  clear hget hgr hb9 hrgA hmA hrA hbelA
                  go_wp2
                  go_roundg cnt6
                  case rel => exact ⟨_, hrg9, hm9, hr9, hbel9⟩
                  case measure => omega
              · intro x2 c2 w8 cnt8 hwx hwc hlx hat hrg8 hlt8 hg8 hs8 hen8
                obtain ⟨j, rfl, hmem2⟩ := Cm_out ns ns.length x2 c2 hat
                have hstep := cntB_step (lastD ns ns.length) (lastD_nodup ns ns.length) l2 i (x2, j) hmem2 hlx
                simp only at hstep
                rw [← HQ.out] at hstep
                have HSTEP := Lib.hid hstep
                have hne2 := hrg2.ne
                have hrgo8 := hrgo.kept hg8 (fun e => by have := Option.some.inj e; omega) (fun e => by have := Option.some.inj e; omega)
                have hm8 := box_grown hm hg8 (by omega)
                have hr8 := hr.grown hg8 (no_cell_ranges hrg2)
                have hbel8 := hbel.grown hg8 hbel.size (fun j hj => by cases hj; omega)
                clear hstep hmem2 hm hr hbel hrgo hcm hlm hrg2 hg8 hs8 hwx hwc hlx hat HQ
                by_cases hij : i < j
                · have hij' : (i : Int) < (j : Int) := by omega
                  go_wp2
                  go_roundg cnt8
                  case rel =>
                    refine ⟨_, ?_, hrg8, hrgo8, hm8, hr8, hbel8⟩
                    have h := HSTEP.out
                    rw [if_pos hij] at h
                    refine Eq.trans ?_ (congrArg (fun n : Nat => Value.int .i64 (n : Int)) h.symm)
                    go_num
                  case measure => omega
                · have hij' : decide ((i : Int) < (j : Int)) = false := by simp; omega
                  go_wp2
                  go_roundg cnt8
                  case rel =>
                    refine ⟨_, ?_, hrg8, hrgo8, hm8, hr8, hbel8⟩
                    have h := HSTEP.out
                    rw [if_neg hij] at h
                    exact congrArg (fun n : Nat => Value.int .i64 (n : Int)) h.symm
                  case measure => omega
  · go_wp2
    go_ret
    exact ⟨rfl, hb1⟩
end Go.Proofs.YtlipahfkfhcniaaDoor
