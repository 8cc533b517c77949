import Derived.Test.YtlipahfkfhcniaaDoorNB
import Derived.Deep.DeepCutAuto
import Derived.Deep.CutBlock
namespace Go.Proofs.YtlipahfkfhcniaaDoor
open Go.RowKit
set_option maxHeartbeats 40000000 in
set_option maxRecDepth 100000 in
theorem isol_any (acts : List ActD) (one two : ActD) (v : Value) (w : World) (hv : RdA w v acts) (hlen : acts.length ≤ 9223372036854775807) (hT : Tab w) (h0 : 0 < w.heap.size) :
    Calls Tryd.prog 4 #[v, .agg (actV one).toArray, .agg (actV two).toArray] w fun e w' => e = .returned (.bool true) ∧ Below w.heap.size w w' := by
  obtain ⟨a0, c0, rfl, hsrc⟩ := hv
  have HT := Lib.hid hT
  have HS := Lib.hid hsrc
  clear hT hsrc
  obtain ⟨i0, hi, hz0, hz1, hz2⟩ := info_parts info41
  unfold actV
  go_enter Tryd.func4, Tryd.ntmps4
  go_wp2_with fail
  have hbA : ∀ a b : Obj, Below w.heap.size w ((w.alloc a).alloc b) := fun a b => ((Below.refl _ _).alloc (Nat.le_refl _) _).alloc (by simp) _
  refine (alive_any _ (HT.out.below (hbA _ _) h0) (by simp)).mono ?_
  rintro e w1 ⟨rfl, hb1⟩
  have hI : IB w w1 one two := ⟨(hb1.block _ (by simp; omega)).trans (alloc_old _ _ _ _ (alloc_get _ _ _ rfl)), (hb1.block _ (by simp)).trans (alloc_get _ _ _ (by simp)), (hbA _ _).trans (hb1.mono (by simp; omega))⟩
  clear hb1 hbA
  have hu0 := lt_of_block hI.k0
  have hu1 := lt_of_block hI.k1
  by_cases h100 : acts.length ≤ 100
  · have c1 : w1.cell? ⟨w.heap.size, 1, none⟩ = some (.string one.key) := by rw [cell_of_row _ _ _ _ _ _ hI.k0]; rfl
    have c2 : w1.cell? ⟨w.heap.size + 1, 1, none⟩ = some (.string two.key) := by rw [cell_of_row _ _ _ _ _ _ hI.k1]; rfl
    have hd : decide ((100 : Int) < (acts.length : Int)) = false := by simp; omega
    cases heq : eqB one.key two.key with
    | true =>
      have heq' : (one.key.toList == two.key.toList) = true := heq
      go_wp2
      go_ret
      exact ⟨rfl, hI.bel⟩
    | false =>
      have heq' : (one.key.toList == two.key.toList) = false := heq
      have hIM : IM w (w1.alloc (.cells #[.slice none 0 0] 26)) one two w1.heap.size (.slice none 0 0) := ⟨hI.step ((Below.refl _ _).alloc (Nat.le_refl _) _), alloc_get _ _ _ rfl, hu1⟩
      clear hI
      go_upto_region 6 with fail
      clear c1 c2 hd
      generalize hmb : w1.heap.size = mb at *
      have HMB := Lib.hid hmb
      clear hmb
      generalize hw2 : w1.alloc (.cells #[.slice none 0 0] 26) = w2 at *
      clear hw2
      go_cut [41, 42, 43] (fun x y z wx => y = .int .i64 ((acts.length + 2 : Nat) : Int) ∧ z = .int .i64 0 ∧ RdA wx x (acts ++ [one, two]) ∧ IM w wx one two mb (.slice none 0 0))
      case first =>
        obtain ⟨s1, s2, s3, s4, s5, s6, s7, s8⟩ := hIM.ib.s0
        have hmbs : mb < w2.heap.size := lt_of_block hIM.m
        have oA : ((w2.alloc (.cells #[] 41)).drew).ownsRow w2.heap.size 41 4 (.slice (some ⟨w2.heap.size, 0, none⟩) 0 0) 0 [] := World.ownsRow_made w2 #[] 0 (Nat.le_refl _) (by decide) rfl
        have iA := (hIM.alloc (.cells #[] 41)).drew
        have oB : (((w2.alloc (.cells #[] 41)).alloc (.cells (flatA [one, two]).toArray 41)).drew).ownsRow w2.heap.size 41 4 (.slice (some ⟨w2.heap.size, 0, none⟩) 0 0) 0 [] := (World.ownsRow_made w2 #[] 0 (Nat.le_refl _) (by decide) rfl).alloc _
        have iB := ((hIM.alloc (.cells #[] 41)).alloc (.cells (flatA [one, two]).toArray 41)).drew
        have nB : (((w2.alloc (.cells #[] 41)).alloc (.cells (flatA [one, two]).toArray 41)).drew).heap[w2.heap.size + 1]? = some (.cells (flatA [one, two]).toArray 41 (0, 0)) := alloc_get _ _ _ (by simp)
        have oC : (((w2.alloc (.cells (flatA [one, two]).toArray 41)).alloc (.cells #[] 41)).drew).ownsRow w2.heap.size 41 4 (.slice (some ⟨w2.heap.size + 1, 0, none⟩) 0 0) 0 [] := by
          have := World.ownsRow_made (base := w2.heap.size) (e := 41) (size := 4) (w2.alloc (.cells (flatA [one, two]).toArray 41)) #[] 0 (by simp) (by decide) rfl
          rw [show (w2.alloc (.cells (flatA [one, two]).toArray 41)).heap.size = w2.heap.size + 1 by simp] at this
          exact this
        have iC := ((hIM.alloc (.cells (flatA [one, two]).toArray 41)).alloc (.cells #[] 41)).drew
        have nC : (((w2.alloc (.cells (flatA [one, two]).toArray 41)).alloc (.cells #[] 41)).drew).heap[w2.heap.size]? = some (.cells (flatA [one, two]).toArray 41 (0, 0)) := alloc_old _ _ _ _ (alloc_get _ _ _ rfl)
        have srcA : ∀ W, Below w.heap.size w W → 0 < acts.length → ∃ ad, a0 = some ad ∧ ∀ j u, (flatA acts)[j]? = some u → W.cell? (ad.add j) = some u := fun W hW h => by
          obtain ⟨b, off, rfl, hr⟩ := HS.out h
          exact ⟨_, rfl, fun j u hu => by rw [Addr.add_mid]; exact rangeAt_below hr hW j u hu⟩
        have HSR := Lib.hid srcA
        clear srcA
        go_region_held3 (fun w' => w'.cell? ⟨w.heap.size, 0, none⟩ = some (.int .i64 one.kind) ∧ w'.cell? ⟨w.heap.size, 1, none⟩ = some (.string one.key) ∧ w'.cell? ⟨w.heap.size, 2, none⟩ = some (.int .i64 one.root) ∧ w'.cell? ⟨w.heap.size, 3, none⟩ = some (.int .i64 one.err) ∧ w'.cell? ⟨w.heap.size + 1, 0, none⟩ = some (.int .i64 two.kind) ∧ w'.cell? ⟨w.heap.size + 1, 1, none⟩ = some (.string two.key) ∧ w'.cell? ⟨w.heap.size + 1, 2, none⟩ = some (.int .i64 two.root) ∧ w'.cell? ⟨w.heap.size + 1, 3, none⟩ = some (.int .i64 two.err))
          (first
            | go_keep
            | exact p7.ib.s0
            | exact p11.ib.s0
            | exact p10.ib.s0
            | exact p9.ib.s0
            | exact p8.ib.s0
            | exact p6.ib.s0)
          (first
            | ((refine step_append_src _ (by rfl) _ _ _ (by rfl) w2.heap.size 41 i0 _ 4 40 Tryd.underlying39 hi hz0 hz1 hz2 rfl (by omega) (.slice (some ⟨w2.heap.size, 0, none⟩) 0 0) 0 [] (by rfl) oA a0 acts.length c0 (flatA acts) (by rfl) (flatA_length acts) (HSR.out _ iA.ib.bel) (flatA_one acts) (by unfold maxLen; omega) (by omega) (by simp) ?_; intro v6 w6 hown6 hg6; have p6 := iA.grown oA hg6 hmbs; have o6 : w6.ownsRow w2.heap.size 41 4 v6 acts.length (flatA acts) := (by simpa using hown6); have z6 : w2.heap.size ≤ w6.heap.size := (by have := hg6.size; simp at this; omega)))
            | ((refine step_append_src _ (by rfl) _ _ _ (by rfl) w2.heap.size 41 i0 _ 4 40 Tryd.underlying39 hi hz0 hz1 hz2 rfl (by omega) v6 acts.length (flatA acts) (by rfl) (o6.alloc _) (some ⟨w6.heap.size, 0, none⟩) 2 2 (flatA [one, two]) (by rfl) (by rfl) (fun _ => ⟨_, rfl, news_new w6 (flatA [one, two]) 41⟩) (flatA_one _) (by unfold maxLen; omega) (by omega) (by simp; omega) ?_; intro v7 w7 hown7 hg7; obtain ⟨g7, cap7, rfl, hg7a, hg7b⟩ := World.ownsRow.form hown7 (by omega); have p7 := (p6.alloc (.cells (flatA [one, two]).toArray 41)).grown (o6.alloc _) hg7 hmbs))
            | ((refine step_append_src _ (by rfl) _ _ _ (by rfl) w2.heap.size 41 i0 _ 4 40 Tryd.underlying39 hi hz0 hz1 hz2 rfl (by omega) (.slice (some ⟨w2.heap.size, 0, none⟩) 0 0) 0 [] (by rfl) oB a0 acts.length c0 (flatA acts) (by rfl) (flatA_length acts) (HSR.out _ iB.ib.bel) (flatA_one acts) (by unfold maxLen; omega) (by omega) (by simp <;> omega) ?_; intro v8 w8 hown8 hg8; have p8 := iB.grown oB hg8 hmbs; have o8 : w8.ownsRow w2.heap.size 41 4 v8 acts.length (flatA acts) := (by simpa using hown8); have z8 : w2.heap.size ≤ w8.heap.size := (by have := hg8.size; simp at this; omega); have n8 : w8.heap[w2.heap.size + 1]? = some (.cells (flatA [one, two]).toArray 41 (0, 0)) := (hg8.block _ (by simp <;> omega) (by simp [Value.ownBlock])).trans nB))
            | ((refine step_append_src _ (by rfl) _ _ _ (by rfl) w2.heap.size 41 i0 _ 4 40 Tryd.underlying39 hi hz0 hz1 hz2 rfl (by omega) v8 acts.length (flatA acts) (by rfl) o8 (some ⟨w2.heap.size + 1, 0, none⟩) 2 2 (flatA [one, two]) (by rfl) (by rfl) (fun _ => ⟨_, rfl, World.news_of_block n8⟩) (flatA_one _) (by unfold maxLen; omega) (by omega) z8 ?_; intro v9 w9 hown9 hg9; obtain ⟨g9, cap9, rfl, hga9, hgb9⟩ := World.ownsRow.form hown9 (by omega); have p9 := p8.grown o8 hg9 hmbs))
            | ((refine step_append_src _ (by rfl) _ _ _ (by rfl) w2.heap.size 41 i0 _ 4 40 Tryd.underlying39 hi hz0 hz1 hz2 rfl (by omega) (.slice (some ⟨w2.heap.size + 1, 0, none⟩) 0 0) 0 [] (by rfl) oC a0 acts.length c0 (flatA acts) (by rfl) (flatA_length acts) (HSR.out _ iC.ib.bel) (flatA_one acts) (by unfold maxLen; omega) (by omega) (by simp <;> omega) ?_; intro v10 w10 hown10 hg10; have p10 := iC.grown oC hg10 hmbs; have o10 : w10.ownsRow w2.heap.size 41 4 v10 acts.length (flatA acts) := (by simpa using hown10); have z10 : w2.heap.size ≤ w10.heap.size := (by have := hg10.size; simp at this; omega); have n10 : w10.heap[w2.heap.size]? = some (.cells (flatA [one, two]).toArray 41 (0, 0)) := (hg10.block _ (by simp <;> omega) (by simp [Value.ownBlock])).trans nC))
            | ((refine step_append_src _ (by rfl) _ _ _ (by rfl) w2.heap.size 41 i0 _ 4 40 Tryd.underlying39 hi hz0 hz1 hz2 rfl (by omega) v10 acts.length (flatA acts) (by rfl) o10 (some ⟨w2.heap.size, 0, none⟩) 2 2 (flatA [one, two]) (by rfl) (by rfl) (fun _ => ⟨_, rfl, World.news_of_block n10⟩) (flatA_one _) (by unfold maxLen; omega) (by omega) z10 ?_; intro v11 w11 hown11 hg11; obtain ⟨g11, cap11, rfl, hga11, hgb11⟩ := World.ownsRow.form hown11 (by omega); have p11 := p10.grown o10 hg11 hmbs)))
        all_goals (go_wp2_with fail; go_meet)
        all_goals (first | exact ⟨by simp, rfl, rdA_of hown7 (by simp), p7⟩ | exact ⟨by simp, rfl, rdA_of hown9 (by simp), p9⟩ | exact ⟨by simp, rfl, rdA_of hown11 (by simp), p11⟩)
      case rest =>
        clear hIM
        obtain ⟨rfl, rfl, hR, hIM⟩ := hcut
        obtain ⟨ax, cx, rfl, hsx⟩ := hR
        obtain ⟨bx, ox, rfl, hrx⟩ := hsx (by simp)
        clear hsx
        have HRX := Lib.hid hrx
        clear hrx
        have hAL : (acts ++ [one, two]).length = acts.length + 2 := by simp
        rw [hAL]
        have HAL := Lib.hid hAL
        clear hAL
        generalize hLL : acts ++ [one, two] = LL at *
        have HLL := Lib.hid hLL
        clear hLL
        generalize hN : acts.length + 2 = N at *
        have HN := Lib.hid hN
        have hN102 : N ≤ 102 := by omega
        clear hN
        go_wp2_with fail
        go_loopg [43] N (fun gn t wr => ∃ k : Nat, k + gn = N ∧ t = .int .i64 k ∧ (∀ i x, i < k → LL[i]? = some x → x.key.size ≤ 100) ∧ IM w wr one two mb (.slice none 0 0) ∧ Below wc.heap.size wc wr)
        case atStart => exact ⟨0, by omega, rfl, fun i x h => absurd h (by omega), hIM, Below.refl _ _⟩
        case round =>
          clear hIM
          obtain ⟨k, hk, rfl, hno, hIM, hbel⟩ := hrel
          have HK := Lib.hid hk
          have HNO := Lib.hid hno
          clear hk hno
          by_cases hlt : k < N
          · have hx : LL[k]? = some (LL[k]'(by rw [HAL.out]; exact hlt)) := List.getElem?_eq_getElem _
            generalize LL[k]'(by rw [HAL.out]; exact hlt) = x at hx
            have HX := Lib.hid hx
            clear hx
            have hrx := rangeA_elem (rangeAt_below HRX.out hbel) k x HX.out
            have hIM2 := hIM.alloc (.cells (actV x).toArray 41)
            have hbel2 := hbel.alloc hbel.size (.cells (actV x).toArray 41)
            go_wp2_with (refine wpList_load_mid rfl 41 _ rfl bx (ox + k * 4) rfl _ _ hrx Tryd.underlying41 rfl (by kernel_rfl) ?_)
            · go_ret
              exact ⟨rfl, hIM2.ib.bel⟩
            · have hle : x.key.size ≤ 100 := by omega
              have hkk := HK.out
              go_roundg (N - 1 - k)
              case rel =>
                refine ⟨k + 1, by omega, by go_num, fun i y hi hy => ?_, hIM2, hbel2⟩
                by_cases hik : i < k
                · exact HNO.out i y hik hy
                · obtain rfl : i = k := by omega
                  have h2 := HX.out
                  rw [hy] at h2
                  obtain rfl := Option.some.inj h2
                  exact hle
              case measure => omega
          · have hkk := HK.out
            obtain rfl : k = N := by omega
            have hkeys : ∀ x ∈ LL, x.key.size ≤ 100 := fun x hx => by
              obtain ⟨i, hi⟩ := List.getElem?_of_mem hx
              exact HNO.out i x (by have := (List.getElem?_eq_some_iff.1 hi).1; rw [HAL.out] at this; exact this) hi
            have hk1 : one.key.size ≤ 100 := hkeys one (by rw [← HLL.out]; simp)
            have hk2 : two.key.size ≤ 100 := hkeys two (by rw [← HLL.out]; simp)
            have hka : ∀ x ∈ acts, x.key.size ≤ 100 := fun x hx => hkeys x (by rw [← HLL.out]; simp [hx])
            have HKA := Lib.hid hka
            clear hkeys hka HK HNO hkk hlt hN102
            go_wp2_with fail
            clear HLL HAL HRX hbel
            go_loopg [54] acts.length (fun gn t wq => ∃ (k : Nat) (a : Option Addr) (n c : Nat), k + gn = acts.length ∧ t = .int .i64 k ∧ IM w wq one two mb (.slice a n c) ∧ Rd wq (.slice a n c) (mL (acts.take k)))
            case atStart => exact ⟨0, none, 0, 0, by omega, rfl, hIM, .inl ⟨rfl, rfl⟩⟩
            case round =>
              clear hIM
              obtain ⟨k, a1, n1, c1, hk, rfl, hIM, hRd⟩ := hrel
              have HK := Lib.hid hk
              clear hk
              have hmc := cell_of_one hIM.m
              have hmf := free_of_one hIM.m
              have hml := lt_of_block hIM.m
              by_cases hlt : k < acts.length
              · obtain ⟨b, off, rfl, hrb⟩ := HS.out (by omega)
                have hx : acts[k]? = some acts[k] := List.getElem?_eq_getElem _
                generalize acts[k] = x at hx
                have HX := Lib.hid hx
                have hxk : x.key.size ≤ 100 := HKA.out x (List.mem_of_getElem? hx)
                clear hx
                have hrx := rangeA_elem (rangeAt_below hrb hIM.ib.bel) k x HX.out
                have hTr : Tab wr := HT.out.below hIM.ib.bel h0
                have hzr : 0 < wr.heap.size := by omega
                have hlt2 : (k : Int) < (acts.length : Int) := by omega
                go_wp2_with (refine wpList_load_mid rfl 41 _ rfl b (off + k * 4) rfl _ _ hrx Tryd.underlying41 rfl (by kernel_rfl) ?_)
                have hbA : Below wr.heap.size wr (wr.alloc (.cells (actV x).toArray 41)) := (Below.refl _ _).alloc (Nat.le_refl _) _
                refine (put_any (mL (acts.take k)) (.slice a1 n1 c1) x.key x.root x.err (wr.alloc (.cells (actV x).toArray 41)) (by have := (good_mL (acts.take k)).len; omega) (by omega) (hRd.below hbA) (hTr.below hbA hzr) (by simp)).mono ?_
                rintro e w3 ⟨s3, rfl, hr3, hb3⟩
                obtain ⟨a3, n3, c3, rfl⟩ := hr3.form
                have hIM3 := (hIM.alloc (.cells (actV x).toArray 41)).step hb3
                have hcm3 := cell_of_one hIM3.m
                have hfm3 := free_of_one hIM3.m
                clear hb3 hIM hRd hTr hbA hrx hmc hmf hml hrb
                go_wp2
                have hkk := HK.out
                go_roundg (acts.length - 1 - k)
                case rel =>
                  refine ⟨k + 1, a3, n3, c3, by omega, by go_num, hIM3.setm, ?_⟩
                  have e : acts.take (k + 1) = acts.take k ++ [x] := by
                    obtain ⟨h1, h2⟩ := List.getElem?_eq_some_iff.1 HX.out
                    rw [List.take_succ_eq_append_getElem h1, h2]
                  rw [e, mL_snoc]
                  exact hr3.set_one hIM3.m
                case measure => omega
              · have hkk := HK.out
                have hke : k = acts.length := by omega
                rw [hke, List.take_length] at hRd
                have hge : (acts.length : Int) ≤ (k : Int) := by omega
                clear hke HK hkk hlt
                obtain ⟨s1, s2, s3, s4, s5, s6, s7, s8⟩ := hIM.ib.s0
                have hgood := good_mL acts
                have hKL := mL_keys 100 acts HKA.out
                generalize hml : mL acts = ml at *
                clear hml
                have HKL := Lib.hid hKL
                clear hKL
                have hgood1 := good_put hgood one.key one.root one.err
                go_wp2_with fail
                refine (putC_any ml (.slice a1 n1 c1) one wr (by have := hgood.len; omega) (by omega) hRd (HT.out.below hIM.ib.bel h0) (by omega)).mono ?_
                rintro e w3 ⟨sn, rfl, hrn, hb3⟩
                obtain ⟨a3, n3, c3, rfl⟩ := hrn.form
                have hIX : IX w (w3.alloc (.cells #[.slice a3 n3 c3] 26)) one two mb (.slice a1 n1 c1) w3.heap.size (.slice a3 n3 c3) := ⟨(hIM.step hb3).alloc _, alloc_get _ _ _ rfl, Nat.lt_of_lt_of_le hml hb3.size⟩
                have hRm := (hRd.below hb3).below ((Below.refl w3.heap.size w3).alloc (Nat.le_refl _) (.cells #[.slice a3 n3 c3] 26))
                have hRn := hrn.below ((Below.refl w3.heap.size w3).alloc (Nat.le_refl _) (.cells #[.slice a3 n3 c3] 26))
                have hmc3 := cell_of_one (hIM.step hb3).m
                have hml3 := lt_of_block (hIM.step hb3).m
                clear hIM hRd hb3 hrn s1 s2 s3 s4 s5 s6 s7 s8 hmc hmf hml HS HKA
                go_wp2_with fail
                generalize hw5 : w3.alloc (.cells #[.slice a3 n3 c3] 26) = w5 at *
                clear hw5 hmc3 hml3
                generalize hnb : w3.heap.size = nb at *
                clear hnb
                have hnl : n1 = ml.length := hRm.len
                have hn64 : n1 ≤ 64 := by rw [hnl]; exact hgood.len
                have HNL := Lib.hid hnl
                clear hnl
                generalize hml1 : putL one.key one.root one.err ml = mn at *
                have HMN := Lib.hid hml1
                clear hml1
                go_loopg [76] n1 (fun gn t wq => ∃ i : Nat, i + gn = n1 ∧ t = .int .i64 i ∧ IX w wq one two mb (.slice a1 n1 c1) nb (.slice a3 n3 c3) ∧ Below w5.heap.size w5 wq)
                case atStart => exact ⟨0, by omega, rfl, hIX, Below.refl _ _⟩
                case round =>
                  clear hIX
                  obtain ⟨i, hi', rfl, hIX, hbel⟩ := hrel
                  have HI := Lib.hid hi'
                  clear hi'
                  have hmc := cell_of_one hIX.im.m
                  have hml := lt_of_block hIX.im.m
                  have hnc := cell_of_one hIX.n
                  have hnl := lt_of_block hIX.n
                  by_cases hlt : i < n1
                  · have hlt2 : (i : Int) < (n1 : Int) := by omega
                    have hx : ml[i]? = some (ml[i]'(by rw [← HNL.out]; exact hlt)) := List.getElem?_eq_getElem _
                    generalize ml[i]'(by rw [← HNL.out]; exact hlt) = x at hx
                    have HX := Lib.hid hx
                    clear hx
                    rcases hRm with ⟨h1, _⟩ | ⟨b, off, cap, h1, hcap, hr⟩
                    · exfalso; cases h1; omega
                    · cases h1
                      have hnx := hgood.nil x (List.mem_of_getElem? HX.out)
                      have hrx : wr.rangeAt b (off + i * 6) [.string x.sum, .string x.key, .int .i64 x.root, .slice none 0 0, .slice none 0 0, .int .i64 x.err] := by
                        have := rangeAt_elem (rangeAt_below hr hbel) i x HX.out
                        unfold entV at this
                        rw [hnx.1, hnx.2] at this
                        exact this
                      have hxk := HKL.out x (List.mem_of_getElem? HX.out)
                      have hbA : Below wr.heap.size wr (wr.alloc (.cells #[.string x.sum, .string x.key, .int .i64 x.root, .slice none 0 0, .slice none 0 0, .int .i64 x.err] 45)) := (Below.refl _ _).alloc (Nat.le_refl _) _
                      have hRn1 := ((hRn.below hbel).below hbA)
                      have hT1 : Tab (wr.alloc (.cells #[.string x.sum, .string x.key, .int .i64 x.root, .slice none 0 0, .slice none 0 0, .int .i64 x.err] 45)) := HT.out.below (hIX.im.ib.bel.alloc hIX.im.ib.bel.size _) h0
                      have hget := get_any mn (.slice a3 n3 c3) x.key _ (by have := hgood1.len; omega) (by omega) hRn1 hgood1.nil hT1 (by simp)
                      have HGET := Lib.hid hget
                      clear hget hT1 hRn1 hr hnx
                      have hIXA := hIX.alloc (.cells #[.string x.sum, .string x.key, .int .i64 x.root, .slice none 0 0, .slice none 0 0, .int .i64 x.err] 45)
                      have hbelA := hbel.trans (hbA.mono hbel.size)
                      go_wp2_with (refine wpList_load_mid rfl 45 _ rfl b (off + i * 6) rfl _ _ hrx Tryd.underlying45 rfl (by kernel_rfl) ?_)
                      clear hrx
                      have hcase : (∃ (r e : Int) (ok : Bool), getR x.key mn = .tuple #[bodyV r, .int .i64 e, .bool ok] ∧ (x.key.toList == one.key.toList) = true) ∨
                          (getR x.key mn = .tuple #[bodyV x.root, .int .i64 x.err, .bool true] ∧ (x.key.toList == one.key.toList) = false) ∨
                          (getR x.key mn = .tuple #[bodyV 0, .int .i64 0, .bool false] ∧ (x.key.toList == one.key.toList) = false ∧ i = 0 ∧ ml.length = 64) := by
                        cases hq : eqB x.key one.key with
                        | true =>
                          obtain ⟨r, e, ok, h⟩ := getR_form x.key mn
                          exact .inl ⟨r, e, ok, h, hq⟩
                        | false =>
                          right
                          have hne : x.key ≠ one.key := fun e => by rw [(eqB_iff _ _).2 e] at hq; cases hq
                          rcases next_find hgood one.key one.root one.err HX.out hne with h | ⟨h1, h2, h3⟩
                          · left; refine ⟨?_, hq⟩; rw [HMN.out] at h; unfold getR; rw [h]
                          · right; refine ⟨?_, hq, h1, h2⟩; rw [HMN.out] at h3; unfold getR; rw [h3]
                      rcases hcase with ⟨r, e0, ok, hgr, hq⟩ | ⟨hgr, hq⟩ | ⟨hgr, hq, hi0, hn0⟩
                      · refine (HGET.out).mono ?_
                        rw [hgr]
                        unfold bodyV
                        rintro e w6 ⟨rfl, hb6⟩
                        have hIX6 := hIXA.step hb6
                        have hbel6 := hbelA.trans (hb6.mono hbelA.size)
                        have ke : w6.heap[wr.heap.size]? = some (.cells #[.string x.sum, .string x.key, .int .i64 x.root, .slice none 0 0, .slice none 0 0, .int .i64 x.err] 45 (0, 0)) := (hb6.block _ (by simp)).trans (alloc_get _ _ _ rfl)
                        have ke1 : w6.cell? ⟨wr.heap.size, 1, none⟩ = some (.string x.key) := by rw [cell_of_row _ _ _ _ _ _ ke]; rfl
                        have ke2 : w6.cell? ⟨wr.heap.size, 2, none⟩ = some (.int .i64 x.root) := by rw [cell_of_row _ _ _ _ _ _ ke]; rfl
                        have ke5 : w6.cell? ⟨wr.heap.size, 5, none⟩ = some (.int .i64 x.err) := by rw [cell_of_row _ _ _ _ _ _ ke]; rfl
                        have kel := lt_of_block ke
                        have hmc6 := cell_of_one hIX6.im.m
                        have hml6 := lt_of_block hIX6.im.m
                        have ho1 := hIX6.im.ib.s0.2.1
                        have ho1l := lt_of_block hIX6.im.ib.k0
                        have hIX7 := hIX6.alloc (.cells #[.int .i64 r, .slice none 0 0, .slice none 0 0] 34)
                        have hbel7 := hbel6.alloc hbel6.size (.cells #[.int .i64 r, .slice none 0 0, .slice none 0 0] 34)
                        clear hgr ke hIX hIXA hbelA hbA hb6 hmc hml hnc hnl hIX6 hbel6
                        go_wp2
                        have hii := HI.out
                        go_roundg (ml.length - 1 - i)
                        case rel => exact ⟨i + 1, by omega, by go_num, hIX7, hbel7⟩
                        case measure => omega
                      · refine (HGET.out).mono ?_
                        rw [hgr]
                        unfold bodyV
                        rintro e w6 ⟨rfl, hb6⟩
                        have hIX6 := hIXA.step hb6
                        have hbel6 := hbelA.trans (hb6.mono hbelA.size)
                        have ke : w6.heap[wr.heap.size]? = some (.cells #[.string x.sum, .string x.key, .int .i64 x.root, .slice none 0 0, .slice none 0 0, .int .i64 x.err] 45 (0, 0)) := (hb6.block _ (by simp)).trans (alloc_get _ _ _ rfl)
                        have ke1 : w6.cell? ⟨wr.heap.size, 1, none⟩ = some (.string x.key) := by rw [cell_of_row _ _ _ _ _ _ ke]; rfl
                        have ke2 : w6.cell? ⟨wr.heap.size, 2, none⟩ = some (.int .i64 x.root) := by rw [cell_of_row _ _ _ _ _ _ ke]; rfl
                        have ke5 : w6.cell? ⟨wr.heap.size, 5, none⟩ = some (.int .i64 x.err) := by rw [cell_of_row _ _ _ _ _ _ ke]; rfl
                        have kel := lt_of_block ke
                        have hmc6 := cell_of_one hIX6.im.m
                        have hml6 := lt_of_block hIX6.im.m
                        have ho1 := hIX6.im.ib.s0.2.1
                        have ho1l := lt_of_block hIX6.im.ib.k0
                        have hIX7 := hIX6.alloc (.cells #[.int .i64 x.root, .slice none 0 0, .slice none 0 0] 34)
                        have hbel7 := hbel6.alloc hbel6.size (.cells #[.int .i64 x.root, .slice none 0 0, .slice none 0 0] 34)
                        clear hgr ke hIX hIXA hbelA hbA hb6 hmc hml hnc hnl hIX6 hbel6
                        go_wp2
                        have hii := HI.out
                        go_roundg (ml.length - 1 - i)
                        case rel => exact ⟨i + 1, by omega, by go_num, hIX7, hbel7⟩
                        case measure => omega
                      · have hb0 : (((i : Nat) : Int) == 0) = true := by simp [hi0]
                        have hb64 : ((ml.length : Int) == 64) = true := by simp [hn0]
                        clear hi0 hn0
                        refine (HGET.out).mono ?_
                        rw [hgr]
                        unfold bodyV
                        rintro e w6 ⟨rfl, hb6⟩
                        have hIX6 := hIXA.step hb6
                        have hbel6 := hbelA.trans (hb6.mono hbelA.size)
                        have ke : w6.heap[wr.heap.size]? = some (.cells #[.string x.sum, .string x.key, .int .i64 x.root, .slice none 0 0, .slice none 0 0, .int .i64 x.err] 45 (0, 0)) := (hb6.block _ (by simp)).trans (alloc_get _ _ _ rfl)
                        have ke1 : w6.cell? ⟨wr.heap.size, 1, none⟩ = some (.string x.key) := by rw [cell_of_row _ _ _ _ _ _ ke]; rfl
                        have ke2 : w6.cell? ⟨wr.heap.size, 2, none⟩ = some (.int .i64 x.root) := by rw [cell_of_row _ _ _ _ _ _ ke]; rfl
                        have ke5 : w6.cell? ⟨wr.heap.size, 5, none⟩ = some (.int .i64 x.err) := by rw [cell_of_row _ _ _ _ _ _ ke]; rfl
                        have kel := lt_of_block ke
                        have hmc6 := cell_of_one hIX6.im.m
                        have hml6 := lt_of_block hIX6.im.m
                        have ho1 := hIX6.im.ib.s0.2.1
                        have ho1l := lt_of_block hIX6.im.ib.k0
                        have hIX7 := hIX6.alloc (.cells #[.int .i64 0, .slice none 0 0, .slice none 0 0] 34)
                        have hbel7 := hbel6.alloc hbel6.size (.cells #[.int .i64 0, .slice none 0 0, .slice none 0 0] 34)
                        clear hgr ke hIX hIXA hbelA hbA hb6 hmc hml hnc hnl hIX6 hbel6
                        go_wp2
                        have hii := HI.out
                        go_roundg (ml.length - 1 - i)
                        case rel => exact ⟨i + 1, by omega, by go_num, hIX7, hbel7⟩
                        case measure => omega
                  · have hgi : (n1 : Int) ≤ (i : Int) := by omega
                    have hTw : Tab wr := HT.out.below hIX.im.ib.bel h0
                    have hRm2 := hRm.below hbel
                    have hRn2 := hRn.below hbel
                    clear HI hlt hbel hRm hRn hmc hml hnc hnl
                    have rx0 : RX w wr one two mb (.slice a1 n1 c1) nb (.slice a3 n3 c3) ml mn := ⟨hIX, hRm2, hRn2, hTw⟩
                    clear hIX hRm2 hRn2 hTw
                    go_upto_region 28 with fail
                    go_cut [20, 21] (fun x y wx => RQ w wx one two x y (putL two.key two.root two.err mn) (putL one.key one.root one.err (putL two.key two.root two.err ml)))
                    case first =>
                      refine reg28 (w := w) (one := one) (two := two) (mb := mb) (nb := nb) (a1 := a1) (n1 := n1) (c1 := c1) (a3 := a3) (n3 := n3) (c3 := c3) (ml := ml) (mn := mn) (by kernel_rfl) (by simp) rfl rfl rfl rfl rfl hgood hgood1 hk1 hk2 rx0 ?_
                      rename_i J0 K0 hJ hK
                      intro a' W' x y hFr h20 h21 hRQ
                      obtain ⟨u127, u128, u129, u130, u131, u132, u133, u134, u135, u136, u137, rfl⟩ := canon28 hFr h20 h21
                      clear hFr h20 h21
                      refine hK _ _ ?_
                      go_simp
                      refine hJ _ _ ?_
                      repeat apply Exists.intro
                      refine ⟨?rel, rfl⟩
                      case rel => exact hRQ
                    case rest =>
                      clear rx0
                      obtain ⟨X, Y, sx, sy, rfl, rfl, hRR⟩ := hcut
                      obtain ⟨ax', nx, cx', rfl⟩ := hRR.z.rx.form
                      obtain ⟨ay', ny, cy', rfl⟩ := hRR.z.ry.form
                      have hnx := hRR.z.rx.len
                      have hny := hRR.z.ry.len
                      have hne : one.key ≠ two.key := fun e => by rw [(eqB_iff _ _).2 e] at heq; cases heq
                      have hxy : nx = ny := by rw [hnx, hny, ← HMN.out]; exact len_two hgood one two hne
                      have q1 : gotB one (putL two.key two.root two.err mn) = true := by rw [← HMN.out]; exact got_other hgood one two hne
                      have q2 := got_self hgood1 two
                      have hg2 := good_put hgood two.key two.root two.err
                      have q3 := got_self hg2 one
                      have q4 := got_other hgood two one (fun e => hne e.symm)
                      have hGx := good_put hgood1 two.key two.root two.err
                      have hGy := good_put hg2 one.key one.root one.err
                      clear hnx hny hg2 hne
                      generalize putL two.key two.root two.err mn = lx at *
                      generalize putL one.key one.root one.err (putL two.key two.root two.err ml) = ly at *
                      have HXY := Lib.hid hxy
                      clear hxy
                      obtain ⟨s1, s2, s3, s4, s5, s6, s7, s8, s9, s10⟩ := hRR.cs
                      go_wp2_with fail
                      refine (hRR.gotx hGx hk1 q1).mono ?_
                      rintro e w7 ⟨rfl, hR7⟩
                      clear hRR s1 s2 s3 s4 s5 s6 s7 s8 s9 s10 q1
                      obtain ⟨s1, s2, s3, s4, s5, s6, s7, s8, s9, s10⟩ := hR7.cs
                      go_wp2_with fail
                      refine (hR7.gotx hGx hk2 q2).mono ?_
                      rintro e w8 ⟨rfl, hR8⟩
                      clear hR7 s1 s2 s3 s4 s5 s6 s7 s8 s9 s10 q2
                      obtain ⟨s1, s2, s3, s4, s5, s6, s7, s8, s9, s10⟩ := hR8.cs
                      go_wp2_with fail
                      refine (hR8.goty hGy hk1 q3).mono ?_
                      rintro e w9 ⟨rfl, hR9⟩
                      clear hR8 s1 s2 s3 s4 s5 s6 s7 s8 s9 s10 q3
                      obtain ⟨s1, s2, s3, s4, s5, s6, s7, s8, s9, s10⟩ := hR9.cs
                      go_wp2_with fail
                      refine (hR9.goty hGy hk2 q4).mono ?_
                      rintro e w10 ⟨rfl, hR10⟩
                      clear hR9 s1 s2 s3 s4 s5 s6 s7 s8 s9 s10 q4
                      obtain ⟨s1, s2, s3, s4, s5, s6, s7, s8, s9, s10⟩ := hR10.cs
                      have hxy := HXY.out
                      subst hxy
                      go_wp2
                      go_ret
                      exact ⟨by simp, hR10.z.ib.bel⟩
  · go_wp2
    go_ret
    exact ⟨rfl, hI.bel⟩
end Go.Proofs.YtlipahfkfhcniaaDoor
