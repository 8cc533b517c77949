import Derived.Test.YtlipahfkfhcniaaDoorC
import Derived.Test.YtlipahfkfhcniaaDoorG
import Derived.Deep.MidRow
namespace Go.Proofs.YtlipahfkfhcniaaDoor
open Go.RowKit
theorem info5 : (Tryd.prog.info? 5).map (fun i => (i.zero, i.size, i.bytes)) = some (some (.int .u8 0), 1, 1) := by kernel_rfl
theorem join_one (s : ByteArray) (ad : Addr) (cap : Nat) (w : World) (hc : w.cell? ad = some (.string s)) :
    Calls Tryd.prog 17 #[.slice (some ad) 1 cap, .string ⟨#[]⟩] w fun e w' => e = .returned (.string s) ∧ w = w' := by
  go_enter Tryd.func17, Tryd.ntmps17
  go_wp2
  go_ret
  exact ⟨rfl, rfl⟩
def pads (s : ByteArray) (z : Nat) : List Value := bytesV s ++ (.int .u8 6 :: List.replicate z (.int .u8 0))
def byteAt (s : ByteArray) (i : Nat) : Int := if i < s.size then ((s.data.toList.getD i 0).toNat : Int) else if i = s.size then 6 else 0
def padLen (s : ByteArray) : Nat := s.size + 1 + (135 - s.size % 136)
def DD (s : ByteArray) (i : Nat) : Int := if i + 1 = padLen s then bits .or .u8 (byteAt s i) 128 else byteAt s i
theorem pads_get (s : ByteArray) (z i : Nat) (hi : i < s.size + 1 + z) : (pads s z)[i]? = some (.int .u8 (byteAt s i)) := by
  have hl : s.data.size = s.size := rfl
  unfold pads byteAt
  by_cases h1 : i < s.size
  · rw [List.getElem?_append_left (by rw [bytesV_length]; exact h1), if_pos h1]
    simp [bytesV, List.getD, hl, h1]
  · rw [List.getElem?_append_right (by rw [bytesV_length]; omega), bytesV_length, if_neg h1]
    by_cases h2 : i = s.size
    · subst h2; simp
    · rw [if_neg h2, List.getElem?_cons, if_neg (by omega), List.getElem?_replicate, if_pos (by omega)]
def RdD (s : ByteArray) (w : World) (g : Nat) : Prop := ∀ i, i < padLen s → w.cell? ⟨g, i, none⟩ = some (.int .u8 (DD s i))
theorem RdD.of {s : ByteArray} {w wr : World} {g cap : Nat} (h : ownsG wr w.heap.size 5 1 (.slice (some ⟨g, 0, none⟩) (padLen s) cap) (padLen s) (pads s (135 - s.size % 136))) :
    RdD s (wr.setCell ⟨g, padLen s - 1, none⟩ (.int .u8 (bits .or .u8 (byteAt s (padLen s - 1)) 128))) g := by
  intro i hi
  have hc := h.cells i _ (pads_get s (135 - s.size % 136) i hi)
  unfold DD
  by_cases h1 : i + 1 = padLen s
  · rw [if_pos h1]
    have : padLen s - 1 = i := by omega
    rw [this]
    exact World.cell?_setCell_same _ _ _ hc
  · rw [if_neg h1, World.cell?_setCell_other _ _ _ _ (by intro e; simp at e <;> omega)]
    exact hc
theorem RdD.lt {s : ByteArray} {w : World} {g : Nat} (h : RdD s w g) : g < w.heap.size := World.block_lt_of_cell? w _ (h 0 (by unfold padLen; omega))
theorem RdD.below {s : ByteArray} {w w' : World} {B g : Nat} (h : RdD s w g) (hb : Below B w w') (hg : g < B) : RdD s w' g := fun i hi => (hb.cell (p := ⟨g, i, none⟩) hg).trans (h i hi)
theorem RdD.other {s : ByteArray} {w : World} {g : Nat} (h : RdD s w g) (a : Addr) (v : Value) (hne : g ≠ a.block) : RdD s (w.setCell a v) g := fun i hi => by
  rw [World.cell?_setCell_other _ _ _ _ (by intro e; exact hne (congrArg Addr.block e).symm)]; exact h i hi
theorem RdD.alloc {s : ByteArray} {w : World} {g : Nat} (h : RdD s w g) (o : Obj) : RdD s (w.alloc o) g := fun i hi => by
  rw [World.cell?_alloc_lt _ _ _ h.lt]; exact h i hi
theorem RdD.rowOther {s : ByteArray} {w : World} {g : Nat} (h : RdD s w g) (c : Nat) (cs : Array Value) (hne : g ≠ c) : RdD s (w.setRow c cs) g := fun i hi => by
  rw [← h i hi]; exact World.cell?_of_block (setRow_other w c g cs hne)
def wordsL : List Int := [1, 32898, 9223372036854808714, 9223372039002292224, 32907, 2147483649, 9223372039002292353, 9223372036854808585, 138, 136, 2147516425, 2147483658, 2147516555, 9223372036854775947, 9223372036854808713, 9223372036854808579, 9223372036854808578, 9223372036854775936, 32778, 9223372039002259466, 9223372039002292353, 9223372036854808704, 2147483649, 9223372039002292232]
def wordsF (j : Nat) : Int := wordsL.getD j 0
def Tab (w : World) : Prop := w.rangeAt 0 0 (arrN .u64 24 wordsF).toList
theorem Tab.below {w w' : World} {B : Nat} (h : Tab w) (hb : Below B w w') (hB : 0 < B) : Tab w' := fun j v hj => (hb.cell (p := ⟨0, 0 + j, none⟩) hB).trans (h j v hj)
structure SW (s : ByteArray) (w wr : World) (g sb tb : Nat) (a : Nat → Int) : Prop where
  D : RdD s wr g
  S : BlkN wr sb 58 .u64 25 a
  T : BlkN wr tb 60 .i64 25 byF
  wg : w.heap.size ≤ g
  gs : g < sb
  st : sb < tb
  bel : Below w.heap.size w wr
def sIdx (k : Nat) : Nat := k / 8 % 5 * 5 + k / 8 / 5
def xorTo (s : ByteArray) (q : Nat) (a : Nat → Int) : Nat → (Nat → Int)
  | 0 => a
  | k + 1 => upd (xorTo s q a k) (sIdx k) (X64 (xorTo s q a k (sIdx k)) (IntKind.u64.wrap (IntKind.u64.wrap (DD s (136 * q + k)) * 2 ^ (8 * (k % 8)))))
def permTo (a : Nat → Int) : Nat → (Nat → Int)
  | 0 => a
  | r + 1 => rndF (permTo a r) (wordsF r)
def stTo (s : ByteArray) : Nat → (Nat → Int)
  | 0 => fun _ => 0
  | q + 1 => permTo (xorTo s q (stTo s q) 136) 24
theorem SW.xor_step {s : ByteArray} {w wr : World} {g sb tb q k : Nat} {a : Nat → Int} (h : SW s w wr g sb tb (xorTo s q a k)) :
    SW s w ((wr.setCell ⟨sb, k / 8 % 5 * 5 + k / 8 / 5, none⟩ (.int .u64 (bits .xor .u64 (xorTo s q a k (k / 8 % 5 * 5 + k / 8 / 5)) (IntKind.u64.wrap (IntKind.u64.wrap (DD s (136 * q + k)) * 2 ^ (8 * (k % 8))))))).drew) g sb tb (xorTo s q a (k + 1)) := by
  have h1 := h.wg
  have h2 := h.gs
  have h3 := h.st
  exact ⟨h.D.other _ _ (by simp; omega), h.S.set _ _, h.T.other _ _ (by simp; omega), h1, h2, h3, (h.bel.setCell (by simp; omega) _).drew⟩
theorem SW.perm_step {s : ByteArray} {w wr w5 : World} {g sb tb r : Nat} {a : Nat → Int} (h : SW s w wr g sb tb (permTo a r)) (hb : Below wr.heap.size wr w5) :
    SW s w (w5.setRow sb (arrN .u64 25 (rndF (permTo a r) (wordsF r)))) g sb tb (permTo a (r + 1)) := by
  have h1 := h.wg
  have h2 := h.gs
  have h3 := h.st
  exact ⟨(h.D.below hb h.D.lt).rowOther _ _ (by omega), (h.S.below hb h.S.lt).row _, (h.T.below hb h.T.lt).rowOther _ _ (by omega), h1, h2, h3, Below_setRow (h.bel.trans (hb.mono h.bel.size)) _ _ (by omega)⟩
def outF (st : Nat → Int) (i : Nat) : Int := st (i / 8 * 5) / 2 ^ (8 * (i % 8)) % 256
def sumF (s : ByteArray) : ByteArray := strOfNums ((List.range 32).map (outF (stTo s (padLen s / 136))))
theorem sumF_size (s : ByteArray) : (sumF s).size = 32 := by unfold sumF; rw [strOfNums_size]; simp
def Pd (s : ByteArray) (w wr : World) (z : Nat) (v : Value) : Prop :=
  ∃ g cap, v = .slice (some ⟨g, 0, none⟩) (s.size + 1 + z) cap ∧ ownsG wr w.heap.size 5 1 v (s.size + 1 + z) (pads s z) ∧ Below w.heap.size w wr
theorem Pd.step {s : ByteArray} {w wr : World} {z : Nat} {v v' : Value} {w' : World} (h : Pd s w wr z v) (ho : ownsG w' w.heap.size 5 1 v' (s.size + 1 + z + 1) (pads s z ++ [.int .u8 0])) (hg : (wr.alloc (.cells #[.int .u8 0] 5)).grownBy w' v.ownBlock) : Pd s w w' (z + 1) v' := by
  obtain ⟨g, cap, rfl, ho0, hb0⟩ := h
  obtain ⟨g', cap', rfl, _, _, _⟩ := ho.form
  refine ⟨g', cap', rfl, ?_, Below_grown (hb0.alloc hb0.size _) hg (ho0.alloc _) (Nat.le_refl _) (by have := hb0.size; simp; omega)⟩
  have : pads s z ++ [.int .u8 0] = pads s (z + 1) := by
    unfold pads; rw [List.append_assoc]; simp [List.replicate_succ']
  rw [← this]; exact ho
set_option maxHeartbeats 2000000 in
theorem sum_any (s : ByteArray) (ad : Addr) (cap : Nat) (w : World) (hc : w.cell? ad = some (.string s)) (hs : s.size ≤ 1000000000) (hT : Tab w) (h0 : 0 < w.heap.size) :
    Calls Tryd.prog 13 #[.slice (some ad) 1 cap] w fun e w' => e = .returned (.string (sumF s)) ∧ Below w.heap.size w w' := by
  obtain ⟨v0, w0, hconv, hown0, hb0⟩ := conv_bytes (P := Tryd.prog) w 9 22 5 s Tryd.underlying9 Tryd.underlying22 Tryd.underlying5 (by unfold maxLen; omega)
  obtain ⟨i0, hi, hz0, hz1, hz2⟩ := info_parts info5
  go_enter Tryd.func13, Tryd.ntmps13
  go_wp2_with (first
    | (go_at_call 17; refine (join_one s ad cap _ hc).mono ?_; rintro e w' ⟨rfl, rfl⟩)
    | (at_builtin; refine wpList_append_G _ rfl _ _ 22 rfl w.heap.size 5 i0 (.int .u8 0) 1 1 Tryd.underlying22 hi hz0 hz1 hz2 rfl v0 s.size (bytesV s) rfl (hown0.alloc _) ⟨w0.heap.size, 0, none⟩ 1 1 [.int .u8 6] rfl rfl ?c1 ?c2 ?c3 ?c4 ?c5 ?_))
  case c1 => exact news_new w0 [.int .u8 6] 5
  case c2 => simp [Value.oneCell']
  case c3 => unfold maxLen; omega
  case c4 => omega
  case c5 => have := hb0.size; simp; omega
  intro v1 w1 hown1 hg1
  have hb1 : Below w.heap.size w w1 := Below_grown (hb0.alloc hb0.size _) hg1 (hown0.alloc _) (Nat.le_refl _) (by have := hb0.size; simp; omega)
  have hpd : Pd s w w1 0 v1 := by
    obtain ⟨g, cap, rfl, _⟩ := hown1.form
    exact ⟨g, cap, rfl, hown1, hb1⟩
  clear hown1 hg1 hb1 hown0 hb0 hconv hc
  go_wp2
  go_loopg [3] (135 - s.size % 136) (fun gn v wr => ∃ z, z + gn = 135 - s.size % 136 ∧ Pd s w wr z v)
  case atStart => exact ⟨0, by omega, hpd⟩
  case round =>
    clear hpd
    obtain ⟨z, hz, hpd⟩ := hrel
    have HZ := Lib.hid hz
    clear hz
    obtain ⟨g, cap, hv, hown, hbel⟩ := id hpd
    subst hv
    by_cases hlt : z < 135 - s.size % 136
    · go_wp2_with (at_builtin; refine wpList_append_G _ rfl _ _ 22 rfl w.heap.size 5 i0 (.int .u8 0) 1 1 Tryd.underlying22 hi hz0 hz1 hz2 rfl (.slice (some ⟨g, 0, none⟩) (s.size + 1 + z) cap) (s.size + 1 + z) (pads s z) rfl (hown.alloc _) ⟨wr.heap.size, 0, none⟩ 1 1 [.int .u8 0] rfl rfl ?d1 ?d2 ?d3 ?d4 ?d5 ?_)
      case d1 => exact news_new wr [.int .u8 0] 5
      case d2 => simp [Value.oneCell']
      case d3 => unfold maxLen; omega
      case d4 => omega
      case d5 => have := hbel.size; simp; omega
      intro v2 w2 hown2 hg2
      have hpd2 := hpd.step hown2 hg2
      clear hown hown2 hg2 hbel hpd
      go_wp2
      have hzz := HZ.out
      go_roundg (134 - s.size % 136 - z)
      case rel => exact ⟨z + 1, by omega, hpd2⟩
      case measure => omega
    · have hzz := HZ.out
      obtain rfl : z = 135 - s.size % 136 := by omega
      clear HZ hzz hlt
      have hN : s.size + 1 + (135 - s.size % 136) = padLen s := rfl
      have hN1 : (padLen s : Int) = s.size + 1 + (135 - s.size % 136 : Nat) := by unfold padLen; omega
      rw [hN] at hown
      have hc1 := hown.cells (padLen s - 1) _ (pads_get s _ _ (by unfold padLen; omega))
      have hrd := RdD.of hown
      have hfr : wr.frozen? ⟨g, padLen s - 1, none⟩ = false := hown.free _ (by unfold padLen; omega)
      have hgl := hown.form
      have hcap : padLen s ≤ cap := by
        obtain ⟨g', c', h1, h2, _⟩ := hgl
        simp at h1
        omega
      go_wp2_with fail
      have hds : (wr.setCell ⟨g, padLen s - 1, none⟩ (.int .u8 (bits .or .u8 (byteAt s (padLen s - 1)) 128))).heap.size = wr.heap.size := by simp
      have hgw : w.heap.size ≤ g ∧ g < wr.heap.size := by
        obtain ⟨g', c', h1, _, h2, h3⟩ := hgl
        simp at h1
        omega
      have hbd : Below w.heap.size w (wr.setCell ⟨g, padLen s - 1, none⟩ (.int .u8 (bits .or .u8 (byteAt s (padLen s - 1)) 128))) := hbel.setCell hgw.1 _
      clear hgl hfr hc1 hown hpd hbel
      generalize wr.setCell ⟨g, padLen s - 1, none⟩ (.int .u8 (bits .or .u8 (byteAt s (padLen s - 1)) 128)) = wd at *
      generalize hsb : wr.heap.size = sb at *
      clear hsb
      have hrd2 := hrd.alloc (.cells (arrN .u64 25 (fun _ => 0)) 58)
      have hS2 := BlkN.new wd 58 .u64 25 (fun _ => 0) hds.symm
      have hbd2 := hbd.alloc hbd.size (.cells (arrN .u64 25 (fun _ => 0)) 58)
      refine (turns_any (wd.alloc (.cells (arrN .u64 25 (fun _ => 0)) 58))).mono ?_
      rintro e w3 ⟨rfl, hb3⟩
      have hrd3 := hrd2.below hb3 hrd2.lt
      have hS3 := hS2.below hb3 hS2.lt
      have hbd3 := hbd2.trans (hb3.mono hbd2.size)
      have hst : sb < w3.heap.size := hS3.lt
      clear hrd hrd2 hS2 hbd hbd2 hb3 hds
      go_wp2_with (refine wpList_store_row rfl 60 _ _ rfl w3.heap.size (arrN .i64 25 byF) rfl rfl 60 _ (Go.heap_alloc_new w3 _) (by kernel_rfl) (by simp [arrN_size]) (arrN_one _ _ _) ?_)
      dsimp only [Act.put]
      rw [World.setRow_alloc_new]
      have hT4 := BlkN.new w3 60 .i64 25 byF rfl
      have hrd4 := hrd3.alloc (.cells (arrN .i64 25 byF) 60)
      have hS4 := hS3.alloc (.cells (arrN .i64 25 byF) 60)
      have hbd4 := hbd3.alloc hbd3.size (.cells (arrN .i64 25 byF) 60)
      have hgsb : g < sb := hgw.2
      have hwg : w.heap.size ≤ g := hgw.1
      generalize htb : w3.heap.size = tb at *
      clear htb hbd3 hS3 hrd3 hgw
      generalize w3.alloc (.cells (arrN .i64 25 byF) 60) = w4 at *
      have hSW : SW s w w4 g sb tb (stTo s 0) := ⟨hrd4, hS4, hT4, hwg, hgsb, hst, hbd4⟩
      clear hrd4 hS4 hT4 hbd4
      obtain ⟨M, hM⟩ : ∃ M, padLen s = 136 * M := ⟨padLen s / 136, by unfold padLen; omega⟩
      have HM := Lib.hid hM
      have hM1 : 136 * M ≤ cap := by omega
      rw [hM]
      clear hN hN1 hM
      go_loopg [3] M (fun gn v wr => ∃ (q c : Nat) (ad : Addr), q + gn = M ∧ v = .slice (some ad) (136 * gn) c ∧ 136 * gn ≤ c ∧ (0 < gn → ad = ⟨g, 136 * q, none⟩) ∧ SW s w wr g sb tb (stTo s q))
      case atStart => exact ⟨0, cap, _, by omega, rfl, hM1, fun _ => rfl, hSW⟩
      case round =>
        clear hSW
        obtain ⟨q, c, ad', hq, rfl, hc, had, hSW⟩ := hrel
        obtain ⟨G, rfl⟩ : ∃ G, G = gk := ⟨_, rfl⟩
        have HQ := Lib.hid hq
        clear hq
        by_cases hgn : 0 < G
        · obtain rfl := had hgn
          go_wp2
          go_loopg [38] 136 (fun gm y wq => ∃ k : Nat, k + gm = 136 ∧ y = .int .i64 k ∧ SW s w wq g sb tb (xorTo s q (stTo s q) k))
          case atStart => exact ⟨0, rfl, rfl, hSW⟩
          case round =>
            obtain ⟨k, hk, rfl, hSW1⟩ := hrel
            have HK := Lib.hid hk
            clear hk
            by_cases hlt : k < 136
            · have hqk : 136 * q + k < padLen s := by have := HM.out; have := HQ.out; omega
              have c1 := hSW1.S.cell (k / 8 % 5 * 5 + k / 8 / 5) (by omega)
              have f1 := hSW1.S.free (k / 8 % 5 * 5 + k / 8 / 5)
              have c2 := hSW1.D (136 * q + k) hqk
              clear hqk
              have b1 : (0 : Int) ≤ (k : Int) := by omega
              have b2 : (k : Int) < 136 := by omega
              have b3 : (k : Int) < ((136 * G : Nat) : Int) := by omega
              go_wp2_with fail
              go_region
              go_wp2
              have hkk := HK.out
              go_roundg (135 - k)
              case rel => exact ⟨k + 1, by omega, by go_num, hSW1.xor_step⟩
              case measure => omega
            · have hkk := HK.out
              obtain rfl : k = 136 := by omega
              clear HK hkk hlt hSW
              generalize ha0 : xorTo s q (stTo s q) 136 = a0 at *
              have HA0 := Lib.hid ha0
              clear ha0
              have hSW := hSW1
              clear hSW1
              have hTab : Tab wr := hT.below hSW.bel h0
              go_wp2_with (refine wpList_load_mid rfl 62 _ rfl 0 0 rfl (arrN .u64 24 wordsF).toList _ hTab Tryd.underlying62 rfl (by kernel_rfl) ?_)
              clear hTab
              go_loopg [64] 24 (fun gm y wq => ∃ r : Nat, r + gm = 24 ∧ y = .int .i64 r ∧ SW s w wq g sb tb (permTo a0 r))
              case atStart => exact ⟨0, rfl, rfl, hSW⟩
              case round =>
                clear hSW
                obtain ⟨r, hr, rfl, hSW⟩ := hrel
                have HR := Lib.hid hr
                clear hr
                by_cases hlt : r < 24
                · have hidx := run_index_arr (P := Tryd.prog) 62 55 .u64 (arrN .u64 24 wordsF) 24 r _ Tryd.underlying62 Tryd.underlying55 (by kernel_rfl) hlt (arrN_get _ _ _ _ hlt)
                  go_wp2_with (first
                    | refine wpList_load_row rfl 58 _ rfl sb rfl 58 _ _ _ hSW.S Tryd.underlying58 rfl (by kernel_rfl) ?_
                    | refine wpList_load_row rfl 60 _ rfl tb rfl 60 _ _ _ hSW.T Tryd.underlying60 rfl (by kernel_rfl) ?_)
                  refine (round_any (permTo a0 r) (wordsF r) _).mono ?_
                  rintro e w5 ⟨rfl, hb5⟩
                  have hS5 := hSW.S.below hb5 hSW.S.lt
                  have hSW5 := hSW.perm_step hb5
                  clear hidx hSW hb5
                  go_wp2_with (refine wpList_store_row rfl 58 _ _ rfl sb (arrN .u64 25 (rndF (permTo a0 r) (wordsF r))) rfl rfl 58 _ hS5 (by kernel_rfl) (by simp [arrN_size]) (arrN_one _ _ _) ?_)
                  have hrr := HR.out
                  go_roundg (23 - r)
                  case rel => exact ⟨r + 1, by omega, by go_num, hSW5⟩
                  case measure => omega
                · have hrr := HR.out
                  obtain rfl : r = 24 := by omega
                  clear HR hrr hlt
                  have hSW6 : SW s w wr g sb tb (stTo s (q + 1)) := by
                    show SW s w wr g sb tb (permTo (xorTo s q (stTo s q) 136) 24)
                    rw [HA0.out]; exact hSW
                  clear hSW
                  have hg1 : 136 ≤ 136 * G := by omega
                  have hc1 : 136 ≤ c := by omega
                  go_wp2_with fail
                  all_goals
                    have hqq := HQ.out
                    go_roundg (G - 1)
                    case rel =>
                      have e1 : 136 * (G - 1) = 136 * G - 136 := by omega
                      have e2 : 136 * (q + 1) = 136 * q + 136 := by omega
                      first
                        | exact ⟨q + 1, 0, ⟨g, 136 * q, none⟩, by omega, by rw [e1], by omega, fun hG => absurd hG (by omega), hSW6⟩
                        | exact ⟨q + 1, c - 136, ⟨g, 136 * q + 136, none⟩, by omega, by rw [e1], by omega, fun _ => by rw [e2], hSW6⟩
                    case measure => omega
        · have hqq := HQ.out
          obtain rfl : G = 0 := by omega
          obtain rfl : q = M := by omega
          clear HQ hqq had hgn
          generalize hst0 : stTo s q = st0 at *
          have HST := Lib.hid hst0
          clear hst0 hc
          have hmk : ∀ w : World, (Instr.makeSlice 22 (.int .i64 32) (.int .i64 32)).run Tryd.prog w = .ok (.slice (some ⟨w.heap.size, 0, none⟩) 32 32) (w.alloc (.cells (arrN .u8 32 (part (outF st0) 0)) 5)) := fun _ => by kernel_rfl
          go_wp2_with fail
          have hO := BlkN.new wr 5 .u8 32 (part (outF st0) 0) rfl
          have hS7 := hSW.S.alloc (.cells (arrN .u8 32 (part (outF st0) 0)) 5)
          have hbel7 := hSW.bel.alloc hSW.bel.size (.cells (arrN .u8 32 (part (outF st0) 0)) 5)
          have hsob : sb < wr.heap.size := hSW.S.lt
          have hwob : w.heap.size ≤ wr.heap.size := hSW.bel.size
          clear hSW hmk
          generalize wr.alloc (.cells (arrN .u8 32 (part (outF st0) 0)) 5) = w8 at *
          generalize hob : wr.heap.size = ob at *
          clear hob
          go_loopg [75] 32 (fun gm y wq => ∃ k : Nat, k + gm = 32 ∧ y = .int .i64 k ∧ BlkN wq ob 5 .u8 32 (part (outF st0) k) ∧ BlkN wq sb 58 .u64 25 st0 ∧ Below w.heap.size w wq)
          case atStart => exact ⟨0, rfl, rfl, hO, hS7, hbel7⟩
          case round =>
            clear hO hS7 hbel7
            obtain ⟨k, hk, rfl, hO, hS, hbel⟩ := hrel
            have HK := Lib.hid hk
            clear hk
            by_cases hlt : k < 32
            · have c1 := hO.cell k hlt
              have f1 := hO.free k
              have c2 := hS.cell (k / 8 * 5) (by omega)
              have b1 : (k : Int) < 32 := by omega
              go_wp2
              have hkk := HK.out
              go_roundg (31 - k)
              case rel => exact ⟨k + 1, by omega, by go_num, hO.part_step, hS.other _ _ (by simp; omega), hbel.setCell (by simp; omega) _⟩
              case measure => omega
            · have hkk := HK.out
              obtain rfl : k = 32 := by omega
              have hfull := hO.full (Nat.le_refl _)
              have hconv2 := run_convert_bytes_arg (P := Tryd.prog) wr 22 5 Tryd.underlying22 Tryd.underlying5 ob 0 32 32 ((List.range 32).map (outF st0)) (by simp) (fun i hi => by
                rw [Nat.zero_add, hfull.cell i hi]; simp [List.getD, hi]) 9 Tryd.underlying9
              clear HK hkk hlt hO hS hfull
              have hfin : strOfNums ((List.range 32).map (outF st0)) = sumF s := by
                unfold sumF
                rw [← HST.out, HM.out]
                rw [Nat.mul_div_cancel_left q (by decide)]
              have HF := Lib.hid hfin
              clear hfin
              generalize strOfNums ((List.range 32).map (outF st0)) = res at *
              go_wp2
              go_ret
              exact ⟨by rw [HF.out]; rfl, hbel⟩
end Go.Proofs.YtlipahfkfhcniaaDoor
