import Derived.Test.YteigcnamkfebgaaGreatDoorH
import Derived.Maps.AppendAt
namespace Go.Proofs.YteigcnamkfebgaaGreatDoor
open Go.RowKit
set_option maxRecDepth 100000 in
set_option maxHeartbeats 2000000 in
theorem insWr_any (l : List WrD) (v : Value) (x : WrD) (base : Nat) (w : World) (hl : l.length ≤ 1000000) (hv : w.ownsRow base 50 4 v l.length (wrY.flat l)) (hbase : base ≤ w.heap.size) (q : Nat) (hq : w.heap[q]? = some (.cells (wrV x).toArray 50 (0, 0))) :
    Calls Tryz.prog 128 #[v, .int .i64 l.length, .slice (some ⟨q, 0, none⟩) 1 1] w fun e w' => ∃ v', e = .returned v' ∧ w'.ownsRow base 50 4 v' (l.length + 1) (wrY.flat (l ++ [x])) ∧ Below base w w' ∧ w.grownBy w' v.ownBlock ∧ (v'.ownBlock = v.ownBlock ∨ v'.ownBlock = some w.heap.size) := by
  obtain ⟨i0, hi, hz0, hz1, hz2⟩ := info_parts info50
  have hnews : ∀ j u, (wrV x)[j]? = some u → w.cell? ((⟨q, 0, none⟩ : Addr).add j) = some u := fun j u hu => by
    rw [Addr.add_mid, Nat.zero_add, cell_of_row _ _ j _ _ _ hq]
    simpa using hu
  have h1 : ∀ u ∈ wrV x, u.oneCell' = true := wrY.one x
  have hfin : wrY.flat l ++ wrV x = wrY.flat (l ++ [x]) := by rw [wrY.flat_append]; simp [Lay.flat, wrY]
  have hlen : (wrY.flat l).length = l.length * 4 := wrY.flat_length l
  rcases hv.2 with ⟨rfl, hz⟩ | ⟨g, cap, cur, rfl, hgb, _, hnc, _⟩
  · have HZ := Lib.hid hz
    rw [hz] at hv
    rw [hz]
    clear hz
    go_enter Tryz.func128, Tryz.ntmps128
    go_wp2_with (at_builtin; refine wpList_append_own_at _ rfl _ _ 46 rfl base 50 i0 (.agg z50) 4 48 Tryz.underlying46 hi hz0 hz1 hz2 rfl (by decide) (.slice none 0 0) 0 (wrY.flat l) rfl hv ⟨q, 0, none⟩ 1 1 (wrV x) rfl rfl hnews h1 (by unfold maxLen; omega) (by omega) hbase ?_)
    intro v1 w1 hown1 hg1 _ hloc1
    have hb1 : Below base w w1 := (Below.refl _ _).grown hg1 hbase (by intro k hk; simp [Value.ownBlock] at hk)
    have HG := Lib.hid hg1
    have HL := Lib.hid hloc1
    clear hv hg1 hnews hloc1
    go_wp2
    go_ret
    exact ⟨_, rfl, hown1, hb1, HG.out, HL.out⟩
  · have hncZ : (l.length : Int) ≤ (cap : Int) := by omega
    have hsub : min cap l.length = l.length := by omega
    go_enter Tryz.func128, Tryz.ntmps128
    go_wp2_with (at_builtin; refine wpList_append_own_at _ rfl _ _ 46 rfl base 50 i0 (.agg z50) 4 48 Tryz.underlying46 hi hz0 hz1 hz2 rfl (by decide) (.slice (some ⟨g, 0, none⟩) l.length cap) l.length (wrY.flat l) rfl hv ⟨q, 0, none⟩ 1 1 (wrV x) rfl rfl hnews h1 (by unfold maxLen; omega) (by omega) hbase ?_; intro v1 w1 hown1 hg1 _ hloc1; have HG := Lib.hid hg1; have HL := Lib.hid hloc1; clear hv hnews hg1 hloc1)
    all_goals go_ret
    all_goals exact ⟨_, rfl, by rw [← hfin]; exact hown1, (Below.refl _ _).grown HG.out hbase (by intro k hk; simp [Value.ownBlock] at hk; omega), HG.out, HL.out⟩
def z48 : Array Value := #[.string ⟨#[]⟩, .int .i64 0, .string ⟨#[]⟩, .slice none 0 0]
theorem info48 : (Tryz.prog.info? 48).map (fun i => (i.zero, i.size, i.bytes)) = some (some (.agg z48), 4, 64) := by kernel_rfl
set_option maxRecDepth 100000 in
set_option maxHeartbeats 2000000 in
theorem insReg_any (l : List RegD) (v : Value) (x : RegD) (base : Nat) (w : World) (hl : l.length ≤ 1000000) (hv : w.ownsRow base 48 4 v l.length (regY.flat l)) (hbase : base ≤ w.heap.size) (q : Nat) (hq : w.heap[q]? = some (.cells (regV x).toArray 48 (0, 0))) :
    Calls Tryz.prog 79 #[v, .int .i64 l.length, .slice (some ⟨q, 0, none⟩) 1 1] w fun e w' => ∃ v', e = .returned v' ∧ w'.ownsRow base 48 4 v' (l.length + 1) (regY.flat (l ++ [x])) ∧ Below base w w' ∧ w.grownBy w' v.ownBlock ∧ (v'.ownBlock = v.ownBlock ∨ v'.ownBlock = some w.heap.size) := by
  obtain ⟨i0, hi, hz0, hz1, hz2⟩ := info_parts info48
  have hnews : ∀ j u, (regV x)[j]? = some u → w.cell? ((⟨q, 0, none⟩ : Addr).add j) = some u := fun j u hu => by
    rw [Addr.add_mid, Nat.zero_add, cell_of_row _ _ j _ _ _ hq]
    simpa using hu
  have h1 : ∀ u ∈ regV x, u.oneCell' = true := regY.one x
  have hfin : regY.flat l ++ regV x = regY.flat (l ++ [x]) := by rw [regY.flat_append]; simp [Lay.flat, regY]
  have hlen : (regY.flat l).length = l.length * 4 := regY.flat_length l
  rcases hv.2 with ⟨rfl, hz⟩ | ⟨g, cap, cur, rfl, hgb, _, hnc, _⟩
  · have HZ := Lib.hid hz
    rw [hz] at hv
    rw [hz]
    clear hz
    go_enter Tryz.func79, Tryz.ntmps79
    go_wp2_with (at_builtin; refine wpList_append_own_at _ rfl _ _ 26 rfl base 48 i0 (.agg z48) 4 64 Tryz.underlying26 hi hz0 hz1 hz2 rfl (by decide) (.slice none 0 0) 0 (regY.flat l) rfl hv ⟨q, 0, none⟩ 1 1 (regV x) rfl rfl hnews h1 (by unfold maxLen; omega) (by omega) hbase ?_)
    intro v1 w1 hown1 hg1 _ hloc1
    have hb1 : Below base w w1 := (Below.refl _ _).grown hg1 hbase (by intro k hk; simp [Value.ownBlock] at hk)
    have HG := Lib.hid hg1
    have HL := Lib.hid hloc1
    clear hv hg1 hnews hloc1
    go_wp2
    go_ret
    exact ⟨_, rfl, hown1, hb1, HG.out, HL.out⟩
  · have hncZ : (l.length : Int) ≤ (cap : Int) := by omega
    have hsub : min cap l.length = l.length := by omega
    go_enter Tryz.func79, Tryz.ntmps79
    go_wp2_with (at_builtin; refine wpList_append_own_at _ rfl _ _ 26 rfl base 48 i0 (.agg z48) 4 64 Tryz.underlying26 hi hz0 hz1 hz2 rfl (by decide) (.slice (some ⟨g, 0, none⟩) l.length cap) l.length (regY.flat l) rfl hv ⟨q, 0, none⟩ 1 1 (regV x) rfl rfl hnews h1 (by unfold maxLen; omega) (by omega) hbase ?_; intro v1 w1 hown1 hg1 _ hloc1; have HG := Lib.hid hg1; have HL := Lib.hid hloc1; clear hv hnews hg1 hloc1)
    all_goals go_ret
    all_goals exact ⟨_, rfl, by rw [← hfin]; exact hown1, (Below.refl _ _).grown HG.out hbase (by intro k hk; simp [Value.ownBlock] at hk; omega), HG.out, HL.out⟩
end Go.Proofs.YteigcnamkfebgaaGreatDoor
