import Derived.Test.YtlipahfkfhcniaaDoorF
import Derived.WalkSpells
namespace Go.Proofs.YtlipahfkfhcniaaDoor
open Go.RowKit
theorem info45 : (Tryd.prog.info? 45).map (fun i => (i.zero, i.size, i.bytes)) = some (some (.agg z45), 6, 96) := by kernel_rfl
theorem entV_one (l : List Ent) : ∀ u ∈ flat l, u.oneCell' = true := by
  intro u hu
  simp only [flat, List.mem_flatMap] at hu
  obtain ⟨x, _, hu⟩ := hu
  simp only [entV, List.mem_cons, List.not_mem_nil, or_false] at hu
  rcases hu with rfl | rfl | rfl | rfl | rfl | rfl <;> rfl
theorem clone_any (l : List Ent) (v : Value) (w : World) (hl : l.length ≤ 1000000) (hv : Rd w v l) :
    Calls Tryd.prog 11 #[v] w fun e w' => ∃ v', e = .returned v' ∧ w'.ownsRow w.heap.size 45 6 v' l.length (flat l) ∧ Below w.heap.size w w' := by
  obtain ⟨i0, hi, hz0, hz1, hz2⟩ := info_parts info45
  have hnil : ∀ (a : Option Addr) (n c : Nat), Sem.run Tryd.prog (binOp .eql 24 (.slice a n c) (.slice none 0 0)) w = .ok (.bool a.isNone) w := fun a n c => Lib.run_eql_slice_nil w 24 45 a n c 0 0 Tryd.underlying24
  rcases hv with ⟨rfl, rfl⟩ | ⟨b, off, cap, rfl, hcap, hr⟩
  · go_enter Tryd.func11, Tryd.ntmps11
    go_wp2
    go_ret
    exact ⟨_, rfl, World.ownsRow_nil _ _ _ _, Below.refl _ _⟩
  · have HN := hnil (some ⟨b, off, none⟩) l.length cap
    clear hnil
    have hown0 : (w.alloc (.cells #[] 45)).ownsRow w.heap.size 45 6 (.slice (some ⟨w.heap.size, 0, none⟩) 0 0) 0 [] := World.ownsRow_made w #[] 0 (Nat.le_refl _) (by decide) rfl
    have hr2 := World.rangeAt_alloc hr (.cells #[] 45)
    go_enter Tryd.func11, Tryd.ntmps11
    go_wp2_with (at_builtin; refine wpList_append_own _ rfl _ _ 24 rfl w.heap.size 45 i0 (.agg z45) 6 96 Tryd.underlying24 hi hz0 hz1 hz2 rfl (by decide) (.slice (some ⟨w.heap.size, 0, none⟩) 0 0) 0 [] rfl hown0 ⟨b, off, none⟩ l.length cap (flat l) rfl (flat_length l) ?c1 (entV_one l) ?c3 ?c4 ?c5 ?_)
    case c1 => intro j u hu; rw [Addr.add_mid]; exact hr2 j u hu
    case c3 => unfold maxLen; omega
    case c4 => omega
    case c5 => simp
    intro v1 w1 hown1 hg1 _
    have hb1 : Below w.heap.size w w1 := ((Below.refl _ _).alloc (Nat.le_refl _) _).grown hg1 (by simp) (by intro k hk; simp [Value.ownBlock] at hk; omega)
    clear hr hr2 hown0 HN hg1
    go_wp2
    go_ret
    exact ⟨_, rfl, hown1, hb1⟩
theorem cloneN_nil (w : World) : Calls Tryd.prog 20 #[.slice none 0 0] w fun e w' => e = .returned (.slice none 0 0) ∧ w = w' := by
  have hnil : Sem.run Tryd.prog (binOp .eql 29 (.slice none 0 0) (.slice none 0 0)) w = .ok (.bool true) w := Lib.run_eql_slice_nil w 29 70 none 0 0 0 0 Tryd.underlying29
  go_enter Tryd.func20, Tryd.ntmps20
  go_wp2
  go_ret
  exact ⟨rfl, rfl⟩
theorem cloneT_nil (w : World) : Calls Tryd.prog 21 #[.slice none 0 0] w fun e w' => e = .returned (.slice none 0 0) ∧ w = w' := by
  have hnil : Sem.run Tryd.prog (binOp .eql 32 (.slice none 0 0) (.slice none 0 0)) w = .ok (.bool true) w := Lib.run_eql_slice_nil w 32 73 none 0 0 0 0 Tryd.underlying32
  go_enter Tryd.func21, Tryd.ntmps21
  go_wp2
  go_ret
  exact ⟨rfl, rfl⟩
set_option maxHeartbeats 1000000 in
theorem copied_nil (root : Int) (w : World) : Calls Tryd.prog 14 #[.agg #[.int .i64 root, .slice none 0 0, .slice none 0 0]] w fun e w' => e = .returned (.agg #[.int .i64 root, .slice none 0 0, .slice none 0 0]) ∧ Below w.heap.size w w' := by
  go_enter Tryd.func14, Tryd.ntmps14
  go_wp2_with fail
  go_region_with (first | (go_at_call 20; refine (cloneN_nil _).mono ?_; rintro e w' ⟨rfl, rfl⟩) | (go_at_call 21; refine (cloneT_nil _).mono ?_; rintro e w' ⟨rfl, rfl⟩))
  all_goals go_wp2
  all_goals exact bodyPost_ret (v := .agg #[.int .i64 root, .slice none 0 0, .slice none 0 0]) (by simp [results, Tryd.results14, go_sem]) rfl ⟨rfl, (((Below.refl _ _).alloc (Nat.le_refl _) _).alloc (by simp) _).drew⟩
end Go.Proofs.YtlipahfkfhcniaaDoor
