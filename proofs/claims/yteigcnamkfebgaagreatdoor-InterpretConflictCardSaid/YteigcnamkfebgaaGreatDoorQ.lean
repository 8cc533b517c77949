import Derived.Test.YteigcnamkfebgaaGreatDoorP
namespace Go.Proofs.YteigcnamkfebgaaGreatDoor
open Go.RowKit
theorem sort2_len (c : TnD → TnD → Int) (l : List TnD) : (sort2 c l).length = l.length := by
  unfold sort2
  split
  · split <;> rfl
  · rfl
theorem insL_any (gf : FuncId) (c : TnD → TnD → Int) (l : List TnD) (hl : l.length ≤ 2) (v : Value) (base : Nat) (w : World) (hv : w.ownsRow base 55 8 v l.length (tnY.flat l)) (hbase : base ≤ w.heap.size)
    (heg : ∀ (a : Array Value) (W : World), Sem.run Tryz.prog (callFunc gf a) W = .ok (.enter gf a) W) (hc : CmpF gf c l) :
    Calls Tryz.prog 154 #[v, .int .i64 0, .int .i64 l.length, .func (.func gf) #[] #[]] w fun e w' => e = .returned (.tuple #[]) ∧ w'.ownsRow base 55 8 v l.length (tnY.flat (sort2 c l)) ∧ Below base w w' := by
  rcases l with _ | ⟨x, _ | ⟨y, _ | ⟨z, r⟩⟩⟩
  · refine (insSmall_any gf v 0 w (by omega)).mono ?_
    rintro e w' ⟨rfl, rfl⟩
    exact ⟨rfl, hv, Below.refl _ _⟩
  · refine (insSmall_any gf v 1 w (by omega)).mono ?_
    rintro e w' ⟨rfl, rfl⟩
    exact ⟨rfl, hv, Below.refl _ _⟩
  · obtain ⟨g, cap, rfl⟩ : ∃ g cap, v = .slice (some ⟨g, 0, none⟩) 2 cap := by
      rcases hv.2 with ⟨_, h0⟩ | ⟨g, cap, cur, h1, _⟩
      · simp at h0
      · exact ⟨g, cap, h1⟩
    exact ins2_any gf c x y g cap base w hv hbase heg hc
  · simp at hl
theorem stable_any (gf : FuncId) (c : TnD → TnD → Int) (l : List TnD) (hl : l.length ≤ 2) (v : Value) (base : Nat) (w : World) (hv : w.ownsRow base 55 8 v l.length (tnY.flat l)) (hbase : base ≤ w.heap.size)
    (heg : ∀ (a : Array Value) (W : World), Sem.run Tryz.prog (callFunc gf a) W = .ok (.enter gf a) W) (hc : CmpF gf c l) :
    Calls Tryz.prog 170 #[v, .int .i64 l.length, .func (.func gf) #[] #[]] w fun e w' => e = .returned (.tuple #[]) ∧ w'.ownsRow base 55 8 v l.length (tnY.flat (sort2 c l)) ∧ Below base w w' := by
  have H := Lib.hid (insL_any gf c l hl v base w hv hbase heg hc)
  clear hc hv
  generalize l.length = n at *
  have hd : decide ((20 : Int) ≤ (n : Int)) = false := by simp; omega
  have hd2 : decide ((20 : Int) < (n : Int)) = false := by simp; omega
  go_enter Tryz.func170, Tryz.ntmps170
  go_wp2
  refine wp_loop_rounds 1 ?_
  rw [rounds_succ]
  go_wp2_with fail
  refine (H.out).mono ?_
  rintro e w1 ⟨rfl, ho, hb⟩
  go_wp2
  refine wp_loop_rounds 1 ?_
  rw [rounds_succ]
  go_wp2
  go_end0
  exact ⟨rfl, ho, hb⟩
theorem sortStable_any (gf : FuncId) (c : TnD → TnD → Int) (l : List TnD) (hl : l.length ≤ 2) (v : Value) (base : Nat) (w : World) (hv : w.ownsRow base 55 8 v l.length (tnY.flat l)) (hbase : base ≤ w.heap.size)
    (heg : ∀ (a : Array Value) (W : World), Sem.run Tryz.prog (callFunc gf a) W = .ok (.enter gf a) W) (hc : CmpF gf c l) :
    Calls Tryz.prog 129 #[v, .func (.func gf) #[] #[]] w fun e w' => e = .returned (.tuple #[]) ∧ w'.ownsRow base 55 8 v l.length (tnY.flat (sort2 c l)) ∧ Below base w w' := by
  have H := Lib.hid (stable_any gf c l hl v base w hv hbase heg hc)
  obtain ⟨a, n, cc, rfl⟩ := (Lay.Rd.of_owns (Y := tnY) hv).form
  have hn := (Lay.Rd.of_owns (Y := tnY) hv).len
  subst hn
  clear hc hv
  generalize l.length = n at *
  go_enter Tryz.func129, Tryz.ntmps129
  go_wp2_with fail
  refine (H.out).mono ?_
  rintro e w1 ⟨rfl, ho, hb⟩
  go_wp2
  go_end0
  exact ⟨rfl, ho, hb⟩
theorem pdq_any (gf : FuncId) (c : TnD → TnD → Int) (l : List TnD) (hl : l.length ≤ 2) (v : Value) (lim : Int) (base : Nat) (w : World) (hv : w.ownsRow base 55 8 v l.length (tnY.flat l)) (hbase : base ≤ w.heap.size)
    (heg : ∀ (a : Array Value) (W : World), Sem.run Tryz.prog (callFunc gf a) W = .ok (.enter gf a) W) (hc : CmpF gf c l) :
    Calls Tryz.prog 116 #[v, .int .i64 0, .int .i64 l.length, .int .i64 lim, .func (.func gf) #[] #[]] w fun e w' => e = .returned (.tuple #[]) ∧ w'.ownsRow base 55 8 v l.length (tnY.flat (sort2 c l)) ∧ Below base w w' := by
  have H := Lib.hid (insL_any gf c l hl v base w hv hbase heg hc)
  clear hc hv
  generalize l.length = n at *
  have hw : wrap64 ((n : Int) - 0) = n := by unfold wrap64; omega
  have hd : (n : Int) ≤ 12 := by omega
  go_enter Tryz.func116, Tryz.ntmps116
  go_wp2
  refine wp_loop_rounds 1 ?_
  rw [rounds_succ]
  go_wp2_with fail
  refine (H.out).mono ?_
  rintro e w1 ⟨rfl, ho, hb⟩
  go_wp2
  exact bodyPost_ret (v := .tuple #[]) (by simp [results, Tryz.results116, go_sem]) rfl ⟨rfl, ho, hb⟩
set_option maxRecDepth 100000 in
theorem len64_any (n : Nat) (hn : n ≤ 2) (w : World) : Calls Tryz.prog 163 #[.int .u64 n] w fun e w' => (∃ m : Int, e = .returned (.int .i64 m)) ∧ w = w' := by
  rcases (show n = 0 ∨ n = 1 ∨ n = 2 by omega) with rfl | rfl | rfl
  · go_enter Tryz.func163, Tryz.ntmps163
    go_wp2
    go_ret
    exact ⟨⟨_, rfl⟩, rfl⟩
  · go_enter Tryz.func163, Tryz.ntmps163
    go_wp2
    go_ret
    exact ⟨⟨_, rfl⟩, rfl⟩
  · go_enter Tryz.func163, Tryz.ntmps163
    go_wp2
    go_ret
    exact ⟨⟨_, rfl⟩, rfl⟩
theorem len_any (n : Nat) (hn : n ≤ 2) (w : World) : Calls Tryz.prog 117 #[.int .u64 n] w fun e w' => (∃ m : Int, e = .returned (.int .i64 m)) ∧ w = w' := by
  have H := Lib.hid (len64_any n hn w)
  have hu : IntKind.u64.wrap (n : Int) = n := by rw [IntKind.wrap_u64]; omega
  go_enter Tryz.func117, Tryz.ntmps117
  go_wp2_with fail
  refine (H.out).mono ?_
  rintro e w1 ⟨⟨m, rfl⟩, rfl⟩
  go_wp2
  go_ret
  exact ⟨⟨_, rfl⟩, rfl⟩
theorem sortFunc_any (gf : FuncId) (c : TnD → TnD → Int) (l : List TnD) (hl : l.length ≤ 2) (v : Value) (base : Nat) (w : World) (hv : w.ownsRow base 55 8 v l.length (tnY.flat l)) (hbase : base ≤ w.heap.size)
    (heg : ∀ (a : Array Value) (W : World), Sem.run Tryz.prog (callFunc gf a) W = .ok (.enter gf a) W) (hc : CmpF gf c l) :
    Calls Tryz.prog 73 #[v, .func (.func gf) #[] #[]] w fun e w' => e = .returned (.tuple #[]) ∧ w'.ownsRow base 55 8 v l.length (tnY.flat (sort2 c l)) ∧ Below base w w' := by
  have H := Lib.hid (fun lim => pdq_any gf c l hl v lim base w hv hbase heg hc)
  have HL := Lib.hid (len_any l.length hl w)
  obtain ⟨a, n, cc, rfl⟩ := (Lay.Rd.of_owns (Y := tnY) hv).form
  have hn := (Lay.Rd.of_owns (Y := tnY) hv).len
  subst hn
  clear hc hv
  generalize l.length = n at *
  have hu : IntKind.u64.wrap (n : Int) = n := by rw [IntKind.wrap_u64]; omega
  go_enter Tryz.func73, Tryz.ntmps73
  go_wp2_with fail
  refine (HL.out).mono ?_
  rintro e w1 ⟨⟨m, rfl⟩, rfl⟩
  go_wp2_with fail
  refine (H.out m).mono ?_
  rintro e w1 ⟨rfl, ho, hb⟩
  go_wp2
  go_end0
  exact ⟨rfl, ho, hb⟩
end Go.Proofs.YteigcnamkfebgaaGreatDoor
