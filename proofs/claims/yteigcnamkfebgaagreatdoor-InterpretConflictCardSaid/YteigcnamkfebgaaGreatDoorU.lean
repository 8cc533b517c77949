import Derived.Test.YteigcnamkfebgaaGreatDoorR
namespace Go.Proofs.YteigcnamkfebgaaGreatDoor
open Go.RowKit
theorem und222 : Tryz.prog.underlying 222 = some (.slice 5) := by kernel_rfl
theorem und5 : Tryz.prog.underlying 5 = some (.int .u8) := by kernel_rfl
theorem und9 : Tryz.prog.underlying 9 = some .string := by kernel_rfl
theorem info5 : (Tryz.prog.info? 5).map (fun i => (i.zero, i.size, i.bytes)) = some (some (.int .u8 0), 1, 1) := by kernel_rfl
section
variable {P : Program} (w : World)
/-- append within the capacity, at the operation -/
theorem wpList_append_fits {ops : Array Oper} {rest : List Oper} {o : Oper} {a : Act} {Q : Exit → Act → World → Prop} (hgd : o.guard = none) (s x : Operand) (t : TypeId)
    (ho : o.op = .call { callee := .builtin .append, args := #[s, x], argTypes := #[t, t] })
    (base : Nat) (e : TypeId) (i : TypeInfo) (size : Nat) (ht : P.underlying t = some (.slice e)) (hi : P.info? e = some i) (hsize : i.size = size)
    (g n cap : Nat) (xs : List Value) (hs : a.eval s = .slice (some ⟨g, 0, none⟩) n cap) (hown : w.ownsRow base e size (.slice (some ⟨g, 0, none⟩) n cap) n xs)
    (ad : Addr) (m c : Nat) (news : List Value) (hx : a.eval x = .slice (some ad) m c) (hl : news.length = m * size) (hnews : ∀ j u, news[j]? = some u → w.cell? (ad.add j) = some u) (h1 : ∀ u ∈ news, u.oneCell' = true)
    (hroom : n + m ≤ cap)
    (h : ∀ w', w'.ownsRow base e size (.slice (some ⟨g, 0, none⟩) (n + m) cap) (n + m) (xs ++ news) → w.grownBy w' (some g) → wpList P ops Q rest (a.put o.dst (.slice (some ⟨g, 0, none⟩) (n + m) cap)) w') :
    wpList P ops Q (o :: rest) a w := by
  refine wpList_plain hgd fun K hK => ?_
  obtain ⟨w', hr, h2, h3⟩ := run_append_fits (P := P) w base t o.type e i size ht hi hsize g n cap xs hown ad m c news hl hnews h1 hroom
  unfold Oper.wp execOp
  simp only [ho, resolve, invoke, builtin, Sem.run_bind, Sem.run_pure, Result.andThen_ok, List.map_toArray, List.map_cons, List.map_nil, hs, hx, hr]
  exact hK _ _ (h w' h2 h3)
end
set_option maxRecDepth 100000 in
theorem mag10 (b c : Nat) (w : World) (hc0 : w.cell? ⟨b, 0, none⟩ = some (.int .u32 1)) (hc1 : w.cell? ⟨b, 1, none⟩ = some (.int .u32 0)) : Calls Tryz.prog 233 #[.slice (some ⟨b, 0, none⟩) 2 c] w fun e w' => e = .returned (.string ⟨#[1]⟩) ∧ Below w.heap.size w w' := by
  have hlb : b < w.heap.size := World.block_lt_of_cell? _ _ hc0
  obtain ⟨i0, hi, hzz⟩ := Option.map_eq_some_iff.1 info5
  simp only [Prod.mk.injEq] at hzz
  obtain ⟨hz, hsz, hby⟩ := hzz
  obtain ⟨w1, hmk, hown1, hg1⟩ := run_make_own (P := Tryz.prog) w w.heap.size 222 5 i0 (.int .u8 0) 1 und222 hi hz hsz .i64 .i64 8 (by rw [hby]; decide) (by decide) (Nat.le_refl _)
  have hb1 : Below w.heap.size w w1 := (Below.refl _ _).grown hg1 (Nat.le_refl _) (by simp)
  have hmk2 : (Instr.makeSlice 222 (.int .i64 0) (.int .i64 8)).run Tryz.prog w = .ok (.slice (some ⟨w.heap.size, 0, none⟩) 0 8) w1 := hmk
  clear hmk
  have q0 := (hb1.cell (p := ⟨b, 0, none⟩) hlb).trans hc0
  have q1 := (hb1.cell (p := ⟨b, 1, none⟩) hlb).trans hc1
  go_enter Tryz.func233, Tryz.ntmps233
  go_wp2
  clear hmk2
  refine wp_loop_rounds 3 ?_
  rw [rounds_succ]; go_wp2
  refine wp_loop_rounds 5 ?_
  rw [rounds_succ]
  go_wp2_with (at_builtin; refine wpList_append_fits _ rfl _ _ 222 rfl w.heap.size 5 i0 1 und222 hi hsz w.heap.size 0 8 _ rfl (hown1.alloc _) ⟨_, 0, none⟩ 1 1 [_] rfl rfl (cell_one_new _ _ _) (by simp [Value.oneCell']) (by decide) ?_)
  intro w2 hown2 hg2
  have hb2 : Below w.heap.size w w2 := (hb1.alloc hb1.size _).grown hg2 (by simp; have := hb1.size; omega) (by intro k hk; simp at hk; omega)
  have r1_2 := (hb2.cell (p := ⟨b, 1, none⟩) hlb).trans hc1
  clear hown1 hg2 hb1
  go_wp2
  rw [rounds_succ]
  go_wp2_with (at_builtin; refine wpList_append_fits _ rfl _ _ 222 rfl w.heap.size 5 i0 1 und222 hi hsz w.heap.size 1 8 _ rfl (hown2.alloc _) ⟨_, 0, none⟩ 1 1 [_] rfl rfl (cell_one_new _ _ _) (by simp [Value.oneCell']) (by decide) ?_)
  intro w3 hown3 hg3
  have hb3 : Below w.heap.size w w3 := (hb2.alloc hb2.size _).grown hg3 (by simp; have := hb2.size; omega) (by intro k hk; simp at hk; omega)
  have r1_3 := (hb3.cell (p := ⟨b, 1, none⟩) hlb).trans hc1
  clear hown2 hg3 hb2
  go_wp2
  rw [rounds_succ]
  go_wp2_with (at_builtin; refine wpList_append_fits _ rfl _ _ 222 rfl w.heap.size 5 i0 1 und222 hi hsz w.heap.size 2 8 _ rfl (hown3.alloc _) ⟨_, 0, none⟩ 1 1 [_] rfl rfl (cell_one_new _ _ _) (by simp [Value.oneCell']) (by decide) ?_)
  intro w4 hown4 hg4
  have hb4 : Below w.heap.size w w4 := (hb3.alloc hb3.size _).grown hg4 (by simp; have := hb3.size; omega) (by intro k hk; simp at hk; omega)
  have r1_4 := (hb4.cell (p := ⟨b, 1, none⟩) hlb).trans hc1
  clear hown3 hg4 hb3
  go_wp2
  rw [rounds_succ]
  go_wp2_with (at_builtin; refine wpList_append_fits _ rfl _ _ 222 rfl w.heap.size 5 i0 1 und222 hi hsz w.heap.size 3 8 _ rfl (hown4.alloc _) ⟨_, 0, none⟩ 1 1 [_] rfl rfl (cell_one_new _ _ _) (by simp [Value.oneCell']) (by decide) ?_)
  intro w5 hown5 hg5
  have hb5 : Below w.heap.size w w5 := (hb4.alloc hb4.size _).grown hg5 (by simp; have := hb4.size; omega) (by intro k hk; simp at hk; omega)
  have r1_5 := (hb5.cell (p := ⟨b, 1, none⟩) hlb).trans hc1
  clear hown4 hg5 hb4
  go_wp2
  rw [rounds_succ]; go_wp2
  rw [rounds_succ]; go_wp2
  refine wp_loop_rounds 5 ?_
  rw [rounds_succ]
  go_wp2_with (at_builtin; refine wpList_append_fits _ rfl _ _ 222 rfl w.heap.size 5 i0 1 und222 hi hsz w.heap.size 4 8 _ rfl (hown5.alloc _) ⟨_, 0, none⟩ 1 1 [_] rfl rfl (cell_one_new _ _ _) (by simp [Value.oneCell']) (by decide) ?_)
  intro w6 hown6 hg6
  have hb6 : Below w.heap.size w w6 := (hb5.alloc hb5.size _).grown hg6 (by simp; have := hb5.size; omega) (by intro k hk; simp at hk; omega)
  clear hown5 hg6 hb5
  go_wp2
  rw [rounds_succ]
  go_wp2_with (at_builtin; refine wpList_append_fits _ rfl _ _ 222 rfl w.heap.size 5 i0 1 und222 hi hsz w.heap.size 5 8 _ rfl (hown6.alloc _) ⟨_, 0, none⟩ 1 1 [_] rfl rfl (cell_one_new _ _ _) (by simp [Value.oneCell']) (by decide) ?_)
  intro w7 hown7 hg7
  have hb7 : Below w.heap.size w w7 := (hb6.alloc hb6.size _).grown hg7 (by simp; have := hb6.size; omega) (by intro k hk; simp at hk; omega)
  clear hown6 hg7 hb6
  go_wp2
  rw [rounds_succ]
  go_wp2_with (at_builtin; refine wpList_append_fits _ rfl _ _ 222 rfl w.heap.size 5 i0 1 und222 hi hsz w.heap.size 6 8 _ rfl (hown7.alloc _) ⟨_, 0, none⟩ 1 1 [_] rfl rfl (cell_one_new _ _ _) (by simp [Value.oneCell']) (by decide) ?_)
  intro w8 hown8 hg8
  have hb8 : Below w.heap.size w w8 := (hb7.alloc hb7.size _).grown hg8 (by simp; have := hb7.size; omega) (by intro k hk; simp at hk; omega)
  clear hown7 hg8 hb7
  go_wp2
  rw [rounds_succ]
  go_wp2_with (at_builtin; refine wpList_append_fits _ rfl _ _ 222 rfl w.heap.size 5 i0 1 und222 hi hsz w.heap.size 7 8 _ rfl (hown8.alloc _) ⟨_, 0, none⟩ 1 1 [_] rfl rfl (cell_one_new _ _ _) (by simp [Value.oneCell']) (by decide) ?_)
  intro w9 hown9 hg9
  have hb9 : Below w.heap.size w w9 := (hb8.alloc hb8.size _).grown hg9 (by simp; have := hb8.size; omega) (by intro k hk; simp at hk; omega)
  clear hown8 hg9 hb8
  go_wp2
  rw [rounds_succ]; go_wp2
  rw [rounds_succ]
  have hcv : (convert 222 9 (.slice (some ⟨w.heap.size, 0, none⟩) 8 8)).run Tryz.prog w9 = .ok (.string ⟨#[1, 0, 0, 0, 0, 0, 0, 0]⟩) w9 := by
    refine run_convert_bytes_arg (P := Tryz.prog) _ 222 5 und222 und5 w.heap.size 0 8 8 [1, 0, 0, 0, 0, 0, 0, 0] rfl (fun i hi => ?_) 9 und9
    rw [Nat.zero_add, hown9.cellAt i (by omega)]
    match i, hi with
    | 0, _ => rfl
    | 1, _ => rfl
    | 2, _ => rfl
    | 3, _ => rfl
    | 4, _ => rfl
    | 5, _ => rfl
    | 6, _ => rfl
    | 7, _ => rfl
  clear hown9
  go_wp2_with (go_at_call 200; refine (norm8 _).mono ?_; rintro e w0 ⟨rfl, rfl⟩)
  go_ret
  exact ⟨rfl, hb9⟩
set_option maxRecDepth 100000 in
theorem mag0 (b c : Nat) (w : World) (hc0 : w.cell? ⟨b, 0, none⟩ = some (.int .u32 0)) : Calls Tryz.prog 233 #[.slice (some ⟨b, 0, none⟩) 1 c] w fun e w' => e = .returned (.string ⟨#[]⟩) ∧ Below w.heap.size w w' := by
  have hlb : b < w.heap.size := World.block_lt_of_cell? _ _ hc0
  obtain ⟨i0, hi, hzz⟩ := Option.map_eq_some_iff.1 info5
  simp only [Prod.mk.injEq] at hzz
  obtain ⟨hz, hsz, hby⟩ := hzz
  obtain ⟨w1, hmk, hown1, hg1⟩ := run_make_own (P := Tryz.prog) w w.heap.size 222 5 i0 (.int .u8 0) 1 und222 hi hz hsz .i64 .i64 4 (by rw [hby]; decide) (by decide) (Nat.le_refl _)
  have hb1 : Below w.heap.size w w1 := (Below.refl _ _).grown hg1 (Nat.le_refl _) (by simp)
  have hmk2 : (Instr.makeSlice 222 (.int .i64 0) (.int .i64 4)).run Tryz.prog w = .ok (.slice (some ⟨w.heap.size, 0, none⟩) 0 4) w1 := hmk
  clear hmk
  have q0 := (hb1.cell (p := ⟨b, 0, none⟩) hlb).trans hc0
  go_enter Tryz.func233, Tryz.ntmps233
  go_wp2
  clear hmk2
  refine wp_loop_rounds 2 ?_
  rw [rounds_succ]; go_wp2
  refine wp_loop_rounds 5 ?_
  rw [rounds_succ]
  go_wp2_with (at_builtin; refine wpList_append_fits _ rfl _ _ 222 rfl w.heap.size 5 i0 1 und222 hi hsz w.heap.size 0 4 _ rfl (hown1.alloc _) ⟨_, 0, none⟩ 1 1 [_] rfl rfl (cell_one_new _ _ _) (by simp [Value.oneCell']) (by decide) ?_)
  intro w2 hown2 hg2
  have hb2 : Below w.heap.size w w2 := (hb1.alloc hb1.size _).grown hg2 (by simp; have := hb1.size; omega) (by intro k hk; simp at hk; omega)
  clear hown1 hg2 hb1
  go_wp2
  rw [rounds_succ]
  go_wp2_with (at_builtin; refine wpList_append_fits _ rfl _ _ 222 rfl w.heap.size 5 i0 1 und222 hi hsz w.heap.size 1 4 _ rfl (hown2.alloc _) ⟨_, 0, none⟩ 1 1 [_] rfl rfl (cell_one_new _ _ _) (by simp [Value.oneCell']) (by decide) ?_)
  intro w3 hown3 hg3
  have hb3 : Below w.heap.size w w3 := (hb2.alloc hb2.size _).grown hg3 (by simp; have := hb2.size; omega) (by intro k hk; simp at hk; omega)
  clear hown2 hg3 hb2
  go_wp2
  rw [rounds_succ]
  go_wp2_with (at_builtin; refine wpList_append_fits _ rfl _ _ 222 rfl w.heap.size 5 i0 1 und222 hi hsz w.heap.size 2 4 _ rfl (hown3.alloc _) ⟨_, 0, none⟩ 1 1 [_] rfl rfl (cell_one_new _ _ _) (by simp [Value.oneCell']) (by decide) ?_)
  intro w4 hown4 hg4
  have hb4 : Below w.heap.size w w4 := (hb3.alloc hb3.size _).grown hg4 (by simp; have := hb3.size; omega) (by intro k hk; simp at hk; omega)
  clear hown3 hg4 hb3
  go_wp2
  rw [rounds_succ]
  go_wp2_with (at_builtin; refine wpList_append_fits _ rfl _ _ 222 rfl w.heap.size 5 i0 1 und222 hi hsz w.heap.size 3 4 _ rfl (hown4.alloc _) ⟨_, 0, none⟩ 1 1 [_] rfl rfl (cell_one_new _ _ _) (by simp [Value.oneCell']) (by decide) ?_)
  intro w5 hown5 hg5
  have hb5 : Below w.heap.size w w5 := (hb4.alloc hb4.size _).grown hg5 (by simp; have := hb4.size; omega) (by intro k hk; simp at hk; omega)
  clear hown4 hg5 hb4
  go_wp2
  rw [rounds_succ]; go_wp2
  rw [rounds_succ]
  have hcv : (convert 222 9 (.slice (some ⟨w.heap.size, 0, none⟩) 4 4)).run Tryz.prog w5 = .ok (.string ⟨#[0, 0, 0, 0]⟩) w5 := by
    refine run_convert_bytes_arg (P := Tryz.prog) _ 222 5 und222 und5 w.heap.size 0 4 4 [0, 0, 0, 0] rfl (fun i hi => ?_) 9 und9
    rw [Nat.zero_add, hown5.cellAt i (by omega)]
    match i, hi with
    | 0, _ => rfl
    | 1, _ => rfl
    | 2, _ => rfl
    | 3, _ => rfl
  clear hown5
  go_wp2_with (go_at_call 200; refine (norm4 _).mono ?_; rintro e w0 ⟨rfl, rfl⟩)
  go_ret
  exact ⟨rfl, hb5⟩
end Go.Proofs.YteigcnamkfebgaaGreatDoor
