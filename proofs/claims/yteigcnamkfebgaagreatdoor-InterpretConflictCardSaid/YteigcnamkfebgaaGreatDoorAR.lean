import Derived.Test.YteigcnamkfebgaaGreatDoorAQ
namespace Go.Proofs.YteigcnamkfebgaaGreatDoor
open Go.RowKit
/-- the first four kinds of features, as the table lies -/
def KindsAt (W : World) : Prop := ∃ (kb ko cap : Nat) (f0 f1 f2 f3 : SlV), W.cell? ⟨2, 0, none⟩ = some (.slice (some ⟨kb, ko, none⟩) 8 cap) ∧
  W.cell? ⟨kb, ko, none⟩ = some (.string ⟨#[101, 120, 116, 114, 117, 100, 101]⟩) ∧ W.cell? ⟨kb, ko + 1, none⟩ = some (.slice f0.a f0.len f0.cap) ∧
  W.cell? ⟨kb, ko + 2, none⟩ = some (.string ⟨#[99, 117, 116]⟩) ∧ W.cell? ⟨kb, ko + 3, none⟩ = some (.slice f1.a f1.len f1.cap) ∧
  W.cell? ⟨kb, ko + 4, none⟩ = some (.string ⟨#[99, 104, 97, 109, 102, 101, 114]⟩) ∧ W.cell? ⟨kb, ko + 5, none⟩ = some (.slice f2.a f2.len f2.cap) ∧
  W.cell? ⟨kb, ko + 6, none⟩ = some (.string ⟨#[109, 105, 114, 114, 111, 114]⟩) ∧ W.cell? ⟨kb, ko + 7, none⟩ = some (.slice f3.a 1 f3.cap)
theorem KindsAt.below {w w' : World} (h : KindsAt w) (hb : Below w.heap.size w w') : KindsAt w' := by
  obtain ⟨kb, ko, cap, f0, f1, f2, f3, g, h0, h1, h2, h3, h4, h5, h6, h7⟩ := h
  exact ⟨kb, ko, cap, f0, f1, f2, f3, keep1 hb g, keep1 hb h0, keep1 hb h1, keep1 hb h2, keep1 hb h3, keep1 hb h4, keep1 hb h5, keep1 hb h6, keep1 hb h7⟩
set_option maxRecDepth 100000 in
set_option maxHeartbeats 6400000 in
theorem kindMirror (w : World) (h : KindsAt w) : Calls Tryz.prog 97 #[.string ⟨#[109, 105, 114, 114, 111, 114]⟩] w fun e w' => e = .returned (.tuple #[.int .i64 4, .bool true]) ∧ Below w.heap.size w w' := by
  obtain ⟨kb, ko, cap, f0, f1, f2, f3, g, h0, h1, h2, h3, h4, h5, h6, h7⟩ := h
  have l2 := block_lt_of_cell g
  have lk : kb < w.heap.size := block_lt_of_cell h0
  have lk1 : kb < w.heap.size + 1 := by omega
  have lk2 : kb < w.heap.size + 1 + 1 := by omega
  have lk3 : kb < w.heap.size + 1 + 1 + 1 := by omega
  go_enter Tryz.func97, Tryz.ntmps97
  go_wp2
  refine wp_loop_rounds 4 ?_
  rw [rounds_succ]; go_wp2
  rw [rounds_succ]; go_wp2
  rw [rounds_succ]; go_wp2
  rw [rounds_succ]; go_wp2
  exact bodyPost_ret (v := .tuple #[.int .i64 4, .bool true]) (by simp [results, Tryz.results97, go_sem]) rfl ⟨rfl, (((((Below.refl _ w).alloc (Nat.le_refl _) _).alloc (by simp) _).alloc (by simp <;> omega) _).alloc (by simp <;> omega) _)⟩
set_option maxRecDepth 100000 in
theorem fields4 (w : World) (h : KindsAt w) : Calls Tryz.prog 98 #[.int .i64 4] w fun e w' => ∃ s : SlV, e = .returned (.tuple #[.slice s.a 1 s.cap, .bool true]) ∧ w = w' := by
  obtain ⟨kb, ko, cap, f0, f1, f2, f3, g, h0, h1, h2, h3, h4, h5, h6, h7⟩ := h
  go_enter Tryz.func98, Tryz.ntmps98
  go_wp2
  exact bodyPost_ret (v := .tuple #[.slice f3.a 1 f3.cap, .bool true]) (by simp [results, Tryz.results98, go_sem]) rfl ⟨f3, rfl, rfl⟩
theorem places_any (b : Nat) (w : World) : Calls Tryz.prog 99 #[.pointer (some ⟨b, 0, none⟩)] w fun e w' => ∃ g : Value, e = .returned g ∧ Below w.heap.size w w' := by
  go_enter Tryz.func99, Tryz.ntmps99
  go_wp2
  go_ret
  exact ⟨_, rfl, (Below.refl _ _).alloc (Nat.le_refl _) _⟩
/-- a whole value into a block that lies -/
theorem wpList_store_row {P : Program} {ops : Array Oper} {rest : List Oper} {o : Oper} {a : Act} {w : World} {Q : Exit → Act → World → Prop} (hgd : o.guard = none) (ty : TypeId) (x y : Operand) (ho : o.op = .store ty x y) (b : Nat) (c c' : Array Value) (hb : w.heap[b]? = some (.cells c ty (0, 0)))
    (hx : a.eval x = .pointer (some ⟨b, 0, none⟩)) (hy : a.eval y = .agg c') (hi : (P.info? ty).map (·.size) = some c'.size) (hs : c.size = c'.size) (h1 : c'.all (·.oneCell') = true)
    (h : ∀ w', w'.heap[b]? = some (.cells c' ty (0, 0)) → (∀ i, i ≠ b → w'.heap[i]? = w.heap[i]?) → w'.heap.size = w.heap.size → (∀ B, B ≤ b → Below B w w') → wpList P ops Q rest (a.put o.dst undef) w') : wpList P ops Q (o :: rest) a w := by
  refine wpList_plain hgd fun K hK => ?_
  have hr := run_storeVar_row (P := P) w b ty ty c c' hb hi hs h1
  unfold Oper.wp execOp
  simp only [ho, hx, hy, Instr.storeAt, Instr.sureAddr, hr, Sem.run_bind, Sem.run_pure, Result.andThen_ok]
  exact hK _ _ (h _ (setRow_heap _ _ _ _ _ _ hb) (fun i hi => setRow_other w b i _ hi) (by simp) (fun B hB => ⟨rfl, rfl, rfl, by simp, fun k hk => setRow_other w b k _ (by omega)⟩))
theorem results_cell_tmp {P : Program} {fn : Func} {p q : Tmp} {ty : TypeId} (h : fn.results = #[.cell p ty, .tmp q]) (tmps : Array Value) (w : World) (g : Nat) (t : TypeId) (cs : Array Value) (fr : Nat × Nat) (d : TypeDesc) (v : Value)
    (hp : tmps.getD p undef = .pointer (some ⟨g, 0, none⟩)) (hq : tmps.getD q undef = v) (hg : w.heap[g]? = some (.cells cs t fr))
    (hu : P.underlying ty = some d) (hd : (match d with | .struct _ | .array _ _ => true | _ => false) = true) (hi : (P.info? ty).map (·.size) = some cs.size) :
    (results fn tmps).run P w = .ok (.tuple #[.agg cs, v]) w := by
  have hp' : tmps[p]?.getD undef = .pointer (some ⟨g, 0, none⟩) := by simpa using hp
  have hq' : tmps[q]?.getD undef = v := by simpa using hq
  simp [results, h, hp', hq', asAddr, run_loadVar_row w g t ty cs fr d hg hu hd hi]
def z62 : Array Value := #[.string ⟨#[]⟩, .int .i64 0, .string ⟨#[]⟩, .slice none 0 0, .string ⟨#[]⟩, .slice none 0 0, .string ⟨#[]⟩, .string ⟨#[]⟩, .string ⟨#[]⟩, .string ⟨#[]⟩, .string ⟨#[]⟩, .string ⟨#[]⟩]
theorem und146 : Tryz.prog.underlying 146 = some (.map 9 4) := by kernel_rfl
set_option maxRecDepth 100000 in
set_option maxHeartbeats 6400000 in
theorem fromFieldsMirror (w : World) (h : KindsAt w) : Calls Tryz.prog 59 #[.string ⟨#[97, 110, 110, 46, 52]⟩, .string ⟨#[109, 105, 114, 114, 111, 114]⟩, .slice none 0 0] w fun e w' => e = .returned (.tuple #[.agg z62, .int .i64 9]) ∧ Below w.heap.size w w' := by
  have R0 : (w.alloc (.cells z62 62)).heap[w.heap.size]? = _ := alloc_get _ _ _ rfl
  have BL : Below w.heap.size w (w.alloc (.cells z62 62)) := (Below.refl _ _).alloc (Nat.le_refl _) _
  have KA := h.below BL
  have hmm := @run_makeMap Tryz.prog
  unfold z62 at *
  clear h
  go_enter Tryz.func59, Tryz.ntmps59
  go_wp2_with fail
  refine (kindMirror _ KA).mono ?_
  rintro e w1 ⟨rfl, hb1⟩
  have R0 := (hb1.block _ (lt_of_block R0)).trans R0
  have BL := BL.trans (hb1.mono BL.size)
  have KA := KA.below hb1
  clear hb1
  go_wp2_with fail
  have R0 := alloc_old _ _ (.cells #[.string ⟨#[97, 110, 110, 46, 52]⟩, .int .i64 4, .string ⟨#[]⟩, .slice none 0 0, .string ⟨#[]⟩, .slice none 0 0, .string ⟨#[]⟩, .string ⟨#[]⟩, .string ⟨#[]⟩, .string ⟨#[]⟩, .string ⟨#[]⟩, .string ⟨#[]⟩] 62) _ R0
  have KA := KA.below ((Below.refl _ w1).alloc (Nat.le_refl _) (.cells #[.string ⟨#[97, 110, 110, 46, 52]⟩, .int .i64 4, .string ⟨#[]⟩, .slice none 0 0, .string ⟨#[]⟩, .slice none 0 0, .string ⟨#[]⟩, .string ⟨#[]⟩, .string ⟨#[]⟩, .string ⟨#[]⟩, .string ⟨#[]⟩, .string ⟨#[]⟩] 62))
  have BL := BL.alloc BL.size (.cells #[.string ⟨#[97, 110, 110, 46, 52]⟩, .int .i64 4, .string ⟨#[]⟩, .slice none 0 0, .string ⟨#[]⟩, .slice none 0 0, .string ⟨#[]⟩, .string ⟨#[]⟩, .string ⟨#[]⟩, .string ⟨#[]⟩, .string ⟨#[]⟩, .string ⟨#[]⟩] 62)
  refine (fields4 _ KA).mono ?_
  rintro e w2 ⟨s, rfl, rfl⟩
  go_wp2_with fail
  refine (places_any _ _).mono ?_
  rintro e w3 ⟨g, rfl, hb3⟩
  have R0 := (hb3.block _ (lt_of_block R0)).trans R0
  have BL := BL.trans (hb3.mono BL.size)
  clear hb3 KA
  go_wp2
  refine wp_loop_rounds 1 ?_
  rw [rounds_succ]
  have R0 := alloc_old _ _ (.map #[] 0) _ R0
  have BL := BL.alloc BL.size (.map #[] 0)
  have ht := alloc_get w3 (.map #[] 0) w3.heap.size rfl
  go_wp2_with (first
    | (at_len; refine wpList_len_raw _ rfl _ 146 rfl 9 4 und146 w3.heap.size #[] 0 rfl ht ?_)
    | (refine wpList_store_row rfl 62 _ _ rfl w.heap.size _ _ R0 rfl rfl (by kernel_rfl) (by rfl) (by simp [Value.oneCell']) ?_; intro w9 h9 _ _ hb9))
  exact bodyPost_ret (results_cell_tmp Tryz.results59 _ _ w.heap.size 62 _ (0, 0) _ (.int .i64 9) rfl rfl h9 Tryz.underlying62 rfl (by kernel_rfl)) rfl ⟨rfl, BL.trans (hb9 _ (Nat.le_refl _))⟩
end Go.Proofs.YteigcnamkfebgaaGreatDoor
