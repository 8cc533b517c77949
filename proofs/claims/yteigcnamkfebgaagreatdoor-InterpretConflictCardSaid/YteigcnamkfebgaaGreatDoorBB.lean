import Derived.Test.YteigcnamkfebgaaGreatDoorBA
namespace Go.Proofs.YteigcnamkfebgaaGreatDoor
open Go.RowKit
theorem id_two {w : World} {base : Nat} {v : Value} {x y : IdD} (h : w.ownsRow base 38 2 v 2 (idV x ++ idV y)) : idY.Rd w v [x, y] :=
  Lay.Rd.of_owns (Y := idY) (l := [x, y]) (by have h9 : idY.flat [x, y] = idV x ++ idV y := by simp [Lay.flat]; rfl
                                              rw [h9]; exact h)
theorem edits_EP {w : World} {base b2 b3 : Nat} {v : Value} {s2 s3 : SlV} {one two : ByteArray} (h : w.ownsRow base 45 18 v 3 (edY.flat [ed1, eOne s2 one, eTwo s3 two])) (h2 : w.ownsRow b2 38 2 s2.v 1 (idV (annI 1))) (h3 : w.ownsRow b3 38 2 s3.v 1 (idV (annI 1))) : Edits w v (EP s2 s3 one two) := by
  refine ⟨Lay.Rd.of_owns (Y := edY) h, fun e he => ?_⟩
  simp only [EP, List.mem_cons, List.not_mem_nil, or_false] at he
  rcases he with rfl | rfl | rfl
  · exact ⟨.inl ⟨rfl, rfl⟩, by simp⟩
  · exact ⟨id_one h2, by simp⟩
  · exact ⟨id_one h3, by simp⟩
theorem edits_EQ {w : World} {base b2 b3 b4 : Nat} {v : Value} {s2 s3 s4 : SlV} {one two fin : ByteArray} (h : w.ownsRow base 45 18 v 4 (edY.flat [ed1, eOne s2 one, eTwo s3 two, eFin s4 fin])) (h2 : w.ownsRow b2 38 2 s2.v 1 (idV (annI 1))) (h3 : w.ownsRow b3 38 2 s3.v 1 (idV (annI 1))) (h4 : w.ownsRow b4 38 2 s4.v 2 (idV (annI 2) ++ idV bob1)) : Edits w v (EQ s2 s3 s4 one two fin) := by
  refine ⟨Lay.Rd.of_owns (Y := edY) h, fun e he => ?_⟩
  simp only [EQ, List.mem_cons, List.not_mem_nil, or_false] at he
  rcases he with rfl | rfl | rfl | rfl
  · exact ⟨.inl ⟨rfl, rfl⟩, by simp⟩
  · exact ⟨id_one h2, by simp⟩
  · exact ⟨id_one h3, by simp⟩
  · exact ⟨id_two h4, by simp⟩
theorem grown_then {W0 W W' : World} {row : Option Nat} {B : Nat} (h : W0.grownBy W row) (hb : Below B W W') (hB : W0.heap.size ≤ B) : W0.grownBy W' row :=
  ⟨hb.os.trans h.os, hb.tape.trans h.tape, hb.output.trans h.output, Nat.le_trans h.size hb.size, fun i hi hr => (hb.block i (Nat.lt_of_lt_of_le hi hB)).trans (h.block i hi hr)⟩
theorem grown_grown {W0 W W' : World} {row : Option Nat} (h : W0.grownBy W row) (h' : W.grownBy W' row) : W0.grownBy W' row :=
  ⟨h'.os.trans h.os, h'.tape.trans h.tape, h'.output.trans h.output, Nat.le_trans h.size h'.size, fun i hi hr => (h'.block i (Nat.lt_of_lt_of_le hi h.size) hr).trans (h.block i hi hr)⟩
def S9 : List Nat := [10, 49, 50, 51, 52, 53, 54, 55, 56, 57, 58, 59, 60, 61]
def dst9 (j : Nat) : Nat := [49, 50, 51, 52, 53, 54, 55, 56, 57, 58, 59, 60, 61, 10].getD j 0
def D9 : List (Option Tmp × Op × Option (Nat × Bool) × List Nat) :=
  [(some 49, .build 28 #[], none, []), (some 50, .move (.tmp 8), none, []),
   (some 51, .call { callee := .value (.func 14), args := #[.const (.int .i64 3)], argTypes := #[3] }, none, []),
   (some 52, .call { callee := .value (.func 14), args := #[.const (.int .i64 2)], argTypes := #[3] }, none, [2]),
   (some 53, .load 38 (.tmp 7), none, []), (some 54, .buildSlice 41 2 #[(0, .tmp 52), (1, .tmp 53)], none, [3, 4]),
   (some 55, .call { callee := .value (.func 14), args := #[.const (.int .i64 1)], argTypes := #[3] }, none, [3]), (some 56, .move (.tmp 2), none, []),
   (some 57, .build 45 #[(0, .tmp 51), (1, .const (.int .i64 3)), (3, .tmp 54), (4, .const (.int .i64 3)), (5, .tmp 55), (8, .const (.string ⟨#[116, 101, 120, 116]⟩)), (9, .tmp 56)], none, [2, 5, 6, 7]),
   (some 58, .buildSlice 22 1 #[(0, .tmp 57)], none, [8]),
   (some 59, .call { callee := .builtin .append, args := #[.tmp 50, .tmp 58], argTypes := #[22, 22] }, none, [1, 9, 6]),
   (some 60, .call { callee := .value (.func 15), args := #[.tmp 49, .tmp 59], argTypes := #[28, 22] }, none, [0, 10, 10]),
   (some 61, .call { callee := .value (.func 11), args := #[.tmp 60], argTypes := #[28] }, none, [11, 11]),
   (some 10, .alloc 34, none, []),
   (none, .store 34 (.tmp 10) (.tmp 61), none, [13, 12, 12, 0, 1, 2, 3, 4, 5, 6, 7, 8, 9, 10, 11, 12, 13])]
theorem back9 : ∀ (i : Nat) (d : Option Tmp × Op × Option (Nat × Bool) × List Nat), D9[i]? = some d → ∀ j ∈ d.2.2.2, j < i := by
  intro i d h
  have hi : i < 15 := (List.getElem?_eq_some_iff.1 h).1
  rcases (show i = 0 ∨ i = 1 ∨ i = 2 ∨ i = 3 ∨ i = 4 ∨ i = 5 ∨ i = 6 ∨ i = 7 ∨ i = 8 ∨ i = 9 ∨ i = 10 ∨ i = 11 ∨ i = 12 ∨ i = 13 ∨ i = 14 by omega) with rfl | rfl | rfl | rfl | rfl | rfl | rfl | rfl | rfl | rfl | rfl | rfl | rfl | rfl | rfl <;>
    (obtain rfl := Option.some.inj h; intro j hj; simp [D9] at hj <;> omega)
def isDep2 (W : World) (b : Nat) (s : SlV) : Prop := W.ownsRow b 38 2 s.v 2 (idV (annI 2) ++ idV bob1)
section
variable (one two fin : ByteArray) (s8 sd1 sd2 : SlV) (B1 Z : Nat)
def Pr9 (W : World) (v : Value) : Nat → Prop
  | 0 => v = .agg #[.slice none 0 0, .slice none 0 0]
  | 1 => v = .slice s8.a s8.len s8.cap
  | 2 => v = .agg #[.string ⟨#[97, 110, 110]⟩, .int .i64 3]
  | 3 => v = .agg #[.string ⟨#[97, 110, 110]⟩, .int .i64 2]
  | 4 => v = .agg #[.string ⟨#[98, 111, 98]⟩, .int .i64 1]
  | 5 => ∃ s : SlV, v = .slice s.a s.len s.cap ∧ isDep2 W B1 s
  | 6 => v = .agg #[.string ⟨#[97, 110, 110]⟩, .int .i64 1]
  | 7 => v = .string fin
  | 8 => ∃ s : SlV, v = .agg (edV (eFin s fin)).toArray ∧ isDep2 W B1 s
  | 9 => ∃ (q : Nat) (s : SlV), v = .slice (some ⟨q, 0, none⟩) 1 1 ∧ Z ≤ q ∧ W.heap[q]? = some (.cells (edV (eFin s fin)).toArray 45 (0, 0)) ∧ isDep2 W B1 s
  | 10 => ∃ (s9 sd3 : SlV), v = .slice s9.a s9.len s9.cap ∧ W.ownsRow B1 45 18 (.slice s9.a s9.len s9.cap) 4 (edY.flat [ed1, eOne sd1 one, eTwo sd2 two, eFin sd3 fin]) ∧ W.ownsRow B1 38 2 sd1.v 1 (idV (annI 1)) ∧ W.ownsRow B1 38 2 sd2.v 1 (idV (annI 1)) ∧ isDep2 W B1 sd3
  | 11 => ∃ (t1 t2 : SlV), v = .agg #[.slice t1.a t1.len t1.cap, .slice t2.a t2.len t2.cap] ∧ tnY.Rd W t1.v [node1] ∧ RRegs W t2.v (RQ fin)
  | 12 => ∃ (sp sf sc : SlV), v = .agg #[.slice sp.a sp.len sp.cap, .slice sf.a sf.len sf.cap, .slice sc.a sc.len sc.cap] ∧ pdY.Rd W sp.v [⟨⟨#[]⟩, fin⟩] ∧ sc.len = 0
  | 13 => ∃ k, v = .pointer (some ⟨k, 0, none⟩) ∧ Z ≤ k ∧ W.heap[k]? = some (.cells #[.slice none 0 0, .slice none 0 0, .slice none 0 0] 34 (0, 0))
  | _ => True
theorem Pr9.below {W W' : World} {v : Value} {j : Nat} (h : Pr9 one two fin s8 sd1 sd2 B1 Z W v j) (hb : Below W.heap.size W W') : Pr9 one two fin s8 sd1 sd2 B1 Z W' v j := by
  match j, h with
  | 0, h => exact h
  | 1, h => exact h
  | 2, h => exact h
  | 3, h => exact h
  | 4, h => exact h
  | 5, h => obtain ⟨s, e, ho⟩ := h; exact ⟨s, e, ownsRow_below ho hb⟩
  | 6, h => exact h
  | 7, h => exact h
  | 8, h => obtain ⟨s, e, ho⟩ := h; exact ⟨s, e, ownsRow_below ho hb⟩
  | 9, h => obtain ⟨q, s, e, hz, hq, ho⟩ := h; exact ⟨q, s, e, hz, (hb.block _ (lt_of_block hq)).trans hq, ownsRow_below ho hb⟩
  | 10, h => obtain ⟨s9, sd3, e, h1, h2, h3, h4⟩ := h; exact ⟨s9, sd3, e, ownsRow_below h1 hb, ownsRow_below h2 hb, ownsRow_below h3 hb, ownsRow_below h4 hb⟩
  | 11, h => obtain ⟨t1, t2, e, h1, h2⟩ := h; exact ⟨t1, t2, e, h1.below hb, h2.below hb⟩
  | 12, h => obtain ⟨sp, sf, sc, e, h1, h2⟩ := h; exact ⟨sp, sf, sc, e, h1.below hb, h2⟩
  | 13, h => obtain ⟨k, e, hz, hk⟩ := h; exact ⟨k, e, hz, (hb.block _ (lt_of_block hk)).trans hk⟩
  | _ + 14, _ => trivial
theorem Pr9.grown {W W' : World} {v : Value} {j n : Nat} {xs : List Value} (h : Pr9 one two fin s8 sd1 sd2 B1 Z W v j) (h10 : j ≠ 10) (h11 : j ≠ 11) (h12 : j ≠ 12) (hO : W.ownsRow B1 45 18 (.slice s8.a s8.len s8.cap) n xs) (hz : ∀ g, (Value.slice s8.a s8.len s8.cap).ownBlock = some g → g < Z) (hg : W.grownBy W' (Value.slice s8.a s8.len s8.cap).ownBlock) : Pr9 one two fin s8 sd1 sd2 B1 Z W' v j := by
  match j, h, h10, h11, h12 with
  | 0, h, _, _, _ => exact h
  | 1, h, _, _, _ => exact h
  | 2, h, _, _, _ => exact h
  | 3, h, _, _, _ => exact h
  | 4, h, _, _, _ => exact h
  | 5, h, _, _, _ => obtain ⟨s, e, ho⟩ := h; exact ⟨s, e, World.ownsRow.kept ho hg (own_diff ho hO (by decide))⟩
  | 6, h, _, _, _ => exact h
  | 7, h, _, _, _ => exact h
  | 8, h, _, _, _ => obtain ⟨s, e, ho⟩ := h; exact ⟨s, e, World.ownsRow.kept ho hg (own_diff ho hO (by decide))⟩
  | 9, h, _, _, _ => obtain ⟨q, s, e, hq0, hq, ho⟩ := h; exact ⟨q, s, e, hq0, (hg.block _ (lt_of_block hq) (fun e9 => by have := hz q e9.symm; omega)).trans hq, World.ownsRow.kept ho hg (own_diff ho hO (by decide))⟩
  | 10, _, h, _, _ => exact absurd rfl h
  | 11, _, _, h, _ => exact absurd rfl h
  | 12, _, _, _, h => exact absurd rfl h
  | 13, h, _, _, _ => obtain ⟨k, e, hk0, hk⟩ := h; exact ⟨k, e, hk0, (hg.block _ (lt_of_block hk) (fun e9 => by have := hz k e9.symm; omega)).trans hk⟩
  | _ + 14, _, _, _, _ => trivial
structure I9 (W0 : World) (A : Act) (L : Nat → Bool) (a : Act) (W : World) : Prop where
  n14 : L 14 = false
  hg : W0.grownBy W (Value.slice s8.a s8.len s8.cap).ownBlock
  hb : L 10 = false → Below W0.heap.size W0 W
  rg : Rg S9 A dst9 14 (Pr9 one two fin s8 sd1 sd2 B1 Z) L a W
def F9 (W0 : World) (k : Nat) (W : World) : Prop := ∃ sp sf sc : SlV, W.heap[k]? = some (.cells #[.slice sp.a sp.len sp.cap, .slice sf.a sf.len sf.cap, .slice sc.a sc.len sc.cap] 34 (0, 0)) ∧ pdY.Rd W sp.v [⟨⟨#[]⟩, fin⟩] ∧ sc.len = 0 ∧ W0.heap.size ≤ k ∧ W0.grownBy W (Value.slice s8.a s8.len s8.cap).ownBlock
structure C9 (W0 : World) (A : Act) (L : Nat → Bool) (a : Act) (W : World) : Prop where
  all : ∀ j, j < 15 → L j = true
  fr : Fr S9 A a
  v : ∃ k, a.tmps[10]? = some (.pointer (some ⟨k, 0, none⟩)) ∧ F9 fin s8 W0 k W
end
theorem dst9_inj : ∀ i, i < 14 → ∀ j, j < 14 → dst9 i = dst9 j → i = j := by decide
theorem dst9_mem : ∀ i, i < 14 → dst9 i ∈ S9 := by decide
theorem dst9_le : ∀ i, i < 14 → dst9 i ≤ 61 := by decide
theorem I9.step {one two fin : ByteArray} {s8 sd1 sd2 : SlV} {B1 Z : Nat} {W0 : World} {A a : Act} {L : Nat → Bool} {W W' : World} (h : I9 one two fin s8 sd1 sd2 B1 Z W0 A L a W) {i : Nat} {u : Value} (hi : i < 14) (h10 : i ≠ 10) (hA : 61 < A.tmps.size) (hb : Below W.heap.size W W') (hp : Pr9 one two fin s8 sd1 sd2 B1 Z W' u i) :
    I9 one two fin s8 sd1 sd2 B1 Z W0 A (mark L i) (a.put (some (dst9 i)) u) W' :=
  ⟨by rw [mark_ne _ (by omega)]; exact h.n14, grown_then h.hg hb h.hg.size, fun hl => by
    rw [mark_ne _ (fun e => h10 e.symm)] at hl
    exact (h.hb hl).trans (hb.mono h.hg.size), h.rg.step hi dst9_inj (dst9_mem i hi) (by have := dst9_le i hi; omega) (fun j x _ _ hx => hx.below one two fin s8 sd1 sd2 B1 Z hb) hp⟩
set_option maxHeartbeats 3200000 in
/-- REGION 9, in whatever order. -/
theorem reg9 {ops : Array Oper} (hops : ops.toList.map desc = D9) {id : Nat} {one two fin : ByteArray} {BX B1 : Nat} {s8 sd1 sd2 : SlV} {A : Act} {W0 w : World} {Q : Exit → Act → World → Prop}
    (hA : 61 < A.tmps.size) (h2 : A.eval (.tmp 2) = .string fin) (h7 : A.eval (.tmp 7) = .pointer (some ⟨BX, 0, none⟩)) (h8 : A.eval (.tmp 8) = .slice s8.a s8.len s8.cap)
    (HW : Below w.heap.size w W0) (KA : KindsAt w) (hwb : w.heap.size ≤ B1) (hlb : B1 ≤ W0.heap.size) (RB : W0.heap[BX]? = some (.cells #[.string ⟨#[98, 111, 98]⟩, .int .i64 1] 38 (0, 0))) (HO : W0.ownsRow B1 45 18 (.slice s8.a s8.len s8.cap) 3 (edY.flat [ed1, eOne sd1 one, eTwo sd2 two]))
    (HD1 : W0.ownsRow B1 38 2 sd1.v 1 (idV (annI 1))) (HD2 : W0.ownsRow B1 38 2 sd2.v 1 (idV (annI 1)))
    (hQ : ∀ a' W' k (sp sf sc : SlV), Fr S9 A a' → a'.tmps[10]? = some (.pointer (some ⟨k, 0, none⟩)) → W'.heap[k]? = some (.cells #[.slice sp.a sp.len sp.cap, .slice sf.a sf.len sf.cap, .slice sc.a sc.len sc.cap] 34 (0, 0)) → pdY.Rd W' sp.v [⟨⟨#[]⟩, fin⟩] → sc.len = 0 → W0.heap.size ≤ k → W0.grownBy W' (Value.slice s8.a s8.len s8.cap).ownBlock → Q .normal a' W') :
    (Code.region id ops true).wp Tryz.prog Q A W0 := by
  have hsz : ops.size = 15 := by
    have := congrArg List.length hops
    simpa [D9] using this
  have hop : ∀ i o, ops[i]? = some o → D9[i]? = some (desc o) := fun i o h => desc_at hops h
  obtain ⟨i0, hi0, hz0, hz1, hz2⟩ := info_parts info45
  have hzr : ∀ g, (Value.slice s8.a s8.len s8.cap).ownBlock = some g → B1 ≤ g ∧ g < W0.heap.size := fun g e => HO.lt g e
  have hBX : some BX ≠ (Value.slice s8.a s8.len s8.cap).ownBlock := fun e => by
    rcases HO.2 with ⟨h, _⟩ | ⟨g, cap, cur, h, _, hg, _⟩
    · rw [h] at e; simp [Value.ownBlock] at e
    · rw [h] at e; simp [Value.ownBlock] at e; subst e; rw [RB] at hg; cases hg
  clear hops
  refine wp_region_inv (by kernel_rfl) (fun L a W' => I9 one two fin s8 sd1 sd2 B1 W0.heap.size W0 A L a W' ∨ C9 fin s8 W0 A L a W')
    (fun i o ho => back9 i _ (hop i o ho)) (.inl ⟨rfl, grown_then (World.grownBy.refl _ _) (Below.refl _ _).drew (Nat.le_refl _), fun _ => (Below.refl _ _).drew, Rg.start⟩) ?_ ?_
  · intro L a U hI hC i o ho hL hp
    have hd := hop i o ho
    have hi : i < 15 := (List.getElem?_eq_some_iff.1 hd).1
    rcases hI with hI | hI
    · have ev : ∀ k, k ∉ S9 → a.eval (.tmp k) = A.eval (.tmp k) := hI.rg.ev
      have refl := Below.refl U.heap.size U
      have hlu : B1 ≤ U.heap.size := Nat.le_trans hlb hI.hg.size
      have hzu : W0.heap.size ≤ U.heap.size := hI.hg.size
      have HWU : Below w.heap.size w U := HW.grown hI.hg HW.size (fun j hj => Nat.le_trans hwb (hzr j hj).1)
      have KAU : KindsAt U := KA.below HWU
      rcases (show i = 0 ∨ i = 1 ∨ i = 2 ∨ i = 3 ∨ i = 4 ∨ i = 5 ∨ i = 6 ∨ i = 7 ∨ i = 8 ∨ i = 9 ∨ i = 10 ∨ i = 11 ∨ i = 12 ∨ i = 13 ∨ i = 14 by omega) with rfl | rfl | rfl | rfl | rfl | rfl | rfl | rfl | rfl | rfl | rfl | rfl | rfl | rfl | rfl <;>
        (have hd := Option.some.inj hd; simp only [desc, Prod.mk.injEq] at hd; obtain ⟨e1, e2, e3, e4⟩ := hd; refine wpOp_of ho e3.symm ?_; rw [← e4] at hp)
      · refine ex_build28 e2.symm ?_
        rw [← e1]
        exact .inl (hI.step (i := 0) (by omega) (by omega) hA refl rfl)
      · refine ex_move e2.symm ?_
        rw [← e1, ev 8 (by decide), h8]
        exact .inl (hI.step (i := 1) (by omega) (by omega) hA refl rfl)
      · refine ex_call14 e2.symm rfl rfl ?_
        refine (ann_any 3 U).mono ?_
        rintro e w' ⟨rfl, hb⟩
        refine ⟨_, rfl, ?_⟩
        rw [← e1]
        exact .inl (hI.step (i := 2) (by omega) (by omega) hA hb rfl)
      · refine ex_call14 e2.symm rfl rfl ?_
        refine (ann_any 2 U).mono ?_
        rintro e w' ⟨rfl, hb⟩
        refine ⟨_, rfl, ?_⟩
        rw [← e1]
        exact .inl (hI.step (i := 3) (by omega) (by omega) hA hb rfl)
      · have hq := two_cells ((hI.hg.block BX (lt_of_block RB) hBX).trans RB)
        refine ex_load38 e2.symm ((ev 7 (by decide)).trans h7) hq.1 hq.2 ?_
        rw [← e1]
        exact .inl (hI.step (i := 4) (by omega) (by omega) hA refl rfl)
      · obtain ⟨u3, g3, p3⟩ := hI.rg.v 3 (by omega) (hp 3 (by simp))
        obtain rfl : u3 = .agg #[.string ⟨#[97, 110, 110]⟩, .int .i64 2] := p3
        obtain ⟨u4, g4, p4⟩ := hI.rg.v 4 (by omega) (hp 4 (by simp))
        obtain rfl : u4 = .agg #[.string ⟨#[98, 111, 98]⟩, .int .i64 1] := p4
        refine ex_bs41_2 e2.symm (eval_of g3) (eval_of g4) ?_
        rw [← e1]
        exact .inl (hI.step (i := 5) (by omega) (by omega) hA (refl.alloc (Nat.le_refl _) _) ⟨⟨some ⟨U.heap.size, 0, none⟩, 2, 2⟩, rfl, dep_at2 (annI 2) bob1 hlu⟩)
      · refine ex_call14 e2.symm rfl rfl ?_
        refine (ann_any 1 U).mono ?_
        rintro e w' ⟨rfl, hb⟩
        refine ⟨_, rfl, ?_⟩
        rw [← e1]
        exact .inl (hI.step (i := 6) (by omega) (by omega) hA hb rfl)
      · refine ex_move e2.symm ?_
        rw [← e1, ev 2 (by decide), h2]
        exact .inl (hI.step (i := 7) (by omega) (by omega) hA refl rfl)
      · obtain ⟨u2, g2, p2⟩ := hI.rg.v 2 (by omega) (hp 2 (by simp))
        obtain rfl : u2 = .agg #[.string ⟨#[97, 110, 110]⟩, .int .i64 3] := p2
        obtain ⟨u5, g5, s, rfl, p5⟩ := hI.rg.v 5 (by omega) (hp 5 (by simp))
        obtain ⟨u6, g6, p6⟩ := hI.rg.v 6 (by omega) (hp 6 (by simp))
        obtain rfl : u6 = .agg #[.string ⟨#[97, 110, 110]⟩, .int .i64 1] := p6
        obtain ⟨u7, g7, p7⟩ := hI.rg.v 7 (by omega) (hp 7 (by simp))
        obtain rfl : u7 = .string fin := p7
        refine ex_build45 (s := s) e2.symm (eval_of g2) (eval_of g5) (eval_of g6) (eval_of g7) ?_
        rw [← e1]
        exact .inl (hI.step (i := 8) (by omega) (by omega) hA refl ⟨s, rfl, p5⟩)
      · obtain ⟨u8, g8, s, rfl, p8⟩ := hI.rg.v 8 (by omega) (hp 8 (by simp))
        refine ex_bs22_1 e2.symm (eval_of g8) ?_
        rw [← e1]
        exact .inl (hI.step (i := 9) (by omega) (by omega) hA (refl.alloc (Nat.le_refl _) _) ⟨U.heap.size, s, rfl, hzu, alloc_get _ _ _ rfl, World.ownsRow.alloc p8 _⟩)
      · obtain ⟨u1, g1, p1⟩ := hI.rg.v 1 (by omega) (hp 1 (by simp))
        obtain rfl : u1 = .slice s8.a s8.len s8.cap := p1
        obtain ⟨u9, g9, q, s, rfl, hq0, hq, ds⟩ := hI.rg.v 9 (by omega) (hp 9 (by simp))
        have hb := hI.hb hL
        have OW := ownsRow_below HO hb
        have d1 := ownsRow_below HD1 hb
        have d2 := ownsRow_below HD2 hb
        refine ex_append e2.symm B1 45 i0 (.agg z45) 18 232 Tryz.underlying22 hi0 hz0 hz1 hz2 rfl (by decide) (.slice s8.a s8.len s8.cap) 3 (edY.flat [ed1, eOne sd1 one, eTwo sd2 two]) (eval_of g1) OW (some ⟨q, 0, none⟩) 1 1 (edV (eFin s fin)) (eval_of g9) rfl
          (fun _ => ⟨_, rfl, news_of (cs := edV (eFin s fin)) hq⟩) (edY.one (eFin s fin)) (by unfold maxLen; omega) (by omega) hlu ?_
        intro v6 w6 hown6 hg6
        obtain ⟨s9, rfl⟩ := ownsForm hown6
        rw [← e1]
        refine .inl ⟨by rw [mark_ne _ (by omega)]; exact hI.n14, grown_grown hI.hg hg6, fun hl => (by rw [mark_self] at hl; exact absurd hl (by simp)), ?_⟩
        have hn11 : L 11 = false := by
          cases h : L 11 with
          | false => rfl
          | true =>
            have hlt : 11 < ops.size := by omega
            have h1 := hop 11 ops[11] (Array.getElem?_eq_getElem hlt)
            have h2 := hC 11 _ (Array.getElem?_eq_getElem hlt) h
            have h3 := Option.some.inj h1
            have h4 : preOf ops[11] = [0, 10, 10] := (congrArg (fun d => d.2.2.2) h3).symm
            rw [h4] at h2
            rw [h2 10 (by simp)] at hL
            cases hL
        have hn12 : L 12 = false := by
          cases h : L 12 with
          | false => rfl
          | true =>
            have hlt : 12 < ops.size := by omega
            have h1 := hop 12 ops[12] (Array.getElem?_eq_getElem hlt)
            have h2 := hC 12 _ (Array.getElem?_eq_getElem hlt) h
            have h3 := Option.some.inj h1
            have h4 : preOf ops[12] = [11, 11] := (congrArg (fun d => d.2.2.2) h3).symm
            rw [h4] at h2
            rw [h2 11 (by simp)] at hn11
            cases hn11
        refine hI.rg.step (i := 10) (by omega) dst9_inj (dst9_mem 10 (by omega)) (by show 59 < A.tmps.size; omega) (fun j x hj hLj hx => hx.grown one two fin s8 sd1 sd2 B1 W0.heap.size ?_ ?_ ?_ OW (fun g e => (hzr g e).2) hg6) ?_
        · rintro rfl; rw [hL] at hLj; cases hLj
        · rintro rfl; rw [hn11] at hLj; cases hLj
        · rintro rfl; rw [hn12] at hLj; cases hLj
        · exact ⟨s9, s, rfl, hown6, World.ownsRow.kept d1 hg6 (own_diff d1 OW (by decide)), World.ownsRow.kept d2 hg6 (own_diff d2 OW (by decide)), World.ownsRow.kept ds hg6 (own_diff ds OW (by decide))⟩
      · obtain ⟨u0, g0, p0⟩ := hI.rg.v 0 (by omega) (hp 0 (by simp))
        obtain rfl : u0 = .agg #[.slice none 0 0, .slice none 0 0] := p0
        obtain ⟨u10, g10, s9, sd3, rfl, q1, q2, q3, q4⟩ := hI.rg.v 10 (by omega) (hp 10 (by simp))
        refine ex_call15 e2.symm rfl (eval_of g0) (eval_of g10) ?_
        refine (apply_Q sd1 sd2 sd3 one two fin _ U (edits_EQ q1 q2 q3 q4)).mono ?_
        rintro e w' ⟨t1, t2, rfl, h1, h2, hb⟩
        refine ⟨_, rfl, ?_⟩
        rw [← e1]
        exact .inl (hI.step (i := 11) (by omega) (by omega) hA hb ⟨t1, t2, rfl, h1, h2⟩)
      · obtain ⟨u11, g11, t1, t2, rfl, q1, q2⟩ := hI.rg.v 11 (by omega) (hp 11 (by simp))
        refine ex_call11 e2.symm rfl (eval_of g11) ?_
        refine (design_Q fin t1 t2 U q1 q2 KAU).mono ?_
        rintro e w' ⟨sp, sf, sc, rfl, h1, _, h3, hb⟩
        refine ⟨_, rfl, ?_⟩
        rw [← e1]
        exact .inl (hI.step (i := 12) (by omega) (by omega) hA hb ⟨sp, sf, sc, rfl, h1, rregs_nil h3⟩)
      · refine ex_alloc34 e2.symm ?_
        rw [← e1]
        exact .inl (hI.step (i := 13) (by omega) (by omega) hA (refl.alloc (Nat.le_refl _) _) ⟨U.heap.size, rfl, hzu, alloc_get _ _ _ rfl⟩)
      · obtain ⟨u13, g13, k, rfl, hk0, hk⟩ := hI.rg.v 13 (by omega) (hp 13 (by simp))
        obtain ⟨u12, g12, sp, sf, sc, rfl, q1, q2⟩ := hI.rg.v 12 (by omega) (hp 12 (by simp))
        refine ex_store34 e2.symm (eval_of g13) (eval_of g12) hk rfl (by simp [Value.oneCell']) ?_
        intro w' hk' ho' _ hb'
        rw [← e1]
        refine .inr ⟨fun j hj => ?_, hI.rg.fr, k, g13, sp, sf, sc, hk', q1.past _ (three_slices (a := SlV.nil) (b := SlV.nil) (c := SlV.nil) hk) (fun x => ⟨_, rfl⟩) ho', q2, hk0, grown_then hI.hg (hb' W0.heap.size hk0) (Nat.le_refl _)⟩
        rcases (show j = 14 ∨ j < 14 by omega) with rfl | hj
        · exact mark_self _ _
        · refine mark_mono (hp j ?_)
          rcases (show j = 0 ∨ j = 1 ∨ j = 2 ∨ j = 3 ∨ j = 4 ∨ j = 5 ∨ j = 6 ∨ j = 7 ∨ j = 8 ∨ j = 9 ∨ j = 10 ∨ j = 11 ∨ j = 12 ∨ j = 13 by omega) with rfl | rfl | rfl | rfl | rfl | rfl | rfl | rfl | rfl | rfl | rfl | rfl | rfl | rfl <;> simp
    · have := hI.all i hi
      rw [hL] at this
      cases this
  · intro L a U hI hall
    rcases hI with hI | hI
    · exfalso
      have := hall 14 (by omega)
      rw [hI.n14] at this
      cases this
    · obtain ⟨k, h1, sp, sf, sc, f1, f2, f3, f4, f5⟩ := hI.v
      exact hQ a U k sp sf sc hI.fr h1 f1 f2 f3 f4 f5
theorem canon9 {A a : Act} {x : Value} (h : Fr S9 A a) (hx : a.tmps[10]? = some x) : ∃ u49 u50 u51 u52 u53 u54 u55 u56 u57 u58 u59 u60 u61 : Value,
    a = ((((((((((((((A.put (some 10) x).put (some 49) u49).put (some 50) u50).put (some 51) u51).put (some 52) u52).put (some 53) u53).put (some 54) u54).put (some 55) u55).put (some 56) u56).put (some 57) u57).put (some 58) u58).put (some 59) u59).put (some 60) u60).put (some 61) u61) := by
  have e := h.canon
  simp only [S9, List.foldl_cons, List.foldl_nil, Array.getD_eq_getD_getElem?, hx, Option.getD_some] at e
  exact ⟨_, _, _, _, _, _, _, _, _, _, _, _, _, e⟩
end Go.Proofs.YteigcnamkfebgaaGreatDoor
