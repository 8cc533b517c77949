import Derived.Test.YteigcnamkfebgaaGreatDoorAZ
namespace Go.Proofs.YteigcnamkfebgaaGreatDoor
open Go.RowKit
def eOne (s : SlV) (v : ByteArray) : EdD := edSet (annI 2) 2 s ⟨#[116, 101, 120, 116]⟩ v
def eTwo (s : SlV) (v : ByteArray) : EdD := edSet bob1 2 s ⟨#[116, 101, 120, 116]⟩ v
def eFin (s : SlV) (v : ByteArray) : EdD := edSet (annI 3) 3 s ⟨#[116, 101, 120, 116]⟩ v
theorem dep_at {W : World} {base : Nat} (x : IdD) (hb : base ≤ W.heap.size) : (W.alloc (.cells #[.string x.a, .int .i64 x.n] 38)).ownsRow base 38 2 (.slice (some ⟨W.heap.size, 0, none⟩) 1 1) 1 (idV x) :=
  ⟨rfl, .inr ⟨W.heap.size, 1, #[.string x.a, .int .i64 x.n], rfl, hb, alloc_get _ _ _ rfl, by omega, by unfold maxLen; omega, rfl, rfl⟩⟩
theorem dep_at2 {W : World} {base : Nat} (x y : IdD) (hb : base ≤ W.heap.size) : (W.alloc (.cells #[.string x.a, .int .i64 x.n, .string y.a, .int .i64 y.n] 38)).ownsRow base 38 2 (.slice (some ⟨W.heap.size, 0, none⟩) 2 2) 2 (idV x ++ idV y) :=
  ⟨rfl, .inr ⟨W.heap.size, 2, #[.string x.a, .int .i64 x.n, .string y.a, .int .i64 y.n], rfl, hb, alloc_get _ _ _ rfl, by omega, by unfold maxLen; omega, rfl, rfl⟩⟩
theorem ed_ones (x y : EdD) : ∀ u ∈ edV x ++ edV y, u.oneCell' = true := fun u hu => by
  rcases List.mem_append.1 hu with h | h
  · exact edY.one x u h
  · exact edY.one y u h
def S7 : List Nat := [8, 30, 31, 32, 33, 34, 35, 36, 37, 38, 39, 40, 41, 42, 43, 44]
def dst7 (j : Nat) : Nat := [30, 31, 32, 33, 34, 35, 36, 37, 38, 39, 40, 41, 42, 43].getD j 0
def D7 : List (Option Tmp × Op × Option (Nat × Bool) × List Nat) :=
  [(some 30, .move (.tmp 8), none, []), (some 31, .call { callee := .value (.func 14), args := #[.const (.int .i64 2)], argTypes := #[3] }, none, []),
   (some 32, .call { callee := .value (.func 14), args := #[.const (.int .i64 1)], argTypes := #[3] }, none, [1]), (some 33, .buildSlice 41 1 #[(0, .tmp 32)], none, [2]),
   (some 34, .call { callee := .value (.func 14), args := #[.const (.int .i64 1)], argTypes := #[3] }, none, [2]), (some 35, .move (.tmp 0), none, []),
   (some 36, .build 45 #[(0, .tmp 31), (1, .const (.int .i64 2)), (3, .tmp 33), (4, .const (.int .i64 3)), (5, .tmp 34), (8, .const (.string ⟨#[116, 101, 120, 116]⟩)), (9, .tmp 35)], none, [1, 3, 4, 5]),
   (some 37, .load 38 (.tmp 7), none, []), (some 38, .call { callee := .value (.func 14), args := #[.const (.int .i64 1)], argTypes := #[3] }, none, [4]),
   (some 39, .buildSlice 41 1 #[(0, .tmp 38)], none, [8]), (some 40, .call { callee := .value (.func 14), args := #[.const (.int .i64 1)], argTypes := #[3] }, none, [8]), (some 41, .move (.tmp 1), none, []),
   (some 42, .build 45 #[(0, .tmp 37), (1, .const (.int .i64 2)), (3, .tmp 39), (4, .const (.int .i64 3)), (5, .tmp 40), (8, .const (.string ⟨#[116, 101, 120, 116]⟩)), (9, .tmp 41)], none, [7, 9, 10, 11]),
   (some 43, .buildSlice 22 2 #[(0, .tmp 36), (1, .tmp 42)], none, [6, 12]),
   (some 44, .call { callee := .builtin .append, args := #[.tmp 30, .tmp 43], argTypes := #[22, 22] }, none, [0, 13, 10]),
   (some 8, .assign (.tmp 44), none, [14, 14, 0, 1, 2, 3, 4, 5, 6, 7, 8, 9, 10, 11, 12, 13, 14])]
theorem back7 : ∀ (i : Nat) (d : Option Tmp × Op × Option (Nat × Bool) × List Nat), D7[i]? = some d → ∀ j ∈ d.2.2.2, j < i := by
  intro i d h
  have hi : i < 16 := (List.getElem?_eq_some_iff.1 h).1
  rcases (show i = 0 ∨ i = 1 ∨ i = 2 ∨ i = 3 ∨ i = 4 ∨ i = 5 ∨ i = 6 ∨ i = 7 ∨ i = 8 ∨ i = 9 ∨ i = 10 ∨ i = 11 ∨ i = 12 ∨ i = 13 ∨ i = 14 ∨ i = 15 by omega) with rfl | rfl | rfl | rfl | rfl | rfl | rfl | rfl | rfl | rfl | rfl | rfl | rfl | rfl | rfl | rfl <;>
    (obtain rfl := Option.some.inj h; intro j hj; simp [D7] at hj <;> omega)
def isDep (W : World) (b : Nat) (v : Value) (x : IdD) : Prop := ∃ s : SlV, v = .slice s.a s.len s.cap ∧ W.ownsRow b 38 2 s.v 1 (idV x)
theorem isDep.below {W W' : World} {b : Nat} {v : Value} {x : IdD} (h : isDep W b v x) (hb : Below W.heap.size W W') : isDep W' b v x := by
  obtain ⟨s, e, ho⟩ := h
  exact ⟨s, e, ownsRow_below ho hb⟩
section
variable (one two : ByteArray) (g B1 : Nat)
def Pr7 (W : World) (v : Value) : Nat → Prop
  | 0 => v = .slice (some ⟨g, 0, none⟩) 1 4
  | 1 => v = .agg #[.string ⟨#[97, 110, 110]⟩, .int .i64 2]
  | 2 => v = .agg #[.string ⟨#[97, 110, 110]⟩, .int .i64 1]
  | 3 => isDep W B1 v (annI 1)
  | 4 => v = .agg #[.string ⟨#[97, 110, 110]⟩, .int .i64 1]
  | 5 => v = .string one
  | 6 => ∃ s : SlV, v = .agg (edV (eOne s one)).toArray ∧ W.ownsRow B1 38 2 s.v 1 (idV (annI 1))
  | 7 => v = .agg #[.string ⟨#[98, 111, 98]⟩, .int .i64 1]
  | 8 => v = .agg #[.string ⟨#[97, 110, 110]⟩, .int .i64 1]
  | 9 => isDep W B1 v (annI 1)
  | 10 => v = .agg #[.string ⟨#[97, 110, 110]⟩, .int .i64 1]
  | 11 => v = .string two
  | 12 => ∃ s : SlV, v = .agg (edV (eTwo s two)).toArray ∧ W.ownsRow B1 38 2 s.v 1 (idV (annI 1))
  | 13 => ∃ (q : Nat) (s s' : SlV), v = .slice (some ⟨q, 0, none⟩) 2 2 ∧ W.heap[q]? = some (.cells (edV (eOne s one) ++ edV (eTwo s' two)).toArray 45 (0, 0)) ∧ W.ownsRow B1 38 2 s.v 1 (idV (annI 1)) ∧ W.ownsRow B1 38 2 s'.v 1 (idV (annI 1))
  | _ => True
theorem Pr7.below {W W' : World} {v : Value} {j : Nat} (h : Pr7 one two g B1 W v j) (hb : Below W.heap.size W W') : Pr7 one two g B1 W' v j := by
  match j, h with
  | 0, h => exact h
  | 1, h => exact h
  | 2, h => exact h
  | 3, h => exact isDep.below h hb
  | 4, h => exact h
  | 5, h => exact h
  | 6, h => obtain ⟨s, e, ho⟩ := h; exact ⟨s, e, ownsRow_below ho hb⟩
  | 7, h => exact h
  | 8, h => exact h
  | 9, h => exact isDep.below h hb
  | 10, h => exact h
  | 11, h => exact h
  | 12, h => obtain ⟨s, e, ho⟩ := h; exact ⟨s, e, ownsRow_below ho hb⟩
  | 13, h => obtain ⟨q, s, s', e, hq, h1, h2⟩ := h; exact ⟨q, s, s', e, (hb.block _ (lt_of_block hq)).trans hq, ownsRow_below h1 hb, ownsRow_below h2 hb⟩
  | _ + 14, _ => trivial
/-- ahead of the append -/
structure A7 (W0 : World) (A : Act) (L : Nat → Bool) (a : Act) (W : World) : Prop where
  n14 : L 14 = false
  n15 : L 15 = false
  hb : Below W0.heap.size W0 W
  rg : Rg S7 A dst7 14 (Pr7 one two g B1) L a W
  e8 : a.eval (.tmp 8) = A.eval (.tmp 8)
def F7 (W1 : World) (v : Value) (W : World) : Prop := ∃ s8 sd1 sd2 : SlV, v = .slice s8.a s8.len s8.cap ∧ W.ownsRow B1 45 18 (.slice s8.a s8.len s8.cap) 3 (edY.flat [ed1, eOne sd1 one, eTwo sd2 two]) ∧ W.ownsRow B1 38 2 sd1.v 1 (idV (annI 1)) ∧ W.ownsRow B1 38 2 sd2.v 1 (idV (annI 1)) ∧ Below B1 W1 W
/-- behind the append -/
structure B7 (W1 : World) (A : Act) (L : Nat → Bool) (a : Act) (W : World) : Prop where
  n15 : L 15 = false
  all : ∀ j, j < 15 → L j = true
  fr : Fr S7 A a
  v : ∃ u, a.tmps[44]? = some u ∧ F7 one two B1 W1 u W
/-- at the end -/
structure C7 (W1 : World) (A : Act) (L : Nat → Bool) (a : Act) (W : World) : Prop where
  all : ∀ j, j < 16 → L j = true
  fr : Fr S7 A a
  v : ∃ u, a.tmps[8]? = some u ∧ F7 one two B1 W1 u W
end
theorem dst7_inj : ∀ i, i < 14 → ∀ j, j < 14 → dst7 i = dst7 j → i = j := by decide
theorem dst7_mem : ∀ i, i < 14 → dst7 i ∈ S7 := by decide
theorem dst7_ne : ∀ i, i < 14 → dst7 i ≠ 8 := by decide
theorem dst7_le : ∀ i, i < 14 → dst7 i ≤ 43 := by decide
theorem A7.step {one two : ByteArray} {g B1 : Nat} {W0 : World} {A a : Act} {L : Nat → Bool} {W W' : World} (h : A7 one two g B1 W0 A L a W) {i : Nat} {u : Value} (hi : i < 14) (hA : 44 < A.tmps.size) (hb : Below W.heap.size W W') (hp : Pr7 one two g B1 W' u i) :
    A7 one two g B1 W0 A (mark L i) (a.put (some (dst7 i)) u) W' := by
  refine ⟨by rw [mark_ne _ (by omega)]; exact h.n14, by rw [mark_ne _ (by omega)]; exact h.n15, h.hb.trans (hb.mono h.hb.size), h.rg.step hi dst7_inj (dst7_mem i hi) (by have := dst7_le i hi; omega) (fun j x _ _ hx => hx.below one two g B1 hb) hp, ?_⟩
  rw [← h.e8]
  show (a.put (some (dst7 i)) u).tmps.getD 8 undef = a.tmps.getD 8 undef
  rw [Array.getD_eq_getD_getElem?, Array.getD_eq_getD_getElem?, put_ne (fun e => dst7_ne i hi e.symm)]
/-- REGION 7, in whatever order. -/
theorem reg7 {ops : Array Oper} (hops : ops.toList.map desc = D7) {id : Nat} {one two : ByteArray} {g BX B1 : Nat} {W1 : World} {A : Act} {W : World} {Q : Exit → Act → World → Prop}
    (hA : 44 < A.tmps.size) (h0 : A.eval (.tmp 0) = .string one) (h1 : A.eval (.tmp 1) = .string two) (h7 : A.eval (.tmp 7) = .pointer (some ⟨BX, 0, none⟩)) (h8 : A.eval (.tmp 8) = .slice (some ⟨g, 0, none⟩) 1 4)
    (HB : Below B1 W1 W) (hlb : B1 ≤ W.heap.size) (RB : W.heap[BX]? = some (.cells #[.string ⟨#[98, 111, 98]⟩, .int .i64 1] 38 (0, 0))) (HO : W.ownsRow B1 45 18 (.slice (some ⟨g, 0, none⟩) 1 4) 1 (edV ed1))
    (hQ : ∀ a' W' (s8 sd1 sd2 : SlV), Fr S7 A a' → a'.tmps[8]? = some (.slice s8.a s8.len s8.cap) → W'.ownsRow B1 45 18 (.slice s8.a s8.len s8.cap) 3 (edY.flat [ed1, eOne sd1 one, eTwo sd2 two]) → W'.ownsRow B1 38 2 sd1.v 1 (idV (annI 1)) → W'.ownsRow B1 38 2 sd2.v 1 (idV (annI 1)) → Below B1 W1 W' → Q .normal a' W') :
    (Code.region id ops true).wp Tryz.prog Q A W := by
  have hsz : ops.size = 16 := by
    have := congrArg List.length hops
    simpa [D7] using this
  have hop : ∀ i o, ops[i]? = some o → D7[i]? = some (desc o) := fun i o h => desc_at hops h
  obtain ⟨i0, hi0, hz0, hz1, hz2⟩ := info_parts info45
  clear hops
  refine wp_region_inv (by kernel_rfl) (fun L a W' => A7 one two g B1 W A L a W' ∨ B7 one two B1 W1 A L a W' ∨ C7 one two B1 W1 A L a W')
    (fun i o ho => back7 i _ (hop i o ho)) (.inl ⟨rfl, rfl, (Below.refl _ _).drew, Rg.start, rfl⟩) ?_ ?_
  · intro L a U hI hC i o ho hL hp
    have hd := hop i o ho
    have hi : i < 16 := (List.getElem?_eq_some_iff.1 hd).1
    rcases hI with hI | hI | hI
    · have ev : ∀ k, k ∉ S7 → a.eval (.tmp k) = A.eval (.tmp k) := hI.rg.ev
      have refl := Below.refl U.heap.size U
      have hlu : B1 ≤ U.heap.size := Nat.le_trans hlb hI.hb.size
      have hcl : ∀ j d, D7[j]? = some d → L j = true → ∀ k ∈ d.2.2.2, L k = true := fun j d hj hl k hk => by
        have hlt : j < ops.size := by rw [hsz]; exact (List.getElem?_eq_some_iff.1 hj).1
        have h1 := hop j ops[j] (Array.getElem?_eq_getElem hlt)
        rw [hj] at h1
        obtain rfl := Option.some.inj h1
        exact hC j _ (Array.getElem?_eq_getElem hlt) hl k hk
      rcases (show i = 0 ∨ i = 1 ∨ i = 2 ∨ i = 3 ∨ i = 4 ∨ i = 5 ∨ i = 6 ∨ i = 7 ∨ i = 8 ∨ i = 9 ∨ i = 10 ∨ i = 11 ∨ i = 12 ∨ i = 13 ∨ i = 14 ∨ i = 15 by omega) with rfl | rfl | rfl | rfl | rfl | rfl | rfl | rfl | rfl | rfl | rfl | rfl | rfl | rfl | rfl | rfl <;>
        (have hd := Option.some.inj hd; simp only [desc, Prod.mk.injEq] at hd; obtain ⟨e1, e2, e3, e4⟩ := hd; refine wpOp_of ho e3.symm ?_; rw [← e4] at hp)
      · refine ex_move e2.symm ?_
        rw [← e1, hI.e8, h8]
        exact .inl (hI.step (i := 0) (by omega) hA refl rfl)
      · refine ex_call14 e2.symm rfl rfl ?_
        refine (ann_any 2 U).mono ?_
        rintro e w' ⟨rfl, hb⟩
        refine ⟨_, rfl, ?_⟩
        rw [← e1]
        exact .inl (hI.step (i := 1) (by omega) hA hb rfl)
      · refine ex_call14 e2.symm rfl rfl ?_
        refine (ann_any 1 U).mono ?_
        rintro e w' ⟨rfl, hb⟩
        refine ⟨_, rfl, ?_⟩
        rw [← e1]
        exact .inl (hI.step (i := 2) (by omega) hA hb rfl)
      · obtain ⟨u2, g2, p2⟩ := hI.rg.v 2 (by omega) (hp 2 (by simp))
        obtain rfl : u2 = .agg #[.string ⟨#[97, 110, 110]⟩, .int .i64 1] := p2
        refine ex_bs41_1 e2.symm (eval_of g2) ?_
        rw [← e1]
        exact .inl (hI.step (i := 3) (by omega) hA (refl.alloc (Nat.le_refl _) _) ⟨⟨some ⟨U.heap.size, 0, none⟩, 1, 1⟩, rfl, dep_at (annI 1) hlu⟩)
      · refine ex_call14 e2.symm rfl rfl ?_
        refine (ann_any 1 U).mono ?_
        rintro e w' ⟨rfl, hb⟩
        refine ⟨_, rfl, ?_⟩
        rw [← e1]
        exact .inl (hI.step (i := 4) (by omega) hA hb rfl)
      · refine ex_move e2.symm ?_
        rw [← e1, ev 0 (by decide), h0]
        exact .inl (hI.step (i := 5) (by omega) hA refl rfl)
      · obtain ⟨u1, g1, p1⟩ := hI.rg.v 1 (by omega) (hp 1 (by simp))
        obtain rfl : u1 = .agg #[.string ⟨#[97, 110, 110]⟩, .int .i64 2] := p1
        obtain ⟨u3, g3, s, rfl, p3⟩ := hI.rg.v 3 (by omega) (hp 3 (by simp))
        obtain ⟨u4, g4, p4⟩ := hI.rg.v 4 (by omega) (hp 4 (by simp))
        obtain rfl : u4 = .agg #[.string ⟨#[97, 110, 110]⟩, .int .i64 1] := p4
        obtain ⟨u5, g5, p5⟩ := hI.rg.v 5 (by omega) (hp 5 (by simp))
        obtain rfl : u5 = .string one := p5
        refine ex_build45 (s := s) e2.symm (eval_of g1) (eval_of g3) (eval_of g4) (eval_of g5) ?_
        rw [← e1]
        exact .inl (hI.step (i := 6) (by omega) hA refl ⟨s, rfl, p3⟩)
      · have hq := two_cells ((hI.hb.block BX (lt_of_block RB)).trans RB)
        refine ex_load38 e2.symm ((ev 7 (by decide)).trans h7) hq.1 hq.2 ?_
        rw [← e1]
        exact .inl (hI.step (i := 7) (by omega) hA refl rfl)
      · refine ex_call14 e2.symm rfl rfl ?_
        refine (ann_any 1 U).mono ?_
        rintro e w' ⟨rfl, hb⟩
        refine ⟨_, rfl, ?_⟩
        rw [← e1]
        exact .inl (hI.step (i := 8) (by omega) hA hb rfl)
      · obtain ⟨u8, g8, p8⟩ := hI.rg.v 8 (by omega) (hp 8 (by simp))
        obtain rfl : u8 = .agg #[.string ⟨#[97, 110, 110]⟩, .int .i64 1] := p8
        refine ex_bs41_1 e2.symm (eval_of g8) ?_
        rw [← e1]
        exact .inl (hI.step (i := 9) (by omega) hA (refl.alloc (Nat.le_refl _) _) ⟨⟨some ⟨U.heap.size, 0, none⟩, 1, 1⟩, rfl, dep_at (annI 1) hlu⟩)
      · refine ex_call14 e2.symm rfl rfl ?_
        refine (ann_any 1 U).mono ?_
        rintro e w' ⟨rfl, hb⟩
        refine ⟨_, rfl, ?_⟩
        rw [← e1]
        exact .inl (hI.step (i := 10) (by omega) hA hb rfl)
      · refine ex_move e2.symm ?_
        rw [← e1, ev 1 (by decide), h1]
        exact .inl (hI.step (i := 11) (by omega) hA refl rfl)
      · obtain ⟨u7, g7, p7⟩ := hI.rg.v 7 (by omega) (hp 7 (by simp))
        obtain rfl : u7 = .agg #[.string ⟨#[98, 111, 98]⟩, .int .i64 1] := p7
        obtain ⟨u9, g9, s, rfl, p9⟩ := hI.rg.v 9 (by omega) (hp 9 (by simp))
        obtain ⟨u10, g10, p10⟩ := hI.rg.v 10 (by omega) (hp 10 (by simp))
        obtain rfl : u10 = .agg #[.string ⟨#[97, 110, 110]⟩, .int .i64 1] := p10
        obtain ⟨u11, g11, p11⟩ := hI.rg.v 11 (by omega) (hp 11 (by simp))
        obtain rfl : u11 = .string two := p11
        refine ex_build45 (s := s) e2.symm (eval_of g7) (eval_of g9) (eval_of g10) (eval_of g11) ?_
        rw [← e1]
        exact .inl (hI.step (i := 12) (by omega) hA refl ⟨s, rfl, p9⟩)
      · obtain ⟨u6, g6, s, rfl, p6⟩ := hI.rg.v 6 (by omega) (hp 6 (by simp))
        obtain ⟨u12, g12, s', rfl, p12⟩ := hI.rg.v 12 (by omega) (hp 12 (by simp))
        refine ex_bs22_2 e2.symm (eval_of g6) (eval_of g12) ?_
        rw [← e1]
        exact .inl (hI.step (i := 13) (by omega) hA (refl.alloc (Nat.le_refl _) _) ⟨U.heap.size, s, s', rfl, alloc_get _ _ _ rfl, p6.alloc _, p12.alloc _⟩)
      · obtain ⟨u0, g0, p0⟩ := hI.rg.v 0 (by omega) (hp 0 (by simp))
        obtain rfl : u0 = .slice (some ⟨g, 0, none⟩) 1 4 := p0
        obtain ⟨u13, g13, q, s, s', rfl, hq, d1, d2⟩ := hI.rg.v 13 (by omega) (hp 13 (by simp))
        have OW := ownsRow_below HO hI.hb
        refine ex_append e2.symm B1 45 i0 (.agg z45) 18 232 Tryz.underlying22 hi0 hz0 hz1 hz2 rfl (by decide) (.slice (some ⟨g, 0, none⟩) 1 4) 1 (edV ed1) (eval_of g0) OW (some ⟨q, 0, none⟩) 2 2 (edV (eOne s one) ++ edV (eTwo s' two)) (eval_of g13) rfl
          (fun _ => ⟨_, rfl, news_of (cs := edV (eOne s one) ++ edV (eTwo s' two)) hq⟩) (ed_ones _ _) (by unfold maxLen; omega) (by omega) hlu ?_
        intro v6 w6 hown6 hg6
        obtain ⟨s8, rfl⟩ := ownsForm hown6
        rw [← e1]
        have l13 := hp 13 (by simp)
        have l10 := hp 10 (by simp)
        have l0 := hp 0 (by simp)
        have l6 := hcl 13 _ rfl l13 6 (by simp)
        have l12 := hcl 13 _ rfl l13 12 (by simp)
        have l4 := hcl 6 _ rfl l6 4 (by simp)
        have l8 := hcl 10 _ rfl l10 8 (by simp)
        refine .inr (.inl ⟨by rw [mark_ne _ (by omega)]; exact hI.n15, fun j hj => ?_, hI.rg.fr.put (by decide) _, _, put_self (by rw [hI.rg.fr.s]; exact hA), s8, s, s', rfl, hown6, d1.kept hg6 (own_diff d1 OW (by decide)), d2.kept hg6 (own_diff d2 OW (by decide)), (HB.trans (hI.hb.mono hlb)).grown hg6 ?_ (fun j hj => (OW.lt j hj).1)⟩)
        · rcases (show j = 14 ∨ j < 14 by omega) with rfl | hj
          · exact mark_self _ _
          · refine mark_mono ?_
            rcases (show j = 0 ∨ j = 1 ∨ j = 2 ∨ j = 3 ∨ j = 4 ∨ j = 5 ∨ j = 6 ∨ j = 7 ∨ j = 8 ∨ j = 9 ∨ j = 10 ∨ j = 11 ∨ j = 12 ∨ j = 13 by omega) with rfl | rfl | rfl | rfl | rfl | rfl | rfl | rfl | rfl | rfl | rfl | rfl | rfl | rfl
            · exact l0
            · exact hcl 6 _ rfl l6 1 (by simp)
            · exact hcl 4 _ rfl l4 2 (by simp)
            · exact hcl 6 _ rfl l6 3 (by simp)
            · exact l4
            · exact hcl 6 _ rfl l6 5 (by simp)
            · exact l6
            · exact hcl 12 _ rfl l12 7 (by simp)
            · exact l8
            · exact hcl 12 _ rfl l12 9 (by simp)
            · exact l10
            · exact hcl 12 _ rfl l12 11 (by simp)
            · exact l12
            · exact l13
        · exact hlu
      · have := hp 14 (by simp)
        rw [hI.n14] at this
        cases this
    · have h15 : i = 15 := by
        by_cases h : i = 15
        · exact h
        · have := hI.all i (by omega)
          rw [hL] at this
          cases this
      subst h15
      have hd := Option.some.inj hd
      simp only [desc, Prod.mk.injEq] at hd
      obtain ⟨e1, e2, e3, e4⟩ := hd
      refine wpOp_of ho e3.symm ?_
      obtain ⟨u, g1, hF⟩ := hI.v
      refine ex_assign e2.symm ?_
      rw [← e1, eval_of g1]
      refine .inr (.inr ⟨fun j hj => ?_, hI.fr.put (by decide) _, u, put_self (by rw [hI.fr.s]; omega), hF⟩)
      rcases (show j = 15 ∨ j < 15 by omega) with rfl | hj
      · exact mark_self _ _
      · exact mark_mono (hI.all j hj)
    · have := hI.all i hi
      rw [hL] at this
      cases this
  · intro L a U hI hall
    rcases hI with hI | hI | hI
    · exfalso
      have := hall 14 (by omega)
      rw [hI.n14] at this
      cases this
    · exfalso
      have := hall 15 (by omega)
      rw [hI.n15] at this
      cases this
    · obtain ⟨u, h1, s8, sd1, sd2, rfl, f1, f2, f3, f4⟩ := hI.v
      exact hQ a U s8 sd1 sd2 hI.fr h1 f1 f2 f3 f4
theorem canon7 {A a : Act} {x : Value} (h : Fr S7 A a) (hx : a.tmps[8]? = some x) : ∃ u30 u31 u32 u33 u34 u35 u36 u37 u38 u39 u40 u41 u42 u43 u44 : Value,
    a = ((((((((((((((((A.put (some 8) x).put (some 30) u30).put (some 31) u31).put (some 32) u32).put (some 33) u33).put (some 34) u34).put (some 35) u35).put (some 36) u36).put (some 37) u37).put (some 38) u38).put (some 39) u39).put (some 40) u40).put (some 41) u41).put (some 42) u42).put (some 43) u43).put (some 44) u44) := by
  have e := h.canon
  simp only [S7, List.foldl_cons, List.foldl_nil, Array.getD_eq_getD_getElem?, hx, Option.getD_some] at e
  exact ⟨_, _, _, _, _, _, _, _, _, _, _, _, _, _, _, e⟩
end Go.Proofs.YteigcnamkfebgaaGreatDoor
