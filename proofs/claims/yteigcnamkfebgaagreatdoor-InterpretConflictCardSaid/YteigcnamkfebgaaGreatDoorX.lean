import Derived.Deep.RegionHeld3
import Derived.Test.YteigcnamkfebgaaGreatDoorU
namespace Go.Proofs.YteigcnamkfebgaaGreatDoor
open Go.RowKit
theorem two_cells {W : World} {k : Nat} {x y : Value} {t : TypeId} (h : W.heap[k]? = some (.cells #[x, y] t (0, 0))) : W.cell? ⟨k, 0, none⟩ = some x ∧ W.cell? ⟨k, 1, none⟩ = some y :=
  ⟨cell_of_row _ _ _ _ _ _ h, cell_of_row _ _ _ _ _ _ h⟩
theorem two_free {W : World} {k : Nat} {x y : Value} {t : TypeId} (h : W.heap[k]? = some (.cells #[x, y] t (0, 0))) : W.frozen? ⟨k, 0, none⟩ = false ∧ W.frozen? ⟨k, 1, none⟩ = false := by
  constructor <;> simp [World.frozen?, h]
theorem set2 {W : World} {k : Nat} {x y x' y' : Value} {t : TypeId} (h : W.heap[k]? = some (.cells #[x, y] t (0, 0))) : ((W.setCell ⟨k, 0, none⟩ x').setCell ⟨k, 1, none⟩ y').heap[k]? = some (.cells #[x', y'] t (0, 0)) := by
  rw [setCell_eq_setRow W k 0 #[x, y] t (0, 0) x' h]
  have h2 := setRow_heap W k #[x, y] (#[x, y].setIfInBounds 0 x') t (0, 0) h
  rw [setCell_eq_setRow _ k 1 _ t (0, 0) y' h2]
  exact setRow_heap _ _ _ _ _ _ h2
theorem Below_drew_left' {B : Nat} {w w' : World} (h : Below B w.drew w') : Below B w w' := ((Below.refl B w).drew).trans h
theorem keep1 {W w1 : World} {a : Addr} {v : Value} (hb : Below W.heap.size W w1) (h : W.cell? a = some v) : w1.cell? a = some v := (hb.cell (World.block_lt_of_cell? _ _ h)).trans h
theorem keep2 {W w1 : World} {a b : Addr} {v u : Value} (hb : Below W.heap.size W w1) (h : W.cell? a = some v ∧ W.cell? b = some u) : w1.cell? a = some v ∧ w1.cell? b = some u := ⟨keep1 hb h.1, keep1 hb h.2⟩
def intV (b : Bool) (s : ByteArray) : Value := .agg #[.bool b, .string s]
theorem of_false (s : ByteArray) (w : World) : Calls Tryz.prog 205 #[.bool false, .string s] w fun e w' => e = .returned (.agg #[.bool false, .string s]) ∧ Below w.heap.size w w' := by
  go_enter Tryz.func205, Tryz.ntmps205
  go_wp2
  exact bodyPost_ret (v := .agg #[.bool false, .string s]) (by simp [results, Tryz.results205, go_sem]) rfl ⟨rfl, (Below.refl _ _).alloc (Nat.le_refl _) _⟩
theorem of_trueE (w : World) : Calls Tryz.prog 205 #[.bool true, .string ⟨#[]⟩] w fun e w' => e = .returned (.agg #[.bool false, .string ⟨#[]⟩]) ∧ Below w.heap.size w w' := by
  go_enter Tryz.func205, Tryz.ntmps205
  go_wp2
  exact bodyPost_ret (v := .agg #[.bool false, .string ⟨#[]⟩]) (by simp [results, Tryz.results205, go_sem]) rfl ⟨rfl, (Below.refl _ _).alloc (Nat.le_refl _) _⟩
set_option maxRecDepth 100000 in
theorem normI (s : ByteArray) (hN : ∀ w : World, Calls Tryz.prog 200 #[.string s] w fun e w' => e = .returned (.string s) ∧ w = w') (w : World) : Calls Tryz.prog 202 #[.agg #[.bool false, .string s]] w fun e w' => e = .returned (.agg #[.bool false, .string s]) ∧ Below w.heap.size w w' := by
  have hm := alloc_get w (.cells #[.bool false, .string s] 207) w.heap.size rfl
  go_enter Tryz.func202, Tryz.ntmps202
  go_wp2_with fail
  have c0 := two_cells (show ((((w.alloc (.cells #[.bool false, .string s] 207)).alloc (.cells #[.bool false, .string ⟨#[]⟩] 207)).drew).heap[w.heap.size]?) = _ from box2.1)
  have k1 : ((((w.alloc (.cells #[.bool false, .string s] 207)).alloc (.cells #[.bool false, .string ⟨#[]⟩] 207)).drew).heap[w.heap.size + 1]?) = _ := box2.2
  go_region_held3 (fun w' => w'.cell? ⟨w.heap.size, 0, none⟩ = some (.bool false) ∧ w'.cell? ⟨w.heap.size, 1, none⟩ = some (.string s))
    (first
      | go_keep
      | exact keep2 hb1 c0)
    (first
      | (go_at_call 200; refine (hN _).mono ?_; rintro e w1 ⟨rfl, rfl⟩)
      | (go_at_call 205; refine (of_false _ _).mono ?_; rintro e w1 ⟨rfl, hb1⟩; have r1 := (hb1.block (w.heap.size + 1) (by simp)).trans k1; obtain ⟨r2, r3⟩ := two_cells r1; obtain ⟨r4, r5⟩ := two_free r1))
  go_wp2
  exact bodyPost_ret (results_cell_row Tryz.results202 _ _ (w.heap.size + 1) 207 _ (0, 0) _ rfl (set2 r1) Tryz.underlying207 rfl (by kernel_rfl)) rfl ⟨rfl, (((below2 w _ _).trans ((Below_drew_left' hb1).mono (by simp <;> omega))).setCell (by simp) _).setCell (by simp) _⟩
set_option maxRecDepth 100000 in
theorem fromU1 (w : World) : Calls Tryz.prog 229 #[.int .u64 1] w fun e w' => e = .returned (.string ⟨#[1]⟩) ∧ Below w.heap.size w w' := by
  have hc := two_cells (alloc_get w (.cells #[.int .u32 1, .int .u32 0] 197) w.heap.size rfl)
  have hM := mag10 w.heap.size 2 _ hc.1 hc.2
  clear hc
  go_enter Tryz.func229, Tryz.ntmps229
  go_wp2_with (first | (go_at_call 233; refine hM.mono ?_; rintro e w1 ⟨rfl, hb1⟩))
  go_ret
  exact ⟨rfl, ((Below.refl _ _).alloc (Nat.le_refl _) _).trans (hb1.mono (by simp))⟩
set_option maxRecDepth 100000 in
theorem fromI1 (w : World) : Calls Tryz.prog 201 #[.int .i64 1] w fun e w' => e = .returned (.agg #[.bool false, .string ⟨#[1]⟩]) ∧ Below w.heap.size w w' := by
  have k0 := alloc_get w (.cells #[.bool false, .string ⟨#[]⟩] 207) w.heap.size rfl
  go_enter Tryz.func201, Tryz.ntmps201
  go_wp2_with (first | (go_at_call 229; refine (fromU1 _).mono ?_; rintro e w1 ⟨rfl, hb1⟩) | (go_at_call 205; refine (of_false _ _).mono ?_; rintro e w2 ⟨rfl, hb2⟩; have r1 := (hb2.block w.heap.size (by have := hb1.size; simp at this; omega)).trans ((hb1.block w.heap.size (by simp)).trans k0); obtain ⟨r2, r3⟩ := two_cells r1; obtain ⟨r4, r5⟩ := two_free r1))
  exact bodyPost_ret (results_cell_row Tryz.results201 _ _ w.heap.size 207 _ (0, 0) _ rfl (set2 r1) Tryz.underlying207 rfl (by kernel_rfl)) rfl ⟨rfl, (((((Below.refl _ _).alloc (Nat.le_refl _) _).trans (hb1.mono (by simp))).trans (hb2.mono (by have := hb1.size; simp at this; omega))).setCell (by simp) _).setCell (by simp) _⟩
end Go.Proofs.YteigcnamkfebgaaGreatDoor
namespace Go.Proofs.YteigcnamkfebgaaGreatDoor
open Go.RowKit
theorem results_two {P : Program} {fn : Func} {p q : Tmp} {ty : TypeId} (h : fn.results = #[.cell p ty, .cell q ty]) (tmps : Array Value) (w : World) (g g' : Nat) (t : TypeId) (cs ds : Array Value) (fr fr' : Nat × Nat) (d : TypeDesc)
    (hp : tmps.getD p undef = .pointer (some ⟨g, 0, none⟩)) (hq : tmps.getD q undef = .pointer (some ⟨g', 0, none⟩)) (hg : w.heap[g]? = some (.cells cs t fr)) (hg' : w.heap[g']? = some (.cells ds t fr'))
    (hu : P.underlying ty = some d) (hd : (match d with | .struct _ | .array _ _ => true | _ => false) = true) (hi : (P.info? ty).map (·.size) = some cs.size) (hi' : (P.info? ty).map (·.size) = some ds.size) :
    (results fn tmps).run P w = .ok (.tuple #[.agg cs, .agg ds]) w := by
  have hp' : tmps[p]?.getD undef = .pointer (some ⟨g, 0, none⟩) := by simpa using hp
  have hq' : tmps[q]?.getD undef = .pointer (some ⟨g', 0, none⟩) := by simpa using hq
  simp [results, h, hp', hq', asAddr, run_loadVar_row w g t ty cs fr d hg hu hd hi, run_loadVar_row w g' t ty ds fr' d hg' hu hd hi']
theorem setOther {W : World} {k g : Nat} {o : Obj} {j : Nat} {v : Value} (h : W.heap[k]? = some o) (hne : k ≠ g) : (W.setCell ⟨g, j, none⟩ v).heap[k]? = some o := (heap_setCell_other W ⟨g, j, none⟩ k v hne).trans h
def ratV (s : ByteArray) : Value := .agg #[.bool false, .string s, .string ⟨#[]⟩]
def int1 : Value := .agg #[.bool false, .string ⟨#[1]⟩]
theorem far1 {W : World} {k b o : Nat} {v x y : Value} (h : W.cell? ⟨b, o, none⟩ = some v) (hne : k ≠ b) : ((W.setCell ⟨k, 0, none⟩ x).setCell ⟨k, 1, none⟩ y).cell? ⟨b, o, none⟩ = some v := by
  rw [World.cell?_setCell_far _ _ _ _ hne, World.cell?_setCell_far _ _ _ _ hne]; exact h
theorem far4 {W : World} {k n m : Nat} {a b c d x y : Value} (h : W.cell? ⟨n, 0, none⟩ = some a ∧ W.cell? ⟨n, 1, none⟩ = some b ∧ W.cell? ⟨m, 0, none⟩ = some c ∧ W.cell? ⟨m, 1, none⟩ = some d) (h1 : k ≠ n) (h2 : k ≠ m) :
    ((W.setCell ⟨k, 0, none⟩ x).setCell ⟨k, 1, none⟩ y).cell? ⟨n, 0, none⟩ = some a ∧ ((W.setCell ⟨k, 0, none⟩ x).setCell ⟨k, 1, none⟩ y).cell? ⟨n, 1, none⟩ = some b ∧ ((W.setCell ⟨k, 0, none⟩ x).setCell ⟨k, 1, none⟩ y).cell? ⟨m, 0, none⟩ = some c ∧ ((W.setCell ⟨k, 0, none⟩ x).setCell ⟨k, 1, none⟩ y).cell? ⟨m, 1, none⟩ = some d :=
  ⟨far1 h.1 h1, far1 h.2.1 h1, far1 h.2.2.1 h2, far1 h.2.2.2 h2⟩
theorem three_cells {W : World} {k : Nat} {x y z : Value} {t : TypeId} (h : W.heap[k]? = some (.cells #[x, y, z] t (0, 0))) : W.cell? ⟨k, 0, none⟩ = some x ∧ W.cell? ⟨k, 1, none⟩ = some y ∧ W.cell? ⟨k, 2, none⟩ = some z :=
  ⟨cell_of_row _ _ _ _ _ _ h, cell_of_row _ _ _ _ _ _ h, cell_of_row _ _ _ _ _ _ h⟩
set_option maxRecDepth 100000 in
theorem parts_any (s : ByteArray) (hN : ∀ w : World, Calls Tryz.prog 200 #[.string s] w fun e w' => e = .returned (.string s) ∧ w = w') (w : World) :
    Calls Tryz.prog 171 #[.agg #[.bool false, .string s, .string ⟨#[]⟩]] w fun e w' => e = .returned (.tuple #[.agg #[.bool false, .string s], .agg #[.bool false, .string ⟨#[1]⟩]]) ∧ Below w.heap.size w w' := by
  have HN := Lib.hid hN
  clear hN
  have h0 : ((((w.alloc (.cells #[.bool false, .string s, .string ⟨#[]⟩] 43)).alloc (.cells #[.bool false, .string ⟨#[]⟩] 207)).alloc (.cells #[.bool false, .string ⟨#[]⟩] 207)).alloc (.cells #[.bool false, .string ⟨#[]⟩] 207)).heap[w.heap.size]? = _ := alloc_old _ _ _ _ (alloc_old _ _ _ _ (alloc_old _ _ _ _ (alloc_get _ _ _ rfl)))
  have h1 : ((((w.alloc (.cells #[.bool false, .string s, .string ⟨#[]⟩] 43)).alloc (.cells #[.bool false, .string ⟨#[]⟩] 207)).alloc (.cells #[.bool false, .string ⟨#[]⟩] 207)).alloc (.cells #[.bool false, .string ⟨#[]⟩] 207)).heap[w.heap.size + 1]? = _ := alloc_old _ _ _ _ (alloc_old _ _ _ _ (alloc_get _ _ _ (by simp)))
  have h2 : ((((w.alloc (.cells #[.bool false, .string s, .string ⟨#[]⟩] 43)).alloc (.cells #[.bool false, .string ⟨#[]⟩] 207)).alloc (.cells #[.bool false, .string ⟨#[]⟩] 207)).alloc (.cells #[.bool false, .string ⟨#[]⟩] 207)).heap[w.heap.size + 1 + 1]? = _ := alloc_old _ _ _ _ (alloc_get _ _ _ (by simp))
  have h3 : ((((w.alloc (.cells #[.bool false, .string s, .string ⟨#[]⟩] 43)).alloc (.cells #[.bool false, .string ⟨#[]⟩] 207)).alloc (.cells #[.bool false, .string ⟨#[]⟩] 207)).alloc (.cells #[.bool false, .string ⟨#[]⟩] 207)).heap[w.heap.size + 1 + 1 + 1]? = _ := alloc_get _ _ _ (by simp)
  go_enter Tryz.func171, Tryz.ntmps171
  go_wp2_with (first | (go_at_call 200; refine (normE _).mono ?_; rintro e w1 ⟨rfl, rfl⟩) | (go_at_call 201; refine (fromI1 _).mono ?_; rintro e w2 ⟨rfl, hb2⟩; have r0 := (hb2.block w.heap.size (by simp <;> omega)).trans h0; have r1 := (hb2.block (w.heap.size + 1) (by simp <;> omega)).trans h1; have r2 := (hb2.block (w.heap.size + 1 + 1) (by simp <;> omega)).trans h2; have r3 := (hb2.block (w.heap.size + 1 + 1 + 1) (by simp <;> omega)).trans h3; obtain ⟨s1, s2⟩ := two_cells r3; obtain ⟨s3, s4⟩ := two_free r3))
  have u0 := setOther (v := .string ⟨#[1]⟩) (j := 1) (g := w.heap.size + 1 + 1 + 1) (setOther (v := .bool false) (j := 0) (g := w.heap.size + 1 + 1 + 1) r0 (by omega)) (by omega)
  have u1 := setOther (v := .string ⟨#[1]⟩) (j := 1) (g := w.heap.size + 1 + 1 + 1) (setOther (v := .bool false) (j := 0) (g := w.heap.size + 1 + 1 + 1) r1 (by omega)) (by omega)
  have u2 := setOther (v := .string ⟨#[1]⟩) (j := 1) (g := w.heap.size + 1 + 1 + 1) (setOther (v := .bool false) (j := 0) (g := w.heap.size + 1 + 1 + 1) r2 (by omega)) (by omega)
  have u3 := set2 (x' := .bool false) (y' := .string ⟨#[1]⟩) r3
  have hbl : Below w.heap.size w ((w2.setCell ⟨w.heap.size + 1 + 1 + 1, 0, none⟩ (.bool false)).setCell ⟨w.heap.size + 1 + 1 + 1, 1, none⟩ (.string ⟨#[1]⟩)) := (((((((Below.refl _ _).alloc (Nat.le_refl _) _).alloc (by simp) _).alloc (by simp <;> omega) _).alloc (by simp <;> omega) _).trans (hb2.mono (by simp <;> omega))).setCell (by simp <;> omega) _).setCell (by simp <;> omega) _
  generalize ((w2.setCell ⟨w.heap.size + 1 + 1 + 1, 0, none⟩ (.bool false)).setCell ⟨w.heap.size + 1 + 1 + 1, 1, none⟩ (.string ⟨#[1]⟩)) = w3 at *
  clear r0 r1 r2 r3 s1 s2 s3 s4 h0 h1 h2 h3 hb2
  have l0 := lt_of_block u0
  have l1 := lt_of_block u1
  have l2 := lt_of_block u2
  have l3 := lt_of_block u3
  obtain ⟨c0, c1, -⟩ := three_cells (show w3.drew.heap[w.heap.size]? = _ from u0)
  obtain ⟨c2, c3⟩ := two_cells (show w3.drew.heap[w.heap.size + 1 + 1 + 1]? = _ from u3)
  clear u0 u3
  have hNI : ∀ W : World, Calls Tryz.prog 202 #[.agg #[.bool false, .string s]] W fun e w' => e = .returned (.agg #[.bool false, .string s]) ∧ Below W.heap.size W w' := fun W => normI s HN.out W
  have HNI := Lib.hid hNI
  clear hNI
  go_region_held3 (fun w' => w'.cell? ⟨w.heap.size, 0, none⟩ = some (.bool false) ∧ w'.cell? ⟨w.heap.size, 1, none⟩ = some (.string s) ∧ w'.cell? ⟨w.heap.size + 1 + 1 + 1, 0, none⟩ = some (.bool false) ∧ w'.cell? ⟨w.heap.size + 1 + 1 + 1, 1, none⟩ = some (.string ⟨#[1]⟩))
    (first
      | exact far4 (by assumption) (by omega) (by omega)
      | go_keep
      | exact ⟨keep1 hb4 c0, keep1 hb4 c1, keep1 hb4 c2, keep1 hb4 c3⟩)
    (first
      | (go_at_call 202; refine (HNI.out _).mono ?_; rintro e w4 ⟨rfl, hb4⟩; have q1 := (hb4.block (w.heap.size + 1) l1).trans u1; have q2 := (hb4.block (w.heap.size + 1 + 1) l2).trans u2; obtain ⟨s1, s2⟩ := two_cells q1; obtain ⟨s3, s4⟩ := two_free q1; obtain ⟨s5, s6⟩ := two_cells q2; obtain ⟨s7, s8⟩ := two_free q2))
  go_wp2
  exact bodyPost_ret (results_two Tryz.results171 _ _ (w.heap.size + 1) (w.heap.size + 1 + 1) 207 _ _ (0, 0) (0, 0) _ rfl rfl (setOther (setOther (set2 q1) (by omega)) (by omega)) (set2 (setOther (setOther q2 (by omega)) (by omega))) Tryz.underlying207 rfl (by kernel_rfl) (by kernel_rfl)) rfl
    ⟨rfl, (((((hbl.trans ((Below_drew_left' hb4).mono (by simp <;> omega))).setCell (by simp <;> omega) _).setCell (by simp <;> omega) _).setCell (by simp <;> omega) _).setCell (by simp <;> omega) _)⟩
end Go.Proofs.YteigcnamkfebgaaGreatDoor
