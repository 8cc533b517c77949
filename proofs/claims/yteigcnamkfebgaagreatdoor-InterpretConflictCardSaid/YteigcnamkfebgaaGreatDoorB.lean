import Derived.Test.YteigcnamkfebgaaGreatDoorProg
import Derived.Test.YteigcnamkfebgaaGreatDoorA
import Derived.Deep.QuietTactic
import Derived.BigQuiet
import Derived.Deep.WholeRow
import Derived.Deep.RegionWith
import Derived.Deep.RegionHeld3
import Derived.Deep.LoopGhost
import Derived.Lib.Strings
import Derived.Lib.Slices
import Derived.Lib.Walk
import Derived.Lib.Bytealg
import Derived.Lib.Small
import Derived.Laws.Cover1
namespace Go.Proofs.YteigcnamkfebgaaGreatDoor
open Go.RowKit
theorem alloc_get (w : World) (o : Obj) (k : Nat) (h : k = w.heap.size) : (w.alloc o).heap[k]? = some o := by subst h; exact Go.heap_alloc_new w o
theorem alloc_old (w : World) (o o' : Obj) (k : Nat) (h : w.heap[k]? = some o) : (w.alloc o').heap[k]? = some o := (Below.heap_alloc w o' k (lt_of_block h)).trans h
theorem box2 {w : World} {o o' : Obj} : ((w.alloc o).alloc o').heap[w.heap.size]? = some o ∧ ((w.alloc o).alloc o').heap[w.heap.size + 1]? = some o' :=
  ⟨alloc_old _ _ _ _ (alloc_get _ _ _ rfl), alloc_get _ _ _ (by simp)⟩
theorem below2 (w : World) (o o' : Obj) : Below w.heap.size w ((w.alloc o).alloc o') := ((Below.refl _ _).alloc (Nat.le_refl _) _).alloc (by simp) _
theorem arr2 (W : World) (x y : Int) : (W.alloc (.cells #[.int .i64 x, .int .i64 y] 3)).cell? ⟨W.heap.size, 0, none⟩ = some (.int .i64 x) ∧ (W.alloc (.cells #[.int .i64 x, .int .i64 y] 3)).cell? ⟨W.heap.size, 1, none⟩ = some (.int .i64 y) := by
  refine ⟨?_, ?_⟩
  · rw [cell_of_row _ _ 0 _ _ _ (alloc_get _ _ _ rfl)]; rfl
  · rw [cell_of_row _ _ 1 _ _ _ (alloc_get _ _ _ rfl)]; rfl
def cmpS (a b : ByteArray) : Int := Lib.compareBytes a.data.toList b.data.toList
def or2 (x y : Int) : Int := if x = 0 then y else x
set_option maxHeartbeats 1000000 in
set_option maxRecDepth 100000 in
theorem cmpstr_any (a b : ByteArray) (w : World) : Calls Tryz.prog 61 #[.string a, .string b] w fun e w' => e = .returned (.int .i64 (cmpS a b)) ∧ w = w' := by
  go_enter Tryz.func61, Tryz.ntmps61
  go_wp2
  rw [run_callFunc_extern Tryz.func105 (by kernel_rfl) (by kernel_rfl) (by kernel_rfl) (e := Extern.BytealgCompare.compare) (by kernel_rfl), Lib.run_compareString]
  simp only [Result.andThen]
  rw [Oper.upon_value]
  go_wp2
  go_ret
  exact ⟨rfl, rfl⟩
theorem strcmp_any (a b : ByteArray) (w : World) : Calls Tryz.prog 32 #[.string a, .string b] w fun e w' => e = .returned (.int .i64 (cmpS a b)) ∧ w = w' := by
  go_enter Tryz.func32, Tryz.ntmps32
  go_wp2_with (go_at_call 61; refine (cmpstr_any _ _ _).mono ?_; rintro e w' ⟨rfl, rfl⟩)
  go_ret
  exact ⟨rfl, rfl⟩
theorem intcmp_any (x y : Int) (w : World) : Calls Tryz.prog 120 #[.int .i64 x, .int .i64 y] w fun e w' => e = .returned (.int .i64 (Lib.compareInt x y)) ∧ w = w' := by
  go_enter Tryz.func120, Tryz.ntmps120
  go_wp2
  all_goals (go_ret; refine ⟨?_, rfl⟩; unfold Lib.compareInt; (repeat' split) <;> first | rfl | (exfalso; omega))
theorem or2_any (x y : Int) (b cap : Nat) (w : World) (c0 : w.cell? ⟨b, 0, none⟩ = some (.int .i64 x)) (c1 : w.cell? ⟨b, 1, none⟩ = some (.int .i64 y)) :
    Calls Tryz.prog 118 #[.slice (some ⟨b, 0, none⟩) 2 cap] w fun e w' => e = .returned (.int .i64 (or2 x y)) ∧ w = w' := by
  go_enter Tryz.func118, Tryz.ntmps118
  go_wp2
  go_loopg [8] 2 (fun gn t wr => ∃ k : Nat, k + gn = 2 ∧ t = .int .i64 k ∧ (1 ≤ k → x = 0) ∧ (2 ≤ k → y = 0) ∧ wr = w)
  case atStart => exact ⟨0, rfl, rfl, fun h => absurd h (by omega), fun h => absurd h (by omega), rfl⟩
  case round =>
    obtain ⟨k, hk, rfl, hx, hy, rfl⟩ := hrel
    have HX := Lib.hid hx
    have HY := Lib.hid hy
    clear hx hy
    rcases (show k = 0 ∨ k = 1 ∨ k = 2 by omega) with rfl | rfl | rfl
    · by_cases hx : x = 0
      · have hx2 : (x != 0) = false := by simp [hx]
        have HX0 := Lib.hid hx
        clear hx
        go_wp2
        go_roundg 1
        case rel => exact ⟨1, rfl, by go_num, fun _ => HX0.out, fun h => absurd h (by omega), rfl⟩
        case measure => omega
      · have hx2 : (x != 0) = true := by simp [hx]
        have HX0 := Lib.hid hx
        clear hx
        go_wp2
        go_ret
        exact ⟨by unfold or2; rw [if_neg HX0.out]; rfl, rfl⟩
    · by_cases hy : y = 0
      · have hy2 : (y != 0) = false := by simp [hy]
        have HY0 := Lib.hid hy
        clear hy
        go_wp2
        go_roundg 0
        case rel => exact ⟨2, rfl, by go_num, fun _ => HX.out (by omega), fun _ => HY0.out, rfl⟩
        case measure => omega
      · have hy2 : (y != 0) = true := by simp [hy]
        have HY0 := Lib.hid hy
        clear hy
        go_wp2
        go_ret
        exact ⟨by unfold or2; rw [if_pos (HX.out (by omega))]; rfl, rfl⟩
    · go_wp2
      go_ret
      exact ⟨by unfold or2; rw [if_pos (HX.out (by omega)), HY.out (by omega)]; rfl, rfl⟩
structure IdD where
  a : ByteArray
  n : Int
def idV (x : IdD) : List Value := [.string x.a, .int .i64 x.n]
def idY : Lay IdD := ⟨2, idV, fun _ => rfl, by intro x u hu; simp [idV] at hu; rcases hu with rfl | rfl <;> rfl⟩
def cmpId (a b : IdD) : Int := or2 (cmpS a.a b.a) (Lib.compareInt a.n b.n)
set_option maxHeartbeats 2000000 in
theorem compareIds_any (x y : IdD) (w : World) : Calls Tryz.prog 121 #[.agg #[.string x.a, .int .i64 x.n], .agg #[.string y.a, .int .i64 y.n]] w fun e w' => e = .returned (.int .i64 (cmpId x y)) ∧ Below w.heap.size w w' := by
  obtain ⟨m2, m3⟩ := box2 (w := w) (o := .cells #[.string x.a, .int .i64 x.n] 38) (o' := .cells #[.string y.a, .int .i64 y.n] 38)
  have hb := below2 w (.cells #[.string x.a, .int .i64 x.n] 38) (.cells #[.string y.a, .int .i64 y.n] 38)
  go_enter Tryz.func121, Tryz.ntmps121
  go_wp2_with fail
  generalize ((w.alloc (.cells #[.string x.a, .int .i64 x.n] 38)).alloc (.cells #[.string y.a, .int .i64 y.n] 38)) = W at *
  generalize hp : w.heap.size = p at *
  have HP := Lib.hid hp
  clear hp
  have c20 : W.cell? ⟨p, 0, none⟩ = some (.string x.a) := by rw [cell_of_row _ _ 0 _ _ _ m2]; rfl
  have c21 : W.cell? ⟨p, 1, none⟩ = some (.int .i64 x.n) := by rw [cell_of_row _ _ 1 _ _ _ m2]; rfl
  have c30 : W.cell? ⟨p + 1, 0, none⟩ = some (.string y.a) := by rw [cell_of_row _ _ 0 _ _ _ m3]; rfl
  have c31 : W.cell? ⟨p + 1, 1, none⟩ = some (.int .i64 y.n) := by rw [cell_of_row _ _ 1 _ _ _ m3]; rfl
  have l2 := lt_of_block m2
  have l3 := lt_of_block m3
  clear m2 m3
  go_region_held3 (fun w' => w'.cell? ⟨p, 0, none⟩ = some (.string x.a) ∧ w'.cell? ⟨p, 1, none⟩ = some (.int .i64 x.n) ∧ w'.cell? ⟨p + 1, 0, none⟩ = some (.string y.a) ∧ w'.cell? ⟨p + 1, 1, none⟩ = some (.int .i64 y.n)) (go_keep)
    (first
      | (go_at_call 32; refine (strcmp_any _ _ _).mono ?_; rintro e w1 ⟨rfl, rfl⟩)
      | (go_at_call 120; refine (intcmp_any _ _ _).mono ?_; rintro e w1 ⟨rfl, rfl⟩)
      | (go_at_call 118; refine (or2_any (cmpS x.a y.a) (Lib.compareInt x.n y.n) W.heap.size 2 _ (arr2 W.drew _ _).1 (arr2 W.drew _ _).2).mono ?_; rintro e w1 ⟨rfl, rfl⟩))
  all_goals go_wp2
  all_goals go_ret
  all_goals exact ⟨rfl, by rw [HP.out]; exact (hb.alloc (by have := hb.size; rw [HP.out] at this; exact this) _).drew⟩
structure SlV where
  a : Option Addr
  len : Nat
  cap : Nat
def SlV.v (s : SlV) : Value := .slice s.a s.len s.cap
def SlV.nil : SlV := ⟨none, 0, 0⟩
structure RegD where
  node : IdD
  field : ByteArray
  w : SlV
def regV (x : RegD) : List Value := [.string x.node.a, .int .i64 x.node.n, .string x.field, .slice x.w.a x.w.len x.w.cap]
def regY : Lay RegD := ⟨4, regV, fun _ => rfl, by intro x u hu; simp [regV] at hu; rcases hu with rfl | rfl | rfl | rfl <;> rfl⟩
def cmpReg (x y : RegD) : Int := or2 (cmpId x.node y.node) (cmpS x.field y.field)
structure WrD where
  id : IdD
  clock : Int
  text : ByteArray
def wrV (x : WrD) : List Value := [.string x.id.a, .int .i64 x.id.n, .int .i64 x.clock, .string x.text]
def wrY : Lay WrD := ⟨4, wrV, fun _ => rfl, by intro x u hu; simp [wrV] at hu; rcases hu with rfl | rfl | rfl | rfl <;> rfl⟩
def cmpWr (x y : WrD) : Int := or2 (Lib.compareInt x.clock y.clock) (cmpId x.id y.id)
set_option maxHeartbeats 2000000 in
theorem compareRegs_any (x y : RegD) (w : World) : Calls Tryz.prog 78 #[.agg #[.string x.node.a, .int .i64 x.node.n, .string x.field, .slice x.w.a x.w.len x.w.cap], .agg #[.string y.node.a, .int .i64 y.node.n, .string y.field, .slice y.w.a y.w.len y.w.cap]] w fun e w' => e = .returned (.int .i64 (cmpReg x y)) ∧ Below w.heap.size w w' := by
  obtain ⟨m2, m3⟩ := box2 (w := w) (o := .cells #[.string x.node.a, .int .i64 x.node.n, .string x.field, .slice x.w.a x.w.len x.w.cap] 48) (o' := .cells #[.string y.node.a, .int .i64 y.node.n, .string y.field, .slice y.w.a y.w.len y.w.cap] 48)
  have hb := below2 w (.cells #[.string x.node.a, .int .i64 x.node.n, .string x.field, .slice x.w.a x.w.len x.w.cap] 48) (.cells #[.string y.node.a, .int .i64 y.node.n, .string y.field, .slice y.w.a y.w.len y.w.cap] 48)
  go_enter Tryz.func78, Tryz.ntmps78
  go_wp2_with fail
  generalize ((w.alloc (.cells #[.string x.node.a, .int .i64 x.node.n, .string x.field, .slice x.w.a x.w.len x.w.cap] 48)).alloc (.cells #[.string y.node.a, .int .i64 y.node.n, .string y.field, .slice y.w.a y.w.len y.w.cap] 48)) = W at *
  generalize hp : w.heap.size = p at *
  have HP := Lib.hid hp
  clear hp
  have c20 : W.cell? ⟨p, 0, none⟩ = some (.string x.node.a) := by rw [cell_of_row _ _ 0 _ _ _ m2]; rfl
  have c21 : W.cell? ⟨p, 1, none⟩ = some (.int .i64 x.node.n) := by rw [cell_of_row _ _ 1 _ _ _ m2]; rfl
  have c22 : W.cell? ⟨p, 2, none⟩ = some (.string x.field) := by rw [cell_of_row _ _ 2 _ _ _ m2]; rfl
  have c23 : W.cell? ⟨p, 3, none⟩ = some (.slice x.w.a x.w.len x.w.cap) := by rw [cell_of_row _ _ 3 _ _ _ m2]; rfl
  have c30 : W.cell? ⟨p + 1, 0, none⟩ = some (.string y.node.a) := by rw [cell_of_row _ _ 0 _ _ _ m3]; rfl
  have c31 : W.cell? ⟨p + 1, 1, none⟩ = some (.int .i64 y.node.n) := by rw [cell_of_row _ _ 1 _ _ _ m3]; rfl
  have c32 : W.cell? ⟨p + 1, 2, none⟩ = some (.string y.field) := by rw [cell_of_row _ _ 2 _ _ _ m3]; rfl
  have c33 : W.cell? ⟨p + 1, 3, none⟩ = some (.slice y.w.a y.w.len y.w.cap) := by rw [cell_of_row _ _ 3 _ _ _ m3]; rfl
  have l2 := lt_of_block m2
  have l3 := lt_of_block m3
  clear m2 m3
  go_region_held3 (fun w' => w'.cell? ⟨p, 0, none⟩ = some (.string x.node.a) ∧ w'.cell? ⟨p, 1, none⟩ = some (.int .i64 x.node.n) ∧ w'.cell? ⟨p, 2, none⟩ = some (.string x.field) ∧ w'.cell? ⟨p, 3, none⟩ = some (.slice x.w.a x.w.len x.w.cap) ∧ w'.cell? ⟨p + 1, 0, none⟩ = some (.string y.node.a) ∧ w'.cell? ⟨p + 1, 1, none⟩ = some (.int .i64 y.node.n) ∧ w'.cell? ⟨p + 1, 2, none⟩ = some (.string y.field) ∧ w'.cell? ⟨p + 1, 3, none⟩ = some (.slice y.w.a y.w.len y.w.cap)) (first | go_keep | exact ⟨(hb1.cell (p := ⟨p, 0, none⟩) l2).trans c20, (hb1.cell (p := ⟨p, 1, none⟩) l2).trans c21, (hb1.cell (p := ⟨p, 2, none⟩) l2).trans c22, (hb1.cell (p := ⟨p, 3, none⟩) l2).trans c23, (hb1.cell (p := ⟨p + 1, 0, none⟩) l3).trans c30, (hb1.cell (p := ⟨p + 1, 1, none⟩) l3).trans c31, (hb1.cell (p := ⟨p + 1, 2, none⟩) l3).trans c32, (hb1.cell (p := ⟨p + 1, 3, none⟩) l3).trans c33⟩)
    (first
      | (go_at_call 121; refine (compareIds_any x.node y.node _).mono ?_; rintro e w1 ⟨rfl, hb1⟩)
      | (go_at_call 32; refine (strcmp_any _ _ _).mono ?_; rintro e w2 ⟨rfl, rfl⟩)
      | (go_at_call 118; refine (or2_any (cmpId x.node y.node) (cmpS x.field y.field) w1.heap.size 2 _ (arr2 w1 _ _).1 (arr2 w1 _ _).2).mono ?_; rintro e w3 ⟨rfl, rfl⟩))
  all_goals go_wp2
  all_goals go_ret
  all_goals exact ⟨rfl, by rw [HP.out]; exact ((hb.drew.trans (hb1.mono (by have := hb.size; rw [HP.out] at this; exact this))).alloc (by have h1 := hb.size; have h2 := hb1.size; rw [HP.out] at h1; exact Nat.le_trans h1 h2) _)⟩
set_option maxHeartbeats 2000000 in
theorem compareMarks_any (x y : WrD) (w : World) : Calls Tryz.prog 127 #[.agg #[.string x.id.a, .int .i64 x.id.n, .int .i64 x.clock, .string x.text], .agg #[.string y.id.a, .int .i64 y.id.n, .int .i64 y.clock, .string y.text]] w fun e w' => e = .returned (.int .i64 (cmpWr x y)) ∧ Below w.heap.size w w' := by
  obtain ⟨m2, m3⟩ := box2 (w := w) (o := .cells #[.string x.id.a, .int .i64 x.id.n, .int .i64 x.clock, .string x.text] 50) (o' := .cells #[.string y.id.a, .int .i64 y.id.n, .int .i64 y.clock, .string y.text] 50)
  have hb := below2 w (.cells #[.string x.id.a, .int .i64 x.id.n, .int .i64 x.clock, .string x.text] 50) (.cells #[.string y.id.a, .int .i64 y.id.n, .int .i64 y.clock, .string y.text] 50)
  go_enter Tryz.func127, Tryz.ntmps127
  go_wp2_with fail
  generalize ((w.alloc (.cells #[.string x.id.a, .int .i64 x.id.n, .int .i64 x.clock, .string x.text] 50)).alloc (.cells #[.string y.id.a, .int .i64 y.id.n, .int .i64 y.clock, .string y.text] 50)) = W at *
  generalize hp : w.heap.size = p at *
  have HP := Lib.hid hp
  clear hp
  have c20 : W.cell? ⟨p, 0, none⟩ = some (.string x.id.a) := by rw [cell_of_row _ _ 0 _ _ _ m2]; rfl
  have c21 : W.cell? ⟨p, 1, none⟩ = some (.int .i64 x.id.n) := by rw [cell_of_row _ _ 1 _ _ _ m2]; rfl
  have c22 : W.cell? ⟨p, 2, none⟩ = some (.int .i64 x.clock) := by rw [cell_of_row _ _ 2 _ _ _ m2]; rfl
  have c23 : W.cell? ⟨p, 3, none⟩ = some (.string x.text) := by rw [cell_of_row _ _ 3 _ _ _ m2]; rfl
  have c30 : W.cell? ⟨p + 1, 0, none⟩ = some (.string y.id.a) := by rw [cell_of_row _ _ 0 _ _ _ m3]; rfl
  have c31 : W.cell? ⟨p + 1, 1, none⟩ = some (.int .i64 y.id.n) := by rw [cell_of_row _ _ 1 _ _ _ m3]; rfl
  have c32 : W.cell? ⟨p + 1, 2, none⟩ = some (.int .i64 y.clock) := by rw [cell_of_row _ _ 2 _ _ _ m3]; rfl
  have c33 : W.cell? ⟨p + 1, 3, none⟩ = some (.string y.text) := by rw [cell_of_row _ _ 3 _ _ _ m3]; rfl
  have l2 := lt_of_block m2
  have l3 := lt_of_block m3
  clear m2 m3
  go_region_held3 (fun w' => w'.cell? ⟨p, 0, none⟩ = some (.string x.id.a) ∧ w'.cell? ⟨p, 1, none⟩ = some (.int .i64 x.id.n) ∧ w'.cell? ⟨p, 2, none⟩ = some (.int .i64 x.clock) ∧ w'.cell? ⟨p, 3, none⟩ = some (.string x.text) ∧ w'.cell? ⟨p + 1, 0, none⟩ = some (.string y.id.a) ∧ w'.cell? ⟨p + 1, 1, none⟩ = some (.int .i64 y.id.n) ∧ w'.cell? ⟨p + 1, 2, none⟩ = some (.int .i64 y.clock) ∧ w'.cell? ⟨p + 1, 3, none⟩ = some (.string y.text)) (first | go_keep | exact ⟨(hb1.cell (p := ⟨p, 0, none⟩) l2).trans c20, (hb1.cell (p := ⟨p, 1, none⟩) l2).trans c21, (hb1.cell (p := ⟨p, 2, none⟩) l2).trans c22, (hb1.cell (p := ⟨p, 3, none⟩) l2).trans c23, (hb1.cell (p := ⟨p + 1, 0, none⟩) l3).trans c30, (hb1.cell (p := ⟨p + 1, 1, none⟩) l3).trans c31, (hb1.cell (p := ⟨p + 1, 2, none⟩) l3).trans c32, (hb1.cell (p := ⟨p + 1, 3, none⟩) l3).trans c33⟩)
    (first
      | (go_at_call 121; refine (compareIds_any x.id y.id _).mono ?_; rintro e w1 ⟨rfl, hb1⟩)
      | (go_at_call 120; refine (intcmp_any _ _ _).mono ?_; rintro e w2 ⟨rfl, rfl⟩)
      | (go_at_call 118; refine (or2_any (Lib.compareInt x.clock y.clock) (cmpId x.id y.id) w1.heap.size 2 _ (arr2 w1 _ _).1 (arr2 w1 _ _).2).mono ?_; rintro e w3 ⟨rfl, rfl⟩))
  all_goals go_wp2
  all_goals go_ret
  all_goals exact ⟨rfl, by rw [HP.out]; exact ((hb.drew.trans (hb1.mono (by have := hb.size; rw [HP.out] at this; exact this))).alloc (by have h1 := hb.size; have h2 := hb1.size; rw [HP.out] at h1; exact Nat.le_trans h1 h2) _)⟩
theorem cmp_less : ∀ (l m : List UInt8), Lib.compareBytes l m = if Op.bytesLess l m then -1 else if !(Op.bytesLess l m || l == m) then 1 else 0
  | [], [] => by simp [Lib.compareBytes, Op.bytesLess]
  | [], _ :: _ => by simp [Lib.compareBytes, Op.bytesLess]
  | _ :: _, [] => by simp [Lib.compareBytes, Op.bytesLess]
  | a :: l, b :: m => by
    have ih := cmp_less l m
    rw [Lib.compareBytes, Op.bytesLess]
    by_cases h1 : a < b
    · simp [h1]
    · by_cases h2 : b < a
      · have hne : a ≠ b := by rintro rfl; exact h1 h2
        simp [h1, h2, hne]
      · have he : a = b := by
          have e1 : ¬ a.toNat < b.toNat := fun h => h1 h
          have e2 : ¬ b.toNat < a.toNat := fun h => h2 h
          exact UInt8.toNat_inj.1 (by omega)
        subst he
        simp [ih]
theorem genstr_any (a b : ByteArray) (w : World) : Calls Tryz.prog 119 #[.string a, .string b] w fun e w' => e = .returned (.int .i64 (cmpS a b)) ∧ w = w' := by
  have hc : cmpS a b = if Op.bytesLess a.toList b.toList then -1 else if !(Op.bytesLess a.toList b.toList || a.toList == b.toList) then 1 else 0 := by
    rw [ByteArray.toList_eq, ByteArray.toList_eq]; exact cmp_less _ _
  have HC := Lib.hid hc
  clear hc
  go_enter Tryz.func119, Tryz.ntmps119
  go_wp2
  all_goals (go_ret; refine ⟨?_, rfl⟩; rw [HC.out]; (repeat' split) <;> first | rfl | (exfalso; simp_all))
end Go.Proofs.YteigcnamkfebgaaGreatDoor
