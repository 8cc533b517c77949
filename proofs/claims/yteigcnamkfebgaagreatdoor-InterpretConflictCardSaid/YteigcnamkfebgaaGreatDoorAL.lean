import Derived.Test.YteigcnamkfebgaaGreatDoorAK
import Derived.RangeFuncNested
import Derived.RangeFuncCalls
import Derived.RangeFuncLeaves
import Derived.Shelf.Abstract
import Derived.OwnWalkIn
import Derived.TacticsInMore
import Derived.LoopNIn
import Derived.LoopIn
import Derived.RegionIn
import Derived.Shelf.RegionOpen
namespace Go.Proofs.YteigcnamkfebgaaGreatDoor
open Go.RowKit Go.Shelf
attribute [local go_sem] Oper.semAt_some
/-! slices.Backward at edits; slices.ContainsFunc of nothing -/
theorem backward_any (a : Option Addr) (n c : Nat) (w : World) : Calls Tryz.prog 68 #[.slice a n c] w fun e w' => e = .returned (.func (.func 112) #[] #[.pointer (some ⟨w.heap.size, 0, none⟩)]) ∧ w' = w.alloc (.cells #[.slice a n c] 22) := by
  go_enter Tryz.func68, Tryz.ntmps68
  go_wp2
  go_ret
  exact ⟨rfl, rfl⟩
theorem indexNil (f : FuncId) (x y : Array Value) (w : World) : Calls Tryz.prog 113 #[.slice none 0 0, .func (.func f) x y] w fun e w' => e = .returned (.int .i64 (-1)) ∧ w = w' := by
  go_enter Tryz.func113, Tryz.ntmps113
  go_wp2
  refine wp_loop_rounds 1 ?_
  rw [rounds_succ]
  go_wp2
  go_ret
  exact ⟨rfl, rfl⟩
theorem containsNil (f : FuncId) (x y : Array Value) (w : World) : Calls Tryz.prog 69 #[.slice none 0 0, .func (.func f) x y] w fun e w' => e = .returned (.bool false) ∧ w = w' := by
  go_enter Tryz.func69, Tryz.ntmps69
  go_wp2_with (go_at_call 113; refine (indexNil _ _ _ _).mono ?_; rintro e w' ⟨rfl, rfl⟩)
  go_ret
  exact ⟨rfl, rfl⟩
theorem wpListIn_load_mid {F : Fence} {n : Nat} {P : Program} {ops : Array Oper} {rest : List Oper} {o : Oper} {a : Act} {w : World} {Q : Exit → Act → World → Prop} (hgd : o.guard = none) (ty : TypeId) (x : Operand) (ho : o.op = .load ty x)
    (b off : Nat) (hx : a.eval x = .pointer (some ⟨b, off, none⟩)) (cs : List Value) (d : TypeDesc) (hc : w.rangeAt b off cs) (hu : P.underlying ty = some d) (hd : d.isRow = true) (hi : (P.info? ty).map (·.size) = some cs.length)
    (h : wpListIn F n P ops Q rest (a.put o.dst (.agg cs.toArray)) w) : wpListIn F n P ops Q (o :: rest) a w := by
  refine wpListIn_plain hgd fun K hK => ?_
  have hr := run_loadAt_mid (P := P) w b off ty cs d hc hu hd hi
  unfold Oper.wpIn
  refine ⟨?_, ?_⟩
  · simp [Oper.about, ho]
  · rw [Oper.semAt_plain F _ _ (by rw [ho]; intro c hc'; cases hc')]
    simp [execOp, ho, hx, hr, Result.andThen]
    exact hK _ _ h
theorem wpListIn_store_new {F : Fence} {n : Nat} {P : Program} {ops : Array Oper} {rest : List Oper} {o : Oper} {a : Act} {Q : Exit → Act → World → Prop} (w0 : World) (hgd : o.guard = none) (ty : TypeId) (x y : Operand) (ho : o.op = .store ty x y) (c c' : Array Value)
    (hx : a.eval x = .pointer (some ⟨w0.heap.size, 0, none⟩)) (hy : a.eval y = .agg c') (hi : (P.info? ty).map (·.size) = some c'.size) (hs : c.size = c'.size) (h1 : c'.all (·.oneCell') = true)
    (h : wpListIn F n P ops Q rest (a.put o.dst undef) (w0.alloc (.cells c' ty))) : wpListIn F n P ops Q (o :: rest) a (w0.alloc (.cells c ty)) := by
  refine wpListIn_plain hgd fun K hK => ?_
  have hr := run_storeAt_new (P := P) w0 ty c c' hi hs h1
  unfold Oper.wpIn
  refine ⟨?_, ?_⟩
  · simp [Oper.about, ho]
  · rw [Oper.semAt_plain F _ _ (by rw [ho]; intro c hc'; cases hc')]
    simp [execOp, ho, hx, hy, hr, Result.andThen]
    exact hK _ _ h
/-- nothing below m has turned but block d -/
def KeepsBut (m d : Nat) (W W' : World) : Prop := W.heap.size ≤ W'.heap.size ∧ ∀ i, i < m → i ≠ d → W'.heap[i]? = W.heap[i]?
theorem KeepsBut.trans {m d : Nat} {A B C : World} (h : KeepsBut m d A B) (h' : KeepsBut m d B C) : KeepsBut m d A C := ⟨Nat.le_trans h.1 h'.1, fun i hi hd => (h'.2 i hi hd).trans (h.2 i hi hd)⟩
theorem KeepsBut.refl (m d : Nat) (A : World) : KeepsBut m d A A := ⟨Nat.le_refl _, fun _ _ _ => rfl⟩
theorem KeepsBut.cell {m d : Nat} {A B : World} (h : KeepsBut m d A B) {p : Addr} (hp : p.block < m) (hd : p.block ≠ d) : B.cell? p = A.cell? p := World.cell?_of_block (h.2 _ hp hd)
/-- the indices of the first k rounds, from behind -/
def backAt (n k : Nat) : List (Fin n) := (List.range k).filterMap fun j => if h : n - 1 - j < n then some ⟨n - 1 - j, h⟩ else none
theorem backAt_succ (n k : Nat) (j : Fin n) (h : j.val + 1 + k = n) : backAt n (k + 1) = backAt n k ++ [j] := by
  have h1 : n - 1 - k = j.val := by omega
  have h2 : n - 1 - k < n := by omega
  have h3 : (if h : n - 1 - k < n then some (⟨n - 1 - k, h⟩ : Fin n) else none) = some j := by
    rw [dif_pos h2]; congr 1; exact Fin.ext h1
  simp only [backAt, List.range_succ, List.filterMap_append, List.filterMap_cons, h3, List.filterMap_nil]
theorem backAt_len (n k : Nat) (hk : k ≤ n) : (backAt n k).length = k := by
  induction k with
  | zero => rfl
  | succ k ih => rw [backAt_succ n k ⟨n - 1 - k, by omega⟩ (by simp; omega), List.length_append, ih (by omega)]; rfl
theorem backAt_all (n : Nat) (j : Fin n) : j ∈ backAt n n := by
  have hp := j.isLt
  simp only [backAt, List.mem_filterMap, List.mem_range]
  exact ⟨n - 1 - j.val, by omega, by rw [dif_pos (by omega)]; congr 1; apply Fin.ext; simp; omega⟩
def encE (E : List EdD) (j : Fin E.length) : Array Value := #[.int .i64 (j.val : Int), .agg (edV E[j]).toArray]
set_option maxRecDepth 100000 in
set_option maxHeartbeats 6400000 in
theorem back1_in (n : Nat) (hn : 1 ≤ n) (l Bs m d b off cap : Nat) (E : List EdD) (hl : E.length ≤ 1000) (hb : b < m) (hbd : b ≠ d) (hBm : Bs < m) (hBd : Bs ≠ d) (J Jx : List (Fin E.length) → World → Prop)
    (hY : ∀ pre x W, J pre W → pre.length < E.length → YieldAt Fence.wide (n - 1) Tryz.prog l (encE E x) W fun e W' =>
      (e = .returned (.bool true) ∧ J (pre ++ [x]) W' ∧ KeepsBut m d W W') ∨ (e = .returned (.bool false) ∧ Jx (pre ++ [x]) W'))
    (W : World) (hBs : W.cell? ⟨Bs, 0, none⟩ = some (.slice (some ⟨b, off, none⟩) E.length cap)) (hr : W.rangeAt b off (edY.flat E)) (h0 : J [] W) :
    CallsIn Fence.wide n Tryz.prog 112 #[.func (.yield l) #[] #[], .pointer (some ⟨Bs, 0, none⟩)] W fun e W' => (∃ v, e = .returned v) ∧
      ((∃ ys, ys = backAt E.length E.length ∧ J ys W') ∨ (∃ pre, (∃ k, k ≤ E.length ∧ pre = backAt E.length k) ∧ Jx pre W')) := by
  have HR := Lib.hid hr
  have HBs := Lib.hid hBs
  have HY := Lib.hid hY
  clear hr hY
  refine callsIn_of_wp Tryz.func112 rfl trivial ?_ rfl
  simp only [Tryz.ntmps112, List.size_toArray, List.length_cons, List.length_nil, Nat.reduceAdd, Nat.reduceSub, Array.replicate_succ, Array.replicate_zero, List.push_toArray, List.append_toArray, List.nil_append, List.cons_append]
  obtain ⟨q, hq⟩ : ∃ q, q = E.length := ⟨_, rfl⟩
  have HQ := Lib.hid hq
  rw [← hq] at hBs hl
  clear hq
  have hwr : IntKind.i64.wrap ((q : Int) - 1) = (q : Int) - 1 := by rw [IntKind.wrap_i64]; omega
  gi_wp2
  gi_loopw [3] (fun i wr => ∃ k : Nat, k ≤ q ∧ i = .int .i64 ((q : Int) - 1 - k) ∧ J (backAt E.length k) wr ∧ KeepsBut m d W wr)
    (fun i _ => (intOf i + 1).toNat)
  case atStart => exact ⟨0, Nat.zero_le _, by simp, h0, KeepsBut.refl _ _ _⟩
  case round =>
    obtain ⟨k, hk, rfl, hJs, hkp⟩ := hrel
    by_cases hlt : k < q
    · obtain ⟨j, hj⟩ : ∃ j : Nat, j + 1 + k = q := ⟨q - 1 - k, by omega⟩
      have hji : (q : Int) - 1 - (k : Int) = (j : Int) := by omega
      have hjl : j < E.length := by rw [← HQ.out]; omega
      have HB := Lib.hid (backAt_succ E.length k ⟨j, hjl⟩ (hj.trans HQ.out))
      have hpl : (backAt E.length k).length < E.length := by rw [backAt_len E.length k (by rw [← HQ.out]; omega), ← HQ.out]; exact hlt
      have hrx : wr.rangeAt b (off + j * 18) (edV E[j]) := fun i u hi => by
        have h2 := edY.elem HR.out j E[j] (List.getElem?_eq_getElem hjl) i u hi
        exact (hkp.cell (p := ⟨b, off + j * 18 + i, none⟩) hb hbd).trans h2
      have hbs := (hkp.cell (p := ⟨Bs, 0, none⟩) hBm hBd).trans HBs.out
      rw [← HQ.out] at hbs
      obtain ⟨fn, tmps, assign, body, hy, hR⟩ := HY.out _ ⟨j, hjl⟩ wr hJs hpl
      have HJ := Lib.hid hj
      have hjq : (j : Int) < (q : Int) := by omega
      have hw1 : IntKind.i64.wrap ((j : Int) - 1) = (j : Int) - 1 := by rw [IntKind.wrap_i64]; omega
      have HKP := Lib.hid hkp
      have HRR := Lib.hid hR
      rw [hji]
      unfold encE at hy
      dsimp only [Fin.getElem_fin] at hy
      generalize E[j] = e at hrx hy
      unfold edV at hrx hy
      clear hkp hR hJs hj HBs hBs h0 hji hpl
      gi_wp2_with (first
        | refine wpListIn_load_mid rfl 45 _ rfl b (off + j * 18) rfl _ _ hrx Tryz.underlying45 rfl (by kernel_rfl) ?_)
      refine HRR.out.mono ?_
      rintro e0 W3 (⟨rfl, hJ3, hk3⟩ | ⟨rfl, hJx3⟩)
      · have HJ3 := Lib.hid hJ3
        have HK3 := Lib.hid hk3
        clear hJ3 hk3 hy hrx
        gi_wp2
        go_roundw
        case rel => exact ⟨k + 1, by omega, by have := HJ.out; congr 1 <;> omega, by rw [HB.out]; exact HJ3.out, HKP.out.trans HK3.out⟩
        case measure => have := HJ.out; simp [intOf] <;> omega
      · have HJ3 := Lib.hid hJx3
        clear hJx3 hy hrx
        gi_wp2
        refine bodyPost_ret (results_none rfl _ _ _) rfl ?_
        exact ⟨⟨_, rfl⟩, .inr ⟨_, ⟨k + 1, by rw [← HQ.out]; omega, HB.out.symm⟩, HJ3.out⟩⟩
    · obtain rfl : k = q := by omega
      have HJS := Lib.hid hJs
      have hneg : (k : Int) - 1 - (k : Int) = -1 := by omega
      rw [hneg]
      clear hJs hkp h0 hBs HBs hneg
      gi_wp2
      go_end0
      exact ⟨⟨_, rfl⟩, .inl ⟨_, by rw [← HQ.out], HJS.out⟩⟩
theorem back_stops (n : Nat) (hn : 1 ≤ n) (Bs d b off cap : Nat) (E : List EdD) (hl : E.length ≤ 1000) (w : World) (hBs : Bs < w.heap.size) (hBd : Bs ≠ d) (hb : b < w.heap.size) (hbd : b ≠ d)
    (hc : w.cell? ⟨Bs, 0, none⟩ = some (.slice (some ⟨b, off, none⟩) E.length cap)) (hr : w.rangeAt b off (edY.flat E)) :
    SeqStopsK Fence.wide n Tryz.prog 112 #[.pointer (some ⟨Bs, 0, none⟩)] (encE E) (KeepsBut w.heap.size d) (fun ys => ys = backAt E.length E.length) (fun pre => ∃ k, k ≤ E.length ∧ pre = backAt E.length k) E.length w := fun l J Jx W hW _ _ hY h0 =>
  back1_in n hn l Bs w.heap.size d b off cap E hl hb hbd hBs hBd J Jx hY W ((hW.cell (p := ⟨Bs, 0, none⟩) hBs).trans hc) (rangeAt_below hr hW) h0
end Go.Proofs.YteigcnamkfebgaaGreatDoor
