import Derived.Test.YtlipahfkfhcniaaDoorProg
import Derived.WalkKit
import Derived.KernelRfl
import Derived.Lib.Hide
import Derived.Deep.QuietTactic
import Derived.BigQuiet
import Derived.Deep.WholeRow
import Derived.Deep.RegionWith
import Derived.Deep.LoopGhost
namespace Go.Proofs.YtlipahfkfhcniaaDoor
open Go.RowKit
theorem and63 (n : Int) (hn : 0 ≤ n) (hn2 : n < 64) : bits .and .u64 n 63 = n := by
  obtain ⟨m, rfl⟩ := Int.eq_ofNat_of_zero_le hn
  have hm : m < 64 := by omega
  clear hn hn2
  revert m
  decide +kernel
def rotl (x n : Int) : Int := bits .or .u64 (IntKind.u64.wrap (x * 2 ^ n.toNat)) (x / 2 ^ (64 - n).toNat)
theorem rot_any (x n : Int) (w : World) (hn : 0 ≤ n) (hn2 : n < 64) :
    Calls Tryd.prog 27 #[.int .u64 x, .int .i64 n] w fun e w' => e = .returned (.int .u64 (rotl x n)) ∧ w' = w := by
  have h1 := and63 n hn hn2
  have h3 : min n.toNat 64 = n.toNat := by omega
  have h4 : min (64 - n).toNat 64 = (64 - n).toNat := by omega
  have h5 : IntKind.u64.bits = 64 := rfl
  have h6 : IntKind.u64.wrap n = n := by rw [IntKind.wrap_u64]; omega
  have h7 : IntKind.u64.wrap (64 - n) = 64 - n := by rw [IntKind.wrap_u64]; omega
  go_enter Tryd.func27, Tryd.ntmps27
  go_wp2
  go_ret
  exact ⟨rfl, rfl⟩
def arrN (k : IntKind) (n : Nat) (f : Nat → Int) : Array Value := ((List.range n).map fun i => Value.int k (f i)).toArray
def upd (f : Nat → Int) (i : Nat) (v : Int) : Nat → Int := fun j => if j = i then v else f j
theorem arrN_size (k : IntKind) (n : Nat) (f : Nat → Int) : (arrN k n f).size = n := by simp [arrN]
theorem arrN_get (k : IntKind) (n : Nat) (f : Nat → Int) (i : Nat) (h : i < n) : (arrN k n f)[i]? = some (.int k (f i)) := by
  simp [arrN, h]
theorem arrN_set (k : IntKind) (n : Nat) (f : Nat → Int) (i : Nat) (v : Int) : (arrN k n f).setIfInBounds i (.int k v) = arrN k n (upd f i v) := by
  apply Array.ext_getElem?
  intro j
  by_cases hj : j < n
  · rw [arrN_get _ _ _ _ hj, Array.getElem?_setIfInBounds]
    by_cases hij : i = j
    · subst hij; simp [arrN_size, hj, upd]
    · rw [if_neg hij, arrN_get _ _ _ _ hj]; simp [upd, Ne.symm hij]
  · rw [Array.getElem?_eq_none (by simp [arrN_size]; omega), Array.getElem?_eq_none (by simp [arrN_size]; omega)]
theorem arrN_one (k : IntKind) (n : Nat) (f : Nat → Int) : (arrN k n f).all (·.oneCell') = true := by
  rw [Array.all_eq_true_iff_forall_mem]
  intro v hv
  simp [arrN] at hv
  obtain ⟨i, _, rfl⟩ := hv
  rfl
theorem arrN_congr (k : IntKind) (n : Nat) (f g : Nat → Int) (h : ∀ i, i < n → f i = g i) : arrN k n f = arrN k n g := by
  unfold arrN
  congr 1
  exact List.map_congr_left fun i hi => by rw [h i (by simpa using hi)]
/-- block b is an array of ints f -/
def BlkN (w : World) (b : Nat) (t : TypeId) (k : IntKind) (n : Nat) (f : Nat → Int) : Prop := w.heap[b]? = some (.cells (arrN k n f) t (0, 0))
theorem BlkN.cell {w : World} {b : Nat} {t : TypeId} {k : IntKind} {n : Nat} {f : Nat → Int} (h : BlkN w b t k n f) (i : Nat) (hi : i < n) : w.cell? ⟨b, i, none⟩ = some (.int k (f i)) := by
  rw [cell_of_row w b i _ t _ h]; exact arrN_get _ _ _ _ hi
theorem BlkN.free {w : World} {b : Nat} {t : TypeId} {k : IntKind} {n : Nat} {f : Nat → Int} (h : BlkN w b t k n f) (i : Nat) : w.frozen? ⟨b, i, none⟩ = false := frozen_of_row w b i _ t h
theorem BlkN.set {w : World} {b : Nat} {t : TypeId} {k : IntKind} {n : Nat} {f : Nat → Int} (h : BlkN w b t k n f) (i : Nat) (v : Int) : BlkN (w.setCell ⟨b, i, none⟩ (.int k v)) b t k n (upd f i v) := by
  unfold BlkN; rw [heap_setCell_same w b i _ t _ h, arrN_set]
theorem BlkN.below {w w' : World} {B b : Nat} {t : TypeId} {k : IntKind} {n : Nat} {f : Nat → Int} (h : BlkN w b t k n f) (hb : Below B w w') (hB : b < B) : BlkN w' b t k n f := by
  unfold BlkN; rw [hb.block b hB]; exact h

def part (G : Nat → Int) (m : Nat) : Nat → Int := fun i => if i < m then G i else 0
theorem BlkN.part_step {w : World} {b : Nat} {t : TypeId} {k : IntKind} {n m : Nat} {G : Nat → Int} (h : BlkN w b t k n (part G m)) : BlkN (w.setCell ⟨b, m, none⟩ (.int k (G m))) b t k n (part G (m + 1)) := by
  have := h.set m (G m)
  unfold BlkN at this ⊢
  rw [this, arrN_congr]
  intro i _
  unfold upd part
  by_cases h1 : i = m
  · subst h1; simp
  · rw [if_neg h1]
    by_cases h2 : i < m
    · rw [if_pos h2, if_pos (by omega)]
    · rw [if_neg h2, if_neg (by omega)]
theorem BlkN.full {w : World} {b : Nat} {t : TypeId} {k : IntKind} {n m : Nat} {G : Nat → Int} (h : BlkN w b t k n (part G m)) (hm : n ≤ m) : BlkN w b t k n G := by
  unfold BlkN at h ⊢
  rw [h, arrN_congr]
  intro i hi
  unfold part
  rw [if_pos (by omega)]
theorem BlkN.drewN {w : World} {b : Nat} {t : TypeId} {k : IntKind} {n : Nat} {f : Nat → Int} (h : BlkN w b t k n f) (q : Nat) : BlkN (w.drewN q) b t k n f := h
theorem BlkN.other {w : World} {b : Nat} {t : TypeId} {k : IntKind} {n : Nat} {f : Nat → Int} (h : BlkN w b t k n f) (a : Addr) (v : Value) (hne : b ≠ a.block) : BlkN (w.setCell a v) b t k n f := by
  unfold BlkN; rw [heap_setCell_other _ _ _ _ hne]; exact h
theorem Below_drewN {B : Nat} {a w : World} (h : Below B a w) (q : Nat) : Below B a (w.drewN q) := ⟨h.os, h.tape, h.output, h.size, h.block⟩
def X64 (a b : Int) : Int := bits .xor .u64 a b
def N64 (a b : Int) : Int := bits .andNot .u64 a b
def chiF (b : Nat → Int) (x y : Nat) : Int := X64 (b (x * 5 + y)) (N64 (b ((x + 2) % 5 * 5 + y)) (b ((x + 1) % 5 * 5 + y)))
theorem chi_any (x y B : Nat) (f : Nat → Int) (w : World) (hx : x < 5) (hy : y < 5) (hB : BlkN w B 58 .u64 25 f) :
    Calls Tryd.prog 28 #[.int .i64 x, .int .i64 y, .pointer (some ⟨B, 0, none⟩)] w fun e w' => e = .returned (.int .u64 (chiF f x y)) ∧ ∃ n, w' = w.drewN n := by
  have c0 := hB.cell (x * 5 + y) (by omega)
  have c1 := hB.cell ((x+1) % 5 * 5 + y) (by omega)
  have c2 := hB.cell ((x+2) % 5 * 5 + y) (by omega)
  clear hB
  go_enter Tryd.func28, Tryd.ntmps28
  go_wp2
  go_quiet (fail)
  go_wp2
  go_ret
  exact ⟨rfl, _, rfl⟩
def thetaF (a c : Nat → Int) (x y : Nat) : Int := X64 (X64 (a (x * 5 + y)) (c ((x + 4) % 5))) (rotl (c ((x + 1) % 5)) 1)
theorem theta_any (x y A C : Nat) (f c : Nat → Int) (w : World) (hx : x < 5) (hy : y < 5) (hA : BlkN w A 58 .u64 25 f) (hC : BlkN w C 56 .u64 5 c) :
    Calls Tryd.prog 26 #[.int .i64 x, .int .i64 y, .pointer (some ⟨A, 0, none⟩), .pointer (some ⟨C, 0, none⟩)] w fun e w' => e = .returned (.int .u64 (thetaF f c x y)) ∧ ∃ n, w' = w.drewN n := by
  have c0 := hA.cell (x * 5 + y) (by omega)
  have c1 := hC.cell ((x+1) % 5) (by omega)
  have c2 := hC.cell ((x+4) % 5) (by omega)
  have e3 : ((x : Int) + 5 - 1) = (x : Int) + 4 := by omega
  have w1 : IntKind.i64.wrap ((x : Int) + 5) = (x : Int) + 5 := by rw [IntKind.wrap_i64]; omega
  have w2 : IntKind.i64.wrap ((x : Int) + 4) = (x : Int) + 4 := by rw [IntKind.wrap_i64]; omega
  have w3 : IntKind.i64.wrap ((x : Int) + 1) = (x : Int) + 1 := by rw [IntKind.wrap_i64]; omega
  have t1 : ((x : Int) + 4).tmod 5 = ((x : Int) + 4) % 5 := Int.tmod_eq_emod_of_nonneg (by omega)
  have t2 : ((x : Int) + 1).tmod 5 = ((x : Int) + 1) % 5 := Int.tmod_eq_emod_of_nonneg (by omega)
  have u1 : (((x : Int) + 4) % 5).toNat = (x + 4) % 5 := by omega
  have u2 : (((x : Int) + 1) % 5).toNat = (x + 1) % 5 := by omega
  have l1 : 0 ≤ ((x : Int) + 4) % 5 := by omega
  have l2 : 0 ≤ ((x : Int) + 1) % 5 := by omega
  have l3 : ((x : Int) + 4) % 5 < 5 := by omega
  have l4 : ((x : Int) + 1) % 5 < 5 := by omega
  have b1 : (0 : Int) ≤ (x : Int) := by omega
  have b2 : (x : Int) < 5 := by omega
  have b3 : (0 : Int) ≤ (y : Int) := by omega
  have b4 : (y : Int) < 5 := by omega
  clear hA hC
  go_enter Tryd.func26, Tryd.ntmps26
  go_wp2
  go_quiet ((go_at_call 27; exact Calls.quiet_of_same (rot_any _ _ _ (by decide) (by decide))))
  go_wp2
  go_ret
  exact ⟨rfl, _, rfl⟩
theorem info58 : (Tryd.prog.info? 58).map (fun i => (i.zero, i.size)) = some (some (.agg (arrN .u64 25 (part (fun _ => 0) 0))), 25) := by kernel_rfl

set_option maxHeartbeats 1000000 in
theorem each_any (g : Nat) (lb : Array Value) (F : Nat → Nat → Int) (w : World)
    (heg : ∀ (a : Array Value) (W : World), Sem.run Tryd.prog (callFunc g a) W = .ok (.enter g a) W)
    (hof : ∀ x y : Nat, x < 5 → y < 5 → ∀ W, Below w.heap.size w W → Calls Tryd.prog g (#[.int .i64 x, .int .i64 y] ++ lb) W fun e W' => e = .returned (.int .u64 (F x y)) ∧ ∃ n, W' = W.drewN n) :
    Calls Tryd.prog 25 #[.func (.func g) #[] lb] w fun e w' => e = .returned (.agg (arrN .u64 25 (fun i => F (i / 5) (i % 5)))) ∧ Below w.heap.size w w' := by
  have hof' : Hid (∀ x y : Nat, x < 5 → y < 5 → ∀ W, Below w.heap.size w W → Calls Tryd.prog g (#[.int .i64 x, .int .i64 y] ++ lb) W fun e W' => e = .returned (.int .u64 (F x y)) ∧ ∃ n, W' = W.drewN n) := Lib.hid hof
  clear hof
  generalize hG : (fun i => F (i / 5) (i % 5)) = G
  have HG := Lib.hid hG
  clear hG
  go_enter Tryd.func25, Tryd.ntmps25
  go_wp2
  go_loopg [6] 5 (fun gn x wr => ∃ k : Nat, k + gn = 5 ∧ x = .int .i64 k ∧ BlkN wr w.heap.size 58 .u64 25 (part G 0) ∧ BlkN wr (w.heap.size + 1) 58 .u64 25 (part G (k * 5)) ∧ Below w.heap.size w wr)
  case atStart => 
    refine ⟨0, by omega, rfl, ?_, ?_, ((Below.refl _ _).alloc (Nat.le_refl _) _).alloc (by simp) _⟩
    · exact heap_alloc2_old w _ _
    · exact heap_alloc2_new w _ _
  case round =>
    obtain ⟨k, hk, rfl, hz, hb, hbel⟩ := hrel
    have HK := Lib.hid hk
    clear hk
    by_cases hlt : k < 5
    · have hd1 : decide ((k : Int) < 5) = true := by simp; omega
      go_wp2
      go_loopg [9] 5 (fun gm y wq => ∃ j : Nat, j + gm = 5 ∧ y = .int .i64 j ∧ BlkN wq w.heap.size 58 .u64 25 (part G 0) ∧ BlkN wq (w.heap.size + 1) 58 .u64 25 (part G (k * 5 + j)) ∧ Below w.heap.size w wq)
      case atStart => exact ⟨0, by omega, rfl, hz, hb, hbel⟩
      case round =>
        clear hd1
        obtain ⟨j, hj, rfl, hz1, hb1, hbel1⟩ := hrel
        have HJ := Lib.hid hj
        clear hj
        by_cases hlt2 : j < 5
        · have hc := hb1.cell (k * 5 + j) (by omega)
          have hf := hb1.free (k * 5 + j)
          have hk0 : (0 : Int) ≤ (k : Int) := by omega
          have hj0 : (0 : Int) ≤ (j : Int) := by omega
          have hk5 : (k : Int) < 5 := by omega
          have hj5 : (j : Int) < 5 := by omega
          go_wp2_with fail
          go_region_with ((refine (hof'.out k j hlt hlt2 _ (by exact hbel1.drew)).mono ?_; rintro e w' ⟨rfl, n, rfl⟩))
          go_wp2
          have e : F k j = G (k * 5 + j) := by rw [← HG.out]; show F k j = F ((k * 5 + j) / 5) ((k * 5 + j) % 5); congr 1 <;> omega
          have h1 := (hb1.drewN (1 + n)).part_step
          rw [← e] at h1
          have h2 : BlkN ((wr.drewN (1 + n)).setCell ⟨w.heap.size + 1, k * 5 + j, none⟩ (.int .u64 (F k j))) w.heap.size 58 .u64 25 (part G 0) := (hz1.drewN (1 + n)).other _ _ (by simp)
          have h3 : Below w.heap.size w ((wr.drewN (1 + n)).setCell ⟨w.heap.size + 1, k * 5 + j, none⟩ (.int .u64 (F k j))) := (Below_drewN hbel1 _).setCell (by simp) _
          have hjj := HJ.out
          go_roundg (4 - j)
          case rel => exact ⟨j + 1, by omega, by go_num, h2, h1, h3⟩
          case measure => omega
        · go_wp2
          have hjj := HJ.out
          have hkk := HK.out
          obtain rfl : j = 5 := by omega
          go_roundg (4 - k)
          case rel => exact ⟨k + 1, by omega, by go_num, hz1, by rw [Nat.add_mul]; exact hb1, hbel1⟩
          case measure => omega
    · have hfull := hb.full (by omega)
      go_wp2_with (first
        | refine wpList_load_row rfl 58 _ rfl (w.heap.size + 1) rfl 58 _ _ _ hfull Tryd.underlying58 rfl (by kernel_rfl) ?_
        | refine wpList_store_row rfl 58 _ _ rfl w.heap.size (arrN .u64 25 G) rfl rfl 58 _ hz (by kernel_rfl) (by simp [arrN_size]) (arrN_one _ _ _) ?_)
      have hnew : ((wr.setRow w.heap.size (arrN .u64 25 G))).heap[w.heap.size]? = some (.cells (arrN .u64 25 G) 58 (0, 0)) := setRow_heap _ _ _ _ _ _ hz
      refine bodyPost_ret (results_cell_row rfl _ _ w.heap.size 58 (arrN .u64 25 G) (0,0) _ (by rfl) hnew Tryd.underlying58 rfl (by kernel_rfl)) rfl ⟨rfl, ?_⟩
      exact ⟨hbel.os, hbel.tape, hbel.output, by simp; exact hbel.size, fun k hk => (setRow_other wr w.heap.size k _ (by omega)).trans (hbel.block k hk)⟩
end Go.Proofs.YtlipahfkfhcniaaDoor
