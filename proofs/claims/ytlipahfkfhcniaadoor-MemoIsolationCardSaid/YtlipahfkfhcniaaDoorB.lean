import Derived.Test.YtlipahfkfhcniaaDoorA
namespace Go.Proofs.YtlipahfkfhcniaaDoor
open Go.RowKit
def tur : Nat → Nat × Nat × (Nat → Int)
  | 0 => (1, 0, fun _ => 0)
  | t + 1 => ((tur t).2.1, (2 * (tur t).1 + 3 * (tur t).2.1) % 5, upd (tur t).2.2 ((tur t).1 * 5 + (tur t).2.1) ((((t + 1) * (t + 2) / 2 % 64 : Nat)) : Int))
theorem tur_lt (t : Nat) : (tur t).1 < 5 ∧ (tur t).2.1 < 5 := by
  induction t with
  | zero => decide
  | succ t ih => exact ⟨ih.2, Nat.mod_lt _ (by decide)⟩
def byF : Nat → Int := (tur 24).2.2
theorem byF_rng : ∀ i, i < 25 → 0 ≤ byF i ∧ byF i < 64 := by decide +kernel
theorem info60 : (Tryd.prog.info? 60).map (fun i => (i.zero, i.size)) = some (some (.agg (arrN .i64 25 (fun _ => 0))), 25) := by kernel_rfl

theorem tur_val : ∀ k : Nat, k < 24 → (wrap64 ((wrap64 (((k : Int) + 1) * ((k : Int) + 2))).tdiv 2)).tmod 64 = (((k + 1) * (k + 2) / 2 % 64 : Nat) : Int) := by decide +kernel
set_option maxHeartbeats 1000000 in
theorem turns_any (w : World) :
    Calls Tryd.prog 18 #[] w fun e w' => e = .returned (.agg (arrN .i64 25 byF)) ∧ Below w.heap.size w w' := by
  go_enter Tryd.func18, Tryd.ntmps18
  go_wp2
  go_loopg [5, 2, 3] 24 (fun gn t x y wr => ∃ k : Nat, k + gn = 24 ∧ t = .int .i64 k ∧ x = .int .i64 (tur k).1 ∧ y = .int .i64 (tur k).2.1 ∧ BlkN wr w.heap.size 60 .i64 25 (fun _ => 0) ∧ BlkN wr (w.heap.size + 1) 60 .i64 25 (tur k).2.2 ∧ Below w.heap.size w wr)
  case atStart => 
    refine ⟨0, by omega, rfl, rfl, rfl, ?_, ?_, ((Below.refl _ _).alloc (Nat.le_refl _) _).alloc (by simp) _⟩
    · exact heap_alloc2_old w _ _
    · exact heap_alloc2_new w _ _
  case round =>
    obtain ⟨k, hk, rfl, rfl, rfl, hz, hb, hbel⟩ := hrel
    have HK := Lib.hid hk
    clear hk
    obtain ⟨hx, hy⟩ := tur_lt k
    by_cases hlt : k < 24
    · have hc := hb.cell ((tur k).1 * 5 + (tur k).2.1) (by omega)
      have hf := hb.free ((tur k).1 * 5 + (tur k).2.1)
      have hv := tur_val k hlt
      have hs := hb.set ((tur k).1 * 5 + (tur k).2.1) (((k + 1) * (k + 2) / 2 % 64 : Nat) : Int)
      have hS := Lib.hid hs
      clear hs
      have HV := Lib.hid hv
      clear hv
      generalize hX : (tur k).1 = X at *
      generalize hY : (tur k).2.1 = Y at *
      have HX := Lib.hid hX
      have HY := Lib.hid hY
      clear hX hY
      go_wp2
      have hkk := HK.out
      go_roundg (23 - k)
      case rel =>
        refine ⟨k + 1, by omega, by go_num, by simp only [tur, HY.out], by simp only [tur, HX.out, HY.out]; go_num, hz.other _ _ (by simp), ?_, hbel.setCell (by simp) _⟩
        simp only [tur, HX.out, HY.out]
        rw [HV.out]
        exact hS.out
      case measure => omega
    · go_wp2_with (first
        | refine wpList_load_row rfl 60 _ rfl (w.heap.size + 1) rfl 60 _ _ _ hb Tryd.underlying60 rfl (by kernel_rfl) ?_
        | refine wpList_store_row rfl 60 _ _ rfl w.heap.size (arrN .i64 25 (tur k).2.2) rfl rfl 60 _ hz (by kernel_rfl) (by simp [arrN_size]) (arrN_one _ _ _) ?_)
      have hnew : ((wr.setRow w.heap.size (arrN .i64 25 (tur k).2.2))).heap[w.heap.size]? = some (.cells (arrN .i64 25 (tur k).2.2) 60 (0, 0)) := setRow_heap _ _ _ _ _ _ hz
      have hkk := HK.out
      obtain rfl : k = 24 := by omega
      refine bodyPost_ret (results_cell_row rfl _ _ w.heap.size 60 (arrN .i64 25 (tur 24).2.2) (0,0) _ (by rfl) hnew Tryd.underlying60 rfl (by kernel_rfl)) rfl ⟨rfl, ?_⟩
      exact ⟨hbel.os, hbel.tape, hbel.output, by simp; exact hbel.size, fun k hk => (setRow_other wr w.heap.size k _ (by omega)).trans (hbel.block k hk)⟩
end Go.Proofs.YtlipahfkfhcniaaDoor
