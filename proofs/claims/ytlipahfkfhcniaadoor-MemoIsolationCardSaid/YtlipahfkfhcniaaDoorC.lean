import Derived.Test.YtlipahfkfhcniaaDoorB
namespace Go.Proofs.YtlipahfkfhcniaaDoor
open Go.RowKit
def cTo (a : Nat → Int) : Nat → (Nat → Int)
  | 0 => fun _ => 0
  | m + 1 => upd (cTo a m) (m / 5) (X64 (cTo a m (m / 5)) (a m))
def bTo (a by' : Nat → Int) : Nat → (Nat → Int)
  | 0 => fun _ => 0
  | m + 1 => upd (bTo a by' m) (m % 5 * 5 + (2 * (m / 5) + 3 * (m % 5)) % 5) (rotl (a m) (by' m))
def thetaA (a : Nat → Int) : Nat → Int := fun i => thetaF a (cTo a 25) (i / 5) (i % 5)
def piA (a : Nat → Int) : Nat → Int := bTo a byF 25
def chiA (b : Nat → Int) : Nat → Int := fun i => chiF b (i / 5) (i % 5)
def rndF (a : Nat → Int) (word : Int) : Nat → Int := upd (chiA (piA (thetaA a))) 0 (X64 (chiA (piA (thetaA a)) 0) word)

theorem BlkN.alloc {w : World} {b : Nat} {t : TypeId} {k : IntKind} {n : Nat} {f : Nat → Int} (h : BlkN w b t k n f) (o : Obj) : BlkN (w.alloc o) b t k n f :=
  (show (w.heap.push o)[b]? = _ by rw [Array.getElem?_push, if_neg (by have := lt_of_block h; omega)]; exact h)
theorem BlkN.new (w : World) {b : Nat} (t : TypeId) (k : IntKind) (n : Nat) (f : Nat → Int) (h : b = w.heap.size) : BlkN (w.alloc (.cells (arrN k n f) t)) b t k n f := by
  subst h; exact heap_alloc_new w _
theorem BlkN.row {w : World} {b : Nat} {t : TypeId} {k : IntKind} {n : Nat} {f : Nat → Int} (h : BlkN w b t k n f) (g : Nat → Int) : BlkN (w.setRow b (arrN k n g)) b t k n g := setRow_heap _ _ _ _ _ _ h
theorem BlkN.rowOther {w : World} {b : Nat} {t : TypeId} {k : IntKind} {n : Nat} {f : Nat → Int} (h : BlkN w b t k n f) (c : Nat) (cs : Array Value) (hne : b ≠ c) : BlkN (w.setRow c cs) b t k n f := (setRow_other w c b cs hne).trans h
theorem BlkN.lt {w : World} {b : Nat} {t : TypeId} {k : IntKind} {n : Nat} {f : Nat → Int} (h : BlkN w b t k n f) : b < w.heap.size := lt_of_block h
theorem Below_setRow {B : Nat} {a w : World} (h : Below B a w) (c : Nat) (cs : Array Value) (hc : B ≤ c) : Below B a (w.setRow c cs) :=
  ⟨h.os, h.tape, h.output, by simp; exact h.size, fun k hk => (setRow_other w c k _ (by omega)).trans (h.block k hk)⟩
theorem theta_cl (A C : Nat) (f c : Nat → Int) (w : World) (hA : BlkN w A 58 .u64 25 f) (hC : BlkN w C 56 .u64 5 c) (x y : Nat) (hx : x < 5) (hy : y < 5) (W : World) (hW : Below w.heap.size w W) :
    Calls Tryd.prog 26 (#[.int .i64 x, .int .i64 y] ++ #[.pointer (some ⟨A, 0, none⟩), .pointer (some ⟨C, 0, none⟩)]) W fun e w' => e = .returned (.int .u64 (thetaF f c x y)) ∧ ∃ n, w' = W.drewN n := by
  simp only [List.append_toArray, List.cons_append, List.nil_append]
  exact theta_any x y A C f c W hx hy (hA.below hW hA.lt) (hC.below hW hC.lt)
theorem chi_cl (B : Nat) (f : Nat → Int) (w : World) (hB : BlkN w B 58 .u64 25 f) (x y : Nat) (hx : x < 5) (hy : y < 5) (W : World) (hW : Below w.heap.size w W) :
    Calls Tryd.prog 28 (#[.int .i64 x, .int .i64 y] ++ #[.pointer (some ⟨B, 0, none⟩)]) W fun e w' => e = .returned (.int .u64 (chiF f x y)) ∧ ∃ n, w' = W.drewN n := by
  simp only [List.append_toArray, List.cons_append, List.nil_append]
  exact chi_any x y B f W hx hy (hB.below hW hB.lt)
structure RW2 (w wr : World) (nb : Nat) (a by' b : Nat → Int) : Prop where
  A : BlkN wr w.heap.size 58 .u64 25 a
  BY : BlkN wr (w.heap.size + 1) 60 .i64 25 by'
  R : BlkN wr (w.heap.size + 1 + 1) 58 .u64 25 (fun _ => 0)
  Bk : BlkN wr nb 58 .u64 25 b
  hnb : w.heap.size + 1 + 1 < nb
  bel : Below w.heap.size w wr
theorem RW2.step {w wr : World} {nb : Nat} {a by' : Nat → Int} (k j : Nat) (hj : j < 5) (h : RW2 w wr nb a by' (bTo a by' (k * 5 + j))) :
    RW2 w ((wr.setCell ⟨nb, j * 5 + (2 * k + 3 * j) % 5, none⟩ (.int .u64 (rotl (a (k * 5 + j)) (by' (k * 5 + j))))).drew) nb a by' (bTo a by' (k * 5 + j + 1)) := by
  have hn := h.hnb
  refine ⟨h.A.other _ _ (by simp; omega), h.BY.other _ _ (by simp; omega), h.R.other _ _ (by simp; omega), ?_, hn, (h.bel.setCell (by simp; omega) _).drew⟩
  have e1 : (k * 5 + j) / 5 = k := by omega
  have e2 : (k * 5 + j) % 5 = j := by omega
  show BlkN _ _ _ _ _ (upd _ ((k * 5 + j) % 5 * 5 + (2 * ((k * 5 + j) / 5) + 3 * ((k * 5 + j) % 5)) % 5) (rotl (a (k * 5 + j)) (by' (k * 5 + j))))
  rw [e1, e2]
  exact h.Bk.set _ _
structure RW (w wr : World) (a by' c : Nat → Int) : Prop where
  A : BlkN wr w.heap.size 58 .u64 25 a
  BY : BlkN wr (w.heap.size + 1) 60 .i64 25 by'
  R : BlkN wr (w.heap.size + 1 + 1) 58 .u64 25 (fun _ => 0)
  C : BlkN wr (w.heap.size + 1 + 1 + 1) 56 .u64 5 c
  bel : Below w.heap.size w wr

set_option maxHeartbeats 2000000 in
theorem round_any (a : Nat → Int) (word : Int) (w : World) :
    Calls Tryd.prog 19 #[.agg (arrN .u64 25 a), .agg (arrN .i64 25 byF), .int .u64 word] w fun e w' => e = .returned (.agg (arrN .u64 25 (rndF a word))) ∧ Below w.heap.size w w' := by
  generalize hby : byF = by'
  have HBY := Lib.hid hby
  clear hby
  go_enter Tryd.func19, Tryd.ntmps19
  go_wp2
  go_loopg [13] 5 (fun gn x wr => ∃ k : Nat, k + gn = 5 ∧ x = .int .i64 k ∧ RW w wr a by' (cTo a (k * 5)))
  case atStart => 
    refine ⟨0, by omega, rfl, ?_⟩
    exact ⟨(((BlkN.new w 58 .u64 25 a rfl).alloc _).alloc _).alloc _, ((BlkN.new (w.alloc _) 60 .i64 25 by' (by simp)).alloc _).alloc _, (BlkN.new ((w.alloc _).alloc _) 58 .u64 25 (fun _ => 0) (by simp)).alloc _,
      BlkN.new (((w.alloc _).alloc _).alloc _) 56 .u64 5 (fun _ => 0) (by simp), ((((Below.refl _ _).alloc (Nat.le_refl _) _).alloc (by simp) _).alloc (by simp; omega) _).alloc (by simp; omega) _⟩
  case round =>
    obtain ⟨k, hk, rfl, hR⟩ := hrel
    have HK := Lib.hid hk
    clear hk
    by_cases hlt : k < 5
    · have hd1 : decide ((k : Int) < 5) = true := by simp; omega
      go_wp2
      go_loopg [16] 5 (fun gm y wq => ∃ j : Nat, j + gm = 5 ∧ y = .int .i64 j ∧ RW w wq a by' (cTo a (k * 5 + j)))
      case atStart => exact ⟨0, by omega, rfl, hR⟩
      case round =>
        clear hd1
        obtain ⟨j, hj, rfl, hR1⟩ := hrel
        have HJ := Lib.hid hj
        clear hj
        by_cases hlt2 : j < 5
        · have hc1 := hR1.A.cell (k * 5 + j) (by omega)
          have hc2 := hR1.C.cell k (by omega)
          have hf2 := hR1.C.free k
          have hk0 : (0 : Int) ≤ (k : Int) := by omega
          have hj0 : (0 : Int) ≤ (j : Int) := by omega
          have hk5 : (k : Int) < 5 := by omega
          have hj5 : (j : Int) < 5 := by omega
          go_wp2_with fail
          go_region
          go_wp2
          have hjj := HJ.out
          go_roundg (4 - j)
          case rel =>
            refine ⟨j + 1, by omega, by go_num, hR1.A.other _ _ (by simp; omega), hR1.BY.other _ _ (by simp), hR1.R.other _ _ (by simp), ?_, (hR1.bel.drew).setCell (by simp; omega) _⟩
            have e1 : (k * 5 + j) / 5 = k := by omega
            show BlkN _ _ _ _ _ (upd _ ((k * 5 + j) / 5) (X64 (cTo a (k * 5 + j) ((k * 5 + j) / 5)) (a (k * 5 + j))))
            rw [e1]
            exact hR1.C.set k _
          case measure => omega
        · go_wp2
          have hjj := HJ.out
          have hkk := HK.out
          obtain rfl : j = 5 := by omega
          go_roundg (4 - k)
          case rel => exact ⟨k + 1, by omega, by go_num, by rw [Nat.add_mul]; exact hR1⟩
          case measure => omega
    · have hkk := HK.out
      obtain rfl : k = 5 := by omega
      clear hlt HK hkk
      go_wp2_with fail
      refine (each_any 26 #[.pointer (some ⟨w.heap.size, 0, none⟩), .pointer (some ⟨w.heap.size + 1 + 1 + 1, 0, none⟩)] (thetaF a (cTo a 25)) wr Tryd.call26 (theta_cl _ _ _ _ wr hR.A hR.C)).mono ?_
      rintro e w1 ⟨rfl, hb1⟩
      have h1A := hR.A.below hb1 hR.A.lt
      have h1B := hR.BY.below hb1 hR.BY.lt
      have h1R := hR.R.below hb1 hR.R.lt
      have hlt1 : w.heap.size + 1 + 1 < w1.heap.size := h1R.lt
      have hbel1 : Below w.heap.size w w1 := hR.bel.trans (hb1.mono hR.bel.size)
      go_wp2_with (refine wpList_store_row rfl 58 _ _ rfl w.heap.size (arrN .u64 25 (thetaA a)) rfl rfl 58 _ h1A (by kernel_rfl) (by simp [arrN_size]) (arrN_one _ _ _) ?_)
      clear hR hb1
      have h2A := h1A.row (thetaA a)
      have h2B := h1B.rowOther w.heap.size (arrN .u64 25 (thetaA a)) (by omega)
      have h2R := h1R.rowOther w.heap.size (arrN .u64 25 (thetaA a)) (by omega)
      have hbel2 := Below_setRow hbel1 w.heap.size (arrN .u64 25 (thetaA a)) (Nat.le_refl _)
      have hlt2 : w.heap.size + 1 + 1 < (w1.setRow w.heap.size (arrN .u64 25 (thetaA a))).heap.size := h2R.lt
      have hs2 : (w1.setRow w.heap.size (arrN .u64 25 (thetaA a))).heap.size = w1.heap.size := size_setRow _ _ _
      generalize w1.setRow w.heap.size (arrN .u64 25 (thetaA a)) = w2 at *
      clear h1A h1B h1R hbel1 hlt1
      generalize ha2 : thetaA a = a2 at *
      have HA2 := Lib.hid ha2
      have HS2 := Lib.hid hs2
      have hlt3 : w.heap.size + 1 + 1 < w1.heap.size := by omega
      generalize hnb : w1.heap.size = nb at *
      clear ha2 hs2 hlt2 hnb
      go_loopg [33] 5 (fun gn x wr => ∃ k : Nat, k + gn = 5 ∧ x = .int .i64 k ∧ RW2 w wr nb a2 by' (bTo a2 by' (k * 5)))
      case atStart =>
        exact ⟨0, rfl, rfl, h2A.alloc _, h2B.alloc _, h2R.alloc _, BlkN.new w2 58 .u64 25 (fun _ => 0) HS2.out.symm, hlt3, hbel2.alloc hbel2.size _⟩
      case round =>
        clear h2A h2B h2R hbel2 hlt3
        obtain ⟨k, hk, rfl, hR⟩ := hrel
        have HK := Lib.hid hk
        clear hk
        by_cases hlt : k < 5
        · have hd1 : decide ((k : Int) < 5) = true := by simp; omega
          go_wp2
          go_loopg [36] 5 (fun gm y wq => ∃ j : Nat, j + gm = 5 ∧ y = .int .i64 j ∧ RW2 w wq nb a2 by' (bTo a2 by' (k * 5 + j)))
          case atStart => exact ⟨0, by omega, rfl, hR⟩
          case round =>
            clear hd1
            obtain ⟨j, hj, rfl, hR1⟩ := hrel
            have HJ := Lib.hid hj
            clear hj
            by_cases hlt2 : j < 5
            · have hc1 := hR1.A.cell (k * 5 + j) (by omega)
              have hc2 := hR1.BY.cell (k * 5 + j) (by omega)
              have hc3 := hR1.Bk.cell (j * 5 + (2 * k + 3 * j) % 5) (by omega)
              have hf3 := hR1.Bk.free (j * 5 + (2 * k + 3 * j) % 5)
              have hk0 : (0 : Int) ≤ (k : Int) := by omega
              have hj0 : (0 : Int) ≤ (j : Int) := by omega
              have hk5 : (k : Int) < 5 := by omega
              have hj5 : (j : Int) < 5 := by omega
              have q1 : IntKind.i64.wrap (2 * (k : Int)) = 2 * (k : Int) := by rw [IntKind.wrap_i64]; omega
              have q2 : IntKind.i64.wrap (3 * (j : Int)) = 3 * (j : Int) := by rw [IntKind.wrap_i64]; omega
              have q3 : IntKind.i64.wrap (2 * (k : Int) + 3 * (j : Int)) = 2 * (k : Int) + 3 * (j : Int) := by rw [IntKind.wrap_i64]; omega
              have q4 : (2 * (k : Int) + 3 * (j : Int)).tmod 5 = (2 * (k : Int) + 3 * (j : Int)) % 5 := Int.tmod_eq_emod_of_nonneg (by omega)
              have q5 : 0 ≤ (2 * (k : Int) + 3 * (j : Int)) % 5 := by omega
              have q6 : (2 * (k : Int) + 3 * (j : Int)) % 5 < 5 := by omega
              have q7 : ((2 * (k : Int) + 3 * (j : Int)) % 5).toNat = (2 * k + 3 * j) % 5 := by omega
              have hby : 0 ≤ by' (k * 5 + j) ∧ by' (k * 5 + j) < 64 := by rw [← HBY.out]; exact byF_rng _ (by omega)
              obtain ⟨hby0, hby1⟩ := hby
              go_wp2_with fail
              go_region_with (go_at_call 27; refine (rot_any _ _ _ hby0 hby1).mono ?_; rintro e w' ⟨rfl, rfl⟩)
              go_wp2
              all_goals
                have hjj := HJ.out
                go_roundg (4 - j)
                case rel => exact ⟨j + 1, by omega, by go_num, hR1.step k j hlt2⟩
                case measure => omega
            · go_wp2
              have hjj := HJ.out
              have hkk := HK.out
              obtain rfl : j = 5 := by omega
              go_roundg (4 - k)
              case rel => exact ⟨k + 1, by omega, by go_num, by rw [Nat.add_mul]; exact hR1⟩
              case measure => omega
        · have hkk := HK.out
          obtain rfl : k = 5 := by omega
          clear hlt HK hkk
          go_wp2_with fail
          generalize hb2 : bTo a2 by' (5 * 5) = b2 at *
          have HB2 := Lib.hid hb2
          clear hb2
          refine (each_any 28 #[.pointer (some ⟨nb, 0, none⟩)] (chiF b2) wr Tryd.call28 (chi_cl _ _ wr hR.Bk)).mono ?_
          rintro e w3 ⟨rfl, hb3⟩
          have h3A := hR.A.below hb3 hR.A.lt
          have h3R := hR.R.below hb3 hR.R.lt
          have hbel3 : Below w.heap.size w w3 := hR.bel.trans (hb3.mono hR.bel.size)
          have h4A := h3A.row (chiA b2)
          have h4R := h3R.rowOther w.heap.size (arrN .u64 25 (chiA b2)) (by omega)
          have hbel4 := Below_setRow hbel3 w.heap.size (arrN .u64 25 (chiA b2)) (Nat.le_refl _)
          have c4 := h4A.cell 0 (by decide)
          have f4 := h4A.free 0
          have h5A := h4A.set 0 (X64 (chiA b2 0) word)
          have h5R := h4R.other ⟨w.heap.size, 0, none⟩ (.int .u64 (X64 (chiA b2 0) word)) (by simp; omega)
          have hbel5 := hbel4.setCell (p := ⟨w.heap.size, 0, none⟩) (Nat.le_refl _) (.int .u64 (X64 (chiA b2 0) word))
          have h6R := h5R.row (upd (chiA b2) 0 (X64 (chiA b2 0) word))
          have hbel6 := Below_setRow hbel5 (w.heap.size + 1 + 1) (arrN .u64 25 (upd (chiA b2) 0 (X64 (chiA b2 0) word))) (by omega)
          go_wp2_with (first
            | refine wpList_store_row rfl 58 _ _ rfl w.heap.size (arrN .u64 25 (chiA b2)) rfl rfl 58 _ h3A (by kernel_rfl) (by simp [arrN_size]) (arrN_one _ _ _) ?_
            | refine wpList_load_row rfl 58 _ rfl w.heap.size rfl 58 _ _ _ h5A Tryd.underlying58 rfl (by kernel_rfl) ?_
            | refine wpList_store_row rfl 58 _ _ rfl (w.heap.size + 1 + 1) (arrN .u64 25 (upd (chiA b2) 0 (X64 (chiA b2 0) word))) rfl rfl 58 _ h5R (by kernel_rfl) (by simp [arrN_size]) (arrN_one _ _ _) ?_)
          have hfin : rndF a word = upd (chiA b2) 0 (X64 (chiA b2 0) word) := by
            have e : piA (thetaA a) = b2 := by rw [← HB2.out, ← HA2.out, ← HBY.out]; rfl
            unfold rndF; rw [e]
          refine bodyPost_ret (results_cell_row rfl _ _ (w.heap.size + 1 + 1) 58 (arrN .u64 25 (upd (chiA b2) 0 (X64 (chiA b2 0) word))) (0,0) _ (by rfl) h6R Tryd.underlying58 rfl (by kernel_rfl)) rfl ⟨by rw [hfin], hbel6⟩
end Go.Proofs.YtlipahfkfhcniaaDoor
