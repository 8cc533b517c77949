import Derived.Test.YtlipahfkfhcniaaDoorJ
namespace Go.Proofs.YtlipahfkfhcniaaDoor
open Go.RowKit
/-! plain facts on putL -/
theorem eqB_iff (a b : ByteArray) : eqB a b = true ↔ a = b := by
  unfold eqB
  constructor
  · intro h
    have h1 : a.toList = b.toList := by simpa using h
    rw [ByteArray.toList_eq, ByteArray.toList_eq] at h1
    cases a; cases b
    congr 1
    exact Array.ext' h1
  · rintro rfl; simp
theorem nilB_put {key : ByteArray} {root err : Int} {l : List Ent} (h : NilB l) : NilB (putL key root err l) := by
  intro x hx
  have hx2 := List.mem_of_mem_drop hx
  unfold putAll at hx2
  rcases List.mem_append.1 hx2 with h1 | h1
  · exact h x (List.mem_filter.1 h1).1
  · rcases List.mem_singleton.1 h1 with rfl
    exact ⟨rfl, rfl⟩
theorem putL_length (key : ByteArray) (root err : Int) (l : List Ent) : (putL key root err l).length ≤ 64 := by
  unfold putL; rw [List.length_drop]; omega
theorem Rd.form {w : World} {v : Value} {l : List Ent} (h : Rd w v l) : ∃ a n c, v = .slice a n c := by
  rcases h with ⟨rfl, _⟩ | ⟨b, off, cap, rfl, _⟩
  · exact ⟨_, _, _, rfl⟩
  · exact ⟨_, _, _, rfl⟩
theorem Rd.set_one {w : World} {v : Value} {l : List Ent} {mb : Nat} {u x : Value} {t : TypeId} {fz : Nat × Nat} (h : Rd w v l) (hm : w.heap[mb]? = some (.cells #[u] t fz)) : Rd (w.setCell ⟨mb, 0, none⟩ x) v l := by
  rcases h with h | ⟨b, off, cap, rfl, hc, hr⟩
  · exact .inl h
  · refine .inr ⟨b, off, cap, rfl, hc, fun j y hj => ?_⟩
    have hlen : j < (flat l).length := (List.getElem?_eq_some_iff.1 hj).1
    have hne : b ≠ mb := by
      rintro rfl
      have h6 := flat_length l
      have h1 : 1 < (flat l).length := by omega
      have := hr 1 _ (List.getElem?_eq_getElem h1)
      rw [cell_of_row w b (off + 1) _ t fz hm] at this
      simp at this
    rw [World.cell?_setCell_other _ _ _ _ (by intro e; exact hne (congrArg Addr.block e).symm)]
    exact hr j y hj
def keyK : ByteArray := ⟨#[107, 101, 121]⟩
def akey (k : Nat) : ByteArray := strOfNums [97, (k : Int)]
def aliveL : Nat → List Ent
  | 0 => putL keyK 0 15 []
  | k + 1 => putL (akey k) 0 0 (aliveL k)
theorem nilB_alive (k : Nat) : NilB (aliveL k) := by
  induction k with
  | zero => exact nilB_put (by intro x hx; cases hx)
  | succ k ih => exact nilB_put ih
theorem get_first : getR keyK (putL keyK 0 15 []) = .tuple #[bodyV 0, .int .i64 15, .bool true] := by
  have e : putL keyK 0 15 [] = [newE keyK 0 15] := rfl
  have h : hit keyK (newE keyK 0 15) = true := by
    unfold hit newE
    rw [(eqB_iff _ _).2 rfl, (eqB_iff _ _).2 rfl]; rfl
  rw [e]
  unfold getR
  rw [List.find?_cons, h]
  rfl
theorem eqB_false {a b : ByteArray} (h : a ≠ b) : eqB a b = false := by
  cases hb : eqB a b with
  | false => rfl
  | true => exact absurd ((eqB_iff _ _).1 hb) h
theorem putL_new (key : ByteArray) (root err : Int) (l : List Ent) (h : ∀ x ∈ l, x.key ≠ key) : putL key root err l = (l ++ [newE key root err]).drop (l.length + 1 - 64) := by
  have hf : l.filter (fun x => !(eqB x.key key)) = l := List.filter_eq_self.2 (fun x hx => by rw [eqB_false (h x hx)]; rfl)
  unfold putL putAll
  rw [hf]; simp
theorem akey_inj {j k : Nat} (hj : j < 256) (hk : k < 256) (h : akey j = akey k) : j = k := by
  have h1 := congrArg (fun b : ByteArray => b.data.toList) h
  simp only [akey, strOfNums_data, List.map_cons, List.map_nil, List.cons.injEq, and_true, true_and] at h1
  have h2 := congrArg UInt8.toNat h1
  simp at h2
  omega
theorem akey_ne (k : Nat) : keyK ≠ akey k := by
  intro h
  have h1 := congrArg ByteArray.size h
  unfold akey at h1
  rw [strOfNums_size] at h1
  exact absurd (show keyK.size = 2 from h1) (by decide)
theorem aliveL_succ (k : Nat) : aliveL (k + 1) = putL (akey k) 0 0 (aliveL k) := rfl
theorem aliveL_form (k : Nat) (hk : k ≤ 63) : aliveL k = newE keyK 0 15 :: (List.range k).map (fun j => newE (akey j) 0 0) := by
  induction k with
  | zero => rfl
  | succ k ih =>
    have ih := ih (by omega)
    rw [aliveL_succ]
    rw [putL_new _ _ _ _ (by
      rw [ih]
      intro x hx
      rcases List.mem_cons.1 hx with rfl | hx
      · exact akey_ne k
      · obtain ⟨j, hj, rfl⟩ := List.mem_map.1 hx
        have := List.mem_range.1 hj
        exact fun e => absurd (akey_inj (by omega) (by omega) e) (by omega)), ih]
    have e : (newE keyK 0 15 :: (List.range k).map (fun j => newE (akey j) 0 0)).length + 1 - 64 = 0 := by simp; omega
    rw [e, List.drop_zero, List.range_succ]
    simp
theorem aliveL_full (k : Nat) (hk : k = 63) : aliveL (k + 1) = (List.range (k + 1)).map (fun j => newE (akey j) 0 0) := by
  have ih := aliveL_form k (by omega)
  rw [aliveL_succ, putL_new _ _ _ _ (by
      rw [ih]
      intro x hx
      rcases List.mem_cons.1 hx with rfl | hx
      · exact akey_ne k
      · obtain ⟨j, hj, rfl⟩ := List.mem_map.1 hx
        have := List.mem_range.1 hj
        exact fun e => absurd (akey_inj (by omega) (by omega) e) (by omega)), ih]
  have e : (newE keyK 0 15 :: (List.range k).map (fun j => newE (akey j) 0 0)).length + 1 - 64 = 1 := by simp; omega
  rw [e, List.cons_append, List.drop_succ_cons, List.drop_zero, List.range_succ]
  simp
theorem aliveL_64 : aliveL 64 = (List.range 64).map (fun j => newE (akey j) 0 0) := aliveL_full 63 rfl
theorem hit_ne {key : ByteArray} {x : Ent} (h : x.key ≠ key) : hit key x = false := by
  unfold hit; rw [eqB_false h, Bool.and_false]
theorem getR_none {key : ByteArray} {l : List Ent} (h : ∀ x ∈ l, x.key ≠ key) : getR key l = .tuple #[bodyV 0, .int .i64 0, .bool false] := by
  have hf : l.find? (hit key) = none := List.find?_eq_none.2 (fun x hx => by rw [hit_ne (h x hx)]; exact Bool.false_ne_true)
  unfold getR; rw [hf]
theorem range_ne (n : Nat) : ∀ x ∈ (List.range n).map (fun j => newE (akey j) 0 0), x.key ≠ keyK := by
  intro x hx
  obtain ⟨j, hj, rfl⟩ := List.mem_map.1 hx
  exact fun e => akey_ne j e.symm
theorem get_last : getR keyK (aliveL 64) = .tuple #[bodyV 0, .int .i64 0, .bool false] := by
  rw [aliveL_64]
  exact getR_none (range_ne 64)
theorem Rd.len {w : World} {a : Option Addr} {n c : Nat} {l : List Ent} (h : Rd w (.slice a n c) l) : n = l.length := by
  rcases h with ⟨h1, h2⟩ | ⟨b, off, cap, h1, _⟩
  · simp at h1; rw [h2]; exact h1.2.1
  · simp at h1; exact h1.2.1
theorem conv2 (W : World) (x y : Int) : (convert 22 9 (.slice (some ⟨W.heap.size, 0, none⟩) 2 2)).run Tryd.prog (W.alloc (.cells #[.int .u8 x, .int .u8 y] 5)) = .ok (.string (strOfNums [x, y])) (W.alloc (.cells #[.int .u8 x, .int .u8 y] 5)) := by
  refine run_convert_bytes_arg (P := Tryd.prog) _ 22 5 Tryd.underlying22 Tryd.underlying5 W.heap.size 0 2 2 [x, y] rfl (fun i hi => ?_) 9 Tryd.underlying9
  have hi2 : i = 0 ∨ i = 1 := by omega
  rw [cell_of_row _ _ _ _ _ _ (Go.heap_alloc_new W _)]
  rcases hi2 with rfl | rfl <;> rfl
theorem alive_any (w : World) (hT : Tab w) (h0 : 0 < w.heap.size) : Calls Tryd.prog 5 #[] w fun e w' => e = .returned (.bool true) ∧ Below w.heap.size w w' := by
  have HT := Lib.hid hT
  clear hT
  have hnb : NilB [] := by intro x hx; cases hx
  go_enter Tryd.func5, Tryd.ntmps5
  go_wp2_with fail
  refine (put_any [] (.slice none 0 0) ⟨#[107, 101, 121]⟩ 0 15 w (by simp) (by decide) (.inl ⟨rfl, rfl⟩) HT.out h0).mono ?_
  rintro e w1 ⟨s1, rfl, hr1, hb1⟩
  obtain ⟨a1, n1, c1, rfl⟩ := hr1.form
  have hT1 : Tab w1 := HT.out.below hb1 h0
  have hz1 : 0 < w1.heap.size := Nat.lt_of_lt_of_le h0 hb1.size
  go_wp2_with fail
  refine (get_any (putL keyK 0 15 []) (.slice a1 n1 c1) keyK _ (by have := putL_length keyK 0 15 []; omega) (by decide) (hr1.below ((Below.refl _ _).alloc (Nat.le_refl _) _)) (nilB_alive 0) (hT1.below ((Below.refl w1.heap.size _).alloc (Nat.le_refl _) _) hz1) (by simp)).mono ?_
  rw [get_first]
  unfold bodyV
  rintro e w2 ⟨rfl, hb2⟩
  have hm2 : w2.heap[w1.heap.size]? = some (.cells #[.slice a1 n1 c1] 26 (0, 0)) := (hb2.block _ (by simp)).trans (alloc_get _ _ _ rfl)
  have hr2 := (hr1.below ((Below.refl _ _).alloc (Nat.le_refl _) (.cells #[.slice a1 n1 c1] 26))).below hb2
  have hbel2 : Below w.heap.size w w2 := (hb1.alloc hb1.size _).trans (hb2.mono (by simp; have := hb1.size; omega))
  have hmb : w.heap.size ≤ w1.heap.size := hb1.size
  generalize w1.heap.size = mb at *
  clear hT1 hz1 hb1 hb2 hr1
  go_wp2
  go_loopg [18] 64 (fun gn t wr => ∃ (k : Nat) (a : Option Addr) (n c : Nat), k + gn = 64 ∧ t = .int .i64 k ∧ wr.heap[mb]? = some (.cells #[.slice a n c] 26 (0, 0)) ∧ Rd wr (.slice a n c) (aliveL k) ∧ Below w.heap.size w wr)
  case atStart =>
    exact ⟨0, a1, n1, c1, rfl, rfl, alloc_old _ _ _ _ hm2, hr2.below ((Below.refl _ _).alloc (Nat.le_refl _) _), hbel2.alloc hbel2.size _⟩
  case round =>
    clear hm2 hr2 hbel2
    obtain ⟨k, a1, n1, c1, hk, rfl, hm, hr, hbel⟩ := hrel
    have HK := Lib.hid hk
    have hcm := cell_of_one hm
    have hfm := free_of_one hm
    have hlm := lt_of_block hm
    by_cases hlt : k < 64
    · have hconv := conv2 wr 97 k
      have hbA : Below wr.heap.size wr (wr.alloc (.cells #[.int .u8 97, .int .u8 k] 5)) := (Below.refl _ _).alloc (Nat.le_refl _) _
      have hTr : Tab wr := HT.out.below hbel h0
      have hzr : 0 < wr.heap.size := Nat.lt_of_lt_of_le h0 hbel.size
      clear hk
      go_wp2_with fail
      have hll : (aliveL k).length ≤ 100000 := by
        cases k with
        | zero => have := putL_length keyK 0 15 []; show (putL keyK 0 15 []).length ≤ _; omega
        | succ k => have := putL_length (akey k) 0 0 (aliveL k); show (putL (akey k) 0 0 (aliveL k)).length ≤ _; omega
      refine (put_any (aliveL k) (.slice a1 n1 c1) (akey k) 0 0 _ hll (by unfold akey; rw [strOfNums_size]; simp) (hr.below hbA) (hTr.below hbA hzr) (by simp)).mono ?_
      rintro e w3 ⟨s3, rfl, hr3, hb3⟩
      obtain ⟨a3, n3, c3, rfl⟩ := hr3.form
      have hm3 : w3.heap[mb]? = some (.cells #[.slice a1 n1 c1] 26 (0, 0)) := (hb3.block _ (by simp; omega)).trans (alloc_old _ _ _ _ hm)
      have hcm3 := cell_of_one hm3
      have hfm3 := free_of_one hm3
      have hbel3 : Below w.heap.size w w3 := (hbel.alloc hbel.size _).trans (hb3.mono (by simp; have := hbel.size; omega))
      clear hb3 hm hr hbel hTr hbA hconv hcm hfm hlm hll
      go_wp2
      have hkk := HK.out
      go_roundg (63 - k)
      case rel => exact ⟨k + 1, a3, n3, c3, by omega, by go_num, one_setCell hm3, hr3.set_one hm3, hbel3.setCell hmb _⟩
      case measure => omega
    · obtain rfl : k = 64 := by omega
      clear hk HK
      go_wp2_with fail
      have hn64 : n1 = 64 := by rw [hr.len, aliveL_64]; simp
      refine (get_any (aliveL 64) (.slice a1 n1 c1) keyK _ (by rw [aliveL_64]; simp) (by decide) hr (nilB_alive 64) (HT.out.below hbel h0) (Nat.lt_of_lt_of_le h0 hbel.size)).mono ?_
      rw [get_last]
      unfold bodyV
      rintro e w4 ⟨rfl, hb4⟩
      have hm4 := (hb4.block _ hlm).trans hm
      have hcm4 := cell_of_one hm4
      have hbel4 : Below w.heap.size w w4 := hbel.trans (hb4.mono hbel.size)
      have hlm4 := lt_of_block hm4
      clear hcm hfm hlm hm hr hbel hb4 hm4
      subst hn64
      go_wp2
      go_ret
      exact ⟨rfl, hbel4.alloc hbel4.size _⟩
end Go.Proofs.YtlipahfkfhcniaaDoor
