import Derived.Test.YtlipahfkfhcniaaDoorK
namespace Go.Proofs.YtlipahfkfhcniaaDoor
open Go.RowKit
structure ActD where
  kind : Int
  key : ByteArray
  root : Int
  err : Int
def actV (a : ActD) : List Value := [.int .i64 a.kind, .string a.key, .int .i64 a.root, .int .i64 a.err]
theorem putC_any (l : List Ent) (sl : Value) (a : ActD) (w : World) (hl : l.length ≤ 100000) (hk : a.key.size ≤ 1000000) (hv : Rd w sl l) (hT : Tab w) (h0 : 0 < w.heap.size) :
    Calls Tryd.prog 8 #[.agg #[sl], .agg (actV a).toArray] w fun e w' => ∃ sl', e = .returned (.agg #[sl']) ∧ Rd w' sl' (putL a.key a.root a.err l) ∧ Below w.heap.size w w' := by
  have HT := Lib.hid hT
  have HV := Lib.hid hv
  clear hT hv
  unfold actV
  go_enter Tryd.func8, Tryd.ntmps8
  go_wp2_with fail
  have hbA : ∀ a b c : Obj, Below w.heap.size w (((w.alloc a).alloc b).alloc c) := fun a b c => (((Below.refl _ _).alloc (Nat.le_refl _) _).alloc (by simp) _).alloc (by simp; omega) _
  refine (put_any l sl a.key a.root a.err _ hl hk (HV.out.below (hbA _ _ _)) (HT.out.below (hbA _ _ _) h0) (by simp)).mono ?_
  rintro e w1 ⟨s1, rfl, hr1, hb1⟩
  obtain ⟨a1, n1, c1, rfl⟩ := hr1.form
  have k2 : w1.heap[w.heap.size + 1 + 1]? = some (.cells #[.slice none 0 0] 26 (0, 0)) := (hb1.block _ (by simp)).trans (alloc_get _ _ _ (by simp))
  have hc := cell_of_one k2
  have hf := free_of_one k2
  have hbel := (hbA _ _ _).trans (hb1.mono (by simp; omega))
  clear hb1 hbA
  go_wp2
  refine bodyPost_ret (v := .agg #[.slice a1 n1 c1]) (by simp [results, Tryd.results8, go_sem, hc]) rfl ⟨_, rfl, hr1.set_one k2, hbel.setCell (by simp; omega) _⟩
def gotB (a : ActD) (l : List Ent) : Bool :=
  match l.find? (hit a.key) with
  | some x => x.err == a.err && x.root == a.root
  | none => false
theorem gotC_any (l : List Ent) (sl : Value) (a : ActD) (w : World) (hl : l.length ≤ 1000000) (hk : a.key.size ≤ 1000000) (hv : Rd w sl l) (hn : NilB l) (hT : Tab w) (h0 : 0 < w.heap.size) :
    Calls Tryd.prog 9 #[.agg #[sl], .agg (actV a).toArray] w fun e w' => e = .returned (.bool (gotB a l)) ∧ Below w.heap.size w w' := by
  have HT := Lib.hid hT
  have HV := Lib.hid hv
  clear hT hv
  have hbA : ∀ a b : Obj, Below w.heap.size w ((w.alloc a).alloc b) := fun a b => ((Below.refl _ _).alloc (Nat.le_refl _) _).alloc (by simp) _
  unfold actV
  cases hf : l.find? (hit a.key) with
  | none =>
    have e : getR a.key l = .tuple #[bodyV 0, .int .i64 0, .bool false] := by unfold getR; rw [hf]
    have e2 : gotB a l = false := by unfold gotB; rw [hf]
    rw [e2]
    clear hf e2
    go_enter Tryd.func9, Tryd.ntmps9
    go_wp2_with fail
    refine (get_any l sl a.key _ hl hk (HV.out.below (hbA _ _)) hn (HT.out.below (hbA _ _) h0) (by simp)).mono ?_
    rw [e]
    unfold bodyV
    rintro e w1 ⟨rfl, hb1⟩
    have hbel := (hbA _ _).trans (hb1.mono (by simp; omega))
    have hu : w.heap.size + 1 < w1.heap.size := by have := hb1.size; simp at this; omega
    clear hb1 hbA
    go_wp2
    go_ret
    exact ⟨rfl, hbel.alloc hbel.size _⟩
  | some x =>
    have e : getR a.key l = .tuple #[bodyV x.root, .int .i64 x.err, .bool true] := by unfold getR; rw [hf]
    have e2 : gotB a l = (x.err == a.err && x.root == a.root) := by unfold gotB; rw [hf]
    rw [e2]
    clear hf e2
    cases h1 : x.err == a.err with
    | false =>
      go_enter Tryd.func9, Tryd.ntmps9
      go_wp2_with fail
      refine (get_any l sl a.key _ hl hk (HV.out.below (hbA _ _)) hn (HT.out.below (hbA _ _) h0) (by simp)).mono ?_
      rw [e]
      unfold bodyV
      rintro e w1 ⟨rfl, hb1⟩
      have k1 : w1.heap[w.heap.size + 1]? = some (.cells #[.int .i64 a.kind, .string a.key, .int .i64 a.root, .int .i64 a.err] 41 (0, 0)) := (hb1.block _ (by simp)).trans (alloc_get _ _ _ (by simp))
      have c3 : w1.cell? ⟨w.heap.size + 1, 3, none⟩ = some (.int .i64 a.err) := by rw [cell_of_row _ _ _ _ _ _ k1]; rfl
      have hbel := (hbA _ _).trans (hb1.mono (by simp; omega))
      have hu : w.heap.size + 1 < w1.heap.size := lt_of_block k1
      clear hb1 hbA k1
      go_wp2
      go_ret
      exact ⟨rfl, hbel.alloc hbel.size _⟩
    | true =>
      go_enter Tryd.func9, Tryd.ntmps9
      go_wp2_with fail
      refine (get_any l sl a.key _ hl hk (HV.out.below (hbA _ _)) hn (HT.out.below (hbA _ _) h0) (by simp)).mono ?_
      rw [e]
      unfold bodyV
      rintro e w1 ⟨rfl, hb1⟩
      have k1 : w1.heap[w.heap.size + 1]? = some (.cells #[.int .i64 a.kind, .string a.key, .int .i64 a.root, .int .i64 a.err] 41 (0, 0)) := (hb1.block _ (by simp)).trans (alloc_get _ _ _ (by simp))
      have c3 : w1.cell? ⟨w.heap.size + 1, 3, none⟩ = some (.int .i64 a.err) := by rw [cell_of_row _ _ _ _ _ _ k1]; rfl
      have c2 : w1.cell? ⟨w.heap.size + 1, 2, none⟩ = some (.int .i64 a.root) := by rw [cell_of_row _ _ _ _ _ _ k1]; rfl
      have hbel := (hbA _ _).trans (hb1.mono (by simp; omega))
      have hu : w.heap.size + 1 < w1.heap.size := lt_of_block k1
      clear hb1 hbA k1
      go_wp2
      go_ret
      refine ⟨?_, hbel.alloc hbel.size _⟩
      first | rfl | (simp; rfl)
end Go.Proofs.YtlipahfkfhcniaaDoor
