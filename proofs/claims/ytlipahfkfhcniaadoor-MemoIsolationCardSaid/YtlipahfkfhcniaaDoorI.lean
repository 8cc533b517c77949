import Derived.Test.YtlipahfkfhcniaaDoorH
namespace Go.Proofs.YtlipahfkfhcniaaDoor
open Go.RowKit
theorem alloc_get (w : World) (o : Obj) (k : Nat) (h : k = w.heap.size) : (w.alloc o).heap[k]? = some o := by subst h; exact Go.heap_alloc_new w o
theorem alloc_old (w : World) (o o' : Obj) (k : Nat) (h : w.heap[k]? = some o) : (w.alloc o').heap[k]? = some o := (Below.heap_alloc w o' k (lt_of_block h)).trans h
def bodyV (root : Int) : Value := .agg #[.int .i64 root, .slice none 0 0, .slice none 0 0]
def hit (key : ByteArray) (x : Ent) : Bool := eqB x.sum (sumF key) && eqB x.key key
def NilB (l : List Ent) : Prop := ∀ x ∈ l, x.nod = SlV.nil ∧ x.tab = SlV.nil
def getR (key : ByteArray) (l : List Ent) : Value :=
  match l.find? (hit key) with
  | some x => .tuple #[bodyV x.root, .int .i64 x.err, .bool true]
  | none => .tuple #[bodyV 0, .int .i64 0, .bool false]
theorem predE_hit (key : ByteArray) (B sb kb : Nat) (w : World) (hs : w.heap[sb]? = some (.cells #[.string (sumF key)] 9 (0, 0))) (hk : w.heap[kb]? = some (.cells #[.string key] 9 (0, 0))) (hsB : sb < B) (hkB : kb < B) :
    PredE B 16 #[.pointer (some ⟨sb, 0, none⟩), .pointer (some ⟨kb, 0, none⟩)] (hit key) w := by
  intro x W hW
  simp only [List.append_toArray, List.cons_append, List.nil_append]
  exact isHit_any x sb kb (sumF key) key W ((hW.cell (p := ⟨sb, 0, none⟩) hsB).trans (cell_of_one hs)) ((hW.cell (p := ⟨kb, 0, none⟩) hkB).trans (cell_of_one hk))
theorem predE_key (key : ByteArray) (B kb : Nat) (w : World) (hk : w.heap[kb]? = some (.cells #[.string key] 9 (0, 0))) (hkB : kb < B) :
    PredE B 12 #[.pointer (some ⟨kb, 0, none⟩)] (fun x => eqB x.key key) w := by
  intro x W hW
  simp only [List.append_toArray, List.cons_append, List.nil_append]
  exact isKey_any x kb key W ((hW.cell (p := ⟨kb, 0, none⟩) hkB).trans (cell_of_one hk))
theorem find_idx (p : Ent → Bool) (l : List Ent) : (idxL p l 0 = -1 ∧ l.find? p = none) ∨ ∃ i x, idxL p l 0 = ((i : Nat) : Int) ∧ l[i]? = some x ∧ l.find? p = some x := by
  rcases idxL_spec p l 0 with ⟨h1, h2⟩ | ⟨i, x, h1, h2, h3, h4⟩
  · left; exact ⟨h1, List.find?_eq_none.2 (fun x hx => by rw [h2 x hx]; simp)⟩
  · right
    refine ⟨i, x, by rw [h1, Nat.zero_add], h2, ?_⟩
    have hi : i < l.length := (List.getElem?_eq_some_iff.1 h2).1
    have hd : l.drop i = x :: l.drop (i + 1) := by
      obtain ⟨h3, h4⟩ := List.getElem?_eq_some_iff.1 h2
      rw [← h4]; exact List.drop_eq_getElem_cons h3
    rw [← List.take_append_drop i l, List.find?_append, List.find?_eq_none.2 (fun y hy => by rw [h4 y hy]; simp), hd]
    simp [h3]
set_option maxHeartbeats 1000000 in
theorem get_any (l : List Ent) (sl : Value) (key : ByteArray) (w : World) (hl : l.length ≤ 1000000) (hk : key.size ≤ 1000000) (hv : Rd w sl l) (hn : NilB l) (hT : Tab w) (h0 : 0 < w.heap.size) :
    Calls Tryd.prog 7 #[.agg #[sl], .string key] w fun e w' => e = .returned (getR key l) ∧ Below w.heap.size w w' := by
  have HT := Lib.hid hT
  have HV := Lib.hid hv
  have HNB := Lib.hid hn
  clear hT hv hn
  go_enter Tryd.func7, Tryd.ntmps7
  go_wp2_with fail
  have hbA : ∀ a b c d : Obj, Below w.heap.size w ((((w.alloc a).alloc b).alloc c).alloc d) := fun a b c d => ((((Below.refl _ _).alloc (Nat.le_refl _) _).alloc (by simp) _).alloc (by simp; omega) _).alloc (by simp; omega) _
  refine (sum_any key ⟨w.heap.size + 1 + 1 + 1, 0, none⟩ 1 _ (by go_simp) (by omega) (HT.out.below (hbA _ _ _ _) h0) (by simp)).mono ?_
  rintro e w1 ⟨rfl, hb1⟩
  have k0 : w1.heap[w.heap.size]? = some (.cells #[sl] 26 (0, 0)) := (hb1.block _ (by simp; omega)).trans (alloc_old _ _ _ _ (alloc_old _ _ _ _ (alloc_old _ _ _ _ (alloc_get _ _ _ rfl))))
  have k1 : w1.heap[w.heap.size + 1]? = some (.cells #[.string key] 9 (0, 0)) := (hb1.block _ (by simp)).trans (alloc_old _ _ _ _ (alloc_old _ _ _ _ (alloc_get _ _ _ (by simp))))
  have k2 : w1.heap[w.heap.size + 1 + 1]? = some (.cells #[.int .i64 0, .slice none 0 0, .slice none 0 0] 34 (0, 0)) := (hb1.block _ (by simp)).trans (alloc_old _ _ _ _ (alloc_get _ _ _ (by simp)))
  have c0 := cell_of_one k0
  have c1 := cell_of_one k1
  have hbel1 : Below w.heap.size w w1 := (hbA _ _ _ _).trans (hb1.mono (by simp; omega))
  have hsz : w.heap.size + 1 + 1 + 1 < w1.heap.size := by have := hb1.size; simp at this; omega
  have hs0 : w.heap.size < w1.heap.size := by omega
  have hs1 : w.heap.size + 1 < w1.heap.size := by omega
  have hs2 : w.heap.size + 1 + 1 < w1.heap.size := by omega
  clear hb1 hbA hsz
  go_wp2_with fail
  have hbS : Below w1.heap.size w1 (w1.alloc (.cells #[.string (sumF key)] 9)) := (Below.refl _ _).alloc (Nat.le_refl _) _
  have hP := predE_hit key (w1.alloc (.cells #[.string (sumF key)] 9)).heap.size w1.heap.size (w.heap.size + 1) (w1.alloc (.cells #[.string (sumF key)] 9)) (alloc_get _ _ _ rfl) (alloc_old _ _ _ _ k1) (by simp) (by simp; omega)
  have hV1 := (HV.out.below (hbel1)).below hbS
  refine (index_any 16 _ (hit key) l sl _ _ (Nat.le_refl _) hl hV1 Tryd.call16 hP).mono ?_
  rintro e w2 ⟨rfl, hb2⟩
  have k02 : w2.heap[w.heap.size]? = some (.cells #[sl] 26 (0, 0)) := (hb2.block _ (by simp; omega)).trans (alloc_old _ _ _ _ k0)
  have k22 : w2.heap[w.heap.size + 1 + 1]? = some (.cells #[.int .i64 0, .slice none 0 0, .slice none 0 0] 34 (0, 0)) := (hb2.block _ (by simp; omega)).trans (alloc_old _ _ _ _ k2)
  have hbel2 : Below w.heap.size w w2 := hbel1.trans ((hbS.mono (by omega)).trans (hb2.mono (by simp; omega)))
  have hV2 := hV1.below hb2
  have hs2' : w.heap.size + 1 + 1 < w2.heap.size := lt_of_block k22
  clear k0 k1 k2 c0 c1 hs0 hs1 hs2 hbS hP hV1 hb2 hbel1
  have c0 := cell_of_one k02
  have r0 : w2.cell? ⟨w.heap.size + 1 + 1, 0, none⟩ = some (.int .i64 0) := by rw [cell_of_row _ _ _ _ _ _ k22]; rfl
  have r1 : w2.cell? ⟨w.heap.size + 1 + 1, 1, none⟩ = some (.slice none 0 0) := by rw [cell_of_row _ _ _ _ _ _ k22]; rfl
  have r2 : w2.cell? ⟨w.heap.size + 1 + 1, 2, none⟩ = some (.slice none 0 0) := by rw [cell_of_row _ _ _ _ _ _ k22]; rfl
  have f0 := frozen_of_row w2 (w.heap.size + 1 + 1) 0 _ _ k22
  have f1 := frozen_of_row w2 (w.heap.size + 1 + 1) 1 _ _ k22
  have f2 := frozen_of_row w2 (w.heap.size + 1 + 1) 2 _ _ k22
  rcases find_idx (hit key) l with ⟨hi, hf⟩ | ⟨i, x, hi, hx, hf⟩
  · have HI := Lib.hid hi
    have HF := Lib.hid hf
    rw [hi]
    clear hi hf k02 k22
    go_wp2
    have e : getR key l = .tuple #[bodyV 0, .int .i64 0, .bool false] := by unfold getR; rw [HF.out]
    refine bodyPost_ret (v := .tuple #[.agg #[.int .i64 0, .slice none 0 0, .slice none 0 0], .int .i64 0, .bool false]) (by simp [results, Tryd.results7, go_sem, r0, r1, r2]) rfl ⟨by rw [e]; rfl, ?_⟩
    exact ((hbel2.setCell (by simp; omega) _).setCell (by simp; omega) _).setCell (by simp; omega) _
  · have HI := Lib.hid hi
    have HF := Lib.hid hf
    have HX := Lib.hid hx
    rw [hi]
    have hnx := HNB.out x (List.mem_of_getElem? hx)
    have hi0 : i < l.length := (List.getElem?_eq_some_iff.1 hx).1
    rcases hV2 with ⟨h1, h2⟩ | ⟨b, off, cap, rfl, hcap, hr⟩
    · exfalso; rw [h2] at hi0; simp at hi0
    · have hrx : w2.rangeAt b (off + i * 6) [.string x.sum, .string x.key, .int .i64 x.root, .slice none 0 0, .slice none 0 0, .int .i64 x.err] := by
        have := rangeAt_elem hr i x hx
        unfold entV at this
        rw [hnx.1, hnx.2] at this
        exact this
      have e : getR key l = .tuple #[bodyV x.root, .int .i64 x.err, .bool true] := by unfold getR; rw [hf]
      have E := Lib.hid e
      have hbn : (off + i * 6) = off + i * 6 := rfl
      clear hi hf hx hr hnx k02 k22 e HNB HV
      generalize hll : l.length = n at *
      clear hll
      go_wp2_with (refine wpList_load_mid rfl 45 _ rfl b (off + i * 6) rfl _ _ hrx Tryd.underlying45 rfl (by kernel_rfl) ?_)
      clear hrx
      have hu : w.heap.size + 1 + 1 < w2.heap.size + 1 := by omega
      go_region_with (go_at_call 14; refine (copied_nil _ _).mono ?_; rintro e w' ⟨rfl, hb'⟩; have q5 : w'.cell? ⟨w2.heap.size, 5, none⟩ = some (.int .i64 x.err) := (hb'.cell (by simp)).trans (by go_simp); have q0 : w'.cell? ⟨w.heap.size + 1 + 1, 0, none⟩ = some (.int .i64 0) := (hb'.cell (by simpa using hu)).trans (by go_simp); have q1 : w'.cell? ⟨w.heap.size + 1 + 1, 1, none⟩ = some (.slice none 0 0) := (hb'.cell (by simpa using hu)).trans (by go_simp); have q2 : w'.cell? ⟨w.heap.size + 1 + 1, 2, none⟩ = some (.slice none 0 0) := (hb'.cell (by simpa using hu)).trans (by go_simp); have g0 : w'.frozen? ⟨w.heap.size + 1 + 1, 0, none⟩ = false := (hb'.frozen (by simpa using hu)).trans (by go_simp); have g1 : w'.frozen? ⟨w.heap.size + 1 + 1, 1, none⟩ = false := (hb'.frozen (by simpa using hu)).trans (by go_simp); have g2 : w'.frozen? ⟨w.heap.size + 1 + 1, 2, none⟩ = false := (hb'.frozen (by simpa using hu)).trans (by go_simp); have hbel' : Below w.heap.size w w' := ((hbel2.alloc hbel2.size _).drew).trans (hb'.mono (by simp; omega)))
      all_goals go_wp2
      all_goals exact bodyPost_ret (v := .tuple #[.agg #[.int .i64 x.root, .slice none 0 0, .slice none 0 0], .int .i64 x.err, .bool true]) (by simp [results, Tryd.results7, go_sem, q0, q1, q2]) rfl ⟨by rw [E.out]; rfl, ((hbel'.setCell (by simp; omega) _).setCell (by simp; omega) _).setCell (by simp; omega) _⟩
end Go.Proofs.YtlipahfkfhcniaaDoor
