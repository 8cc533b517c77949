import Derived.Test.YtlipahfkfhcniaaDoorI
import Derived.Deep.RegionHeld3
import Derived.Deep.AppendLies
namespace Go.Proofs.YtlipahfkfhcniaaDoor
open Go.RowKit
def newE (key : ByteArray) (root err : Int) : Ent := ⟨sumF key, key, root, SlV.nil, SlV.nil, err⟩
def putAll (key : ByteArray) (root err : Int) (l : List Ent) : List Ent := l.filter (fun x => !(eqB x.key key)) ++ [newE key root err]
def putL (key : ByteArray) (root err : Int) (l : List Ent) : List Ent := (putAll key root err l).drop ((putAll key root err l).length - 64)
theorem ownsRow_below {w w' : World} {base : Nat} {e : TypeId} {size n : Nat} {v : Value} {xs : List Value} (h : w.ownsRow base e size v n xs) (hb : Below w.heap.size w w') : w'.ownsRow base e size v n xs :=
  h.kept (row := none) ⟨hb.os, hb.tape, hb.output, hb.size, fun k hk _ => hb.block k hk⟩ (by cases hv : v.ownBlock <;> simp)
theorem Below_drew_left {B : Nat} {w w' : World} (h : Below B w.drew w') : Below B w w' := ⟨h.os, h.tape, h.output, h.size, h.block⟩
theorem info26 : (Tryd.prog.info? 26).map (fun i => (i.zero, i.size)) = some (some (.agg #[.slice none 0 0]), 1) := by kernel_rfl
structure PS (w wx : World) (B : Nat) (v2 : Value) (l2 : List Ent) (key : ByteArray) (root : Int) : Prop where
  k1 : wx.heap[w.heap.size + 1]? = some (.cells #[.string key] 9 (0, 0))
  k2 : wx.heap[w.heap.size + 1 + 1]? = some (.cells #[.int .i64 root, .slice none 0 0, .slice none 0 0] 34 (0, 0))
  k3 : wx.heap[w.heap.size + 1 + 1 + 1]? = some (.cells #[.slice none 0 0] 26 (0, 0))
  own : wx.ownsRow B 45 6 v2 l2.length (flat l2)
  bel : Below w.heap.size w wx
  hB : B ≤ wx.heap.size
  hlo : w.heap.size + 1 + 1 + 1 < B
theorem PS.c1 {w wx : World} {B : Nat} {v2 : Value} {l2 : List Ent} {key : ByteArray} {root : Int} (h : PS w wx B v2 l2 key root) : wx.cell? ⟨w.heap.size + 1, 0, none⟩ = some (.string key) := cell_of_one h.k1
theorem PS.c20 {w wx : World} {B : Nat} {v2 : Value} {l2 : List Ent} {key : ByteArray} {root : Int} (h : PS w wx B v2 l2 key root) : wx.cell? ⟨w.heap.size + 1 + 1, 0, none⟩ = some (.int .i64 root) := by rw [cell_of_row _ _ _ _ _ _ h.k2]; rfl
theorem PS.c21 {w wx : World} {B : Nat} {v2 : Value} {l2 : List Ent} {key : ByteArray} {root : Int} (h : PS w wx B v2 l2 key root) : wx.cell? ⟨w.heap.size + 1 + 1, 1, none⟩ = some (.slice none 0 0) := by rw [cell_of_row _ _ _ _ _ _ h.k2]; rfl
theorem PS.c22 {w wx : World} {B : Nat} {v2 : Value} {l2 : List Ent} {key : ByteArray} {root : Int} (h : PS w wx B v2 l2 key root) : wx.cell? ⟨w.heap.size + 1 + 1, 2, none⟩ = some (.slice none 0 0) := by rw [cell_of_row _ _ _ _ _ _ h.k2]; rfl
theorem PS.step {w wx wy : World} {B : Nat} {v2 : Value} {l2 : List Ent} {key : ByteArray} {root : Int} (h : PS w wx B v2 l2 key root) (hb : Below wx.heap.size wx wy) : PS w wy B v2 l2 key root :=
  ⟨(hb.block _ (lt_of_block h.k1)).trans h.k1, (hb.block _ (lt_of_block h.k2)).trans h.k2, (hb.block _ (lt_of_block h.k3)).trans h.k3, ownsRow_below h.own hb, h.bel.trans (hb.mono h.bel.size), Nat.le_trans h.hB hb.size, h.hlo⟩
theorem PS.alloc {w wx : World} {B : Nat} {v2 : Value} {l2 : List Ent} {key : ByteArray} {root : Int} (h : PS w wx B v2 l2 key root) (o : Obj) : PS w (wx.alloc o) B v2 l2 key root :=
  h.step ((Below.refl _ _).alloc (Nat.le_refl _) o)
structure PC (w wx : World) (key : ByteArray) (root : Int) : Prop where
  k1 : wx.heap[w.heap.size + 1]? = some (.cells #[.string key] 9 (0, 0))
  k2 : wx.heap[w.heap.size + 1 + 1]? = some (.cells #[.int .i64 root, .slice none 0 0, .slice none 0 0] 34 (0, 0))
  k3 : wx.heap[w.heap.size + 1 + 1 + 1]? = some (.cells #[.slice none 0 0] 26 (0, 0))
  bel : Below w.heap.size w wx
theorem PS.grown {w wx wy : World} {B : Nat} {v2 : Value} {l2 : List Ent} {key : ByteArray} {root : Int} (h : PS w wx B v2 l2 key root) (hg : wx.grownBy wy v2.ownBlock) : PC w wy key root := by
  have hlt := h.own.lt
  have hb : ∀ k, k < B → wy.heap[k]? = wx.heap[k]? := fun k hk => hg.block k (by have := h.hB; omega) (fun e => by have := (hlt k e.symm).1; omega)
  have hlo := h.hlo
  exact ⟨(hb _ (by omega)).trans h.k1, (hb _ (by omega)).trans h.k2, (hb _ (by omega)).trans h.k3, h.bel.grown hg (by have := h.hB; omega) (fun k hk => by have := (hlt k hk).1; omega)⟩
theorem PC.c1 {w wx : World} {key : ByteArray} {root : Int} (h : PC w wx key root) : wx.cell? ⟨w.heap.size + 1, 0, none⟩ = some (.string key) := cell_of_one h.k1
theorem PC.c20 {w wx : World} {key : ByteArray} {root : Int} (h : PC w wx key root) : wx.cell? ⟨w.heap.size + 1 + 1, 0, none⟩ = some (.int .i64 root) := by rw [cell_of_row _ _ _ _ _ _ h.k2]; rfl
theorem PC.c21 {w wx : World} {key : ByteArray} {root : Int} (h : PC w wx key root) : wx.cell? ⟨w.heap.size + 1 + 1, 1, none⟩ = some (.slice none 0 0) := by rw [cell_of_row _ _ _ _ _ _ h.k2]; rfl
theorem PC.c22 {w wx : World} {key : ByteArray} {root : Int} (h : PC w wx key root) : wx.cell? ⟨w.heap.size + 1 + 1, 2, none⟩ = some (.slice none 0 0) := by rw [cell_of_row _ _ _ _ _ _ h.k2]; rfl
theorem flat_drop (L : List Ent) (i : Nat) : (flat L).drop (i * 6) = flat (L.drop i) := by
  induction L generalizing i with
  | nil => simp [flat]
  | cons y r ih =>
    cases i with
    | zero => simp [flat]
    | succ i =>
      have he : (entV y).length = 6 := rfl
      rw [List.drop_succ_cons, flat_cons, List.drop_append, List.drop_of_length_le (by rw [he]; omega), he, show (i + 1) * 6 - 6 = i * 6 by omega, ih, List.nil_append]
theorem rangeAt_drop {w : World} {b off : Nat} {cs : List Value} (h : w.rangeAt b off cs) (d : Nat) : w.rangeAt b (off + d) (cs.drop d) := fun j v hj => by
  rw [List.getElem?_drop] at hj
  rw [Nat.add_assoc]; exact h (d + j) v hj
theorem Rd_of_own {w : World} {base n cap g d : Nat} {l : List Ent} (h : w.ownsRow base 45 6 (.slice (some ⟨g, 0, none⟩) n cap) n (flat l)) (hn : l.length = n) (hd : d < n) :
    Rd w (.slice (some ⟨g, d * 6, none⟩) (n - d) (cap - d)) (l.drop d) := by
  have hr := rangeAt_drop (ownsRow_rangeAt h) (d * 6)
  rw [flat_drop, Nat.zero_add] at hr
  have hc : n ≤ cap := by
    rcases h.2 with ⟨h2, _⟩ | ⟨g', cap', cur, hv, _, _, h3, _⟩
    · cases h2
    · simp at hv; omega
  exact .inr ⟨g, d * 6, cap - d, by rw [List.length_drop, hn], by rw [List.length_drop, hn]; omega, hr⟩
set_option maxHeartbeats 2000000 in
theorem put_any (l : List Ent) (sl : Value) (key : ByteArray) (root err : Int) (w : World) (hl : l.length ≤ 100000) (hk : key.size ≤ 1000000) (hv : Rd w sl l) (hT : Tab w) (h0 : 0 < w.heap.size) :
    Calls Tryd.prog 6 #[.agg #[sl], .string key, .agg #[.int .i64 root, .slice none 0 0, .slice none 0 0], .int .i64 err] w fun e w' => ∃ sl', e = .returned (.agg #[sl']) ∧ Rd w' sl' (putL key root err l) ∧ Below w.heap.size w w' := by
  have HT := Lib.hid hT
  have HV := Lib.hid hv
  obtain ⟨i0, hi, hz0, hz1, hz2⟩ := info_parts info45
  clear hT hv
  go_enter Tryd.func6, Tryd.ntmps6
  go_wp2_with fail
  generalize hW0 : (((w.alloc (Obj.cells #[sl] 26)).alloc (Obj.cells #[Value.string key] 9)).alloc (Obj.cells #[Value.int IntKind.i64 root, Value.slice none 0 0, Value.slice none 0 0] 34)).alloc (Obj.cells #[Value.slice none 0 0] 26) = W0
  have b0 : Below w.heap.size w W0 := by
    rw [← hW0]; exact ((((Below.refl _ _).alloc (Nat.le_refl _) _).alloc (by simp) _).alloc (by simp; omega) _).alloc (by simp; omega) _
  have k1 : W0.heap[w.heap.size + 1]? = some (.cells #[.string key] 9 (0, 0)) := by
    rw [← hW0]; exact alloc_old _ _ _ _ (alloc_old _ _ _ _ (alloc_get _ _ _ (by simp)))
  have k2 : W0.heap[w.heap.size + 1 + 1]? = some (.cells #[.int .i64 root, .slice none 0 0, .slice none 0 0] 34 (0, 0)) := by
    rw [← hW0]; exact alloc_old _ _ _ _ (alloc_get _ _ _ (by simp))
  have k3 : W0.heap[w.heap.size + 1 + 1 + 1]? = some (.cells #[.slice none 0 0] 26 (0, 0)) := by
    rw [← hW0]; exact alloc_get _ _ _ (by simp)
  have k0 : W0.heap[w.heap.size]? = some (.cells #[sl] 26 (0, 0)) := by
    rw [← hW0]; exact alloc_old _ _ _ _ (alloc_old _ _ _ _ (alloc_old _ _ _ _ (alloc_get _ _ _ rfl)))
  clear hW0
  have hs3 := lt_of_block k3
  refine (clone_any l sl W0 (by omega) (HV.out.below b0)).mono ?_
  rintro e w1 ⟨v1, rfl, hown1, hb1⟩
  have hkey := predE_key key W0.heap.size (w.heap.size + 1) w1 ((hb1.block _ (by omega)).trans k1) (by omega)
  go_wp2_with fail
  refine (delete_any 12 #[.pointer (some ⟨w.heap.size + 1, 0, none⟩)] (fun x => eqB x.key key) l v1 W0.heap.size w1 (by omega) hown1 hb1.size Tryd.call12 hkey).mono ?_
  rintro e w2 ⟨v2, rfl, hown2, hb2⟩
  have hb02 : Below W0.heap.size W0 w2 := hb1.trans hb2
  have k12 := (hb02.block _ (by omega)).trans k1
  have k22 := (hb02.block _ (by omega)).trans k2
  have k32 := (hb02.block _ (by omega)).trans k3
  have hbel2 : Below w.heap.size w w2 := b0.trans (hb02.mono b0.size)
  have hWs : W0.heap.size ≤ w2.heap.size := hb02.size
  clear k0 k1 k2 k3 b0 hown1 hb1 hkey hb2 hb02
  generalize hB : W0.heap.size = B at *
  have hlf : (l.filter (fun x => !(eqB x.key key))).length ≤ 100000 := Nat.le_trans (List.length_filter_le _ _) hl
  generalize hl2 : l.filter (fun x => !(eqB x.key key)) = l2 at *
  have HL2 := Lib.hid hl2
  clear hl2 hB
  go_wp2_with fail
  have p2 : PS w w2 B v2 l2 key root := ⟨k12, k22, k32, hown2, hbel2, hWs, hs3⟩
  have c1 := p2.c1
  have c20 := p2.c20
  have c21 := p2.c21
  have c22 := p2.c22
  clear k12 k22 k32 hown2 hbel2
  have u1 : w.heap.size + 1 < w2.heap.size := by omega
  have u2 : w.heap.size + 1 + 1 < w2.heap.size := by omega
  have u3 : w.heap.size + 1 + 1 + 1 < w2.heap.size := by omega
  go_region_held3 (fun w' => w'.cell? ⟨w.heap.size + 1, 0, none⟩ = some (.string key) ∧ w'.cell? ⟨w.heap.size + 1 + 1, 0, none⟩ = some (.int .i64 root) ∧ w'.cell? ⟨w.heap.size + 1 + 1, 1, none⟩ = some (.slice none 0 0) ∧ w'.cell? ⟨w.heap.size + 1 + 1, 2, none⟩ = some (.slice none 0 0))
    (first
      | go_keep
      | exact ⟨p6.c1, p6.c20, p6.c21, p6.c22⟩
      | exact ⟨p4.c1, p4.c20, p4.c21, p4.c22⟩
      | exact ⟨p3.c1, p3.c20, p3.c21, p3.c22⟩)
    (first
      | ((refine step_append_lies _ (by rfl) _ _ _ (by rfl) B 45 i0 _ 6 96 Tryd.underlying24 hi hz0 hz1 hz2 rfl (by omega) v2 l2.length (flat l2) (by rfl) (p4.alloc (.cells (entV (newE key root err)).toArray 45)).own ⟨w4.heap.size, 0, none⟩ 1 1 (entV (newE key root err)) (by rfl) (by rfl) (World.news_of_block (Go.heap_alloc_new w4 _)) (by simp [entV, Value.oneCell']) (by omega) (by unfold maxLen; omega) (by omega) (p4.alloc (.cells (entV (newE key root err)).toArray 45)).hB (w4.heap.size + 1) (by simp) ?_; intro gg cap w6 hown6 hgrow hat hlt; have p6 := (p4.alloc (.cells (entV (newE key root err)).toArray 45)).grown hgrow))
      | (go_at_call 13; refine (sum_any key ⟨w2.heap.size, 0, none⟩ 1 _ (by go_simp) (by omega) (HT.out.below (p2.alloc (.cells #[.string key] 9)).bel.drew h0) (by simp)).mono ?_; rintro e w3 ⟨rfl, hb3⟩; have p3 := (p2.alloc (.cells #[.string key] 9)).step (Below_drew_left hb3))
      | (go_at_call 14; refine (copied_nil root _).mono ?_; rintro e w4 ⟨rfl, hb4⟩; have p4 := p3.step hb4))
  have hall : flat l2 ++ entV (newE key root err) = flat (putAll key root err l) := by
    unfold putAll; rw [HL2.out, flat_append]; simp [flat]
  have hlen : (putAll key root err l).length = l2.length + 1 := by unfold putAll; rw [HL2.out]; simp
  rw [hall] at hown6
  have hc6 : l2.length + 1 ≤ cap := by
    rcases hown6.2 with ⟨h2, _⟩ | ⟨g', cap', cur, hv, _, _, h3, _⟩
    · cases h2
    · simp at hv; omega
  have k3 := p6.k3
  have c3 := cell_of_one k3
  have f3 := free_of_one k3
  have hb6 := p6.bel
  have HA := Lib.hid hlen
  clear hall hlen p6 p4 p3 p2 hgrow hat hlt hb4 hb3 HL2
  have hgg := (hown6.lt gg rfl).1
  have hne : ∀ v : Value, (w6.setCell ⟨w.heap.size + 1 + 1 + 1, 0, none⟩ v).ownsRow B 45 6 (.slice (some ⟨gg, 0, none⟩) (l2.length + 1) cap) (l2.length + 1) (flat (putAll key root err l)) := fun v =>
    ownsRow_setCell_other hown6 (by simp [Value.ownBlock]; omega) v
  have HNE := Lib.hid hne
  clear hne hown6
  by_cases h64 : l2.length + 1 < 64
  · have hmax : max (((l2.length : Int) + 1) - 64) 0 = 0 := by omega
    go_wp2
    refine bodyPost_ret (v := .agg #[.slice (some ⟨gg, 0, none⟩) (l2.length + 1) cap]) (by simp [results, Tryd.results6, go_sem, c3]) rfl ⟨_, rfl, ?_, hb6.setCell (by simp; omega) _⟩
    have := Rd_of_own (d := 0) (HNE.out (.slice (some ⟨gg, 0, none⟩) (l2.length + 1) cap)) HA.out (by omega)
    simp only [Nat.zero_mul, Nat.sub_zero] at this
    unfold putL
    rw [HA.out, show l2.length + 1 - 64 = 0 by omega]
    exact this
  · have hmax : max (((l2.length : Int) + 1) - 64) 0 = ((l2.length : Int) + 1) - 64 := by omega
    go_wp2
    have e1 : l2.length + 1 - 64 = l2.length - 63 := by omega
    refine bodyPost_ret (v := .agg #[.slice (some ⟨gg, (l2.length - 63) * 6, none⟩) (l2.length + 1 - (l2.length - 63)) (cap - (l2.length - 63))]) (by simp [results, Tryd.results6, go_sem, c3]) rfl ⟨_, rfl, ?_, hb6.setCell (by simp; omega) _⟩
    unfold putL
    rw [HA.out, e1]
    exact Rd_of_own (d := l2.length - 63) (HNE.out _) HA.out (by omega)
end Go.Proofs.YtlipahfkfhcniaaDoor
