import Derived.Test.YteigcnamkfebgaaGreatDoorAD
import Derived.Maps.AppendAt
namespace Go.Proofs.YteigcnamkfebgaaGreatDoor
open Go.RowKit
def z55 : Array Value := #[.string ⟨#[]⟩, .int .i64 0, .string ⟨#[]⟩, .int .i64 0, .bool false, .string ⟨#[]⟩, .string ⟨#[]⟩, .string ⟨#[]⟩]
theorem info55 : (Tryz.prog.info? 55).map (fun i => (i.zero, i.size, i.bytes)) = some (some (.agg z55), 8, 104) := by kernel_rfl
theorem news_of {W : World} {Q : Nat} {cs : List Value} {t : TypeId} {fr : Nat × Nat} (h : W.heap[Q]? = some (.cells cs.toArray t fr)) : ∀ j u, cs[j]? = some u → W.cell? ((⟨Q, 0, none⟩ : Addr).add j) = some u := fun j u hu => by
  rw [Addr.add_mid, Nat.zero_add, cell_of_row _ _ j _ _ _ h]
  simpa using hu
theorem owns_nil0 (w : World) (base : Nat) (e : TypeId) (size : Nat) : w.ownsRow base e size (.slice none 0 0) 0 [] := World.ownsRow_nil _ _ _ _
theorem ownsForm {W : World} {base : Nat} {e : TypeId} {size : Nat} {v : Value} {k : Nat} {xs : List Value} (h : W.ownsRow base e size v k xs) : ∃ s : SlV, v = .slice s.a s.len s.cap := by
  rcases h.2 with ⟨h, _⟩ | ⟨g, cap, _, h, _⟩
  · exact ⟨⟨none, 0, 0⟩, h⟩
  · exact ⟨⟨_, _, _⟩, h⟩
theorem owns_snoc {E : Type} {Y : Lay E} {W : World} {base : Nat} {e : TypeId} {v : Value} {L : List E} {x : E} (h : W.ownsRow base e Y.k v (L.length + 1) (Y.flat L ++ Y.V x)) : W.ownsRow base e Y.k v (L ++ [x]).length (Y.flat (L ++ [x])) := by
  rw [Y.flat_append, List.length_append]; simpa [Lay.flat] using h
def below (l : List TnD) (x : IdD) (k : Nat) : List TnD := (l.take k).filter (fun t => eqId t.parent x)
theorem below_no {l : List TnD} {x : IdD} {k : Nat} {t : TnD} (h : l[k]? = some t) (hp : eqId t.parent x = false) : below l x (k + 1) = below l x k := by
  unfold below; rw [list_snoc l k t h, List.filter_append]; simp [hp]
theorem below_yes {l : List TnD} {x : IdD} {k : Nat} {t : TnD} (h : l[k]? = some t) (hp : eqId t.parent x = true) : below l x (k + 1) = below l x k ++ [t] := by
  unfold below; rw [list_snoc l k t h, List.filter_append]; simp [hp]
theorem below_le (l : List TnD) (x : IdD) (k : Nat) : (below l x k).length ≤ k := by
  unfold below; exact Nat.le_trans (List.length_filter_le _ _) (by rw [List.length_take]; omega)
set_option maxHeartbeats 6400000 in
set_option maxRecDepth 100000 in
theorem siblings_any (c : TnD → TnD → Int) (l : List TnD) (v : Value) (x : IdD) (w : World) (hl : l.length ≤ 1000) (hv : tnY.Rd w v l) (hf : (below l x l.length).length ≤ 2) (hc : CmpF 130 c (below l x l.length)) :
    Calls Tryz.prog 81 #[v, .agg #[.string x.a, .int .i64 x.n]] w fun e w' => ∃ v', e = .returned v' ∧ w'.ownsRow w.heap.size 55 8 v' (below l x l.length).length (tnY.flat (sort2 c (below l x l.length))) ∧ Below w.heap.size w w' := by
  obtain ⟨i0, hi, hz0, hz1, hz2⟩ := info_parts info55
  obtain ⟨a, n, cc, rfl⟩ := hv.form
  have hn := hv.len
  subst hn
  have HV := Lib.hid hv
  have HC := Lib.hid hc
  have hbx : (w.alloc (.cells #[.string x.a, .int .i64 x.n] 38)).heap[w.heap.size]? = _ := alloc_get _ _ _ rfl
  have HX0 := Lib.hid hbx
  have hsz0 : (w.alloc (.cells #[.string x.a, .int .i64 x.n] 38)).heap.size = w.heap.size + 1 := by simp
  have HS := Lib.hid hsz0
  clear hv hc hbx hsz0
  generalize hn : l.length = n at *
  have HN := Lib.hid hn
  clear hn
  go_enter Tryz.func81, Tryz.ntmps81
  go_wp2
  generalize hW0 : w.alloc (.cells #[.string x.a, .int .i64 x.n] 38) = W0 at *
  have HW0 := Lib.hid hW0
  clear hW0
  generalize hB : w.heap.size = B at *
  have HB := Lib.hid hB
  clear hB
  go_loopg [5, 10] n (fun gn t5 t10 wr => ∃ (k : Nat) (s : SlV), k + gn = n ∧ t10 = .int .i64 k ∧ t5 = .slice s.a s.len s.cap ∧ wr.ownsRow (B + 1) 55 8 s.v (below l x k).length (tnY.flat (below l x k)) ∧ Below (B + 1) W0 wr)
  case atStart => exact ⟨0, SlV.nil, by omega, rfl, rfl, owns_nil0 _ _ _ _, Below.refl _ _⟩
  case round =>
    obtain ⟨G, rfl⟩ : ∃ G, G = gk := ⟨_, rfl⟩
    obtain ⟨k, s, hk, rfl, rfl, hown, hbel⟩ := hrel
    have HK := Lib.hid hk
    have hsz : B + 1 ≤ wr.heap.size := by have := hbel.size; rw [HS.out] at this; exact this
    clear hk
    by_cases hlt : k < n
    · have hx : l[k]? = some (l[k]'(by rw [HN.out]; exact hlt)) := List.getElem?_eq_getElem _
      generalize l[k]'(by rw [HN.out]; exact hlt) = t at hx
      have HX := Lib.hid hx
      obtain ⟨b, off, rfl, hr⟩ : ∃ b off, a = some ⟨b, off, none⟩ ∧ w.rangeAt b off (tnY.flat l) := by
        rcases HV.out with ⟨h1, h2⟩ | ⟨b, off, cap, h1, h2, h3⟩
        · rw [h2] at hx; cases hx
        · simp at h1; exact ⟨b, off, h1.1, h3⟩
      have hr0 := tnY.elem hr k t hx
      have hrx : wr.rangeAt b (off + k * 8) (tnV t) := by
        have h1 : W0.rangeAt b (off + k * 8) (tnV t) := by rw [← HW0.out]; exact World.rangeAt_alloc hr0 _
        intro j u hj
        have h2 := h1 j u hj
        have h3 : b < B := by have := World.block_lt_of_cell? _ _ (hr0 j u hj); rw [HB.out] at this; exact this
        exact (hbel.cell (p := ⟨b, off + k * 8 + j, none⟩) (by show b < B + 1; omega)).trans h2
      clear hr hr0
      have hbx := (hbel.block B (by omega)).trans HX0.out
      obtain ⟨q0, q1⟩ := two_cells hbx
      have lB : B < wr.heap.size := by omega
      have hltZ : (k : Int) < (n : Int) := by omega
      unfold tnV at hrx
      clear hx hbx
      have ht := alloc_get wr (.cells #[.string t.node.a, .int .i64 t.node.n, .string t.parent.a, .int .i64 t.parent.n, .bool t.neg, .string t.num, .string t.den, .string t.kind] 55) wr.heap.size rfl
      have hgo : ∀ W, Below wr.heap.size wr W → Below (B + 1) W0 W := fun W h => hbel.trans (h.mono hsz)
      have HGO := Lib.hid hgo
      have HO := Lib.hid hown
      have HBEL := Lib.hid hbel
      clear hgo hown hbel
      cases hs : eqS t.parent.a x.a with
      | false =>
        have hs' : (t.parent.a.toList == x.a.toList) = false := hs
        have HQ := Lib.hid (below_no HX.out (show eqId t.parent x = false by unfold eqId; rw [hs]; rfl))
        clear hs
        go_wp2_with (first
          | refine wpList_load_mid rfl 55 _ rfl b (off + k * 8) rfl _ _ hrx Tryz.underlying55 rfl (by kernel_rfl) ?_)
        go_roundg (n - 1 - k)
        case rel => exact ⟨k + 1, s, by have := HK.out; omega, by go_num, rfl, by rw [HQ.out]; exact HO.out.alloc _, HGO.out _ ((Below.refl _ _).alloc (Nat.le_refl _) _)⟩
        case measure => have := HK.out; omega
      | true =>
        have hs' : (t.parent.a.toList == x.a.toList) = true := hs
        cases hnn : (t.parent.n == x.n) with
        | false =>
          have HQ := Lib.hid (below_no HX.out (show eqId t.parent x = false by unfold eqId; rw [hs, hnn]; rfl))
          clear hs
          go_wp2_with (first
            | refine wpList_load_mid rfl 55 _ rfl b (off + k * 8) rfl _ _ hrx Tryz.underlying55 rfl (by kernel_rfl) ?_)
          go_roundg (n - 1 - k)
          case rel => exact ⟨k + 1, s, by have := HK.out; omega, by go_num, rfl, by rw [HQ.out]; exact HO.out.alloc _, HGO.out _ ((Below.refl _ _).alloc (Nat.le_refl _) _)⟩
          case measure => have := HK.out; omega
        | true =>
          have HQ := Lib.hid (below_yes HX.out (show eqId t.parent x = true by unfold eqId; rw [hs, hnn]; rfl))
          have hkl := below_le l x k
          clear hs
          have hown2 := (HO.out.alloc (.cells #[.string t.node.a, .int .i64 t.node.n, .string t.parent.a, .int .i64 t.parent.n, .bool t.neg, .string t.num, .string t.den, .string t.kind] 55)).alloc (.cells #[.string t.node.a, .int .i64 t.node.n, .string t.parent.a, .int .i64 t.parent.n, .bool t.neg, .string t.num, .string t.den, .string t.kind] 55)
          have HOW := Lib.hid hown2
          clear hown2
          go_wp2_with (first
            | refine wpList_load_mid rfl 55 _ rfl b (off + k * 8) rfl _ _ hrx Tryz.underlying55 rfl (by kernel_rfl) ?_
            | refine wpList_load_row rfl 55 _ rfl wr.heap.size rfl 55 _ (0, 0) _ ht Tryz.underlying55 rfl (by kernel_rfl) ?_
            | (at_builtin; refine wpList_append_own_at _ rfl _ _ 25 rfl (B + 1) 55 i0 (.agg z55) 8 104 Tryz.underlying25 hi hz0 hz1 hz2 rfl (by decide) s.v (below l x k).length (tnY.flat (below l x k)) rfl HOW.out ⟨wr.heap.size + 1, 0, none⟩ 1 1 (tnV t) rfl rfl (news_of (alloc_get _ _ _ (by simp))) (tnY.one t) (by unfold maxLen; omega) (by omega) (by simp; omega) ?_; intro v1 w1 hown1 hg1 _ hloc1))
          have hb1 := HBEL.out.trans ((((Below.refl (B + 1) wr).alloc hsz _).alloc (by simp; omega) _).grown hg1 (by simp; omega) (fun j hj => (HOW.out.lt j hj).1))
          have hown3 := owns_snoc (Y := tnY) hown1
          obtain ⟨s1, hs1⟩ := ownsForm hown1
          subst hs1
          clear hown1 hg1 hloc1 ht hrx
          go_wp2
          go_roundg (n - 1 - k)
          case rel => exact ⟨k + 1, s1, by have := HK.out; omega, by go_num, rfl, by rw [HQ.out]; exact hown3, hb1⟩
          case measure => have := HK.out; omega
    · obtain rfl : k = n := by have := HK.out; omega
      have HD := Lib.hid hown
      have HE := Lib.hid hbel
      clear hown hbel
      go_wp2_with fail
      refine (sortStable_any 130 c (below l x k) hf s.v (B + 1) wr HD.out hsz (fun a W => by rfl) HC.out).mono ?_
      rintro e w9 ⟨rfl, ho9, hb9⟩
      go_wp2
      go_ret
      refine ⟨_, rfl, ?_, ?_⟩
      · exact ownsRow_mono ho9 (by rw [HB.out]; omega)
      · rw [HB.out]
        have h0 : Below B w W0 := by rw [← HW0.out, ← HB.out]; exact (Below.refl _ _).alloc (Nat.le_refl _) _
        exact (h0.trans (HE.out.mono (by omega))).trans (hb9.mono (by omega))
end Go.Proofs.YteigcnamkfebgaaGreatDoor
