import Derived.Test.YteigcnamkfebgaaGreatDoorBC
import Derived.Lib.LaidTab
import Derived.Deep.Slices
import Derived.Deep.Strs
import Derived.Test.YteigcnamkfebgaaGreatDoorRows
namespace Go.Proofs.YteigcnamkfebgaaGreatDoor
open Go.RowKit Go.Deep
theorem spot_no {w : World} {a : Addr} {v : Value} (h : w.cell? (a.add 0) = some v) : a.spot = none := by
  obtain ⟨b, o, s⟩ := a
  cases s with
  | none => rfl
  | some k =>
    exfalso
    unfold World.cell? at h
    split at h
    · simp [Addr.add] at h
    · cases h
/-- one kind of features, as the table lies -/
def KRow (W : World) (b o : Nat) (name : List UInt8) (fs : List (List UInt8)) : Prop :=
  W.cell? ⟨b, o, none⟩ = some (.string ⟨name.toArray⟩) ∧ ∃ b' o' c, W.cell? ⟨b, o + 1, none⟩ = some (.slice (some ⟨b', o', none⟩) fs.length c) ∧ ∀ (j : Nat) (s : List UInt8), fs[j]? = some s → W.cell? ⟨b', o' + j, none⟩ = some (.string ⟨s.toArray⟩)
theorem len_two {A : Type} {l : List A} (h : l.length = 2) : ∃ a b, l = [a, b] := by
  match l, h with
  | [a, b], _ => exact ⟨a, b, rfl⟩
theorem str_of {s : ByteArray} {l : List UInt8} (h : s.data.toList = l) : s = ⟨l.toArray⟩ := by
  obtain ⟨⟨l'⟩⟩ := s
  simp at h
  rw [h]
theorem strs_map {len : Nat} {Sx : Nat → ByteArray} {fs : List (List UInt8)} {H : Type} (h : (List.range len).map (fun i => (DataW.lit (.string (Sx i).data.toList) : DataW H)) = fs.map fun s => .lit (.string s)) : len = fs.length ∧ ∀ (j : Nat) (s : List UInt8), fs[j]? = some s → Sx j = ⟨s.toArray⟩ := by
  have hl : len = fs.length := by simpa using congrArg List.length h
  refine ⟨hl, fun j s hj => str_of ?_⟩
  have hlt : j < fs.length := (List.getElem?_eq_some_iff.1 hj).1
  have h2 := congrArg (fun l => l[j]?) h
  simp [hj, List.getElem?_range (show j < len by omega)] at h2
  exact h2
set_option maxRecDepth 100000 in
theorem krow_of {H : Type} {enc : TypeId × Value → H} {W : World} {base : Nat} {sp : Nat → Bool} {held : Bool} {n b o : Nat} {cs : List Value} {name : List UInt8} {fs : List (List UInt8)} {pl : List MemPlace} (hc : W.cells? base ⟨b, o, none⟩ 2 = some cs)
    (ht : DataW.trod enc Tryz.prog W base sp held n 181 cs = some (.agg [.lit (.string name), .slice (fs.map fun s => .lit (.string s)) []], pl)) (hf : fs ≠ []) : KRow W b o name fs := by
  obtain ⟨xs, k, _, hx, hcl, hxl, hfld⟩ := DataW.trod_struct Tryz.underlying181 ht
  obtain ⟨_, hl2, hat⟩ := World.cells?_some hc
  obtain ⟨c0, c1, rfl⟩ := len_two hl2
  have hxl2 : xs.length = 2 := hxl
  obtain ⟨x0, x1, rfl⟩ := len_two hxl2
  simp only [List.map_cons, List.map_nil, Prod.mk.injEq, DataW.agg.injEq, List.cons.injEq, and_true] at hx
  obtain ⟨⟨e0, e1⟩, _⟩ := hx
  have h0 := hat 0 (by omega)
  have h1 := hat 1 (by omega)
  have f0 := hfld 0 _ rfl
  have f1 := hfld 1 _ rfl
  have g0 : DataW.trod enc Tryz.prog W base sp held k 9 [c0] = some x0 := f0
  have g1 : DataW.trod enc Tryz.prog W base sp held k 57 [c1] = some x1 := f1
  obtain ⟨s, hs, hs2, _⟩ := DataW.trod_string Tryz.underlying9 g0
  simp at hs
  subst hs
  have hs3 : s = ⟨name.toArray⟩ := str_of (by
    have e2 : (DataW.lit (.string name) : DataW H) = .lit (.string s.data.toList) := by rw [e0, hs2]
    injection e2 with e2
    injection e2 with e2
    exact e2.symm)
  rcases open_strs Tryz.underlying57 Tryz.underlying9 (by kernel_rfl) g1 with ⟨_, h⟩ | ⟨a, len, cap, m, Sx, hcs, _, hle, _, hm, hx1, hS⟩
  · rw [h] at e1; cases e1
  · simp at hcs
    subst hcs
    rw [hx1] at e1
    simp only [DataW.slice.injEq] at e1
    obtain ⟨hlen, hSx⟩ := strs_map e1.1.symm
    have hpos : 0 < fs.length := List.length_pos_iff.2 hf
    have hlm : len ≤ m := by rw [hm]; split <;> omega
    have hsp := spot_no (hS 0 (by omega)).1
    obtain ⟨b', o', s'⟩ := a
    simp only at hsp
    subst hsp
    refine ⟨?_, b', o', cap, ?_, fun j u hj => ?_⟩
    · rw [← hs3]; exact h0
    · rw [← hlen]; exact h1
    · have hlt : j < fs.length := (List.getElem?_eq_some_iff.1 hj).1
      rw [← hSx j u hj]
      have := (hS j (by omega)).1
      rwa [Addr.add_mid] at this
def kindTab : List (List UInt8 × List (List UInt8)) := [([101, 120, 116, 114, 117, 100, 101], [[111, 110], [115, 107, 101, 116, 99, 104], [97, 109, 111, 117, 110, 116]]), ([99, 117, 116], [[111, 110], [115, 107, 101, 116, 99, 104], [97, 109, 111, 117, 110, 116]]), ([99, 104, 97, 109, 102, 101, 114], [[111, 110], [97, 110, 100], [97, 109, 111, 117, 110, 116]]), ([109, 105, 114, 114, 111, 114], [[111, 110]]), ([112, 97, 116, 116, 101, 114, 110], [[99, 111, 117, 110, 116], [120], [121], [122]]), ([109, 111, 118, 101], [[120], [121], [122]]), ([116, 117, 114, 110], [[115, 107, 101, 116, 99, 104], [99, 111, 117, 110, 116]]), ([108, 97, 98, 101, 108], [[111, 110], [115, 107, 101, 116, 99, 104]])]
def kindDatum {H : Type} (x : List UInt8 × List (List UInt8)) : DataW H := .agg [.lit (.string x.1), .slice (x.2.map fun s => .lit (.string s)) []]
/-- the table of the kinds of features, whole -/
def KindsFull (W : World) : Prop := ∃ kb ko cap, W.cell? ⟨2, 0, none⟩ = some (.slice (some ⟨kb, ko, none⟩) 8 cap) ∧ ∀ (i : Nat) (x : List UInt8 × List (List UInt8)), kindTab[i]? = some x → KRow W kb (ko + i * 2) x.1 x.2
theorem kinds_of {W : World} {base : Nat} {sp : Nat → Bool} {held : Bool} {fuel : Nat} {cs : List Value} {H : Type} {enc : TypeId × Value → H} {p : List MemPlace} (h : DataW.trod enc Tryz.prog W base sp held fuel 180 cs = some (.slice (kindTab.map kindDatum) [], p)) :
    ∃ kb ko cap, cs = [.slice (some ⟨kb, ko, none⟩) 8 cap] ∧ ∀ (i : Nat) (x : List UInt8 × List (List UInt8)), kindTab[i]? = some x → KRow W kb (ko + i * 2) x.1 x.2 := by
  rcases open_slice Tryz.underlying180 h with ⟨_, h0⟩ | ⟨a, len, cap, m, n, D, Pl, rfl, _, hle, _, hm, hx, hi⟩
  · cases h0
  · simp only [Prod.mk.injEq, DataW.slice.injEq] at hx
    have hD := hx.1.1
    have hlen : len = 8 := by
      have := congrArg List.length hD
      simpa [kindTab] using this.symm
    subst hlen
    have hm8 : 8 ≤ m := by rw [hm]; split <;> omega
    have hrow : ∀ (i : Nat) (x : List UInt8 × List (List UInt8)), kindTab[i]? = some x → ∃ cs', W.cells? base (a.add (i * 2)) 2 = some cs' ∧ DataW.trod enc Tryz.prog W base sp held n 181 cs' = some (kindDatum x, Pl i) := by
      intro i x hx
      have hlt : i < 8 := (List.getElem?_eq_some_iff.1 hx).1
      obtain ⟨cs', h1, h2⟩ := hi i (by omega)
      have hc : Tryz.prog.cellsOf 181 = 2 := by kernel_rfl
      rw [hc] at h1
      refine ⟨cs', h1, ?_⟩
      rw [h2]
      have h3 := congrArg (fun l => l[i]?) hD
      simp only [List.getElem?_map, hx, Option.map_some, List.getElem?_range hlt] at h3
      rw [← Option.some.inj h3]
    obtain ⟨c0, g0, _⟩ := hrow 0 _ rfl
    obtain ⟨_, _, hat⟩ := World.cells?_some g0
    have hsp : a.spot = none := by
      have h9 := hat 0 (by omega)
      have e : (a.add (0 * 2)).add 0 = a.add 0 := by simp [Addr.add]
      rw [e, List.getElem?_eq_getElem (by omega)] at h9
      exact spot_no h9
    obtain ⟨kb, ko, s⟩ := a
    simp only at hsp
    subst hsp
    refine ⟨kb, ko, cap, rfl, fun i x hx => ?_⟩
    obtain ⟨cs', h1, h2⟩ := hrow i x hx
    rw [Addr.add_mid] at h1
    have hne : x.2 ≠ [] := by
      have : ∀ x ∈ kindTab, x.2 ≠ [] := by decide
      exact this x (List.mem_of_getElem? hx)
    exact krow_of h1 h2 hne
theorem kindsFull_of {W : World} (h : laidMetH Tryz.prog Rows.interpretConflictRow.laid W) : KindsFull W := by
  obtain ⟨ps, h, _⟩ := (show laidMet Tryz.prog Rows.interpretConflictRow.laid W from h)
  obtain ⟨_, _, _, _, _, _, _, _, _, _, h, _⟩ := h
  obtain ⟨_, _, _, _, _, _, _, _, _, _, h, _⟩ := h
  obtain ⟨_, _, _, _, _, _, _, _, _, _, h, _⟩ := h
  obtain ⟨_, _, _, _, _, _, _, _, _, _, h, _⟩ := h
  obtain ⟨_, _, _, _, _, _, _, _, _, _, h, _⟩ := h
  obtain ⟨_, _, _, _, _, _, _, _, _, _, h, _⟩ := h
  obtain ⟨_, _, _, _, _, _, _, _, _, _, h, _⟩ := h
  obtain ⟨g, t, cs, fuel, p, q, hg, ht, hv, hd, _⟩ := h
  have hg2 : Tryz.prog.globalNamed "voussoir/feature.kinds" = some 2 := by kernel_rfl
  obtain rfl := Option.some.inj (hg2.symm.trans hg)
  have ht2 : (Tryz.prog.globals[2]?).map (·.type) = some 180 := by kernel_rfl
  obtain rfl := Option.some.inj (ht2.symm.trans ht)
  obtain ⟨kb, ko, cap, hcs, hr⟩ := kinds_of (cs := cs.toList) hd
  refine ⟨kb, ko, cap, ?_, hr⟩
  rw [World.var?_cell hg2 hv 0, ← Array.getElem?_toList, hcs]
  rfl
theorem KindsFull.at {W : World} (h : KindsFull W) : KindsAt W := by
  obtain ⟨kb, ko, cap, h0, h⟩ := h
  obtain ⟨a0, b0, o0, c0, d0, _⟩ := h 0 _ rfl
  obtain ⟨a1, b1, o1, c1, d1, _⟩ := h 1 _ rfl
  obtain ⟨a2, b2, o2, c2, d2, _⟩ := h 2 _ rfl
  obtain ⟨a3, b3, o3, c3, d3, _⟩ := h 3 _ rfl
  exact ⟨kb, ko, cap, ⟨some ⟨b0, o0, none⟩, 3, c0⟩, ⟨some ⟨b1, o1, none⟩, 3, c1⟩, ⟨some ⟨b2, o2, none⟩, 3, c2⟩, ⟨some ⟨b3, o3, none⟩, 1, c3⟩, h0, a0, d0, a1, d1, a2, d2, a3, d3⟩
end Go.Proofs.YteigcnamkfebgaaGreatDoor
