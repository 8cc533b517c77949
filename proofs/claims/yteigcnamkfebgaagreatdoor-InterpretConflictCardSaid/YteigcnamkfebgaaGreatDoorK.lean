import Derived.Test.YteigcnamkfebgaaGreatDoorJ
import Derived.Laws.OwnMore
namespace Go.Proofs.YteigcnamkfebgaaGreatDoor
open Go.RowKit
/-! registers, with their writes -/
structure RegP where
  node : IdD
  field : ByteArray
  w : List WrD
structure EdP where
  d : EdD
  ids : List IdD
def cmpKey (n : IdD) (f : ByteArray) (n' : IdD) (f' : ByteArray) : Int := or2 (cmpId n n') (cmpS f f')
theorem bs_map {E F : Type} (f : E → F) (c : F → Int) (l : List E) (i j : Nat) : bs (fun x => c (f x)) l i j = bs c (l.map f) i j := by
  unfold bs
  generalize j - i = n
  induction n generalizing i j with
  | zero => rfl
  | succ n ih =>
    unfold bsearch
    by_cases hij : i < j
    · rw [if_pos hij, if_pos hij, List.getElem?_map]
      cases l[(i + j) / 2]? with
      | none => rfl
      | some x =>
        simp only [Option.map_some]
        by_cases hc : c (f x) < 0
        · rw [if_pos hc, if_pos hc]; exact ih _ _
        · rw [if_neg hc, if_neg hc]; exact ih _ _
    · rw [if_neg hij, if_neg hij]
theorem found_map {E F : Type} (f : E → F) (c : F → Int) (l : List E) (r : Nat) : found (fun x => c (f x)) l r = found c (l.map f) r := by
  unfold found
  rw [List.getElem?_map]
  cases l[r]? <;> rfl
def keyOfR (r : RegP) : IdD × ByteArray := (r.node, r.field)
def keyOfD (d : RegD) : IdD × ByteArray := (d.node, d.field)
def cK (n : IdD) (f : ByteArray) (k : IdD × ByteArray) : Int := cmpKey k.1 k.2 n f
def Regs (w : World) (base : Nat) (v : Value) (R : List RegP) : Prop :=
  ∃ ds : List RegD, w.ownsRow base 48 4 v R.length (regY.flat ds) ∧ ds.length = R.length ∧
    ∀ (i : Nat) (d : RegD) (r : RegP), ds[i]? = some d → R[i]? = some r → d.node = r.node ∧ d.field = r.field ∧ wrY.Rd w d.w.v r.w ∧ ∀ a, d.w.a = some a → a.block < w.heap.size ∧ v.ownBlock ≠ some a.block
theorem keys_eq {ds : List RegD} {R : List RegP} (hl : ds.length = R.length) (h : ∀ (i : Nat) (d : RegD) (r : RegP), ds[i]? = some d → R[i]? = some r → d.node = r.node ∧ d.field = r.field) : ds.map keyOfD = R.map keyOfR := by
  apply List.ext_getElem?
  intro i
  rw [List.getElem?_map, List.getElem?_map]
  by_cases hi : i < ds.length
  · have h1 := List.getElem?_eq_getElem hi
    have h2 : R[i]? = some (R[i]'(by omega)) := List.getElem?_eq_getElem (by omega)
    obtain ⟨e1, e2⟩ := h i _ _ h1 h2
    rw [h1, h2]
    simp [keyOfD, keyOfR, e1, e2]
  · rw [List.getElem?_eq_none (by omega), List.getElem?_eq_none (by omega)]; rfl
theorem Regs.below {w w' : World} {base : Nat} {v : Value} {R : List RegP} (h : Regs w base v R) (hb : Below w.heap.size w w') : Regs w' base v R := by
  obtain ⟨ds, h1, h2, h3⟩ := h
  refine ⟨ds, ownsRow_below h1 hb, h2, fun i d r hd hr => ?_⟩
  obtain ⟨e1, e2, e3, e4⟩ := h3 i d r hd hr
  exact ⟨e1, e2, e3.below hb, fun a ha => ⟨Nat.lt_of_lt_of_le (e4 a ha).1 hb.size, (e4 a ha).2⟩⟩
theorem Lay.Rd.away {E : Type} {Y : Lay E} {w w' : World} {s : SlV} {l : List E} {row : Option Nat} (h : Y.Rd w s.v l) (hg : w.grownBy w' row) (ha : ∀ a, s.a = some a → row ≠ some a.block) : Y.Rd w' s.v l := by
  rcases h with h | ⟨b, off, cap, h1, h2, h3⟩
  · exact .inl h
  · refine .inr ⟨b, off, cap, h1, h2, fun j u hj => ?_⟩
    have h4 := h3 j u hj
    have hs : s.a = some ⟨b, off, none⟩ := by
      unfold SlV.v at h1
      simp at h1
      exact h1.1
    rw [World.cell?_of_block (w := w) (hg.block b (block_lt_of_cell h4) (fun e => ha _ hs e.symm))]
    exact h4
theorem flat_set_w (ds : List RegD) : ∀ (i : Nat) (d : RegD) (s : SlV), ds[i]? = some d → (regY.flat ds).set (i * 4 + 3) s.v = regY.flat (ds.set i { d with w := s }) := by
  induction ds with
  | nil => intro i d s h; simp at h
  | cons x r ih =>
    intro i d s h
    cases i with
    | zero =>
      simp at h
      subst h
      rw [regY.flat_cons, List.set_cons_zero, regY.flat_cons]
      rfl
    | succ i =>
      simp at h
      rw [regY.flat_cons, List.set_cons_succ, regY.flat_cons, ← ih i d s h, show (i + 1) * 4 + 3 = 4 + (i * 4 + 3) by omega]
      have e : (regY.V x).length = 4 := rfl
      rw [List.set_append_right _ _ (by rw [e]; omega), e, Nat.add_sub_cancel_left]
/-- a register's writes are replaced -/
theorem Regs.set {w : World} {base n cap g : Nat} {R : List RegP} (h : Regs w base (.slice (some ⟨g, 0, none⟩) n cap) R) {i : Nat} {r : RegP} (hr : R[i]? = some r) {s : SlV} {W : List WrD} (hW : wrY.Rd w s.v W) (ha : ∀ a, s.a = some a → a.block < w.heap.size ∧ a.block ≠ g) :
    Regs (w.setCell ⟨g, i * 4 + 3, none⟩ s.v) base (.slice (some ⟨g, 0, none⟩) n cap) (R.set i { r with w := W }) := by
  obtain ⟨ds, h1, h2, h3⟩ := h
  have hn : R.length = n := by
    rcases h1.2 with ⟨e, _⟩ | ⟨_, _, _, e, _⟩
    · cases e
    · simp at e; exact e.2.1.symm
  subst hn
  have hi : i < R.length := (List.getElem?_eq_some_iff.1 hr).1
  obtain ⟨d, hd⟩ : ∃ d, ds[i]? = some d := ⟨_, List.getElem?_eq_getElem (by omega)⟩
  obtain ⟨hs1, hs2⟩ := h1.stored (i * 4 + 3) s.v
  rw [flat_set_w ds i d s hd] at hs1
  refine ⟨ds.set i { d with w := s }, by rw [List.length_set]; exact hs1, by rw [List.length_set, List.length_set]; exact h2, fun j d' r' hd' hr' => ?_⟩
  obtain ⟨e1, e2, e3, e4⟩ := h3 i d r hd hr
  by_cases hij : i = j
  · subst hij
    rw [List.getElem?_set_self (by omega)] at hd' hr'
    obtain rfl := Option.some.inj hd'
    obtain rfl := Option.some.inj hr'
    exact ⟨e1, e2, hW.away hs2 (fun a h e => (ha a h).2 (Option.some.inj e).symm), fun a h => ⟨by simpa using (ha a h).1, fun e => (ha a h).2 (by simp [Value.ownBlock] at e; exact e.symm)⟩⟩
  · rw [List.getElem?_set_ne hij] at hd' hr'
    obtain ⟨f1, f2, f3, f4⟩ := h3 j d' r' hd' hr'
    exact ⟨f1, f2, f3.away hs2 (fun a h e => (f4 a h).2 (by simpa [Value.ownBlock] using e)), fun a h => ⟨by simpa using (f4 a h).1, (f4 a h).2⟩⟩
/-- a register is appended -/
theorem Regs.snoc {w w' : World} {base : Nat} {v v' : Value} {R : List RegP} {ds : List RegD} {x : RegD} {r : RegP} (h1 : ds.length = R.length) (h3 : ∀ (i : Nat) (d : RegD) (r : RegP), ds[i]? = some d → R[i]? = some r → d.node = r.node ∧ d.field = r.field ∧ wrY.Rd w d.w.v r.w ∧ ∀ a, d.w.a = some a → a.block < w.heap.size ∧ v.ownBlock ≠ some a.block)
    (ho : w'.ownsRow base 48 4 v' (ds.length + 1) (regY.flat (ds ++ [x]))) (hg : w.grownBy w' v.ownBlock) (hloc : v'.ownBlock = v.ownBlock ∨ v'.ownBlock = some w.heap.size) (hx : x.node = r.node ∧ x.field = r.field ∧ x.w = SlV.nil ∧ r.w = []) : Regs w' base v' (R ++ [r]) := by
  refine ⟨ds ++ [x], by rw [List.length_append, List.length_singleton, ← h1]; exact ho, by simp [h1], fun i d r' hd hr => ?_⟩
  by_cases hi : i < ds.length
  · rw [List.getElem?_append_left hi] at hd
    rw [List.getElem?_append_left (by omega)] at hr
    obtain ⟨e1, e2, e3, e4⟩ := h3 i d r' hd hr
    refine ⟨e1, e2, e3.away hg (fun a ha => (e4 a ha).2), fun a ha => ⟨Nat.lt_of_lt_of_le (e4 a ha).1 hg.size, ?_⟩⟩
    rcases hloc with h | h
    · rw [h]; exact (e4 a ha).2
    · rw [h]
      have := (e4 a ha).1
      intro e
      simp at e
      omega
  · rw [List.getElem?_append_right (by omega)] at hd hr
    have h0 : i - ds.length = 0 := by
      by_cases h0 : i - ds.length = 0
      · exact h0
      · obtain ⟨k, hk⟩ := Nat.exists_eq_succ_of_ne_zero h0
        rw [hk] at hd; simp at hd
    rw [h0] at hd
    rw [show i - R.length = 0 by omega] at hr
    simp at hd hr
    subst hd hr
    obtain ⟨f1, f2, f3, f4⟩ := hx
    rw [f3, f4]
    exact ⟨f1, f2, .inl ⟨rfl, rfl⟩, fun a h => by simp [SlV.nil] at h⟩
end Go.Proofs.YteigcnamkfebgaaGreatDoor
