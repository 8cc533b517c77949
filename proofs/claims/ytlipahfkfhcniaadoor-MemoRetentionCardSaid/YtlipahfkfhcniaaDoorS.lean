import Derived.Test.YtlipahfkfhcniaaDoorR
import Derived.Maps.RangeWalk
namespace Go.Proofs.YtlipahfkfhcniaaDoor
open Go.RowKit Go.Maps
/-! MemoRetention: the map 'last' as a ghost of the list of numbers; the count of what stands behind. -/
def lu (n : Int) : Lit := .int .u8 n
theorem lu_key (n : Int) : WideAt.IsKeyLit (lu n) := trivial
theorem lu_ne {a b : Int} (h : a ≠ b) : lu a ≠ lu b := fun e => h (by unfold lu at e; injection e)
theorem lu_same (a b : Int) : (lu a).sameKey (lu b) = (a == b) := by
  by_cases h : a = b
  · subst h; rw [WideAt.sameKey_self (lu_key a)]; simp
  · rw [sameKey_ne (lu_ne h)]; symm; simpa using h
/-- the map behind k rounds -/
def Cm (ns : List Int) : Nat → DataW Unit
  | 0 => .map []
  | k + 1 => (Cm ns k).put (lu (ns.getD k 0)) (.lit (.int .i64 (k : Nat)))
theorem Cm_tidy (ns : List Int) : ∀ k, Tidy (Cm ns k)
  | 0 => tidy_empty
  | k + 1 => (Cm_tidy ns k).put (lu_key _) _
theorem Cm_at (ns : List Int) (z : DataW Unit) : ∀ k, ∀ x ∈ lastD ns k, (Cm ns k).atKey (lu x.1) z = .lit (.int .i64 (x.2 : Nat))
  | 0, x, hx => by cases hx
  | k + 1, x, hx => by
    rcases List.mem_append.1 hx with hx | hx
    · obtain ⟨h1, h2⟩ := List.mem_filter.1 hx
      have hne : x.1 ≠ ns.getD k 0 := by simpa using h2
      show ((Cm ns k).put _ _).atKey _ z = _
      rw [atKey_put_other (lu_ne hne)]
      exact Cm_at ns z k x h1
    · rw [List.mem_singleton.1 hx]
      exact atKey_put_same (Cm_tidy ns k).isMap (lu_key _) _ _
theorem Cm_has (ns : List Int) (n : Int) : ∀ k, Maps.has (Cm ns k) (lu n) = (lastD ns k).any (fun x => x.1 == n)
  | 0 => rfl
  | k + 1 => by
    show Maps.has ((Cm ns k).put _ _) (lu n) = _
    rw [lastD, List.any_append]
    by_cases h : n = ns.getD k 0
    · rw [h, has_put_same (Cm_tidy ns k).isMap (lu_key _)]
      simp
    · rw [has_put_other (lu_ne h), Cm_has ns n k]
      have h2 : (ns.getD k 0 == n) = false := by simpa using fun e => h e.symm
      simp only [List.any_cons, List.any_nil, h2, Bool.or_false]
      rw [Bool.eq_iff_iff, List.any_eq_true, List.any_eq_true]
      constructor
      · rintro ⟨x, hx, he⟩
        have he' : x.1 = n := by simpa using he
        exact ⟨x, List.mem_filter.2 ⟨hx, by rw [he']; simpa using h⟩, he⟩
      · rintro ⟨x, hx, he⟩
        exact ⟨x, (List.mem_filter.1 hx).1, he⟩
theorem Cm_size (ns : List Int) : ∀ k, Maps.size (Cm ns k) = (lastD ns k).length
  | 0 => rfl
  | k + 1 => by
    show Maps.size ((Cm ns k).put _ _) = _
    rw [size_put (Cm_tidy ns k), Cm_has, lastD, List.length_append, List.length_singleton, Cm_size ns k]
    have hnd := lastD_nodup ns k
    generalize ns.getD k 0 = n
    generalize lastD ns k = D at *
    induction D with
    | nil => rfl
    | cons x r ih =>
      rw [List.map_cons, List.nodup_cons] at hnd
      have ih := ih hnd.2
      by_cases he : x.1 = n
      · have hr : r.filter (fun x => !(x.1 == n)) = r := List.filter_eq_self.2 (fun y hy => by
          have : y.1 ≠ n := fun e => hnd.1 (by rw [he, ← e]; exact List.mem_map_of_mem hy)
          simpa using this)
        have h2 : (x.1 == n) = true := by simp [he]
        rw [List.any_cons, List.filter_cons, h2]
        simp [hr]
      · have h2 : (x.1 == n) = false := by simpa using he
        rw [List.any_cons, List.filter_cons, h2]
        simp only [Bool.false_or, Bool.not_false, if_true, List.length_cons]
        rw [← ih]
        split <;> rfl
/-- what comes out of the map is an entry of the list -/
theorem Cm_out (ns : List Int) (k : Nat) (n c : Int) (h : ∀ zd, (Cm ns k).atKey (lu n) zd = .lit (.int .i64 c)) : ∃ i : Nat, c = (i : Int) ∧ (n, i) ∈ lastD ns k := by
  have h1 := has_true_of_atKey h
  rw [Cm_has, List.any_eq_true] at h1
  obtain ⟨x, hx, he⟩ := h1
  have he' : x.1 = n := by simpa using he
  have h2 := Cm_at ns (.map []) k x hx
  rw [he', h (.map [])] at h2
  injection h2 with h2
  injection h2 with _ h2
  exact ⟨x.2, h2, by rw [← he']; exact hx⟩
/-- of those that have come, how many stand behind -/
def cntB (D : List (Int × Nat)) (left : Lit → Bool) (i : Nat) : Nat := (D.filter (fun y => decide (i < y.2) && !left (lu y.1))).length
theorem cntB_start (ns : List Int) (k i : Nat) : cntB (lastD ns k) (Maps.has (Cm ns k)) i = 0 := by
  unfold cntB
  rw [List.length_eq_zero_iff, List.filter_eq_nil_iff]
  intro y hy
  have : Maps.has (Cm ns k) (lu y.1) = true := by
    rw [Cm_has, List.any_eq_true]
    exact ⟨y, hy, by simp⟩
  rw [this]
  simp
theorem cntB_end (D : List (Int × Nat)) (left : Lit → Bool) (i : Nat) (h : ∀ kl, left kl = false) : cntB D left i = behindN D i := by
  unfold cntB behindN
  congr 2
  funext y
  rw [h]
  simp
theorem cntB_le (D : List (Int × Nat)) (left : Lit → Bool) (i : Nat) : cntB D left i ≤ D.length := List.length_filter_le _ _
theorem cntB_step (D : List (Int × Nat)) (hn : (D.map (·.1)).Nodup) (left : Lit → Bool) (i : Nat) (y : Int × Nat) (hy : y ∈ D) (hl : left (lu y.1) = true) :
    cntB D (fun z => left z && !z.sameKey (lu y.1)) i = cntB D left i + (if i < y.2 then 1 else 0) := by
  unfold cntB
  induction D with
  | nil => cases hy
  | cons x r ih =>
    rw [List.map_cons, List.nodup_cons] at hn
    rw [List.filter_cons, List.filter_cons]
    simp only [lu_same] at ih ⊢
    rcases List.mem_cons.1 hy with rfl | hy
    · have hr : r.filter (fun z => decide (i < z.2) && !(left (lu z.1) && !(z.1 == y.1))) = r.filter (fun z => decide (i < z.2) && !left (lu z.1)) :=
        List.filter_congr (fun z hz => by
          have hne : z.1 ≠ y.1 := fun e => hn.1 (by rw [← e]; exact List.mem_map_of_mem hz)
          have h2 : (z.1 == y.1) = false := by simpa using hne
          rw [h2]; simp)
      rw [hr, hl]
      by_cases hi : i < y.2
      · simp [hi]
      · simp [hi]
    · have ih := ih hn.2 hy
      have hne : x.1 ≠ y.1 := fun e => hn.1 (by rw [e]; exact List.mem_map_of_mem hy)
      have h2 : (x.1 == y.1) = false := by simpa using hne
      rw [h2]
      simp only [Bool.not_false, Bool.and_true]
      by_cases hx : (decide (i < x.2) && !left (lu x.1)) = true
      · rw [if_pos hx, if_pos hx, List.length_cons, List.length_cons, ih]; omega
      · rw [if_neg hx, if_neg hx, ih]
theorem lastD_len_le (ns : List Int) : ∀ k, (lastD ns k).length ≤ k
  | 0 => Nat.le_refl _
  | k + 1 => by
    have h1 := lastD_len_le ns k
    have h2 := List.length_filter_le (fun x : Int × Nat => !(x.1 == ns.getD k 0)) (lastD ns k)
    rw [lastD, List.length_append, List.length_singleton]
    omega
theorem below_none {w w' : World} (hb : Below w.heap.size w w') : w.grownBy w' none := ⟨hb.os, hb.tape, hb.output, hb.size, fun i hi _ => hb.block i hi⟩
/-- a list of entries stays, while a block that holds no cells is written -/
theorem Rd.grown {w w' : World} {v : Value} {l : List Ent} {r : Nat} (h : Rd w v l) (hg : w.grownBy w' (some r)) (hr : ∀ (a : Addr) (u : Value), a.block = r → w.cell? a ≠ some u) : Rd w' v l := by
  rcases h with h | ⟨b, off, cap, rfl, hc, hra⟩
  · exact .inl h
  · refine .inr ⟨b, off, cap, rfl, hc, fun j y hj => ?_⟩
    have h1 := hra j y hj
    have hne : b ≠ r := fun e => hr _ _ e h1
    rw [World.cell?_of_block (w := w) (hg.block b (block_lt_of_cell h1) (fun e => hne (Option.some.inj e)))]
    exact h1
theorem no_cell_map {w : World} {b : Nat} {es : Array MapEntry} {clock : Nat} (h : w.heap[b]? = some (.map es clock)) : ∀ (a : Addr) (u : Value), a.block = b → w.cell? a ≠ some u := by
  intro a u ha hc
  rw [← ha] at h
  simp [World.cell?, h] at hc
theorem no_cell_iter {w : World} {b s c : Nat} {m : Option Nat} {seen : Array Nat} (h : w.heap[b]? = some (.mapIter m s seen c)) : ∀ (a : Addr) (u : Value), a.block = b → w.cell? a ≠ some u := by
  intro a u ha hc
  rw [← ha] at h
  simp [World.cell?, h] at hc
theorem no_cell_owns {H : Type} {P : Program} {k : TypeId} {R : Value → Option (DataW H × List MemPlace)} {w : World} {b n : Nat} {D : DataW H} (h : w.ownsMap P k R b n D) : ∀ (a : Addr) (u : Value), a.block = b → w.cell? a ≠ some u := by
  obtain ⟨es, clock, hb, _⟩ := h
  exact no_cell_map hb
theorem no_cell_ranges {H : Type} {P : Program} {k : TypeId} {R : Value → Option (DataW H × List MemPlace)} {w : World} {b r n cnt : Nat} {D : DataW H} {left : Lit → Bool} (h : w.ranges P k R b r n D left cnt) : ∀ (a : Addr) (u : Value), a.block = r → w.cell? a ≠ some u := by
  obtain ⟨es, clock, since, seen, c0, _, _, _, _, hr, _⟩ := h
  exact no_cell_iter hr
theorem box_ne {w : World} {mb b : Nat} {u : Value} {t : TypeId} {fz : Nat × Nat} (hm : w.heap[mb]? = some (.cells #[u] t fz)) (hb : ∀ (a : Addr) (u : Value), a.block = b → w.cell? a ≠ some u) : mb ≠ b := by
  rintro rfl
  exact hb ⟨mb, 0, none⟩ u rfl (by rw [cell_of_row w mb 0 _ t fz hm]; rfl)
theorem box_grown {w w' : World} {mb b : Nat} {o : Obj} (hm : w.heap[mb]? = some o) (hg : w.grownBy w' (some b)) (hne : mb ≠ b) : w'.heap[mb]? = some o :=
  (hg.block mb (lt_of_block hm) (fun e => hne (Option.some.inj e))).trans hm
end Go.Proofs.YtlipahfkfhcniaaDoor
