import Derived.Test.YtlipahfkfhcniaaDoorL
namespace Go.Proofs.YtlipahfkfhcniaaDoor
structure Good (l : List Ent) : Prop where
  nil : NilB l
  len : l.length ≤ 64
  nod : (l.map (·.key)).Nodup
  sum : ∀ x ∈ l, x.sum = sumF x.key
theorem hit_iff (k : ByteArray) (x : Ent) (h : x.sum = sumF x.key) : hit k x = true ↔ x.key = k := by
  unfold hit
  constructor
  · intro h1
    simp only [Bool.and_eq_true] at h1
    exact (eqB_iff _ _).1 h1.2
  · rintro rfl
    rw [(eqB_iff _ _).2 h, (eqB_iff _ _).2 rfl]; rfl
theorem find_mem {l : List Ent} (hn : (l.map (·.key)).Nodup) (hs : ∀ x ∈ l, x.sum = sumF x.key) {x : Ent} (hx : x ∈ l) : l.find? (hit x.key) = some x := by
  induction l with
  | nil => cases hx
  | cons y r ih =>
    rw [List.map_cons, List.nodup_cons] at hn
    rcases List.mem_cons.1 hx with rfl | hx
    · rw [List.find?_cons, (hit_iff _ _ (hs _ (List.mem_cons_self))).2 rfl]
    · have hne : y.key ≠ x.key := fun e => hn.1 (e ▸ List.mem_map_of_mem hx)
      rw [List.find?_cons, hit_ne hne]
      exact ih hn.2 (fun z hz => hs z (List.mem_cons_of_mem _ hz)) hx
theorem find_no {l : List Ent} {k : ByteArray} (h : ∀ x ∈ l, x.key ≠ k) : l.find? (hit k) = none :=
  List.find?_eq_none.2 (fun x hx => by rw [hit_ne (h x hx)]; exact Bool.false_ne_true)
theorem good_nil : Good [] := ⟨(by intro x hx; cases hx), (by simp), (by simp), (by intro x hx; cases hx)⟩
theorem flt (k : ByteArray) (l : List Ent) : (∀ x ∈ l.filter (fun x => !(eqB x.key k)), x ∈ l ∧ x.key ≠ k) := by
  intro x hx
  obtain ⟨h1, h2⟩ := List.mem_filter.1 hx
  refine ⟨h1, fun e => ?_⟩
  rw [(eqB_iff _ _).2 e] at h2
  exact absurd h2 (by decide)
theorem good_all {l : List Ent} (h : Good l) (k : ByteArray) (r e : Int) : ((putAll k r e l).map (·.key)).Nodup ∧ ∀ x ∈ putAll k r e l, x.sum = sumF x.key := by
  unfold putAll
  constructor
  · rw [List.map_append, List.nodup_append]
    refine ⟨h.nod.sublist (List.Sublist.map _ List.filter_sublist), by simp, ?_⟩
    intro a ha b hb
    obtain ⟨x, hx, rfl⟩ := List.mem_map.1 ha
    have hb' : b = k := by simpa [newE] using hb
    rw [hb']
    exact (flt k l x hx).2
  · intro x hx
    rcases List.mem_append.1 hx with hx | hx
    · exact h.sum x (flt k l x hx).1
    · rw [List.mem_singleton.1 hx]; rfl
theorem good_put {l : List Ent} (h : Good l) (k : ByteArray) (r e : Int) : Good (putL k r e l) := by
  obtain ⟨h1, h2⟩ := good_all h k r e
  exact ⟨nilB_put h.nil, putL_length _ _ _ _, h1.sublist (List.Sublist.map _ (List.drop_sublist _ _)), fun x hx => h2 x (List.mem_of_mem_drop hx)⟩
theorem putAll_length (k : ByteArray) (r e : Int) (l : List Ent) : (putAll k r e l).length = (l.filter (fun x => !(eqB x.key k))).length + 1 := by unfold putAll; simp
theorem putL_length_eq (k : ByteArray) (r e : Int) (l : List Ent) : (putL k r e l).length = min 64 ((l.filter (fun x => !(eqB x.key k))).length + 1) := by
  unfold putL; rw [List.length_drop, putAll_length]; omega
theorem new_mem (k : ByteArray) (r e : Int) (l : List Ent) : newE k r e ∈ putL k r e l := by
  have h : (putAll k r e l).length - 64 ≤ (l.filter (fun x => !(eqB x.key k))).length := by rw [putAll_length]; omega
  unfold putL
  generalize (putAll k r e l).length - 64 = d at h
  unfold putAll
  rw [List.drop_append_of_le_length h]
  simp
theorem old_mem {l : List Ent} (hl : Good l) (k : ByteArray) (r e : Int) {i : Nat} {x : Ent} (hx : l[i]? = some x) (hne : x.key ≠ k) :
    x ∈ putL k r e l ∨ (i = 0 ∧ l.length = 64 ∧ ∀ y ∈ putL k r e l, y.key ≠ x.key) := by
  have hxm : x ∈ l := List.mem_of_getElem? hx
  have hxf : x ∈ l.filter (fun x => !(eqB x.key k)) := List.mem_filter.2 ⟨hxm, by rw [eqB_false hne]; rfl⟩
  have hle := List.length_filter_le (fun x : Ent => !(eqB x.key k)) l
  have hlen := hl.len
  by_cases h64 : (l.filter (fun x => !(eqB x.key k))).length < 64
  · left
    unfold putL
    rw [putAll_length, show (l.filter (fun x => !(eqB x.key k))).length + 1 - 64 = 0 by omega, List.drop_zero]
    unfold putAll
    exact List.mem_append.2 (.inl hxf)
  · have hl64 : l.length = 64 := by omega
    have hfl : l.filter (fun x => !(eqB x.key k)) = l := List.Sublist.eq_of_length List.filter_sublist (by omega)
    cases i with
    | zero =>
      right
      refine ⟨rfl, hl64, ?_⟩
      obtain ⟨h1, _⟩ := good_all hl k r e
      intro y hy
      unfold putL at hy
      rw [putAll_length, hfl, hl64] at hy
      cases l with
      | nil => simp at hx
      | cons z t =>
        simp at hx
        subst hx
        unfold putAll at hy h1
        rw [hfl] at hy h1
        simp only [List.cons_append, List.map_cons, List.nodup_cons] at h1
        simp only [List.cons_append, show 64 + 1 - 64 = 1 from rfl, List.drop_succ_cons, List.drop_zero] at hy
        exact fun ek => h1.1 (ek ▸ List.mem_map_of_mem hy)
    | succ i =>
      left
      unfold putL
      rw [putAll_length, hfl, hl64]
      unfold putAll
      rw [hfl]
      cases l with
      | nil => simp at hx
      | cons z t =>
        simp only [List.cons_append, show 64 + 1 - 64 = 1 from rfl, List.drop_succ_cons, List.drop_zero]
        exact List.mem_append.2 (.inl (List.mem_of_getElem? (by simpa using hx)))
theorem next_find {l : List Ent} (hl : Good l) (k : ByteArray) (r e : Int) {i : Nat} {x : Ent} (hx : l[i]? = some x) (hne : x.key ≠ k) :
    (putL k r e l).find? (hit x.key) = some x ∨ (i = 0 ∧ l.length = 64 ∧ (putL k r e l).find? (hit x.key) = none) := by
  have hg := good_put hl k r e
  rcases old_mem hl k r e hx hne with h | ⟨h1, h2, h3⟩
  · exact .inl (find_mem hg.nod hg.sum h)
  · exact .inr ⟨h1, h2, find_no h3⟩
theorem got_self {l : List Ent} (hl : Good l) (a : ActD) : gotB a (putL a.key a.root a.err l) = true := by
  have hg := good_put hl a.key a.root a.err
  unfold gotB
  have hf := find_mem hg.nod hg.sum (new_mem a.key a.root a.err l)
  rw [show (newE a.key a.root a.err).key = a.key from rfl] at hf
  rw [hf]
  simp [newE]
theorem got_other {l : List Ent} (hl : Good l) (a b : ActD) (hab : a.key ≠ b.key) : gotB a (putL b.key b.root b.err (putL a.key a.root a.err l)) = true := by
  have hg := good_put hl a.key a.root a.err
  have hg2 := good_put hg b.key b.root b.err
  have hm := new_mem a.key a.root a.err l
  obtain ⟨i, hi⟩ := List.getElem?_of_mem hm
  rcases old_mem hg b.key b.root b.err hi hab with h | ⟨h1, h2, _⟩
  · unfold gotB
    have hf := find_mem hg2.nod hg2.sum h
    rw [show (newE a.key a.root a.err).key = a.key from rfl] at hf
    rw [hf]
    simp [newE]
  · -- the first of 64 entries is the one put last: impossible
    exfalso
    subst h1
    obtain ⟨g1, _⟩ := good_all hl a.key a.root a.err
    have hlen := putAll_length a.key a.root a.err l
    have hd : (putAll a.key a.root a.err l).length - 64 < (l.filter (fun x => !(eqB x.key a.key))).length := by
      unfold putL at h2; rw [List.length_drop] at h2; omega
    unfold putL at hi
    generalize (putAll a.key a.root a.err l).length - 64 = d at hd hi
    unfold putAll at hi
    rw [List.getElem?_drop, Nat.add_zero, List.getElem?_append_left hd] at hi
    exact (flt a.key l _ (List.mem_of_getElem? hi)).2 rfl
/-- how many entries have another key -/
def cnt (k : ByteArray) (l : List Ent) : Nat := (l.filter (fun x => !(eqB x.key k))).length
theorem cnt_no {k : ByteArray} {l : List Ent} (h : ∀ x ∈ l, x.key ≠ k) : cnt k l = l.length := by
  unfold cnt
  rw [List.filter_eq_self.2 (fun x hx => by rw [eqB_false (h x hx)]; rfl)]
theorem cnt_yes {k : ByteArray} {l : List Ent} (hn : (l.map (·.key)).Nodup) (h : ∃ x ∈ l, x.key = k) : cnt k l + 1 = l.length := by
  induction l with
  | nil => obtain ⟨x, hx, _⟩ := h; cases hx
  | cons y r ih =>
    rw [List.map_cons, List.nodup_cons] at hn
    by_cases hy : y.key = k
    · have hr : ∀ x ∈ r, x.key ≠ k := fun x hx e => hn.1 (by rw [hy, ← e]; exact List.mem_map_of_mem hx)
      have := cnt_no hr
      unfold cnt at this ⊢
      rw [List.filter_cons, (eqB_iff _ _).2 hy]
      simp [this]
    · have hr : ∃ x ∈ r, x.key = k := by
        obtain ⟨x, hx, hk⟩ := h
        rcases List.mem_cons.1 hx with rfl | hx
        · exact absurd hk hy
        · exact ⟨x, hx, hk⟩
      have := ih hn.2 hr
      unfold cnt at this ⊢
      rw [List.filter_cons, eqB_false hy]
      simp [this]
theorem len_two {l : List Ent} (hl : Good l) (a b : ActD) (hab : a.key ≠ b.key) :
    (putL b.key b.root b.err (putL a.key a.root a.err l)).length = (putL a.key a.root a.err (putL b.key b.root b.err l)).length := by
  have key : ∀ (a b : ActD), a.key ≠ b.key → (putL b.key b.root b.err (putL a.key a.root a.err l)).length = min 64 (l.length + (if ∃ x ∈ l, x.key = a.key then 0 else 1) + (if ∃ x ∈ l, x.key = b.key then 0 else 1)) := by
    intro a b hab
    have hg := good_put hl a.key a.root a.err
    have hlen := hl.len
    have h1 := putL_length_eq a.key a.root a.err l
    have h2 := putL_length_eq b.key b.root b.err (putL a.key a.root a.err l)
    have ca : cnt a.key l + 1 = l.length + (if ∃ x ∈ l, x.key = a.key then 0 else 1) := by
      by_cases h : ∃ x ∈ l, x.key = a.key
      · rw [if_pos h, cnt_yes hl.nod h]; rfl
      · rw [if_neg h, cnt_no (fun x hx e => h ⟨x, hx, e⟩)]
    have cb : l.length < 64 → ((∃ x ∈ putL a.key a.root a.err l, x.key = b.key) ↔ ∃ x ∈ l, x.key = b.key) := by
      intro hlt
      constructor
      · rintro ⟨x, hx, hk⟩
        have hx2 := List.mem_of_mem_drop hx
        unfold putAll at hx2
        rcases List.mem_append.1 hx2 with h | h
        · exact ⟨x, (flt _ _ x h).1, hk⟩
        · rcases List.mem_singleton.1 h with rfl
          exact absurd hk hab
      · rintro ⟨x, hx, hk⟩
        obtain ⟨i, hi⟩ := List.getElem?_of_mem hx
        rcases old_mem hl a.key a.root a.err hi (by rw [hk]; exact fun e => hab e.symm) with h | ⟨_, h, _⟩
        · exact ⟨x, h, hk⟩
        · omega
    have cb2 : cnt b.key (putL a.key a.root a.err l) + 1 = (putL a.key a.root a.err l).length + (if ∃ x ∈ putL a.key a.root a.err l, x.key = b.key then 0 else 1) := by
      by_cases h : ∃ x ∈ putL a.key a.root a.err l, x.key = b.key
      · rw [if_pos h, cnt_yes hg.nod h]; rfl
      · rw [if_neg h, cnt_no (fun x hx e => h ⟨x, hx, e⟩)]
    rw [h2]
    show min 64 (cnt b.key (putL a.key a.root a.err l) + 1) = _
    have h1' : (putL a.key a.root a.err l).length = min 64 (cnt a.key l + 1) := h1
    rw [cb2, h1', ca]
    by_cases hlt : l.length < 64
    · have := cb hlt
      by_cases h3 : ∃ x ∈ l, x.key = b.key
      · rw [if_pos h3, if_pos (this.2 h3)]; split <;> omega
      · rw [if_neg h3, if_neg (fun h => h3 (this.1 h))]; split <;> omega
    · have : l.length = 64 := by omega
      split <;> split <;> split <;> omega
  rw [key a b hab, key b a (fun e => hab e.symm)]
  congr 1
  omega
end Go.Proofs.YtlipahfkfhcniaaDoor
