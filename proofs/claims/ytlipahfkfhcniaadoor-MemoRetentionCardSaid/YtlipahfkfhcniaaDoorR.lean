import Derived.Test.YtlipahfkfhcniaaDoorM
namespace Go.Proofs.YtlipahfkfhcniaaDoor
/-- the different numbers, in the order of their last places -/
def lastD (ns : List Int) : Nat → List (Int × Nat)
  | 0 => []
  | k + 1 => (lastD ns k).filter (fun x => !(x.1 == ns.getD k 0)) ++ [(ns.getD k 0, k)]
def keyN (n : Int) : ByteArray := strOfNums [107, n]
def entN (x : Int × Nat) : Ent := newE (keyN x.1) 0 x.2
def memoD (D : List (Int × Nat)) : List Ent := (D.map entN).drop (D.length - 64)
theorem lastD_lt (ns : List Int) : ∀ k, ∀ x ∈ lastD ns k, x.2 < k ∧ x.1 = ns.getD x.2 0
  | 0, x, h => by cases h
  | k + 1, x, h => by
    rcases List.mem_append.1 h with h | h
    · obtain ⟨h1, h2⟩ := lastD_lt ns k x (List.mem_filter.1 h).1
      exact ⟨by omega, h2⟩
    · rw [List.mem_singleton.1 h]; exact ⟨by simp, rfl⟩
theorem lastD_nodup (ns : List Int) : ∀ k, ((lastD ns k).map (·.1)).Nodup
  | 0 => by simp [lastD]
  | k + 1 => by
    rw [lastD, List.map_append, List.nodup_append]
    refine ⟨(lastD_nodup ns k).sublist (List.Sublist.map _ List.filter_sublist), by simp, ?_⟩
    intro a ha b hb e
    obtain ⟨x, hx, rfl⟩ := List.mem_map.1 ha
    have h2 := (List.mem_filter.1 hx).2
    simp at hb h2
    exact h2 (e.trans hb)
theorem lastD_sorted (ns : List Int) : ∀ k, (lastD ns k).Pairwise (fun a b => a.2 < b.2)
  | 0 => List.Pairwise.nil
  | k + 1 => by
    rw [lastD, List.pairwise_append]
    refine ⟨(lastD_sorted ns k).sublist List.filter_sublist, by simp, ?_⟩
    intro a ha b hb
    rw [List.mem_singleton.1 hb]
    exact (lastD_lt ns k a (List.mem_filter.1 ha).1).1
theorem entN_key (x : Int × Nat) : (entN x).key = keyN x.1 := rfl
theorem keyN_size (n : Int) : (keyN n).size = 2 := by rw [keyN, strOfNums_size]; rfl
theorem keyN_inj {a b : Int} (ha : 0 ≤ a ∧ a < 256) (hb : 0 ≤ b ∧ b < 256) (h : keyN a = keyN b) : a = b := by
  have h1 : (keyN a).data.toList = (keyN b).data.toList := by rw [h]
  simp only [keyN, strOfNums_data, List.map_cons, List.map_nil, List.cons.injEq, and_true, true_and] at h1
  have h2 := congrArg UInt8.toNat h1
  simp at h2
  omega
def Byt (D : List (Int × Nat)) : Prop := ∀ x ∈ D, 0 ≤ x.1 ∧ x.1 < 256
theorem ent_key (D : List (Int × Nat)) : (D.map entN).map (·.key) = D.map (fun x => keyN x.1) := by
  rw [List.map_map]; rfl
theorem keys_nodup {D : List (Int × Nat)} (hB : Byt D) (hn : (D.map (·.1)).Nodup) : ((D.map entN).map (·.key)).Nodup := by
  rw [ent_key]
  induction D with
  | nil => simp
  | cons x r ih =>
    rw [List.map_cons, List.nodup_cons] at hn ⊢
    refine ⟨fun h => ?_, ih (fun y hy => hB y (List.mem_cons_of_mem _ hy)) hn.2⟩
    obtain ⟨y, hy, he⟩ := List.mem_map.1 h
    have := keyN_inj (hB y (List.mem_cons_of_mem _ hy)) (hB x List.mem_cons_self) he
    exact hn.1 (this ▸ List.mem_map_of_mem hy)
theorem filter_ent {D : List (Int × Nat)} (hB : Byt D) {n : Int} (hn : 0 ≤ n ∧ n < 256) : (D.map entN).filter (fun x => !(eqB x.key (keyN n))) = (D.filter (fun x => !(x.1 == n))).map entN := by
  induction D with
  | nil => rfl
  | cons x r ih =>
    have ih := ih (fun y hy => hB y (List.mem_cons_of_mem _ hy))
    have hx := hB x List.mem_cons_self
    rw [List.map_cons]
    by_cases he : x.1 = n
    · have h1 : eqB (entN x).key (keyN n) = true := (eqB_iff _ _).2 (by show keyN x.1 = keyN n; rw [he])
      have h2 : (x.1 == n) = true := by simp [he]
      rw [List.filter_cons, h1, List.filter_cons, h2]
      simpa using ih
    · have h1 : eqB (entN x).key (keyN n) = false := eqB_false (fun e => he (keyN_inj hx hn e))
      have h2 : (x.1 == n) = false := by simpa using he
      rw [List.filter_cons, h1, List.filter_cons, h2]
      simpa using ih
theorem filter_len {D : List (Int × Nat)} (hn : (D.map (·.1)).Nodup) (n : Int) : D.length ≤ (D.filter (fun x => !(x.1 == n))).length + 1 := by
  induction D with
  | nil => simp
  | cons x r ih =>
    rw [List.map_cons, List.nodup_cons] at hn
    by_cases he : x.1 = n
    · have hr : r.filter (fun x => !(x.1 == n)) = r := List.filter_eq_self.2 (fun y hy => by
        have : y.1 ≠ n := fun e => hn.1 (by rw [he, ← e]; exact List.mem_map_of_mem hy)
        simpa using this)
      have h2 : (x.1 == n) = true := by simp [he]
      rw [List.filter_cons, h2]
      simp [hr]
    · have h2 : (x.1 == n) = false := by simpa using he
      have := ih hn.2
      rw [List.filter_cons, h2]
      simp; omega
/-- PUTTING IS: strike the number, lay it at the end, keep the last 64. -/
theorem memo_step {D : List (Int × Nat)} (hB : Byt D) (hn : (D.map (·.1)).Nodup) {n : Int} (hnb : 0 ≤ n ∧ n < 256) (k : Nat) :
    putL (keyN n) 0 k (memoD D) = memoD (D.filter (fun x => !(x.1 == n)) ++ [(n, k)]) := by
  have hd : memoD D = (D.drop (D.length - 64)).map entN := by rw [memoD, List.map_drop]
  have hBd : Byt (D.drop (D.length - 64)) := fun x hx => hB x (List.mem_of_mem_drop hx)
  have hnd : ((D.drop (D.length - 64)).map (·.1)).Nodup := hn.sublist (List.Sublist.map _ (List.drop_sublist _ _))
  have hA : D = D.take (D.length - 64) ++ D.drop (D.length - 64) := (List.take_append_drop _ _).symm
  have hlB : (D.drop (D.length - 64)).length = D.length - (D.length - 64) := List.length_drop
  have hlA : (D.take (D.length - 64)).length = D.length - 64 := by rw [List.length_take]; omega
  have hfl := filter_len hnd n
  rw [hd]
  unfold putL putAll
  rw [filter_ent hBd hnb]
  have he : newE (keyN n) 0 (k : Int) = entN (n, k) := rfl
  rw [he]
  have e1 : ((D.drop (D.length - 64)).filter (fun x => !(x.1 == n))).map entN ++ [entN (n, k)] = ((D.drop (D.length - 64)).filter (fun x => !(x.1 == n)) ++ [(n, k)]).map entN := by simp
  have e2 : D.filter (fun x => !(x.1 == n)) = (D.take (D.length - 64)).filter (fun x => !(x.1 == n)) ++ (D.drop (D.length - 64)).filter (fun x => !(x.1 == n)) := by rw [← List.filter_append, ← hA]
  rw [e1, memoD, e2, List.append_assoc]
  generalize hF : (D.drop (D.length - 64)).filter (fun x => !(x.1 == n)) = F at *
  have hlF : D.length - 64 = 0 ∨ 63 ≤ F.length := by omega
  have hG : ((D.take (D.length - 64)).filter (fun x => !(x.1 == n))).length ≤ D.length - 64 := by have := List.length_filter_le (fun x : Int × Nat => !(x.1 == n)) (D.take (D.length - 64)); omega
  generalize (D.take (D.length - 64)).filter (fun x => !(x.1 == n)) = G at *
  rw [List.length_map]
  have hm : ∀ (G X : List (Int × Nat)), G.length = 0 ∨ 64 ≤ X.length → (X.map entN).drop (X.length - 64) = ((G ++ X).map entN).drop ((G ++ X).length - 64) := by
    intro G X h
    rcases h with h | h
    · obtain rfl := List.eq_nil_of_length_eq_zero h; simp
    · rw [List.map_append, List.drop_append, List.length_append, List.length_map]
      have h0 : (G.map entN).drop (G.length + X.length - 64) = [] := List.drop_of_length_le (by rw [List.length_map]; omega)
      rw [h0, List.nil_append]
      congr 1
      omega
  exact hm G (F ++ [(n, k)]) (by rw [List.length_append, List.length_singleton]; omega)
def behindN (D : List (Int × Nat)) (at_ : Nat) : Nat := (D.filter (fun y => decide (at_ < y.2))).length
theorem behind_eq {A B : List (Int × Nat)} {x : Int × Nat} (hs : (A ++ x :: B).Pairwise (fun a b => a.2 < b.2)) : behindN (A ++ x :: B) x.2 = B.length := by
  rw [List.pairwise_append, List.pairwise_cons] at hs
  obtain ⟨_, ⟨h2, _⟩, h3⟩ := hs
  unfold behindN
  rw [List.filter_append, List.filter_cons]
  have e1 : A.filter (fun y => decide (x.2 < y.2)) = [] := List.filter_eq_nil_iff.2 (fun a ha => by have := h3 a ha x List.mem_cons_self; simp; omega)
  have e2 : B.filter (fun y => decide (x.2 < y.2)) = B := List.filter_eq_self.2 (fun b hb => by have := h2 b hb; simpa using this)
  rw [e1, e2]
  simp
theorem memo_get {D : List (Int × Nat)} (hB : Byt D) (hn : (D.map (·.1)).Nodup) (hs : D.Pairwise (fun a b => a.2 < b.2)) {x : Int × Nat} (hx : x ∈ D) :
    (behindN D x.2 < 64 → (memoD D).find? (hit (keyN x.1)) = some (entN x)) ∧ (64 ≤ behindN D x.2 → (memoD D).find? (hit (keyN x.1)) = none) := by
  obtain ⟨A, B, rfl⟩ := List.append_of_mem hx
  rw [behind_eq hs]
  have hk := keys_nodup hB hn
  have hsum : ∀ y ∈ memoD (A ++ x :: B), y.sum = sumF y.key := by
    intro y hy
    obtain ⟨z, _, rfl⟩ := List.mem_map.1 (List.mem_of_mem_drop hy)
    rfl
  have hlen : (A ++ x :: B).length = A.length + 1 + B.length := by simp; omega
  constructor
  · intro hb
    have hm : entN x ∈ memoD (A ++ x :: B) := by
      unfold memoD
      rw [hlen, List.map_append, List.drop_append_of_le_length (by rw [List.length_map]; omega)]
      exact List.mem_append.2 (.inr List.mem_cons_self)
    have hnd : ((memoD (A ++ x :: B)).map (·.key)).Nodup := hk.sublist (List.Sublist.map _ (List.drop_sublist _ _))
    have hf := find_mem hnd hsum hm
    rw [entN_key] at hf
    exact hf
  · intro hb
    refine find_no fun y hy => ?_
    unfold memoD at hy
    rw [hlen, List.map_append, List.drop_append, List.drop_of_length_le (by rw [List.length_map]; omega), List.nil_append, List.length_map, List.map_cons,
      show A.length + 1 + B.length - 64 - A.length = (B.length - 64) + 1 by omega, List.drop_succ_cons] at hy
    have hyB := List.mem_of_mem_drop hy
    rw [List.map_append, List.map_append, List.map_cons, List.map_cons, List.nodup_append, List.nodup_cons] at hk
    have hk2 : keyN x.1 ∉ (B.map entN).map (·.key) := hk.2.1.1
    intro e
    rw [← e] at hk2
    exact hk2 (List.mem_map_of_mem hyB)
theorem memo_len (D : List (Int × Nat)) : (memoD D).length = min 64 D.length := by unfold memoD; rw [List.length_drop, List.length_map]; omega
theorem memo_nil (D : List (Int × Nat)) : NilB (memoD D) := by
  intro y hy
  obtain ⟨z, _, rfl⟩ := List.mem_map.1 (List.mem_of_mem_drop hy)
  exact ⟨rfl, rfl⟩
theorem lastD_byt {ns : List Int} (h : ∀ n ∈ ns, 0 ≤ n ∧ n < 256) : ∀ k, k ≤ ns.length → Byt (lastD ns k)
  | 0, _, x, hx => by cases hx
  | k + 1, hk, x, hx => by
    rcases List.mem_append.1 hx with hx | hx
    · exact lastD_byt h k (by omega) x (List.mem_filter.1 hx).1
    · rw [List.mem_singleton.1 hx]
      refine h _ ?_
      show ns.getD k 0 ∈ ns
      rw [List.getD, List.getElem?_eq_getElem (by omega : k < ns.length)]
      exact List.getElem_mem _
end Go.Proofs.YtlipahfkfhcniaaDoor
