import Derived.WalkKit
import Derived.KernelRfl
import Derived.Lib.Hide
import Derived.Laws.AppendOwn
import Derived.Laws.CopyRow
import Derived.Deep.MidRow
namespace Go.Proofs.YteigcnamkfebgaaGreatDoor
open Go.RowKit
/-! Rows of structs, of whatever type: each element is k cells. -/
section
variable {P : Program}
theorem run_store_own {w : World} {base : Nat} {e : TypeId} {size n cap g : Nat} {xs : List Value} (h : w.ownsRow base e size (.slice (some ⟨g, 0, none⟩) n cap) n xs) (o : Nat) (vs : List Value) (ho : o + vs.length ≤ n * size) (h1 : ∀ v ∈ vs, v.oneCell' = true) :
    ∃ w', (storeCells ⟨g, o, none⟩ vs).run P w = .ok () w' ∧ w'.ownsRow base e size (.slice (some ⟨g, 0, none⟩) n cap) n (xs.take o ++ vs ++ xs.drop (o + vs.length)) ∧ w.grownBy w' (some g) := by
  obtain ⟨hx, h2⟩ := h
  rcases h2 with ⟨h2, _⟩ | ⟨g', cap', cur, hv, hb, hg, hn, hm, hcs, htake⟩
  · cases h2
  · simp at hv
    obtain ⟨rfl, rfl⟩ := hv
    have hle : n * size ≤ cur.size := by rw [hcs]; exact Nat.mul_le_mul_right _ hn
    have hr := run_storeCells_at P g o e vs 0 cur w hg (by omega) h1
    simp only [Nat.add_zero] at hr
    refine ⟨_, hr, ⟨?_, .inr ⟨g, cap, _, rfl, hb, setRow_heap w g cur _ e _ hg, hn, hm, ?_, ?_⟩⟩, ⟨rfl, rfl, rfl, by simp, fun k _ hk => setRow_other w g k _ (fun e => hk (by simp [e]))⟩⟩
    · simp only [List.length_append, List.length_take, List.length_drop]; omega
    · simp only [List.size_toArray, List.length_append, List.length_take, List.length_drop, Array.length_toList]; omega
    · subst htake
      have hl : cur.toList.length = cur.size := Array.length_toList
      apply List.ext_getElem?
      intro k
      simp only [List.getElem?_take, List.getElem?_append, List.length_append, List.length_take, List.getElem?_drop, hl]
      have e1 : min o cur.size = o := by omega
      have e2 : min o (min (n * size) cur.size) = o := by omega
      simp only [e1, e2]
      by_cases hk : k < n * size
      · rw [if_pos hk]
        by_cases hk1 : k < o + vs.length
        · rw [if_pos hk1, if_pos hk1]
          by_cases hk2 : k < o
          · rw [if_pos hk2, if_pos hk2, if_pos hk2, if_pos hk2, if_pos hk]
          · rw [if_neg hk2, if_neg hk2]
        · rw [if_neg hk1, if_neg hk1, if_pos (by omega)]
      · rw [if_neg hk, if_neg (by omega), if_neg (by omega)]
theorem wpList_store_own {ops : Array Oper} {rest : List Oper} {o : Oper} {a : Act} {w : World} {Q : Exit → Act → World → Prop} (hgd : o.guard = none) (ty : TypeId) (x y : Operand) (ho : o.op = .store ty x y)
    (g off : Nat) (cells : Array Value) (hx : a.eval x = .pointer (some ⟨g, off, none⟩)) (hy : a.eval y = .agg cells)
    (base : Nat) (e : TypeId) (size n cap : Nat) (xs : List Value) (hown : w.ownsRow base e size (.slice (some ⟨g, 0, none⟩) n cap) n xs) (hi : (P.info? ty).map (·.size) = some cells.size) (hle : off + cells.size ≤ n * size) (h1 : cells.all (·.oneCell') = true)
    (h : ∀ w', w'.ownsRow base e size (.slice (some ⟨g, 0, none⟩) n cap) n (xs.take off ++ cells.toList ++ xs.drop (off + cells.size)) → w.grownBy w' (some g) → wpList P ops Q rest (a.put o.dst undef) w') : wpList P ops Q (o :: rest) a w := by
  refine wpList_plain hgd fun K hK => ?_
  obtain ⟨w', hr, h2, h3⟩ := run_store_own (P := P) hown off cells.toList (by simpa using hle) (fun v hv => (Array.all_eq_true_iff_forall_mem.1 h1) v (by simpa using hv))
  have hs : (storeVar ty ⟨g, off, none⟩ (.agg cells)).run P w = .ok () w' := by
    cases hq : P.info? ty with
    | none => simp [hq] at hi
    | some i =>
      have hs : cells.size = i.size := by simp [hq] at hi; omega
      simp [storeVar, sizeOf, typeInfo, hq, Value.cells, hs, hr]
  unfold Oper.wp execOp
  simp only [ho, hx, hy, Instr.storeAt, Instr.sureAddr, Sem.run_bind, Sem.run_pure, Result.andThen_ok, hs]
  refine hK _ _ (h w' ?_ h3)
  rw [Array.length_toList] at h2
  exact h2
/-- 'clear(s[k:])' on a row of the call's own. -/
theorem run_clear_own {w : World} {base : Nat} {t e : TypeId} {size n cap g : Nat} {xs : List Value} {z : Value} (ty : TypeId) (ht : P.underlying t = some (.slice e)) (hz : ∀ w, (zeroValue e).run P w = .ok z w) (hzs : z.cells.size = size) (hz1 : ∀ v ∈ z.cells, v.oneCell' = true)
    (h : w.ownsRow base e size (.slice (some ⟨g, 0, none⟩) n cap) n xs) (k c : Nat) (hk : k < n) :
    ∃ w', (Builtin.clear_ #[t] ty #[.slice (some ⟨g, k * size, none⟩) (n - k) c]).run P w = .ok (.tuple #[]) w' ∧ w'.ownsRow base e size (.slice (some ⟨g, 0, none⟩) n cap) n (xs.take (k * size) ++ (Builtin.zeroCells z.cells (n - k)).toList) ∧ w.grownBy w' (some g) := by
  have hl : (Builtin.zeroCells z.cells (n - k)).toList.length = (n - k) * size := by rw [Array.length_toList, size_zeroCells, hzs]
  have hmul : k * size + (n - k) * size = n * size := by rw [← Nat.add_mul]; congr 1; omega
  obtain ⟨w', hr, h2, h3⟩ := run_store_own (P := P) h (k * size) (Builtin.zeroCells z.cells (n - k)).toList (by rw [hl, hmul]; exact Nat.le_refl _) (fun v hv => by
    have hv' : v ∈ Builtin.zeroCells z.cells (n - k) := by simpa using hv
    simp [Builtin.zeroCells] at hv'
    obtain ⟨q, hq, rfl⟩ := hv'
    have hp : 0 < z.cells.size := by
      rcases Nat.eq_zero_or_pos z.cells.size with h0 | h0
      · rw [h0] at hq; omega
      · exact h0
    have hm : q % z.cells.size < z.cells.size := Nat.mod_lt _ hp
    rw [getElem!_pos z.cells _ hm]
    exact hz1 _ (Array.getElem_mem hm))
  refine ⟨w', ?_, ?_, h3⟩
  · obtain ⟨m, hm⟩ : ∃ m, n - k = m + 1 := ⟨n - k - 1, by omega⟩
    rw [hm] at hr ⊢
    simp [Builtin.clear_, run_underlying ht, hz, hr]
  · rw [hl, hmul, List.drop_of_length_le (by rw [h.1]; exact Nat.le_refl _), List.append_nil] at h2
    exact h2
end
section
variable {P : Program} (w : World)
theorem run_append_src (base : Nat) (t ty e : TypeId) (i : TypeInfo) (z : Value) (size bytes : Nat) (ht : P.underlying t = some (.slice e)) (hi : P.info? e = some i) (hz : i.zero = some z)
    (hsize : i.size = size) (hby : i.bytes = bytes) (hzs : z.cells.size = size) (hsz : 0 < size)
    (v : Value) (n : Nat) (xs : List Value) (hown : w.ownsRow base e size v n xs)
    (ao : Option Addr) (m c : Nat) (news : List Value) (hl : news.length = m * size) (hnews : 0 < m → ∃ ad, ao = some ad ∧ ∀ j u, news[j]? = some u → w.cell? (ad.add j) = some u) (h1 : ∀ u ∈ news, u.oneCell' = true)
    (h63 : n + m ≤ maxLen) (hbytes : (n + m) * bytes ≤ 140737488355328) (hbase : base ≤ w.heap.size) :
    ∃ v' w', (Builtin.append_ #[t, t] ty #[v, .slice ao m c]).run P w = .ok v' w' ∧ w'.ownsRow base e size v' (n + m) (xs ++ news) ∧ w.grownBy w' v.ownBlock := by
  by_cases hm : 0 < m
  · obtain ⟨ad, rfl, hn⟩ := hnews hm
    obtain ⟨v', w', h1, h2, h3, _⟩ := run_append_own (P := P) w base t ty e i z size bytes ht hi hz hsize hby hzs hsz v n xs hown ad m c news hl hn h1 h63 hbytes hbase
    exact ⟨v', w', h1, h2, h3⟩
  · obtain rfl : m = 0 := by omega
    have hn : news = [] := List.eq_nil_of_length_eq_zero (by simpa using hl)
    subst hn
    refine ⟨v, w, ?_, by simpa using hown, ⟨rfl, rfl, rfl, Nat.le_refl _, fun _ _ _ => rfl⟩⟩
    have hf : (Builtin.firstCells i.size 0 (.slice ao 0 c)).run P w = .ok #[] w := by
      cases ao with
      | none => simp [Builtin.firstCells]
      | some ad => simp [Builtin.firstCells, loadCells, loadCellsFrom]
    rcases hown.2 with ⟨rfl, rfl⟩ | ⟨g, cap, cur, rfl, _, _, hc, _⟩
    · simp [Builtin.append_, run_underlying ht, sizeOf, typeInfo, hi, Builtin.lenOf, hf]
    · simp [Builtin.append_, run_underlying ht, sizeOf, typeInfo, hi, Builtin.lenOf, hf, hc, storeCells]
theorem step_append_src {ops : Array Oper} {o : Oper} {a : Act} {K : Act → World → Prop} {Q : Exit → Act → World → Prop} {E : Prop} (hgd : o.guard = none) (s x : Operand) (t : TypeId)
    (ho : o.op = .call { callee := .builtin .append, args := #[s, x], argTypes := #[t, t] })
    (base : Nat) (e : TypeId) (i : TypeInfo) (z : Value) (size bytes : Nat) (ht : P.underlying t = some (.slice e)) (hi : P.info? e = some i) (hz : i.zero = some z)
    (hsize : i.size = size) (hby : i.bytes = bytes) (hzs : z.cells.size = size) (hsz : 0 < size)
    (v : Value) (n : Nat) (xs : List Value) (hs : a.eval s = v) (hown : w.ownsRow base e size v n xs)
    (ao : Option Addr) (m c : Nat) (news : List Value) (hx : a.eval x = .slice ao m c) (hl : news.length = m * size) (hnews : 0 < m → ∃ ad, ao = some ad ∧ ∀ j u, news[j]? = some u → w.cell? (ad.add j) = some u) (h1 : ∀ u ∈ news, u.oneCell' = true)
    (h63 : n + m ≤ maxLen) (hbytes : (n + m) * bytes ≤ 140737488355328) (hbase : base ≤ w.heap.size)
    (h : ∀ v' w', w'.ownsRow base e size v' (n + m) (xs ++ news) → w.grownBy w' v.ownBlock → K (a.put o.dst v') w') :
    if Region.wanted o (yielded ops a.tmps) = true then Oper.wp P o a w K Q else E := by
  have hw : Region.wanted o (yielded ops a.tmps) = true := by simp [Region.wanted, hgd]
  rw [if_pos hw]
  obtain ⟨v', w', hr, h2, h3⟩ := run_append_src (P := P) w base t o.type e i z size bytes ht hi hz hsize hby hzs hsz v n xs hown ao m c news hl hnews h1 h63 hbytes hbase
  unfold Oper.wp execOp
  simp only [ho, resolve, invoke, builtin, Sem.run_bind, Sem.run_pure, Result.andThen_ok, List.map_toArray, List.map_cons, List.map_nil, hs, hx, hr]
  exact h v' w' h2 h3
end
theorem rangeAt_below {w w' : World} {b o : Nat} {cs : List Value} (h : w.rangeAt b o cs) (hb : Below w.heap.size w w') : w'.rangeAt b o cs := fun j v hj => by
  have h1 := h j v hj
  exact (hb.cell (p := ⟨b, o + j, none⟩) (World.block_lt_of_cell? w _ h1)).trans h1
theorem ownsRow_cut {w : World} {base : Nat} {e : TypeId} {size n cap g : Nat} {xs : List Value} (h : w.ownsRow base e size (.slice (some ⟨g, 0, none⟩) n cap) n xs) (i : Nat) (hi : i ≤ n) :
    w.ownsRow base e size (.slice (some ⟨g, 0, none⟩) i cap) i (xs.take (i * size)) := by
  obtain ⟨hx, h2⟩ := h
  have him : i * size ≤ n * size := Nat.mul_le_mul_right _ hi
  rcases h2 with ⟨h2, _⟩ | ⟨g', cap', cur, hv, hb, hg, hn, hm, hcs, htake⟩
  · cases h2
  · simp at hv
    obtain ⟨rfl, rfl⟩ := hv
    refine ⟨by rw [List.length_take, hx]; omega, .inr ⟨g, cap, cur, rfl, hb, hg, by omega, hm, hcs, ?_⟩⟩
    rw [← htake, List.take_take, Nat.min_eq_left him]
theorem ownsRow_rangeAt {w : World} {base : Nat} {e : TypeId} {size n cap g : Nat} {xs : List Value} (h : w.ownsRow base e size (.slice (some ⟨g, 0, none⟩) n cap) n xs) : w.rangeAt g 0 xs := fun j v hj => by
  have := h.cells (g := g) rfl j v hj
  have hadd : (⟨g, 0, none⟩ : Addr).add j = ⟨g, 0 + j, none⟩ := by unfold Addr.add; split <;> simp_all
  rw [hadd] at this; exact this

structure Lay (E : Type) where
  k : Nat
  V : E → List Value
  len : ∀ x, (V x).length = k
  one : ∀ x, ∀ u ∈ V x, u.oneCell' = true
section
variable {E : Type} (Y : Lay E)
def Lay.flat (l : List E) : List Value := l.flatMap Y.V
theorem Lay.flat_nil : Y.flat [] = [] := rfl
theorem Lay.flat_cons (x : E) (l : List E) : Y.flat (x :: l) = Y.V x ++ Y.flat l := rfl
theorem Lay.flat_append (l m : List E) : Y.flat (l ++ m) = Y.flat l ++ Y.flat m := by simp [Lay.flat]
theorem Lay.flat_length (l : List E) : (Y.flat l).length = l.length * Y.k := by
  induction l with
  | nil => simp [Lay.flat]
  | cons x l ih => rw [Y.flat_cons, List.length_append, ih, Y.len, List.length_cons, Nat.add_mul, Nat.one_mul, Nat.add_comm]
theorem Lay.flat_get (l : List E) : ∀ (i j : Nat) (x : E), l[i]? = some x → j < Y.k → (Y.flat l)[i * Y.k + j]? = (Y.V x)[j]? := by
  induction l with
  | nil => intro i j x h; simp at h
  | cons y l ih =>
    intro i j x h hj
    cases i with
    | zero =>
      simp at h; subst h
      rw [Y.flat_cons, List.getElem?_append_left (by rw [Y.len]; omega)]; simp
    | succ i =>
      simp at h
      rw [Y.flat_cons, List.getElem?_append_right (by rw [Y.len, Nat.add_mul]; omega), Y.len, show (i + 1) * Y.k + j - Y.k = i * Y.k + j by rw [Nat.add_mul]; omega]
      exact ih i j x h hj
theorem Lay.flat_one (l : List E) : ∀ u ∈ Y.flat l, u.oneCell' = true := by
  intro u hu
  simp only [Lay.flat, List.mem_flatMap] at hu
  obtain ⟨x, _, hu⟩ := hu
  exact Y.one x u hu
theorem Lay.flat_set (L : List E) (i : Nat) (x : E) (hi : i < L.length) : (Y.flat L).take (i * Y.k) ++ Y.V x ++ (Y.flat L).drop (i * Y.k + Y.k) = Y.flat (L.set i x) := by
  induction L generalizing i with
  | nil => simp at hi
  | cons y r ih =>
    cases i with
    | zero =>
      rw [List.set_cons_zero, Y.flat_cons, Y.flat_cons, Nat.zero_mul, List.take_zero, Nat.zero_add, List.drop_append, List.drop_of_length_le (by rw [Y.len]; omega), Y.len]
      simp
    | succ i =>
      have h := ih i (by simpa using hi)
      rw [List.set_cons_succ, Y.flat_cons, Y.flat_cons, ← h, Nat.add_mul, Nat.one_mul]
      rw [List.take_append, List.take_of_length_le (by rw [Y.len]; omega), Y.len, List.drop_append, List.drop_of_length_le (by rw [Y.len]; omega), Y.len]
      rw [show i * Y.k + Y.k - Y.k = i * Y.k by omega, show i * Y.k + Y.k + Y.k - Y.k = i * Y.k + Y.k by omega]
      simp
theorem Lay.flat_take (L : List E) (i : Nat) : (Y.flat L).take (i * Y.k) = Y.flat (L.take i) := by
  induction L generalizing i with
  | nil => simp [Lay.flat]
  | cons y r ih =>
    cases i with
    | zero => simp [Lay.flat]
    | succ i =>
      rw [List.take_succ_cons, Y.flat_cons, Y.flat_cons, Nat.add_mul, Nat.one_mul, List.take_append, List.take_of_length_le (by rw [Y.len]; omega), Y.len, show i * Y.k + Y.k - Y.k = i * Y.k by omega, ih]
def Lay.Rd (w : World) (v : Value) (l : List E) : Prop :=
  (v = .slice none 0 0 ∧ l = []) ∨ ∃ b off cap, v = .slice (some ⟨b, off, none⟩) l.length cap ∧ l.length ≤ cap ∧ w.rangeAt b off (Y.flat l)
theorem Lay.Rd.below {Y : Lay E} {w w' : World} {v : Value} {l : List E} (h : Y.Rd w v l) (hb : Below w.heap.size w w') : Y.Rd w' v l := by
  rcases h with h | ⟨b, off, cap, h1, h2, h3⟩
  · exact .inl h
  · exact .inr ⟨b, off, cap, h1, h2, rangeAt_below h3 hb⟩
theorem Lay.Rd.alloc {Y : Lay E} {w : World} {v : Value} {l : List E} (h : Y.Rd w v l) (o : Obj) : Y.Rd (w.alloc o) v l := h.below ((Below.refl _ _).alloc (Nat.le_refl _) o)
theorem Lay.Rd.drew {Y : Lay E} {w : World} {v : Value} {l : List E} (h : Y.Rd w v l) : Y.Rd w.drew v l := h.below (Below.refl _ _).drew
theorem Lay.Rd.form {Y : Lay E} {w : World} {v : Value} {l : List E} (h : Y.Rd w v l) : ∃ a n c, v = .slice a n c := by
  rcases h with ⟨rfl, _⟩ | ⟨b, off, cap, rfl, _⟩
  · exact ⟨_, _, _, rfl⟩
  · exact ⟨_, _, _, rfl⟩
theorem Lay.Rd.len {Y : Lay E} {w : World} {a : Option Addr} {n c : Nat} {l : List E} (h : Y.Rd w (.slice a n c) l) : n = l.length := by
  rcases h with ⟨h1, h2⟩ | ⟨b, off, cap, h1, _⟩
  · simp at h1; rw [h2]; exact h1.2.1
  · simp at h1; exact h1.2.1
theorem Lay.elem {w : World} {b off : Nat} {l : List E} (h : w.rangeAt b off (Y.flat l)) (i : Nat) (x : E) (hx : l[i]? = some x) : w.rangeAt b (off + i * Y.k) (Y.V x) := fun j v hj => by
  have hjk : j < Y.k := by
    have := (List.getElem?_eq_some_iff.1 hj).1
    rw [Y.len] at this
    exact this
  rw [Nat.add_assoc]
  exact h (i * Y.k + j) v (by rw [Y.flat_get l i j x hx hjk]; exact hj)
theorem Lay.Rd.of_owns {Y : Lay E} {w : World} {base : Nat} {e : TypeId} {v : Value} {l : List E} (h : w.ownsRow base e Y.k v l.length (Y.flat l)) : Y.Rd w v l := by
  rcases h.2 with ⟨h1, h2⟩ | ⟨g, cap, cur, h1, _, _, h4, _⟩
  · exact .inl ⟨h1, List.length_eq_zero_iff.1 h2⟩
  · subst h1; exact .inr ⟨g, 0, cap, rfl, h4, ownsRow_rangeAt h⟩
end
theorem below_none {w w' : World} (hb : Below w.heap.size w w') : w.grownBy w' none := ⟨hb.os, hb.tape, hb.output, hb.size, fun i hi _ => hb.block i hi⟩
theorem ownsRow_below {w w' : World} {base n size : Nat} {e : TypeId} {v : Value} {xs : List Value} (h : w.ownsRow base e size v n xs) (hb : Below w.heap.size w w') : w'.ownsRow base e size v n xs :=
  h.kept (row := none) (below_none hb) (by cases v.ownBlock <;> simp)
theorem list_snoc {E : Type} (l : List E) (j : Nat) (x : E) (h : l[j]? = some x) : l.take (j + 1) = l.take j ++ [x] := by
  obtain ⟨h1, h2⟩ := List.getElem?_eq_some_iff.1 h
  rw [List.take_succ_eq_append_getElem h1, h2]
def idxL {E : Type} (p : E → Bool) : List E → Nat → Int
  | [], _ => -1
  | x :: r, k => if p x then (k : Int) else idxL p r (k + 1)
theorem idxL_skip {E : Type} (p : E → Bool) (l : List E) : ∀ (n k : Nat), (∀ i x, i < n → l[i]? = some x → p x = false) → n ≤ l.length → idxL p l k = idxL p (l.drop n) (k + n) := by
  induction l with
  | nil => intro n k _ h; simp at h; subst h; rfl
  | cons y r ih =>
    intro n k h hn
    cases n with
    | zero => rfl
    | succ n =>
      have h0 := h 0 y (by omega) rfl
      simp only [idxL, h0, List.drop_succ_cons]
      rw [if_neg (by simp), ih n (k + 1) (fun i x hi hx => h (i + 1) x (by omega) (by simpa using hx)) (by simpa using hn)]
      congr 1; omega
theorem idxL_spec {E : Type} (p : E → Bool) (l : List E) : ∀ k : Nat, (idxL p l k = -1 ∧ ∀ x ∈ l, p x = false) ∨ ∃ i x, idxL p l k = ((k + i : Nat) : Int) ∧ l[i]? = some x ∧ p x = true ∧ ∀ y ∈ l.take i, p y = false := by
  induction l with
  | nil => intro k; left; exact ⟨rfl, by simp⟩
  | cons y r ih =>
    intro k
    cases hy : p y with
    | true => right; exact ⟨0, y, by simp [idxL, hy], rfl, hy, by simp⟩
    | false =>
      rcases ih (k + 1) with ⟨h1, h2⟩ | ⟨i, x, h1, h2, h3, h4⟩
      · left
        refine ⟨by simp [idxL, hy, h1], ?_⟩
        intro x hx
        rcases List.mem_cons.1 hx with rfl | hx
        · exact hy
        · exact h2 x hx
      · right
        refine ⟨i + 1, x, by simp only [idxL, hy]; rw [if_neg (by simp), h1]; congr 1; omega, by simpa using h2, h3, ?_⟩
        intro z hz
        rcases List.mem_cons.1 (by simpa using hz) with rfl | hz
        · exact hy
        · exact h4 z hz
/-- where a strictly monotone test first fails, by halving, as slices.BinarySearchFunc goes -/
def bsearch {E : Type} (c : E → Int) (l : List E) : Nat → Nat → Nat → Nat
  | 0, i, _ => i
  | f + 1, i, j => if i < j then (match l[(i + j) / 2]? with | some x => if c x < 0 then bsearch c l f ((i + j) / 2 + 1) j else bsearch c l f i ((i + j) / 2) | none => i) else i
end Go.Proofs.YteigcnamkfebgaaGreatDoor
