import Derived.Test.YteigcnamkfebgaaGreatDoorAI
import Derived.Maps.OwnSet
import Derived.Maps.RangeWalk
namespace Go.Proofs.YteigcnamkfebgaaGreatDoor
open Go.RowKit
section
variable {P : Program} (w : World) {ops : Array Oper} {rest : List Oper} {o : Oper} {a : Act} {Q : Exit → Act → World → Prop}
theorem wpList_len_raw (hg : o.guard = none) (m : Operand) (t : TypeId) (hop : o.op = Op.call { callee := Callee.builtin Builtin.len, args := #[m], argTypes := #[t] }) (k e : TypeId) (ht : P.underlying t = some (.map k e))
    (b : Nat) (es : Array MapEntry) (clock : Nat) (hm : a.eval m = .map (some b)) (hb : w.heap[b]? = some (.map es clock)) (hK : wpList P ops Q rest (a.put o.dst (.int .i64 (es.size : Nat))) w) : wpList P ops Q (o :: rest) a w := by
  refine wpList_plain hg fun K' hK' => ?_
  have hrun : (Builtin.len_ #[t] o.type #[.map (some b)]).run P w = .ok (.int .i64 (es.size : Nat)) w := by
    simp [Builtin.len_, run_underlying ht, MapKept.run_getObj_map hb, goInt, Result.andThen]
  unfold Oper.wp
  simp [execOp, hop, resolve, invoke, builtin, hm, hrun, Result.andThen]
  exact hK' _ _ hK
theorem wpList_range_raw (hg : o.guard = none) (m : Operand) (t : TypeId) (hop : o.op = Op.range t m) (k e : TypeId) (ht : P.underlying t = some (.map k e)) (b : Nat) (es : Array MapEntry) (clock : Nat) (hm : a.eval m = .map (some b)) (hb : w.heap[b]? = some (.map es clock))
    (hK : wpList P ops Q rest (a.put o.dst (.pointer (some ⟨w.heap.size, 0, none⟩))) (w.alloc (.mapIter (some b) clock #[] clock))) : wpList P ops Q (o :: rest) a w := by
  refine wpList_plain hg fun K' hK' => ?_
  have hrun := run_range_map (P := P) w t k e b es clock ht hb
  unfold Oper.wp
  simp [execOp, hop, hm, hrun, Result.andThen]
  exact hK' _ _ hK
theorem wpList_next_raw (hg : o.guard = none) (it : Operand) (hop : o.op = Op.next it false) (r bm since : Nat) (seen : Array Nat) (es : Array MapEntry) (hit : a.eval it = .pointer (some ⟨r, 0, none⟩))
    (hr : w.heap[r]? = some (.mapIter (some bm) since seen since)) (hb : w.heap[bm]? = some (.map es since)) (hold : ∀ x ∈ es.toList, x.born < since) (hrb : r ≠ bm)
    (hDone : (leftOf es seen).size = 0 → wpList P ops Q rest (a.put o.dst (.tuple #[.bool false])) w)
    (hMore : ∀ (e : MapEntry) (w' : World), e ∈ (leftOf es seen).toList → w'.heap[r]? = some (.mapIter (some bm) since (seen.push e.born) since) → w'.heap[bm]? = some (.map es since) → w.grownBy w' (some r) → w'.heap.size = w.heap.size → wpList P ops Q rest (a.put o.dst (.tuple #[.bool true, e.key, e.val])) w') :
    wpList P ops Q (o :: rest) a w := by
  refine wpList_plain hg fun K' hK' => ?_
  unfold Oper.wp
  rcases run_next_at (P := P) w o.type r bm since since seen es since hr hb hold (Nat.le_refl _) with ⟨h0, hrun⟩ | ⟨e, he, w1, hw1, hrun⟩
  · simp [execOp, hop, hit, hrun, Result.andThen]
    exact hK' _ _ (hDone h0)
  · have hr1 : w1.heap[r]? = some (.mapIter (some bm) since seen since) := by rcases hw1 with rfl | rfl <;> exact hr
    have hb1 : w1.heap[bm]? = some (.map es since) := by rcases hw1 with rfl | rfl <;> exact hb
    have hg1 : w.grownBy w1 (some r) := by rcases hw1 with rfl | rfl <;> exact ⟨rfl, rfl, rfl, Nat.le_refl _, fun _ _ _ => rfl⟩
    have hs1 : w1.heap.size = w.heap.size := by rcases hw1 with rfl | rfl <;> rfl
    have hrl := lt_of_block hr1
    simp [execOp, hop, hit, hrun, Result.andThen]
    refine hK' _ _ (hMore e _ he ?_ ?_ ?_ ?_)
    · simp [ChangeMaps.setBlock, hrl]
    · simp only [ChangeMaps.setBlock]; rw [Array.getElem?_setIfInBounds_ne hrb]; exact hb1
    · exact ⟨hg1.os, hg1.tape, hg1.output, by simp [ChangeMaps.setBlock, hs1], fun i hi hne => by
        simp only [ChangeMaps.setBlock]
        rw [Array.getElem?_setIfInBounds_ne (fun e => hne (by rw [e]))]
        exact hg1.block i hi hne⟩
    · simp [ChangeMaps.setBlock, hs1]
end
def tnOf (e : EdD) : TnD := ⟨e.id, e.parent, e.neg, e.num, e.den, e.value⟩
def adds (E : List EdP) : List TnD := E.filterMap (fun e => if e.d.kind = 1 then some (tnOf e.d) else none)
def entOf (t : TnD) (i : Nat) : MapEntry := ⟨.agg #[.string t.node.a, .int .i64 t.node.n], .agg #[.string t.node.a, .int .i64 t.node.n, .string t.parent.a, .int .i64 t.parent.n, .bool t.neg, .string t.num, .string t.den, .string t.kind], i⟩
def entsFrom : List TnD → Nat → List MapEntry
  | [], _ => []
  | t :: r, i => entOf t i :: entsFrom r (i + 1)
theorem entsFrom_snoc (t : TnD) : ∀ (N : List TnD) (i : Nat), entsFrom (N ++ [t]) i = entsFrom N i ++ [entOf t (i + N.length)]
  | [], i => by simp [entsFrom]
  | x :: r, i => by simp [entsFrom, entsFrom_snoc t r (i + 1), Nat.add_assoc, Nat.add_comm 1]
def entsOf (N : List TnD) : Array MapEntry := (entsFrom N 0).toArray
theorem entsOf_snoc (N : List TnD) (t : TnD) : entsOf (N ++ [t]) = (entsOf N).push (entOf t N.length) := by
  simp [entsOf, entsFrom_snoc]
theorem adds_snoc1 {E : List EdP} {k : Nat} {e : EdP} (h : E[k]? = some e) (hk : e.d.kind = 1) : adds (E.take (k + 1)) = adds (E.take k) ++ [tnOf e.d] := by
  rw [list_snoc E k e h]; simp [adds, hk]
theorem adds_snoc0 {E : List EdP} {k : Nat} {e : EdP} (h : E[k]? = some e) (hk : e.d.kind ≠ 1) : adds (E.take (k + 1)) = adds (E.take k) := by
  rw [list_snoc E k e h]; simp [adds, hk]
theorem entsFrom_mem : ∀ (N : List TnD) (i : Nat) (x : MapEntry), x ∈ entsFrom N i → ∃ j t, N[j]? = some t ∧ x = entOf t (i + j)
  | [], i, x, h => by simp [entsFrom] at h
  | y :: r, i, x, h => by
    simp only [entsFrom, List.mem_cons] at h
    rcases h with rfl | h
    · exact ⟨0, y, rfl, rfl⟩
    · obtain ⟨j, t, h1, h2⟩ := entsFrom_mem r (i + 1) x h
      exact ⟨j + 1, t, by simpa using h1, by rw [h2]; congr 1; omega⟩
theorem entsFrom_get : ∀ (N : List TnD) (i j : Nat) (t : TnD), N[j]? = some t → entOf t (i + j) ∈ entsFrom N i
  | [], i, j, t, h => by simp at h
  | y :: r, i, 0, t, h => by simp at h; subst h; simp [entsFrom]
  | y :: r, i, j + 1, t, h => by
    simp only [entsFrom, List.mem_cons]
    right
    have := entsFrom_get r (i + 1) j t (by simpa using h)
    rwa [show i + 1 + j = i + (j + 1) by omega] at this
end Go.Proofs.YteigcnamkfebgaaGreatDoor
