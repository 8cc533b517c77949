import Derived.Test.YtlipahfkfhcniaaDoorM
import Derived.Deep.DeepCutAuto
import Derived.Deep.CutBlock
namespace Go.Proofs.YtlipahfkfhcniaaDoor
open Go.RowKit
section
variable {P : Program} (w : World)
theorem run_append_src (base : Nat) (t ty e : TypeId) (i : TypeInfo) (z : Value) (size bytes : Nat) (ht : P.underlying t = some (.slice e)) (hi : P.info? e = some i) (hz : i.zero = some z)
    (hsize : i.size = size) (hby : i.bytes = bytes) (hzs : z.cells.size = size) (hsz : 0 < size)
    (v : Value) (n : Nat) (xs : List Value) (hown : w.ownsRow base e size v n xs)
    (ao : Option Addr) (m c : Nat) (news : List Value) (hl : news.length = m * size) (hnews : 0 < m → ∃ ad, ao = some ad ∧ ∀ j u, news[j]? = some u → w.cell? (ad.add j) = some u) (h1 : ∀ u ∈ news, u.oneCell' = true)
    (h63 : n + m ≤ maxLen) (hbytes : (n + m) * bytes ≤ 140737488355328) (hbase : base ≤ w.heap.size) :
    ∃ v' w', (Builtin.append_ #[t, t] ty #[v, .slice ao m c]).run P w = .ok v' w' ∧ w'.ownsRow base e size v' (n + m) (xs ++ news) ∧ w.grownBy w' v.ownBlock := by
  by_cases hm : 0 < m
  · obtain ⟨ad, rfl, hn⟩ := hnews hm
    obtain ⟨v', w', h1, h2, h3, _⟩ := run_append_own (P := P) w base t ty e i z size bytes ht hi hz hsize hby hzs hsz v n xs hown ad m c news hl hn h1 h63 hbytes hbase
    exact ⟨v', w', h1, h2, h3⟩
  · obtain rfl : m = 0 := by omega
    have hn : news = [] := List.eq_nil_of_length_eq_zero (by simpa using hl)
    subst hn
    refine ⟨v, w, ?_, by simpa using hown, ⟨rfl, rfl, rfl, Nat.le_refl _, fun _ _ _ => rfl⟩⟩
    have hf : (Builtin.firstCells i.size 0 (.slice ao 0 c)).run P w = .ok #[] w := by
      cases ao with
      | none => simp [Builtin.firstCells]
      | some ad => simp [Builtin.firstCells, loadCells, loadCellsFrom]
    rcases hown.2 with ⟨rfl, rfl⟩ | ⟨g, cap, cur, rfl, _, _, hc, _⟩
    · simp [Builtin.append_, run_underlying ht, sizeOf, typeInfo, hi, Builtin.lenOf, hf]
    · simp [Builtin.append_, run_underlying ht, sizeOf, typeInfo, hi, Builtin.lenOf, hf, hc, storeCells]
theorem step_append_src {ops : Array Oper} {o : Oper} {a : Act} {K : Act → World → Prop} {Q : Exit → Act → World → Prop} {E : Prop} (hgd : o.guard = none) (s x : Operand) (t : TypeId)
    (ho : o.op = .call { callee := .builtin .append, args := #[s, x], argTypes := #[t, t] })
    (base : Nat) (e : TypeId) (i : TypeInfo) (z : Value) (size bytes : Nat) (ht : P.underlying t = some (.slice e)) (hi : P.info? e = some i) (hz : i.zero = some z)
    (hsize : i.size = size) (hby : i.bytes = bytes) (hzs : z.cells.size = size) (hsz : 0 < size)
    (v : Value) (n : Nat) (xs : List Value) (hs : a.eval s = v) (hown : w.ownsRow base e size v n xs)
    (ao : Option Addr) (m c : Nat) (news : List Value) (hx : a.eval x = .slice ao m c) (hl : news.length = m * size) (hnews : 0 < m → ∃ ad, ao = some ad ∧ ∀ j u, news[j]? = some u → w.cell? (ad.add j) = some u) (h1 : ∀ u ∈ news, u.oneCell' = true)
    (h63 : n + m ≤ maxLen) (hbytes : (n + m) * bytes ≤ 140737488355328) (hbase : base ≤ w.heap.size)
    (h : ∀ v' w', w'.ownsRow base e size v' (n + m) (xs ++ news) → w.grownBy w' v.ownBlock → K (a.put o.dst v') w') :
    if Region.wanted o (yielded ops a.tmps) = true then Oper.wp P o a w K Q else E := by
  have hw : Region.wanted o (yielded ops a.tmps) = true := by simp [Region.wanted, hgd]
  rw [if_pos hw]
  obtain ⟨v', w', hr, h2, h3⟩ := run_append_src (P := P) w base t o.type e i z size bytes ht hi hz hsize hby hzs hsz v n xs hown ao m c news hl hnews h1 h63 hbytes hbase
  unfold Oper.wp execOp
  simp only [ho, resolve, invoke, builtin, Sem.run_bind, Sem.run_pure, Result.andThen_ok, List.map_toArray, List.map_cons, List.map_nil, hs, hx, hr]
  exact h v' w' h2 h3
end
def flatA (l : List ActD) : List Value := l.flatMap actV
theorem flatA_length (l : List ActD) : (flatA l).length = l.length * 4 := by
  induction l with
  | nil => rfl
  | cons x l ih => simp only [flatA, List.flatMap_cons, List.length_append, List.length_cons] at ih ⊢; rw [ih]; simp [actV]; omega
theorem flatA_get (l : List ActD) : ∀ (i j : Nat) (x : ActD), l[i]? = some x → j < 4 → (flatA l)[i * 4 + j]? = (actV x)[j]? := by
  induction l with
  | nil => intro i j x h; simp at h
  | cons y l ih =>
    intro i j x h hj
    have he : (actV y).length = 4 := rfl
    have hc : flatA (y :: l) = actV y ++ flatA l := rfl
    cases i with
    | zero =>
      simp at h; subst h
      rw [hc, List.getElem?_append_left (by rw [he]; omega)]; simp
    | succ i =>
      simp at h
      rw [hc, List.getElem?_append_right (by rw [he]; omega), he, show (i + 1) * 4 + j - 4 = i * 4 + j by omega]
      exact ih i j x h hj
theorem flatA_one (l : List ActD) : ∀ u ∈ flatA l, u.oneCell' = true := by
  intro u hu
  simp only [flatA, List.mem_flatMap] at hu
  obtain ⟨x, _, hu⟩ := hu
  simp only [actV, List.mem_cons, List.not_mem_nil, or_false] at hu
  rcases hu with rfl | rfl | rfl | rfl <;> rfl
theorem rangeA_elem {w : World} {b off : Nat} {l : List ActD} (h : w.rangeAt b off (flatA l)) (i : Nat) (x : ActD) (hx : l[i]? = some x) : w.rangeAt b (off + i * 4) [.int .i64 x.kind, .string x.key, .int .i64 x.root, .int .i64 x.err] := fun j v hj => by
  have hj6 : j < 4 := (List.getElem?_eq_some_iff.1 hj).1
  rw [Nat.add_assoc]
  exact h (i * 4 + j) v (by rw [flatA_get l i j x hx hj6]; exact hj)
def RdA (w : World) (v : Value) (l : List ActD) : Prop := ∃ a c, v = .slice a l.length c ∧ (0 < l.length → ∃ b off, a = some ⟨b, off, none⟩ ∧ w.rangeAt b off (flatA l))
theorem info41 : (Tryd.prog.info? 41).map (fun i => (i.zero, i.size, i.bytes)) = some (some (.agg #[.int .i64 0, .string ⟨#[]⟩, .int .i64 0, .int .i64 0]), 4, 40) := by kernel_rfl
theorem rdA_of {w : World} {base n cap g : Nat} {l m : List ActD} (h : w.ownsRow base 41 4 (.slice (some ⟨g, 0, none⟩) n cap) n (flatA l ++ flatA m)) (hn : n = l.length + m.length) : RdA w (.slice (some ⟨g, 0, none⟩) n cap) (l ++ m) := by
  refine ⟨_, cap, by rw [List.length_append, hn], fun _ => ⟨g, 0, rfl, ?_⟩⟩
  have := ownsRow_rangeAt h
  simpa [flatA] using this
structure IB (w wx : World) (one two : ActD) : Prop where
  k0 : wx.heap[w.heap.size]? = some (.cells (actV one).toArray 41 (0, 0))
  k1 : wx.heap[w.heap.size + 1]? = some (.cells (actV two).toArray 41 (0, 0))
  bel : Below w.heap.size w wx
theorem IB.step {w wx wy : World} {one two : ActD} (h : IB w wx one two) (hb : Below wx.heap.size wx wy) : IB w wy one two :=
  ⟨(hb.block _ (lt_of_block h.k0)).trans h.k0, (hb.block _ (lt_of_block h.k1)).trans h.k1, h.bel.trans (hb.mono h.bel.size)⟩
theorem IB.s0 {w W : World} {one two : ActD} (h : IB w W one two) : W.cell? ⟨w.heap.size, 0, none⟩ = some (.int .i64 one.kind) ∧ W.cell? ⟨w.heap.size, 1, none⟩ = some (.string one.key) ∧ W.cell? ⟨w.heap.size, 2, none⟩ = some (.int .i64 one.root) ∧ W.cell? ⟨w.heap.size, 3, none⟩ = some (.int .i64 one.err) ∧
    W.cell? ⟨w.heap.size + 1, 0, none⟩ = some (.int .i64 two.kind) ∧ W.cell? ⟨w.heap.size + 1, 1, none⟩ = some (.string two.key) ∧ W.cell? ⟨w.heap.size + 1, 2, none⟩ = some (.int .i64 two.root) ∧ W.cell? ⟨w.heap.size + 1, 3, none⟩ = some (.int .i64 two.err) := by
  refine ⟨?_, ?_, ?_, ?_, ?_, ?_, ?_, ?_⟩ <;> first | (rw [cell_of_row _ _ _ _ _ _ h.k0]; rfl) | (rw [cell_of_row _ _ _ _ _ _ h.k1]; rfl)
structure IM (w wx : World) (one two : ActD) (mb : Nat) (sl : Value) : Prop where
  ib : IB w wx one two
  m : wx.heap[mb]? = some (.cells #[sl] 26 (0, 0))
  lo : w.heap.size + 1 < mb
theorem IM.step {w wx wy : World} {one two : ActD} {mb : Nat} {sl : Value} (h : IM w wx one two mb sl) (hb : Below wx.heap.size wx wy) : IM w wy one two mb sl :=
  ⟨h.ib.step hb, (hb.block _ (lt_of_block h.m)).trans h.m, h.lo⟩
theorem IM.alloc {w wx : World} {one two : ActD} {mb : Nat} {sl : Value} (h : IM w wx one two mb sl) (o : Obj) : IM w (wx.alloc o) one two mb sl := h.step ((Below.refl _ _).alloc (Nat.le_refl _) o)
theorem IM.drew {w wx : World} {one two : ActD} {mb : Nat} {sl : Value} (h : IM w wx one two mb sl) : IM w wx.drew one two mb sl := ⟨⟨h.ib.k0, h.ib.k1, h.ib.bel.drew⟩, h.m, h.lo⟩
theorem IM.grown {w wx wy : World} {one two : ActD} {mb : Nat} {sl : Value} {base n size : Nat} {e : TypeId} {v : Value} {xs : List Value} (h : IM w wx one two mb sl) (ho : wx.ownsRow base e size v n xs) (hg : wx.grownBy wy v.ownBlock) (hbase : mb < base) : IM w wy one two mb sl := by
  have hlt := ho.lt
  have hlo := h.lo
  have hm := lt_of_block h.m
  have hb : ∀ k, k ≤ mb → wy.heap[k]? = wx.heap[k]? := fun k hk => hg.block k (by omega) (fun e => by have := (hlt k e.symm).1; omega)
  exact ⟨⟨(hb _ (by omega)).trans h.ib.k0, (hb _ (by omega)).trans h.ib.k1, h.ib.bel.grown hg (by omega) (fun k hk => by have := (hlt k hk).1; omega)⟩, (hb _ (Nat.le_refl _)).trans h.m, hlo⟩
theorem IM.setm {w wx : World} {one two : ActD} {mb : Nat} {sl sl' : Value} (h : IM w wx one two mb sl) : IM w (wx.setCell ⟨mb, 0, none⟩ sl') one two mb sl' := by
  have hlo := h.lo
  exact ⟨⟨(heap_setCell_other _ _ _ _ (by simp; omega)).trans h.ib.k0, (heap_setCell_other _ _ _ _ (by simp; omega)).trans h.ib.k1, h.ib.bel.setCell (by simp; omega) _⟩, one_setCell h.m, hlo⟩
structure IX (w wx : World) (one two : ActD) (mb : Nat) (sl : Value) (nb : Nat) (sn : Value) : Prop where
  im : IM w wx one two mb sl
  n : wx.heap[nb]? = some (.cells #[sn] 26 (0, 0))
  lo : mb < nb
theorem IX.step {w wx wy : World} {one two : ActD} {mb nb : Nat} {sl sn : Value} (h : IX w wx one two mb sl nb sn) (hb : Below wx.heap.size wx wy) : IX w wy one two mb sl nb sn :=
  ⟨h.im.step hb, (hb.block _ (lt_of_block h.n)).trans h.n, h.lo⟩
theorem IX.alloc {w wx : World} {one two : ActD} {mb nb : Nat} {sl sn : Value} (h : IX w wx one two mb sl nb sn) (o : Obj) : IX w (wx.alloc o) one two mb sl nb sn := h.step ((Below.refl _ _).alloc (Nat.le_refl _) o)
theorem Rd.alloc {w : World} {v : Value} {l : List Ent} (h : Rd w v l) (o : Obj) : Rd (w.alloc o) v l := h.below ((Below.refl _ _).alloc (Nat.le_refl _) o)
structure RX (w wx : World) (one two : ActD) (mb : Nat) (sl : Value) (nb : Nat) (sn : Value) (ml mn : List Ent) : Prop where
  ix : IX w wx one two mb sl nb sn
  rm : Rd wx sl ml
  rn : Rd wx sn mn
  tab : Tab wx
theorem RX.step {w wx wy : World} {one two : ActD} {mb nb : Nat} {sl sn : Value} {ml mn : List Ent} (h : RX w wx one two mb sl nb sn ml mn) (hb : Below wx.heap.size wx wy) : RX w wy one two mb sl nb sn ml mn :=
  ⟨h.ix.step hb, h.rm.below hb, h.rn.below hb, h.tab.below hb (by have := lt_of_block h.ix.n; omega)⟩
theorem RX.alloc {w wx : World} {one two : ActD} {mb nb : Nat} {sl sn : Value} {ml mn : List Ent} (h : RX w wx one two mb sl nb sn ml mn) (o : Obj) : RX w (wx.alloc o) one two mb sl nb sn ml mn := h.step ((Below.refl _ _).alloc (Nat.le_refl _) o)
theorem RX.drew {w wx : World} {one two : ActD} {mb nb : Nat} {sl sn : Value} {ml mn : List Ent} (h : RX w wx one two mb sl nb sn ml mn) : RX w wx.drew one two mb sl nb sn ml mn :=
  h.step ((Below.refl _ _).drew)
theorem RX.pos {w wx : World} {one two : ActD} {mb nb : Nat} {sl sn : Value} {ml mn : List Ent} (h : RX w wx one two mb sl nb sn ml mn) : 0 < wx.heap.size := by have := lt_of_block h.ix.n; omega
theorem RX.s {w W : World} {one two : ActD} {mb nb : Nat} {sl sn : Value} {ml mn : List Ent} (h : RX w W one two mb sl nb sn ml mn) : W.cell? ⟨mb, 0, none⟩ = some sl ∧ W.cell? ⟨nb, 0, none⟩ = some sn ∧ W.cell? ⟨w.heap.size, 0, none⟩ = some (.int .i64 one.kind) ∧ W.cell? ⟨w.heap.size, 1, none⟩ = some (.string one.key) ∧ W.cell? ⟨w.heap.size, 2, none⟩ = some (.int .i64 one.root) ∧ W.cell? ⟨w.heap.size, 3, none⟩ = some (.int .i64 one.err) ∧
    W.cell? ⟨w.heap.size + 1, 0, none⟩ = some (.int .i64 two.kind) ∧ W.cell? ⟨w.heap.size + 1, 1, none⟩ = some (.string two.key) ∧ W.cell? ⟨w.heap.size + 1, 2, none⟩ = some (.int .i64 two.root) ∧ W.cell? ⟨w.heap.size + 1, 3, none⟩ = some (.int .i64 two.err) :=
  ⟨cell_of_one h.ix.im.m, cell_of_one h.ix.n, h.ix.im.ib.s0⟩
/-- what the region behind the loop leaves -/
structure RZ (w wx : World) (one two : ActD) (sx sy : Value) (lx ly : List Ent) : Prop where
  ib : IB w wx one two
  rx : Rd wx sx lx
  ry : Rd wx sy ly
  tab : Tab wx
theorem RZ.alloc {w wx : World} {one two : ActD} {sx sy : Value} {lx ly : List Ent} (h : RZ w wx one two sx sy lx ly) (o : Obj) : RZ w (wx.alloc o) one two sx sy lx ly :=
  ⟨h.ib.step ((Below.refl _ _).alloc (Nat.le_refl _) o), h.rx.alloc o, h.ry.alloc o, h.tab.below ((Below.refl wx.heap.size _).alloc (Nat.le_refl _) o) (by have := lt_of_block h.ib.k0; omega)⟩
theorem RZ.set {w wx : World} {one two : ActD} {sx sy : Value} {lx ly : List Ent} {k : Nat} {u v : Value} (h : RZ w wx one two sx sy lx ly) (hk : wx.heap[k]? = some (.cells #[u] 26 (0, 0))) (hlo : w.heap.size + 1 < k) : RZ w (wx.setCell ⟨k, 0, none⟩ v) one two sx sy lx ly := by
  have hb : Below k wx (wx.setCell ⟨k, 0, none⟩ v) := Below.setCell (Below.refl k wx) (by simp) v
  exact ⟨⟨(hb.block _ (by omega)).trans h.ib.k0, (hb.block _ (by omega)).trans h.ib.k1, h.ib.bel.setCell (by simp; omega) _⟩, h.rx.set_one hk, h.ry.set_one hk, h.tab.below hb (by omega)⟩
structure RY (w wx : World) (one two : ActD) (X : Nat) (sx sy : Value) (lx ly : List Ent) : Prop where
  z : RZ w wx one two sx sy lx ly
  x : wx.heap[X]? = some (.cells #[sx] 26 (0, 0))
  lo : w.heap.size + 1 < X
theorem RY.alloc {w wx : World} {one two : ActD} {X : Nat} {sx sy : Value} {lx ly : List Ent} (h : RY w wx one two X sx sy lx ly) (o : Obj) : RY w (wx.alloc o) one two X sx sy lx ly :=
  ⟨h.z.alloc o, alloc_old _ _ _ _ h.x, h.lo⟩
theorem RZ.sx {w wx : World} {one two : ActD} {X : Nat} {u sx sy : Value} {lx ly : List Ent} (h : RZ w wx one two sx sy lx ly) (hx : wx.heap[X]? = some (.cells #[u] 26 (0, 0))) (hX : w.heap.size + 1 < X) : RY w (wx.setCell ⟨X, 0, none⟩ sx) one two X sx sy lx ly :=
  ⟨h.set hx hX, one_setCell hx, hX⟩
structure RR (w wx : World) (one two : ActD) (X Y : Nat) (sx sy : Value) (lx ly : List Ent) : Prop where
  z : RZ w wx one two sx sy lx ly
  x : wx.heap[X]? = some (.cells #[sx] 26 (0, 0))
  y : wx.heap[Y]? = some (.cells #[sy] 26 (0, 0))
def RQ (w wx : World) (one two : ActD) (x y : Value) (lx ly : List Ent) : Prop := ∃ X Y sx sy, x = .pointer (some ⟨X, 0, none⟩) ∧ y = .pointer (some ⟨Y, 0, none⟩) ∧ RR w wx one two X Y sx sy lx ly
theorem RY.sy {w wx : World} {one two : ActD} {X Y : Nat} {u sx sy : Value} {lx ly : List Ent} (h : RY w wx one two X sx sy lx ly) (hy : wx.heap[Y]? = some (.cells #[u] 26 (0, 0))) (hne : X ≠ Y) (hY : w.heap.size + 1 < Y) :
    RQ w (wx.setCell ⟨Y, 0, none⟩ sy) one two (.pointer (some ⟨X, 0, none⟩)) (.pointer (some ⟨Y, 0, none⟩)) lx ly :=
  ⟨X, Y, sx, sy, rfl, rfl, h.z.set hy hY, (heap_setCell_other _ _ _ _ hne).trans h.x, one_setCell hy⟩
def box0 : Obj := .cells #[.slice none 0 0] 26 (0, 0)
/-- behind the first call, behind the second, behind the third -/
structure R6 (w wx : World) (one two : ActD) (mb : Nat) (sl : Value) (nb : Nat) (sn : Value) (ml mn : List Ent) (sx : Value) : Prop where
  r : RX w wx one two mb sl nb sn ml mn
  x : Rd wx sx (putL two.key two.root two.err mn)
theorem R6.step {w wx wy : World} {one two : ActD} {mb nb : Nat} {sl sn sx : Value} {ml mn : List Ent} (h : R6 w wx one two mb sl nb sn ml mn sx) (hb : Below wx.heap.size wx wy) : R6 w wy one two mb sl nb sn ml mn sx := ⟨h.r.step hb, h.x.below hb⟩
theorem R6.alloc {w wx : World} {one two : ActD} {mb nb : Nat} {sl sn sx : Value} {ml mn : List Ent} (h : R6 w wx one two mb sl nb sn ml mn sx) (o : Obj) : R6 w (wx.alloc o) one two mb sl nb sn ml mn sx := h.step ((Below.refl _ _).alloc (Nat.le_refl _) o)
structure R8 (w wx : World) (one two : ActD) (mb : Nat) (sl : Value) (nb : Nat) (sn : Value) (ml mn : List Ent) (sx sy : Value) : Prop where
  r : R6 w wx one two mb sl nb sn ml mn sx
  y : Rd wx sy (putL two.key two.root two.err ml)
theorem R8.step {w wx wy : World} {one two : ActD} {mb nb : Nat} {sl sn sx sy : Value} {ml mn : List Ent} (h : R8 w wx one two mb sl nb sn ml mn sx sy) (hb : Below wx.heap.size wx wy) : R8 w wy one two mb sl nb sn ml mn sx sy := ⟨h.r.step hb, h.y.below hb⟩
theorem R8.alloc {w wx : World} {one two : ActD} {mb nb : Nat} {sl sn sx sy : Value} {ml mn : List Ent} (h : R8 w wx one two mb sl nb sn ml mn sx sy) (o : Obj) : R8 w (wx.alloc o) one two mb sl nb sn ml mn sx sy := h.step ((Below.refl _ _).alloc (Nat.le_refl _) o)
structure R10 (w wx : World) (one two : ActD) (mb : Nat) (sl : Value) (nb : Nat) (sn : Value) (ml mn : List Ent) (sx sy : Value) : Prop where
  r : R6 w wx one two mb sl nb sn ml mn sx
  y : Rd wx sy (putL one.key one.root one.err (putL two.key two.root two.err ml))
theorem R10.z {w wx : World} {one two : ActD} {mb nb : Nat} {sl sn sx sy : Value} {ml mn : List Ent} (h : R10 w wx one two mb sl nb sn ml mn sx sy) : RZ w wx one two sx sy (putL two.key two.root two.err mn) (putL one.key one.root one.err (putL two.key two.root two.err ml)) := ⟨h.r.r.ix.im.ib, h.r.x, h.y, h.r.r.tab⟩
theorem RX.put {w W : World} {one two : ActD} {mb nb : Nat} {sl sn : Value} {ml mn : List Ent} (hg : Good mn) (hk : two.key.size ≤ 100) (h : RX w W one two mb sl nb sn ml mn) :
    Calls Tryd.prog 8 #[.agg #[sn], .agg #[.int .i64 two.kind, .string two.key, .int .i64 two.root, .int .i64 two.err]] W fun e w' => ∃ a n c, e = .returned (.agg #[.slice a n c]) ∧ R6 w w' one two mb sl nb sn ml mn (.slice a n c) ∧ Below W.heap.size W w' := by
  refine (putC_any mn sn two W (by have := hg.len; omega) (by omega) h.rn h.tab h.pos).mono ?_
  rintro e w' ⟨sx, rfl, hx, hb⟩
  obtain ⟨a, n, c, rfl⟩ := hx.form
  exact ⟨a, n, c, rfl, ⟨h.step hb, hx⟩, hb⟩
theorem R6.put {w W : World} {one two : ActD} {mb nb : Nat} {sl sn sx : Value} {ml mn : List Ent} (hg : Good ml) (hk : two.key.size ≤ 100) (h : R6 w W one two mb sl nb sn ml mn sx) :
    Calls Tryd.prog 8 #[.agg #[sl], .agg #[.int .i64 two.kind, .string two.key, .int .i64 two.root, .int .i64 two.err]] W fun e w' => ∃ a n c, e = .returned (.agg #[.slice a n c]) ∧ R8 w w' one two mb sl nb sn ml mn sx (.slice a n c) ∧ Below W.heap.size W w' := by
  refine (putC_any ml sl two W (by have := hg.len; omega) (by omega) h.r.rm h.r.tab h.r.pos).mono ?_
  rintro e w' ⟨sy, rfl, hy, hb⟩
  obtain ⟨a, n, c, rfl⟩ := hy.form
  exact ⟨a, n, c, rfl, ⟨h.step hb, hy⟩, hb⟩
theorem R8.put {w W : World} {one two : ActD} {mb nb : Nat} {sl sn sx sy : Value} {ml mn : List Ent} (hg : Good ml) (hk : one.key.size ≤ 100) (h : R8 w W one two mb sl nb sn ml mn sx sy) :
    Calls Tryd.prog 8 #[.agg #[sy], .agg #[.int .i64 one.kind, .string one.key, .int .i64 one.root, .int .i64 one.err]] W fun e w' => ∃ a n c, e = .returned (.agg #[.slice a n c]) ∧ R10 w w' one two mb sl nb sn ml mn sx (.slice a n c) ∧ Below W.heap.size W w' := by
  refine (putC_any _ sy one W (by have := (good_put hg two.key two.root two.err).len; omega) (by omega) h.y h.r.r.tab h.r.r.pos).mono ?_
  rintro e w' ⟨sz, rfl, hy, hb⟩
  obtain ⟨a, n, c, rfl⟩ := hy.form
  exact ⟨a, n, c, rfl, ⟨h.r.step hb, hy⟩, hb⟩
theorem RR.step {w wx wy : World} {one two : ActD} {X Y : Nat} {sx sy : Value} {lx ly : List Ent} (h : RR w wx one two X Y sx sy lx ly) (hb : Below wx.heap.size wx wy) : RR w wy one two X Y sx sy lx ly :=
  ⟨⟨h.z.ib.step hb, h.z.rx.below hb, h.z.ry.below hb, h.z.tab.below hb (by have := lt_of_block h.x; omega)⟩, (hb.block _ (lt_of_block h.x)).trans h.x, (hb.block _ (lt_of_block h.y)).trans h.y⟩
theorem RR.cs {w W : World} {one two : ActD} {X Y : Nat} {sx sy : Value} {lx ly : List Ent} (h : RR w W one two X Y sx sy lx ly) : W.cell? ⟨X, 0, none⟩ = some sx ∧ W.cell? ⟨Y, 0, none⟩ = some sy ∧ W.cell? ⟨w.heap.size, 0, none⟩ = some (.int .i64 one.kind) ∧ W.cell? ⟨w.heap.size, 1, none⟩ = some (.string one.key) ∧ W.cell? ⟨w.heap.size, 2, none⟩ = some (.int .i64 one.root) ∧ W.cell? ⟨w.heap.size, 3, none⟩ = some (.int .i64 one.err) ∧
    W.cell? ⟨w.heap.size + 1, 0, none⟩ = some (.int .i64 two.kind) ∧ W.cell? ⟨w.heap.size + 1, 1, none⟩ = some (.string two.key) ∧ W.cell? ⟨w.heap.size + 1, 2, none⟩ = some (.int .i64 two.root) ∧ W.cell? ⟨w.heap.size + 1, 3, none⟩ = some (.int .i64 two.err) :=
  ⟨cell_of_one h.x, cell_of_one h.y, h.z.ib.s0⟩
theorem RR.gotx {w W : World} {one two a : ActD} {X Y : Nat} {sx sy : Value} {lx ly : List Ent} (h : RR w W one two X Y sx sy lx ly) (hg : Good lx) (hk : a.key.size ≤ 100) (hq : gotB a lx = true) :
    Calls Tryd.prog 9 #[.agg #[sx], .agg #[.int .i64 a.kind, .string a.key, .int .i64 a.root, .int .i64 a.err]] W fun e w' => e = .returned (.bool true) ∧ RR w w' one two X Y sx sy lx ly := by
  refine (gotC_any lx sx a W (by have := hg.len; omega) (by omega) h.z.rx hg.nil h.z.tab (by have := lt_of_block h.x; omega)).mono ?_
  rintro e w' ⟨rfl, hb⟩
  rw [hq]
  exact ⟨rfl, h.step hb⟩
theorem RR.goty {w W : World} {one two a : ActD} {X Y : Nat} {sx sy : Value} {lx ly : List Ent} (h : RR w W one two X Y sx sy lx ly) (hg : Good ly) (hk : a.key.size ≤ 100) (hq : gotB a ly = true) :
    Calls Tryd.prog 9 #[.agg #[sy], .agg #[.int .i64 a.kind, .string a.key, .int .i64 a.root, .int .i64 a.err]] W fun e w' => e = .returned (.bool true) ∧ RR w w' one two X Y sx sy lx ly := by
  refine (gotC_any ly sy a W (by have := hg.len; omega) (by omega) h.z.ry hg.nil h.z.tab (by have := lt_of_block h.x; omega)).mono ?_
  rintro e w' ⟨rfl, hb⟩
  rw [hq]
  exact ⟨rfl, h.step hb⟩
theorem s_set {W : World} {mb nb b X : Nat} {v a1 a2 a3 a4 a5 a6 a7 a8 a9 a10 : Value}
    (h : W.cell? ⟨mb, 0, none⟩ = some a1 ∧ W.cell? ⟨nb, 0, none⟩ = some a2 ∧ W.cell? ⟨b, 0, none⟩ = some a3 ∧ W.cell? ⟨b, 1, none⟩ = some a4 ∧ W.cell? ⟨b, 2, none⟩ = some a5 ∧ W.cell? ⟨b, 3, none⟩ = some a6 ∧ W.cell? ⟨b + 1, 0, none⟩ = some a7 ∧ W.cell? ⟨b + 1, 1, none⟩ = some a8 ∧ W.cell? ⟨b + 1, 2, none⟩ = some a9 ∧ W.cell? ⟨b + 1, 3, none⟩ = some a10)
    (h1 : mb ≠ X) (h2 : nb ≠ X) (h3 : b ≠ X) (h4 : b + 1 ≠ X) :
    (W.setCell ⟨X, 0, none⟩ v).cell? ⟨mb, 0, none⟩ = some a1 ∧ (W.setCell ⟨X, 0, none⟩ v).cell? ⟨nb, 0, none⟩ = some a2 ∧ (W.setCell ⟨X, 0, none⟩ v).cell? ⟨b, 0, none⟩ = some a3 ∧ (W.setCell ⟨X, 0, none⟩ v).cell? ⟨b, 1, none⟩ = some a4 ∧ (W.setCell ⟨X, 0, none⟩ v).cell? ⟨b, 2, none⟩ = some a5 ∧ (W.setCell ⟨X, 0, none⟩ v).cell? ⟨b, 3, none⟩ = some a6 ∧ (W.setCell ⟨X, 0, none⟩ v).cell? ⟨b + 1, 0, none⟩ = some a7 ∧ (W.setCell ⟨X, 0, none⟩ v).cell? ⟨b + 1, 1, none⟩ = some a8 ∧ (W.setCell ⟨X, 0, none⟩ v).cell? ⟨b + 1, 2, none⟩ = some a9 ∧ (W.setCell ⟨X, 0, none⟩ v).cell? ⟨b + 1, 3, none⟩ = some a10 := by
  have e : ∀ a : Addr, a.block ≠ X → (W.setCell ⟨X, 0, none⟩ v).cell? a = W.cell? a := fun a ha => by unfold World.cell?; rw [heap_setCell_other _ _ _ _ ha]
  obtain ⟨e1, e2, e3, e4, e5, e6, e7, e8, e9, e10⟩ := h
  exact ⟨(e _ h1).trans e1, (e _ h2).trans e2, (e _ h3).trans e3, (e _ h3).trans e4, (e _ h3).trans e5, (e _ h3).trans e6, (e _ h4).trans e7, (e _ h4).trans e8, (e _ h4).trans e9, (e _ h4).trans e10⟩
theorem s_alloc {W : World} {mb nb b : Nat} {o : Obj} {a1 a2 a3 a4 a5 a6 a7 a8 a9 a10 : Value}
    (h : W.cell? ⟨mb, 0, none⟩ = some a1 ∧ W.cell? ⟨nb, 0, none⟩ = some a2 ∧ W.cell? ⟨b, 0, none⟩ = some a3 ∧ W.cell? ⟨b, 1, none⟩ = some a4 ∧ W.cell? ⟨b, 2, none⟩ = some a5 ∧ W.cell? ⟨b, 3, none⟩ = some a6 ∧ W.cell? ⟨b + 1, 0, none⟩ = some a7 ∧ W.cell? ⟨b + 1, 1, none⟩ = some a8 ∧ W.cell? ⟨b + 1, 2, none⟩ = some a9 ∧ W.cell? ⟨b + 1, 3, none⟩ = some a10) :
    (W.alloc o).cell? ⟨mb, 0, none⟩ = some a1 ∧ (W.alloc o).cell? ⟨nb, 0, none⟩ = some a2 ∧ (W.alloc o).cell? ⟨b, 0, none⟩ = some a3 ∧ (W.alloc o).cell? ⟨b, 1, none⟩ = some a4 ∧ (W.alloc o).cell? ⟨b, 2, none⟩ = some a5 ∧ (W.alloc o).cell? ⟨b, 3, none⟩ = some a6 ∧ (W.alloc o).cell? ⟨b + 1, 0, none⟩ = some a7 ∧ (W.alloc o).cell? ⟨b + 1, 1, none⟩ = some a8 ∧ (W.alloc o).cell? ⟨b + 1, 2, none⟩ = some a9 ∧ (W.alloc o).cell? ⟨b + 1, 3, none⟩ = some a10 := by
  have e : ∀ (a : Addr) (u : Value), W.cell? a = some u → (W.alloc o).cell? a = some u := fun a u ha => (((Below.refl _ _).alloc (Nat.le_refl _) o).cell (block_lt_of_cell ha)).trans ha
  obtain ⟨e1, e2, e3, e4, e5, e6, e7, e8, e9, e10⟩ := h
  exact ⟨e _ _ e1, e _ _ e2, e _ _ e3, e _ _ e4, e _ _ e5, e _ _ e6, e _ _ e7, e _ _ e8, e _ _ e9, e _ _ e10⟩
def mL (acts : List ActD) : List Ent := acts.foldl (fun l a => putL a.key a.root a.err l) []
theorem mL_snoc (l : List ActD) (a : ActD) : mL (l ++ [a]) = putL a.key a.root a.err (mL l) := by simp [mL]
theorem good_mL (l : List ActD) : Good (mL l) := by
  have : ∀ (l : List ActD) (m : List Ent), Good m → Good (l.foldl (fun l a => putL a.key a.root a.err l) m) := by
    intro l
    induction l with
    | nil => intro m h; exact h
    | cons a r ih => intro m h; exact ih _ (good_put h _ _ _)
  exact this l [] good_nil
theorem mL_keys (B : Nat) (l : List ActD) (h : ∀ a ∈ l, a.key.size ≤ B) : ∀ x ∈ mL l, x.key.size ≤ B := by
  have : ∀ (l : List ActD) (m : List Ent), (∀ a ∈ l, a.key.size ≤ B) → (∀ x ∈ m, x.key.size ≤ B) → ∀ x ∈ l.foldl (fun l a => putL a.key a.root a.err l) m, x.key.size ≤ B := by
    intro l
    induction l with
    | nil => intro m _ h; exact h
    | cons a r ih =>
      intro m h1 h2
      refine ih _ (fun b hb => h1 b (List.mem_cons_of_mem _ hb)) (fun x hx => ?_)
      have hx2 := List.mem_of_mem_drop hx
      unfold putAll at hx2
      rcases List.mem_append.1 hx2 with h3 | h3
      · exact h2 x (flt _ _ x h3).1
      · rw [List.mem_singleton.1 h3]; exact h1 a List.mem_cons_self
  exact this l [] h (by intro x hx; cases hx)
theorem getR_form (key : ByteArray) (l : List Ent) : ∃ (r e : Int) (ok : Bool), getR key l = .tuple #[bodyV r, .int .i64 e, .bool ok] := by
  unfold getR
  cases l.find? (hit key) with
  | none => exact ⟨_, _, _, rfl⟩
  | some x => exact ⟨_, _, _, rfl⟩
end Go.Proofs.YtlipahfkfhcniaaDoor
