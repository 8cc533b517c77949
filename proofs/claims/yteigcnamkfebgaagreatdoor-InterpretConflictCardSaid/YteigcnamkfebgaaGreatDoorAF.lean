import Derived.Test.YteigcnamkfebgaaGreatDoorAE
import Derived.Maps.OwnOps
import Derived.Maps.RangeRun
namespace Go.Proofs.YteigcnamkfebgaaGreatDoor
open Go.RowKit
def z38 : Array Value := #[.string ⟨#[]⟩, .int .i64 0]
theorem info38 : (Tryz.prog.info? 38).map (fun i => (i.zero, i.size, i.bytes)) = some (some (.agg z38), 2, 24) := by kernel_rfl
theorem sort2_length (c : TnD → TnD → Int) (l : List TnD) : (sort2 c l).length = l.length := sort2_len c l
set_option maxHeartbeats 6400000 in
set_option maxRecDepth 100000 in
theorem children_any (c : TnD → TnD → Int) (l : List TnD) (v : Value) (x : IdD) (w : World) (hl : l.length ≤ 1000) (hv : tnY.Rd w v l) (hf : (below l x l.length).length ≤ 2) (hc : CmpF 130 c (below l x l.length)) :
    Calls Tryz.prog 44 #[v, .agg #[.string x.a, .int .i64 x.n]] w fun e w' => ∃ v', e = .returned v' ∧ w'.ownsRow w.heap.size 38 2 v' (below l x l.length).length (idY.flat ((sort2 c (below l x l.length)).map (·.node))) ∧ Below w.heap.size w w' := by
  obtain ⟨i0, hi, hz0, hz1, hz2⟩ := info_parts info38
  have HS := Lib.hid (siblings_any c l v x (w.alloc (.cells #[.string x.a, .int .i64 x.n] 38)) hl (hv.alloc _) hf hc)
  have hbel0 : Below w.heap.size w (w.alloc (.cells #[.string x.a, .int .i64 x.n] 38)) := (Below.refl _ _).alloc (Nat.le_refl _) _
  have hsz0 : w.heap.size ≤ (w.alloc (.cells #[.string x.a, .int .i64 x.n] 38)).heap.size := by simp
  obtain ⟨a, n0, cc, rfl⟩ := hv.form
  have hlen : (sort2 c (below l x l.length)).length = (below l x l.length).length := sort2_len _ _
  clear hv hc
  generalize sort2 c (below l x l.length) = L at *
  generalize hn : (below l x l.length).length = n at *
  clear hn
  go_enter Tryz.func44, Tryz.ntmps44
  go_wp2_with fail
  refine HS.out.mono ?_
  rintro e w1 ⟨v1, rfl, ho1, hb1⟩
  have hbel1 := hbel0.trans (hb1.mono hsz0)
  have hB1 : w.heap.size ≤ w1.heap.size := hbel1.size
  obtain ⟨a1, n1, c1, rfl⟩ := (Lay.Rd.of_owns (Y := tnY) (by rw [← hlen] at ho1; exact ho1)).form
  have hn1 : n1 = n := by
    have := (Lay.Rd.of_owns (Y := tnY) (by rw [← hlen] at ho1; exact ho1)).len
    rw [this, hlen]
  subst hn1
  have HR := Lib.hid (show tnY.Rd w1 (.slice a1 n1 c1) L from Lay.Rd.of_owns (Y := tnY) (by rw [hlen]; exact ho1))
  clear HS hb1 ho1 hbel0 hsz0
  generalize hB : w.heap.size = B at *
  have HB := Lib.hid hB
  clear hB
  have HL := Lib.hid hlen
  clear hlen
  go_wp2
  go_loopg [5, 12] n1 (fun gn t5 t12 wr => ∃ (k : Nat) (s : SlV), k + gn = n1 ∧ t12 = .int .i64 k ∧ t5 = .slice s.a s.len s.cap ∧ wr.ownsRow w1.heap.size 38 2 s.v k (idY.flat ((L.take k).map (·.node))) ∧ Below w1.heap.size w1 wr)
  case atStart => exact ⟨0, SlV.nil, by omega, rfl, rfl, owns_nil0 _ _ _ _, Below.refl _ _⟩
  case round =>
    obtain ⟨G, rfl⟩ : ∃ G, G = gk := ⟨_, rfl⟩
    obtain ⟨k, s, hk, rfl, rfl, hown, hbel⟩ := hrel
    have HK := Lib.hid hk
    clear hk
    have hsz : w1.heap.size ≤ wr.heap.size := hbel.size
    by_cases hlt : k < n1
    · have hx : L[k]? = some (L[k]'(by rw [HL.out]; exact hlt)) := List.getElem?_eq_getElem _
      generalize L[k]'(by rw [HL.out]; exact hlt) = t at hx
      have HX := Lib.hid hx
      obtain ⟨b, off, rfl, hr⟩ : ∃ b off, a1 = some ⟨b, off, none⟩ ∧ w1.rangeAt b off (tnY.flat L) := by
        rcases HR.out with ⟨h1, h2⟩ | ⟨b, off, cap, h1, h2, h3⟩
        · rw [h2] at hx; cases hx
        · simp at h1; exact ⟨b, off, h1.1, h3⟩
      have hrx : wr.rangeAt b (off + k * 8) (tnV t) := rangeAt_below (tnY.elem hr k t hx) hbel
      clear hr hx
      have hltZ : (k : Int) < (n1 : Int) := by omega
      unfold tnV at hrx
      have HOW := Lib.hid ((hown.alloc (.cells #[.string t.node.a, .int .i64 t.node.n, .string t.parent.a, .int .i64 t.parent.n, .bool t.neg, .string t.num, .string t.den, .string t.kind] 55)).alloc (.cells #[.string t.node.a, .int .i64 t.node.n] 38))
      have HBEL := Lib.hid hbel
      clear hown hbel
      go_wp2_with (first
        | refine wpList_load_mid rfl 55 _ rfl b (off + k * 8) rfl _ _ hrx Tryz.underlying55 rfl (by kernel_rfl) ?_
        | (at_builtin; refine wpList_append_own_at _ rfl _ _ 41 rfl w1.heap.size 38 i0 (.agg z38) 2 24 Tryz.underlying41 hi hz0 hz1 hz2 rfl (by decide) s.v k (idY.flat ((L.take k).map (·.node))) rfl HOW.out ⟨wr.heap.size + 1, 0, none⟩ 1 1 (idV t.node) rfl rfl (news_of (alloc_get _ _ _ (by simp))) (idY.one t.node) (by unfold maxLen; omega) (by omega) (by simp; omega) ?_; intro v1 w2 hown1 hg1 _ hloc1))
      have hb1 := HBEL.out.trans ((((Below.refl w1.heap.size wr).alloc hsz _).alloc (by simp; omega) _).grown hg1 (by simp; omega) (fun j hj => (HOW.out.lt j hj).1))
      have hown3 : w2.ownsRow w1.heap.size 38 2 v1 (k + 1) (idY.flat ((L.take (k + 1)).map (·.node))) := by
        rw [list_snoc L k t HX.out, List.map_append, idY.flat_append]
        have : idY.flat ([t].map (·.node)) = idV t.node := by simp [Lay.flat, idY]
        rw [this]; exact hown1
      obtain ⟨s1, hs1⟩ := ownsForm hown1
      subst hs1
      clear hown1 hg1 hloc1 hrx
      go_wp2
      go_roundg (n1 - 1 - k)
      case rel => exact ⟨k + 1, s1, by have := HK.out; omega, by go_num, rfl, hown3, hb1⟩
      case measure => have := HK.out; omega
    · obtain rfl : k = n1 := by have := HK.out; omega
      have HD := Lib.hid hown
      have HE := Lib.hid hbel
      clear hown hbel
      go_wp2
      go_ret
      refine ⟨_, rfl, ?_, ?_⟩
      · have h1 := ownsRow_mono HD.out hB1
        rw [← HL.out, List.take_length] at h1
        rw [HB.out, ← HL.out]; exact h1
      · rw [HB.out]; exact hbel1.trans (HE.out.mono hB1)
end Go.Proofs.YteigcnamkfebgaaGreatDoor
namespace Go.Proofs.YteigcnamkfebgaaGreatDoor
open Go.RowKit
/-! maps as they lie: a block of entries; look-up and store by what the search says -/
section
variable {P : Program} (w : World) {ops : Array Oper} {rest : List Oper} {o : Oper} {a : Act} {Q : Exit → Act → World → Prop}
theorem wpList_lookup_raw (hg : o.guard = none) (m x : Operand) (t : TypeId) (c : Bool) (hop : o.op = Op.lookup t m x c) (k e : TypeId) (ht : P.underlying t = some (.map k e)) (z : Value) (hz : ∀ w, (zeroValue e).run P w = .ok z w)
    (b : Nat) (es : Array MapEntry) (clock : Nat) (hm : a.eval m = .map (some b)) (hb : w.heap[b]? = some (.map es clock)) (key : Value) (hx : a.eval x = key)
    (hck : ∀ em w, (Instr.checkKey em 10000 k key).run P w = .ok () w) (r : Option (Nat × Value)) (hf : ∀ w, (Instr.findKey k key es.toList).run P w = .ok r w) (res : Value)
    (hres : res = if c then .tuple #[(r.map (·.2)).getD z, .bool r.isSome] else (r.map (·.2)).getD z) (hK : wpList P ops Q rest (a.put o.dst res) w) : wpList P ops Q (o :: rest) a w := by
  refine wpList_plain hg fun K' hK' => ?_
  have hrun : (Instr.lookup t (.map (some b)) key c).run P w = .ok res w := by
    cases r with
    | none => simp [Instr.lookup, run_underlying ht, MapKept.run_getObj_map hb, hck, hf, hz, Result.andThen, hres]
    | some r => simp [Instr.lookup, run_underlying ht, MapKept.run_getObj_map hb, hck, hf, Result.andThen, hres]
  unfold Oper.wp
  simp [execOp, hop, hm, hx, hrun, Result.andThen]
  exact hK' _ _ hK
theorem wpList_update_raw (hg : o.guard = none) (m x v : Operand) (t : TypeId) (hop : o.op = Op.mapUpdate t m x v ∨ o.op = Op.insert t m x v) (k e : TypeId) (ht : P.underlying t = some (.map k e))
    (b : Nat) (es : Array MapEntry) (clock : Nat) (hm : a.eval m = .map (some b)) (hb : w.heap[b]? = some (.map es clock)) (key val : Value) (hx : a.eval x = key) (hv : a.eval v = val)
    (hck : ∀ em w, (Instr.checkKey em 10000 k key).run P w = .ok () w) (hf : ∀ w, (Instr.findKey k key es.toList).run P w = .ok none w)
    (hK : ∀ w', w'.heap[b]? = some (.map (es.push ⟨key, val, clock⟩) (clock + 1)) → w.grownBy w' (some b) → w'.heap.size = w.heap.size → wpList P ops Q rest (a.put o.dst undef) w') : wpList P ops Q (o :: rest) a w := by
  refine wpList_plain hg fun K' hK' => ?_
  have hrun : (Instr.mapUpdate t (.map (some b)) key val).run P w = .ok () (ChangeMaps.setBlock w b (.map (es.push ⟨key, val, clock⟩) (clock + 1))) := by
    simp [Instr.mapUpdate, run_underlying ht, MapKept.run_getObj_map hb, hck, hf, MapKept.run_setObj_map _ hb, Result.andThen, ChangeMaps.setBlock]
  have hK2 := hK _ (ChangeMaps.heap_setBlock_same hb _) ⟨rfl, rfl, rfl, by simp [ChangeMaps.setBlock], fun i _ hi => ChangeMaps.heap_setBlock_other hb _ (fun e => hi (by rw [e]))⟩ (by simp [ChangeMaps.setBlock])
  unfold Oper.wp
  rcases hop with hop | hop
  · simp [execOp, hop, hm, hx, hv, hrun, Result.andThen]
    exact hK' _ _ hK2
  · simp [execOp, hop, hm, hx, hv, hrun, Result.andThen]
    exact hK' _ _ hK2
end
def idA (x : IdD) : Value := .agg #[.string x.a, .int .i64 x.n]
theorem ck38 (a : ByteArray) (n : Int) (em : Bool) (w : World) : (Instr.checkKey em 10000 38 (.agg #[.string a, .int .i64 n])).run Tryz.prog w = .ok () w := by cases em <;> kernel_rfl
theorem miss0 (a : ByteArray) (n : Int) (w : World) : (Instr.findKey 38 (.agg #[.string a, .int .i64 n]) []).run Tryz.prog w = .ok none w := by kernel_rfl
theorem miss1 (w : World) : (Instr.findKey 38 (.agg #[.string ⟨#[97, 110, 110]⟩, .int .i64 1]) [⟨.agg #[.string ⟨#[]⟩, .int .i64 0], .bool true, 0⟩]).run Tryz.prog w = .ok none w := by kernel_rfl
theorem miss2 (w : World) : (Instr.findKey 38 (.agg #[.string ⟨#[97, 110, 110]⟩, .int .i64 4]) [⟨.agg #[.string ⟨#[]⟩, .int .i64 0], .bool true, 0⟩, ⟨.agg #[.string ⟨#[97, 110, 110]⟩, .int .i64 1], .bool true, 1⟩]).run Tryz.prog w = .ok none w := by kernel_rfl
set_option maxHeartbeats 6400000 in
set_option maxRecDepth 100000 in
theorem visitLeaf (l : List TnD) (v : Value) (x : IdD) (w00 w : World) (hv : tnY.Rd w00 v l) (hl : l.length ≤ 1000) (hx : below l x l.length = []) (hb : w.heap[w00.heap.size]? = some (.cells #[v] 25 (0, 0))) (hbel : Below w00.heap.size w00 w) (p1 p2 p3 : Value) :
    Calls Tryz.prog 43 #[.agg #[.string x.a, .int .i64 x.n], .pointer (some ⟨w00.heap.size, 0, none⟩), p1, p2, p3] w fun e w' => e = .returned (.tuple #[]) ∧ Below w.heap.size w w' := by
  have hbA : Below w.heap.size w (w.alloc (.cells #[.string x.a, .int .i64 x.n] 38)) := (Below.refl _ _).alloc (Nat.le_refl _) _
  have HC := Lib.hid (children_any (fun _ _ => 0) l v x (w.alloc (.cells #[.string x.a, .int .i64 x.n] 38)) hl ((hv.below hbel).alloc _) (by rw [hx]; simp) (by intro a b h; rw [hx] at h; cases h))
  obtain ⟨a, n, cc, rfl⟩ := hv.form
  have HX := Lib.hid hx
  have c0 : w.cell? ⟨w00.heap.size, 0, none⟩ = some (.slice a n cc) := cell_of_row _ _ 0 _ _ _ hb
  have l0 := lt_of_block hb
  clear hv hx hb hbel
  generalize w00.heap.size = B at *
  go_enter Tryz.func43, Tryz.ntmps43
  go_wp2_with fail
  refine HC.out.mono ?_
  rintro e w1 ⟨v1, rfl, ho1, hb1⟩
  rw [HX.out] at ho1
  have hb2 := hbA.trans (hb1.mono (by simp))
  clear HC hbA hb1
  obtain ⟨s1, hs1⟩ := ownsForm ho1
  subst hs1
  have hz : s1.len = 0 := by
    rcases ho1.2 with ⟨h, _⟩ | ⟨g, cap, _, h, _⟩
    · simp at h; exact h.2.1
    · simp at h; exact h.2.1
  obtain ⟨sa, sl, sc⟩ := s1
  simp only at hz
  subst hz
  clear ho1
  go_wp2
  refine wp_loop_rounds 1 ?_
  rw [rounds_succ]
  go_wp2
  go_end0
  exact ⟨rfl, hb2⟩
end Go.Proofs.YteigcnamkfebgaaGreatDoor
