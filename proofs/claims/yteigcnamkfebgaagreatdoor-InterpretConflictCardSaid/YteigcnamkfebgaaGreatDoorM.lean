import Derived.Test.YteigcnamkfebgaaGreatDoorK
namespace Go.Proofs.YteigcnamkfebgaaGreatDoor
open Go.RowKit
structure TnD where
  node : IdD
  parent : IdD
  neg : Bool
  num : ByteArray
  den : ByteArray
  kind : ByteArray
def tnV (x : TnD) : List Value := [.string x.node.a, .int .i64 x.node.n, .string x.parent.a, .int .i64 x.parent.n, .bool x.neg, .string x.num, .string x.den, .string x.kind]
def tnY : Lay TnD := ⟨8, tnV, fun _ => rfl, by
  intro x u hu
  simp only [tnV, List.mem_cons, List.not_mem_nil, or_false] at hu
  rcases hu with rfl | rfl | rfl | rfl | rfl | rfl | rfl | rfl <;> rfl⟩
set_option maxRecDepth 100000 in
set_option maxHeartbeats 1000000 in
theorem indexReg_any (g : FuncId) (lb : Array Value) (p : RegD → Bool) (l : List RegD) (v : Value) (w : World) (B : Nat) (hB : B ≤ w.heap.size) (hl : l.length ≤ 1000000) (hv : regY.Rd w v l)
    (heg : ∀ (a : Array Value) (W : World), Sem.run Tryz.prog (callFunc g a) W = .ok (.enter g a) W) (hp : PredE regY B g lb p w) :
    Calls Tryz.prog 136 #[v, .func (.func g) #[] lb] w fun e w' => e = .returned (.int .i64 (idxL p l 0)) ∧ Below w.heap.size w w' := by
  have HP := Lib.hid hp
  clear hp
  rcases hv with ⟨rfl, rfl⟩ | ⟨b, off, cap, rfl, hcap, hr⟩
  · go_enter Tryz.func136, Tryz.ntmps136
    go_wp2
    go_loopg [8] 0 (fun gn t wr => t = .int .i64 0 ∧ wr = w)
    case atStart => exact ⟨rfl, rfl⟩
    case round =>
      obtain ⟨rfl, rfl⟩ := hrel
      go_wp2
      go_ret
      exact ⟨rfl, Below.refl _ _⟩
  · have HR := Lib.hid hr
    clear hr
    generalize hn : l.length = n at *
    have HN := Lib.hid hn
    clear hn
    go_enter Tryz.func136, Tryz.ntmps136
    go_wp2
    go_loopg [8] n (fun gn t wr => ∃ k : Nat, k + gn = n ∧ t = .int .i64 k ∧ (∀ i x, i < k → l[i]? = some x → p x = false) ∧ Below w.heap.size w wr)
    case atStart => exact ⟨0, by omega, rfl, fun i x h => absurd h (by omega), Below.refl _ _⟩
    case round =>
      obtain ⟨k, hk, rfl, hno, hbel⟩ := hrel
      have HK := Lib.hid hk
      have HNO := Lib.hid hno
      clear hk hno
      by_cases hlt : k < n
      · have hx : l[k]? = some (l[k]'(by rw [HN.out]; exact hlt)) := List.getElem?_eq_getElem _
        generalize l[k]'(by rw [HN.out]; exact hlt) = x at hx
        have HX := Lib.hid hx
        clear hx
        have hrx := regY.elem (rangeAt_below HR.out hbel) k x HX.out
        go_wp2_with (refine wpList_load_mid rfl 48 _ rfl b (off + k * 4) rfl (regV x) _ hrx Tryz.underlying48 rfl (by kernel_rfl) ?_)
        clear hrx
        refine (HP.out x wr (hbel.mono hB)).mono ?_
        rintro e w1 ⟨rfl, hb1⟩
        have hbel1 := hbel.trans (hb1.mono hbel.size)
        cases hpx : p x with
        | true =>
          have HPX := Lib.hid hpx
          clear hpx
          go_wp2
          go_ret
          have e : idxL p l 0 = (k : Int) := by
            rw [idxL_skip p l k 0 HNO.out (by rw [HN.out]; omega), Nat.zero_add]
            have h2 := HX.out
            have hd : l.drop k = x :: l.drop (k + 1) := by
              obtain ⟨h3, h4⟩ := List.getElem?_eq_some_iff.1 h2
              rw [← h4]; exact List.drop_eq_getElem_cons h3
            rw [hd]; unfold idxL; rw [if_pos HPX.out]
          exact ⟨by rw [e]; rfl, hbel1⟩
        | false =>
          have HPX := Lib.hid hpx
          clear hpx
          go_wp2
          have hkk := HK.out
          go_roundg (n - 1 - k)
          case rel =>
            refine ⟨k + 1, by omega, by go_num, fun i y hi hy => ?_, hbel1⟩
            by_cases hik : i < k
            · exact HNO.out i y hik hy
            · obtain rfl : i = k := by omega
              have h2 := HX.out
              rw [hy] at h2
              obtain rfl := Option.some.inj h2
              exact HPX.out
          case measure => omega
      · have hkk := HK.out
        obtain rfl : k = n := by omega
        go_wp2
        go_ret
        have e : idxL p l 0 = -1 := by
          rw [idxL_skip p l k 0 HNO.out (by rw [HN.out]; omega), List.drop_of_length_le (by rw [HN.out]; omega)]
          rfl
        exact ⟨by rw [e]; rfl, hbel⟩
set_option maxRecDepth 100000 in
set_option maxHeartbeats 1000000 in
theorem indexTn_any (g : FuncId) (lb : Array Value) (p : TnD → Bool) (l : List TnD) (v : Value) (w : World) (B : Nat) (hB : B ≤ w.heap.size) (hl : l.length ≤ 1000000) (hv : tnY.Rd w v l)
    (heg : ∀ (a : Array Value) (W : World), Sem.run Tryz.prog (callFunc g a) W = .ok (.enter g a) W) (hp : PredE tnY B g lb p w) :
    Calls Tryz.prog 26 #[v, .func (.func g) #[] lb] w fun e w' => e = .returned (.int .i64 (idxL p l 0)) ∧ Below w.heap.size w w' := by
  have HP := Lib.hid hp
  clear hp
  rcases hv with ⟨rfl, rfl⟩ | ⟨b, off, cap, rfl, hcap, hr⟩
  · go_enter Tryz.func26, Tryz.ntmps26
    go_wp2
    go_loopg [8] 0 (fun gn t wr => t = .int .i64 0 ∧ wr = w)
    case atStart => exact ⟨rfl, rfl⟩
    case round =>
      obtain ⟨rfl, rfl⟩ := hrel
      go_wp2
      go_ret
      exact ⟨rfl, Below.refl _ _⟩
  · have HR := Lib.hid hr
    clear hr
    generalize hn : l.length = n at *
    have HN := Lib.hid hn
    clear hn
    go_enter Tryz.func26, Tryz.ntmps26
    go_wp2
    go_loopg [8] n (fun gn t wr => ∃ k : Nat, k + gn = n ∧ t = .int .i64 k ∧ (∀ i x, i < k → l[i]? = some x → p x = false) ∧ Below w.heap.size w wr)
    case atStart => exact ⟨0, by omega, rfl, fun i x h => absurd h (by omega), Below.refl _ _⟩
    case round =>
      obtain ⟨k, hk, rfl, hno, hbel⟩ := hrel
      have HK := Lib.hid hk
      have HNO := Lib.hid hno
      clear hk hno
      by_cases hlt : k < n
      · have hx : l[k]? = some (l[k]'(by rw [HN.out]; exact hlt)) := List.getElem?_eq_getElem _
        generalize l[k]'(by rw [HN.out]; exact hlt) = x at hx
        have HX := Lib.hid hx
        clear hx
        have hrx := tnY.elem (rangeAt_below HR.out hbel) k x HX.out
        go_wp2_with (refine wpList_load_mid rfl 55 _ rfl b (off + k * 8) rfl (tnV x) _ hrx Tryz.underlying55 rfl (by kernel_rfl) ?_)
        clear hrx
        refine (HP.out x wr (hbel.mono hB)).mono ?_
        rintro e w1 ⟨rfl, hb1⟩
        have hbel1 := hbel.trans (hb1.mono hbel.size)
        cases hpx : p x with
        | true =>
          have HPX := Lib.hid hpx
          clear hpx
          go_wp2
          go_ret
          have e : idxL p l 0 = (k : Int) := by
            rw [idxL_skip p l k 0 HNO.out (by rw [HN.out]; omega), Nat.zero_add]
            have h2 := HX.out
            have hd : l.drop k = x :: l.drop (k + 1) := by
              obtain ⟨h3, h4⟩ := List.getElem?_eq_some_iff.1 h2
              rw [← h4]; exact List.drop_eq_getElem_cons h3
            rw [hd]; unfold idxL; rw [if_pos HPX.out]
          exact ⟨by rw [e]; rfl, hbel1⟩
        | false =>
          have HPX := Lib.hid hpx
          clear hpx
          go_wp2
          have hkk := HK.out
          go_roundg (n - 1 - k)
          case rel =>
            refine ⟨k + 1, by omega, by go_num, fun i y hi hy => ?_, hbel1⟩
            by_cases hik : i < k
            · exact HNO.out i y hik hy
            · obtain rfl : i = k := by omega
              have h2 := HX.out
              rw [hy] at h2
              obtain rfl := Option.some.inj h2
              exact HPX.out
          case measure => omega
      · have hkk := HK.out
        obtain rfl : k = n := by omega
        go_wp2
        go_ret
        have e : idxL p l 0 = -1 := by
          rw [idxL_skip p l k 0 HNO.out (by rw [HN.out]; omega), List.drop_of_length_le (by rw [HN.out]; omega)]
          rfl
        exact ⟨by rw [e]; rfl, hbel⟩
def isReg (n : IdD) (f : ByteArray) (d : RegD) : Bool := eqId d.node n && eqS d.field f
theorem look1_any (x : RegD) (nb fb : Nat) (n : IdD) (f : ByteArray) (w : World) (hn : w.heap[nb]? = some (.cells #[.string n.a, .int .i64 n.n] 38 (0, 0))) (hf : w.heap[fb]? = some (.cells #[.string f] 9 (0, 0))) :
    Calls Tryz.prog 137 #[.agg (regV x).toArray, .pointer (some ⟨nb, 0, none⟩), .pointer (some ⟨fb, 0, none⟩)] w fun e' w' => e' = .returned (.bool (isReg n f x)) ∧ Below w.heap.size w w' := by
  have l1 := lt_of_block hn
  have l2 := lt_of_block hf
  have k0 : w.cell? ⟨nb, 0, none⟩ = some (.string n.a) := by rw [cell_of_row _ _ 0 _ _ _ hn]; rfl
  have k1 : w.cell? ⟨nb, 1, none⟩ = some (.int .i64 n.n) := by rw [cell_of_row _ _ 1 _ _ _ hn]; rfl
  have kf : w.cell? ⟨fb, 0, none⟩ = some (.string f) := by rw [cell_of_row _ _ 0 _ _ _ hf]; rfl
  have hb : Below w.heap.size w (w.alloc (.cells (regV x).toArray 48)) := (Below.refl _ _).alloc (Nat.le_refl _) _
  clear hn hf
  unfold regV at *
  cases hs : eqS x.node.a n.a with
  | false =>
    have hs' : (x.node.a.toList == n.a.toList) = false := hs
    have HQ := Lib.hid (show isReg n f x = false by unfold isReg eqId; rw [hs]; rfl)
    clear hs
    go_enter Tryz.func137, Tryz.ntmps137
    go_wp2
    go_ret
    exact ⟨by rw [HQ.out]; rfl, hb⟩
  | true =>
    have hs' : (x.node.a.toList == n.a.toList) = true := hs
    cases hn : (x.node.n == n.n) with
    | false =>
      have HQ := Lib.hid (show isReg n f x = false by unfold isReg eqId; rw [hs, hn]; rfl)
      clear hs
      go_enter Tryz.func137, Tryz.ntmps137
      go_wp2
      go_ret
      exact ⟨by rw [HQ.out]; rfl, hb⟩
    | true =>
      have HQ := Lib.hid (show isReg n f x = eqS x.field f by unfold isReg eqId; rw [hs, hn]; rfl)
      clear hs
      go_enter Tryz.func137, Tryz.ntmps137
      go_wp2
      all_goals go_ret
      all_goals exact ⟨by rw [HQ.out]; rfl, hb⟩
def RRegs (w : World) (v : Value) (R : List RegP) : Prop :=
  ∃ ds : List RegD, regY.Rd w v ds ∧ ds.length = R.length ∧ ∀ (i : Nat) (d : RegD) (r : RegP), ds[i]? = some d → R[i]? = some r → d.node = r.node ∧ d.field = r.field ∧ wrY.Rd w d.w.v r.w
theorem Regs.read {w : World} {base : Nat} {v : Value} {R : List RegP} (h : Regs w base v R) : RRegs w v R := by
  obtain ⟨ds, h1, h2, h3⟩ := h
  exact ⟨ds, Lay.Rd.of_owns (Y := regY) (by rw [h2]; exact h1), h2, fun i d r a b => ⟨(h3 i d r a b).1, (h3 i d r a b).2.1, (h3 i d r a b).2.2.1⟩⟩
theorem RRegs.below {w w' : World} {v : Value} {R : List RegP} (h : RRegs w v R) (hb : Below w.heap.size w w') : RRegs w' v R := by
  obtain ⟨ds, h1, h2, h3⟩ := h
  exact ⟨ds, h1.below hb, h2, fun i d r a b => ⟨(h3 i d r a b).1, (h3 i d r a b).2.1, (h3 i d r a b).2.2.below hb⟩⟩
def winF (l : List WrD) : ByteArray × Bool := match l.getLast? with | some x => (x.text, true) | none => (⟨#[]⟩, false)
theorem winner_any (l : List WrD) (v : Value) (w : World) (hl : l.length ≤ 1000000) (hv : wrY.Rd w v l) :
    Calls Tryz.prog 57 #[v] w fun e' w' => e' = .returned (.tuple #[.string (winF l).1, .bool (winF l).2]) ∧ w = w' := by
  rcases hv with ⟨rfl, rfl⟩ | ⟨b, off, cap, rfl, hcap, hr⟩
  · go_enter Tryz.func57, Tryz.ntmps57
    go_wp2
    go_ret2
    exact ⟨rfl, rfl⟩
  · by_cases h0 : l.length = 0
    · have HZ := Lib.hid (List.length_eq_zero_iff.1 h0)
      rw [h0]
      clear h0 hr hcap hl
      go_enter Tryz.func57, Tryz.ntmps57
      go_wp2
      go_ret2
      exact ⟨by rw [HZ.out]; rfl, rfl⟩
    · obtain ⟨m, hm⟩ : ∃ m, l.length = m + 1 := ⟨l.length - 1, by omega⟩
      have hx : l[m]? = some (l[m]'(by omega)) := List.getElem?_eq_getElem _
      generalize l[m]'(by omega) = x at hx
      have k3 : w.cell? ⟨b, off + m * 4 + 3, none⟩ = some (.string x.text) := (wrY.elem hr m x hx) 3 _ rfl
      have HW := Lib.hid (show winF l = (x.text, true) by unfold winF; rw [List.getLast?_eq_getElem?, hm, Nat.add_sub_cancel, hx])
      have hne : (((m + 1 : Nat) : Int) == 0) = false := by simp; omega
      have hsub : ((m + 1 : Nat) : Int) - 1 = (m : Int) := by omega
      have hwr : wrap64 (((m + 1 : Nat) : Int) - 1) = (m : Int) := by unfold wrap64; omega
      rw [hm]
      rw [hm] at hl
      clear hm h0 hr hcap hx
      go_enter Tryz.func57, Tryz.ntmps57
      go_wp2
      go_ret2
      exact ⟨by rw [HW.out]; rfl, rfl⟩
def lookF (n : IdD) (f : ByteArray) (R : List RegP) : List WrD := match R.find? (fun r => eqId r.node n && eqS r.field f) with | some r => r.w | none => []
end Go.Proofs.YteigcnamkfebgaaGreatDoor
