import Derived.Test.YteigcnamkfebgaaGreatDoorE
namespace Go.Proofs.YteigcnamkfebgaaGreatDoor
open Go.RowKit
structure EdD where
  id : IdD
  clock : Int
  floor : Int
  deps : SlV
  kind : Int
  node : IdD
  parent : IdD
  neg : Bool
  num : ByteArray
  den : ByteArray
  field : ByteArray
  value : ByteArray
  target : IdD
  who : ByteArray
def edV (e : EdD) : List Value := [.string e.id.a, .int .i64 e.id.n, .int .i64 e.clock, .int .i64 e.floor, .slice e.deps.a e.deps.len e.deps.cap, .int .i64 e.kind, .string e.node.a, .int .i64 e.node.n, .string e.parent.a, .int .i64 e.parent.n,
  .bool e.neg, .string e.num, .string e.den, .string e.field, .string e.value, .string e.target.a, .int .i64 e.target.n, .string e.who]
def edY : Lay EdD := ⟨18, edV, fun _ => rfl, by
  intro x u hu
  simp only [edV, List.mem_cons, List.not_mem_nil, or_false] at hu
  rcases hu with rfl | rfl | rfl | rfl | rfl | rfl | rfl | rfl | rfl | rfl | rfl | rfl | rfl | rfl | rfl | rfl | rfl | rfl <;> rfl⟩
def eqS (a b : ByteArray) : Bool := a.toList == b.toList
def eqId (x y : IdD) : Bool := eqS x.a y.a && (x.n == y.n)
/-- written's predicate: is this write replaced? -/
theorem written1_any (m : WrD) (eb : Nat) (e : EdD) (ids : List IdD) (w : World) (he : w.heap[eb]? = some (.cells (edV e).toArray 45 (0, 0))) (hd : idY.Rd w e.deps.v ids) (hl : ids.length ≤ 1000000) :
    Calls Tryz.prog 125 #[.agg (wrV m).toArray, .pointer (some ⟨eb, 0, none⟩)] w fun e' w' => e' = .returned (.bool (eqId m.id e.id || containsF ids m.id)) ∧ Below w.heap.size w w' := by
  have hlt := lt_of_block he
  have k0 : w.cell? ⟨eb, 0, none⟩ = some (.string e.id.a) := by rw [cell_of_row _ _ 0 _ _ _ he]; rfl
  have k1 : w.cell? ⟨eb, 1, none⟩ = some (.int .i64 e.id.n) := by rw [cell_of_row _ _ 1 _ _ _ he]; rfl
  have k4 : w.cell? ⟨eb, 4, none⟩ = some (.slice e.deps.a e.deps.len e.deps.cap) := by rw [cell_of_row _ _ 4 _ _ _ he]; rfl
  have hb : Below w.heap.size w (w.alloc (.cells (wrV m).toArray 50)) := (Below.refl _ _).alloc (Nat.le_refl _) _
  have HC := Lib.hid (contains_any ids e.deps.v m.id (w.alloc (.cells (wrV m).toArray 50)) hl (hd.alloc _))
  clear he hd
  unfold wrV at *
  cases hs : eqS m.id.a e.id.a with
  | false =>
    have hs' : (m.id.a.toList == e.id.a.toList) = false := hs
    have HQ := Lib.hid (show eqId m.id e.id = false by unfold eqId; rw [hs]; rfl)
    clear hs
    go_enter Tryz.func125, Tryz.ntmps125
    go_wp2_with fail
    refine (HC.out).mono ?_
    rintro e' w1 ⟨rfl, hb1⟩
    have HB1 := Lib.hid (hb.trans (hb1.mono (by simp)))
    clear hb hb1 k0 k1 k4
    obtain ⟨f, hf⟩ : ∃ f, f = containsF ids m.id := ⟨_, rfl⟩
    rw [← hf]
    have HF := Lib.hid hf
    clear hf
    go_wp2
    go_ret
    exact ⟨by rw [HQ.out, ← HF.out]; rfl, HB1.out⟩
  | true =>
    have hs' : (m.id.a.toList == e.id.a.toList) = true := hs
    cases hn : (m.id.n == e.id.n) with
    | false =>
      have HQ := Lib.hid (show eqId m.id e.id = false by unfold eqId; rw [hs, hn]; rfl)
      clear hs
      go_enter Tryz.func125, Tryz.ntmps125
      go_wp2_with fail
      refine (HC.out).mono ?_
      rintro e' w1 ⟨rfl, hb1⟩
      have HB1 := Lib.hid (hb.trans (hb1.mono (by simp)))
      clear hb hb1 k0 k1 k4
      obtain ⟨f, hf⟩ : ∃ f, f = containsF ids m.id := ⟨_, rfl⟩
      rw [← hf]
      have HF := Lib.hid hf
      clear hf
      go_wp2
      go_ret
      exact ⟨by rw [HQ.out, ← HF.out]; rfl, HB1.out⟩
    | true =>
      have HQ := Lib.hid (show eqId m.id e.id = true by unfold eqId; rw [hs, hn]; rfl)
      clear hs HC
      go_enter Tryz.func125, Tryz.ntmps125
      go_wp2
      go_ret
      exact ⟨by rw [HQ.out]; rfl, hb⟩
end Go.Proofs.YteigcnamkfebgaaGreatDoor
