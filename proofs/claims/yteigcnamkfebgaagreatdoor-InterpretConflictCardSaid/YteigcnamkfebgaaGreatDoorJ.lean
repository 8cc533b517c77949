import Derived.Test.YteigcnamkfebgaaGreatDoorI
namespace Go.Proofs.YteigcnamkfebgaaGreatDoor
open Go.RowKit
theorem ownsRow_mono {w : World} {base base' n size : Nat} {e : TypeId} {v : Value} {xs : List Value} (h : w.ownsRow base e size v n xs) (hb : base' ≤ base) : w.ownsRow base' e size v n xs := by
  obtain ⟨h1, h2⟩ := h
  refine ⟨h1, ?_⟩
  rcases h2 with h2 | ⟨g, cap, cur, hv, hg, r⟩
  · exact .inl h2
  · exact .inr ⟨g, cap, cur, hv, Nat.le_trans hb hg, r⟩
def keptW (e : EdD) (ids : List IdD) (l : List WrD) : List WrD := l.filter (fun m => !(eqId m.id e.id || containsF ids m.id))
def newW (e : EdD) : WrD := ⟨e.id, e.clock, e.value⟩
set_option maxRecDepth 100000 in
set_option maxHeartbeats 2000000 in
theorem written_any (l : List WrD) (v : Value) (e : EdD) (ids : List IdD) (w : World) (hl : l.length ≤ 100000) (hv : wrY.Rd w v l) (hd : idY.Rd w e.deps.v ids) (hids : ids.length ≤ 1000000)
    (hat : bs (fun x => cmpWr x (newW e)) (keptW e ids l) 0 (keptW e ids l).length = (keptW e ids l).length) :
    Calls Tryz.prog 80 #[v, .agg (edV e).toArray] w fun e' w' => ∃ v', e' = .returned v' ∧ w'.ownsRow w.heap.size 50 4 v' ((keptW e ids l).length + 1) (wrY.flat (keptW e ids l ++ [newW e])) ∧ Below w.heap.size w w' := by
  have hm0 := alloc_get w (.cells (edV e).toArray 45) w.heap.size rfl
  have hb0 : Below w.heap.size w (w.alloc (.cells (edV e).toArray 45)) := (Below.refl _ _).alloc (Nat.le_refl _) _
  have hv0 := hv.alloc (.cells (edV e).toArray 45)
  have HD := Lib.hid hd
  clear hv hd
  have HAT := Lib.hid hat
  clear hat
  have hkl : (keptW e ids l).length ≤ l.length := List.length_filter_le _ _
  go_enter Tryz.func80, Tryz.ntmps80
  go_wp2_with fail
  generalize hW0 : w.alloc (.cells (edV e).toArray 45) = W0 at *
  have hs0 : W0.heap.size = w.heap.size + 1 := by rw [← hW0]; simp
  clear hW0
  refine (cloneWr_any l v W0 (by omega) hv0).mono ?_
  rintro e1 w1 ⟨v1, rfl, hown1, hb1⟩
  have hm1 := (hb1.block _ (by omega)).trans hm0
  obtain ⟨s1, hs1⟩ : ∃ s : SlV, v1 = .slice s.a s.len s.cap := by
    obtain ⟨a, n, c, rfl⟩ := (Lay.Rd.of_owns (Y := wrY) hown1).form
    exact ⟨⟨a, n, c⟩, rfl⟩
  subst hs1
  have hsz1 := hb1.size
  have hbel1 : Below w.heap.size w w1 := hb0.trans (hb1.mono (by omega))
  clear hb1 hm0 hv0 hb0
  go_wp2_with fail
  have hP : PredE wrY W0.heap.size 125 #[.pointer (some ⟨w.heap.size, 0, none⟩)] (fun m => eqId m.id e.id || containsF ids m.id) w1 := fun x W hB =>
    written1_any x w.heap.size e ids W ((hB.block _ (by omega)).trans hm1) (HD.out.below (hbel1.trans (hB.mono (by omega)))) hids
  refine (deleteWr_any 125 #[.pointer (some ⟨w.heap.size, 0, none⟩)] _ l (.slice s1.a s1.len s1.cap) W0.heap.size w1 (by omega) hown1 hsz1 Tryz.call125 hP).mono ?_
  rintro e2 w2 ⟨v2, rfl, hown2, hb2⟩
  have hm2 := (hb2.block _ (by omega)).trans hm1
  have hbel2 : Below w.heap.size w w2 := hbel1.trans (hb2.mono (by omega))
  have hsz2 := hb2.size
  rw [show l.filter (fun x => !(eqId x.id e.id || containsF ids x.id)) = keptW e ids l from rfl] at hown2
  generalize hK : keptW e ids l = K at *
  have HKK := Lib.hid hK
  clear hK
  obtain ⟨s2, hs2⟩ : ∃ s : SlV, v2 = .slice s.a s.len s.cap := by
    obtain ⟨a, n, c, rfl⟩ := (Lay.Rd.of_owns (Y := wrY) hown2).form
    exact ⟨⟨a, n, c⟩, rfl⟩
  subst hs2
  clear hP hown1 hm1 hbel1 hb2
  have k0 : w2.cell? ⟨w.heap.size, 0, none⟩ = some (.string e.id.a) := by rw [cell_of_row _ _ 0 _ _ _ hm2]; rfl
  have k1 : w2.cell? ⟨w.heap.size, 1, none⟩ = some (.int .i64 e.id.n) := by rw [cell_of_row _ _ 1 _ _ _ hm2]; rfl
  have k2 : w2.cell? ⟨w.heap.size, 2, none⟩ = some (.int .i64 e.clock) := by rw [cell_of_row _ _ 2 _ _ _ hm2]; rfl
  have k14 : w2.cell? ⟨w.heap.size, 14, none⟩ = some (.string e.value) := by rw [cell_of_row _ _ 14 _ _ _ hm2]; rfl
  have lm2 := lt_of_block hm2
  clear hm2
  go_wp2_with fail
  have hown3 := hown2.alloc (.cells #[.string e.id.a, .int .i64 e.id.n, .int .i64 e.clock, .string e.value] 50)
  have hmm3 := alloc_get w2 (.cells #[.string e.id.a, .int .i64 e.id.n, .int .i64 e.clock, .string e.value] 50) w2.heap.size rfl
  have hbel3 : Below w.heap.size w (w2.alloc (.cells #[.string e.id.a, .int .i64 e.id.n, .int .i64 e.clock, .string e.value] 50)) := hbel2.alloc hbel2.size _
  generalize hW3 : w2.alloc (.cells #[.string e.id.a, .int .i64 e.id.n, .int .i64 e.clock, .string e.value] 50) = W3 at *
  have hs3 : W3.heap.size = w2.heap.size + 1 := by rw [← hW3]; simp
  clear hW3 k0 k1 k2 k14 hbel2 hown2
  refine (bsWr_any K (.slice s2.a s2.len s2.cap) (newW e) W3 (by omega) (Lay.Rd.of_owns (Y := wrY) hown3)).mono ?_
  rintro e3 w4 ⟨r, hr, _, rfl, hb4⟩
  rw [HAT.out] at hr
  subst hr
  have hown4 := ownsRow_below hown3 hb4
  have hmm4 := (hb4.block _ (by omega)).trans hmm3
  have hbel4 : Below w.heap.size w w4 := hbel3.trans (hb4.mono hbel3.size)
  have hsz4 := hb4.size
  clear hown3 hmm3 hbel3 hb4
  have k0 : w4.cell? ⟨w2.heap.size, 0, none⟩ = some (.string e.id.a) := by rw [cell_of_row _ _ 0 _ _ _ hmm4]; rfl
  have k1 : w4.cell? ⟨w2.heap.size, 1, none⟩ = some (.int .i64 e.id.n) := by rw [cell_of_row _ _ 1 _ _ _ hmm4]; rfl
  have k2 : w4.cell? ⟨w2.heap.size, 2, none⟩ = some (.int .i64 e.clock) := by rw [cell_of_row _ _ 2 _ _ _ hmm4]; rfl
  have k3 : w4.cell? ⟨w2.heap.size, 3, none⟩ = some (.string e.value) := by rw [cell_of_row _ _ 3 _ _ _ hmm4]; rfl
  clear hmm4
  generalize found (fun x => cmpWr x (newW e)) K K.length = f
  go_wp2_with fail
  have hown5 := hown4.alloc (.cells #[.string e.id.a, .int .i64 e.id.n, .int .i64 e.clock, .string e.value] 50)
  refine (insWr_any K (.slice s2.a s2.len s2.cap) (newW e) W0.heap.size _ (by omega) hown5 (by simp; omega) w4.heap.size (alloc_get _ _ _ rfl)).mono ?_
  rintro e4 w6 ⟨v6, rfl, hown6, hb6, _, _⟩
  have hbel6 : Below w.heap.size w w6 := (hbel4.alloc hbel4.size _).trans (hb6.mono (by omega))
  have hown7 : w6.ownsRow w.heap.size 50 4 v6 (K.length + 1) (wrY.flat (K ++ [newW e])) := ownsRow_mono hown6 (by omega)
  clear hown6 hown5 hown4 k0 k1 k2 k3 hb6 hbel4
  go_wp2
  go_ret
  exact ⟨_, rfl, by rw [HKK.out]; exact hown7, hbel6⟩
end Go.Proofs.YteigcnamkfebgaaGreatDoor
