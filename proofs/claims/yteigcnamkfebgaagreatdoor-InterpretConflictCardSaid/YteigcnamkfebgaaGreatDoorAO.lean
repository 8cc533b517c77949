import Derived.Test.YteigcnamkfebgaaGreatDoorAN
import Derived.Test.YteigcnamkfebgaaGreatDoorN
namespace Go.Proofs.YteigcnamkfebgaaGreatDoor
open Go.RowKit
def slv (s : SlV) : Value := .slice s.a s.len s.cap
theorem lookF_len (n : IdD) (f : ByteArray) (R : List RegP) (h : ∀ r ∈ R, r.w.length ≤ 100000) : (lookF n f R).length ≤ 100000 := by
  unfold lookF
  split
  · rename_i r hr; exact h r (List.mem_of_find?_eq_some hr)
  · simp
theorem five_cells {W : World} {k : Nat} {a b c d e : Value} {t : TypeId} (h : W.heap[k]? = some (.cells #[a, b, c, d, e] t (0, 0))) : W.cell? ⟨k, 0, none⟩ = some a ∧ W.cell? ⟨k, 1, none⟩ = some b ∧ W.cell? ⟨k, 2, none⟩ = some c ∧ W.cell? ⟨k, 3, none⟩ = some d ∧ W.cell? ⟨k, 4, none⟩ = some e :=
  ⟨cell_of_row _ _ _ _ _ _ h, cell_of_row _ _ _ _ _ _ h, cell_of_row _ _ _ _ _ _ h, cell_of_row _ _ _ _ _ _ h, cell_of_row _ _ _ _ _ _ h⟩
set_option maxHeartbeats 6400000 in
set_option maxRecDepth 100000 in
theorem field_any (R : List RegP) (rb : Nat) (sn sr sp sf sc : SlV) (n : IdD) (f : ByteArray) (w : World) (hr : w.heap[rb]? = some (.cells #[.slice sn.a sn.len sn.cap, .slice sr.a sr.len sr.cap, .slice sp.a sp.len sp.cap, .slice sf.a sf.len sf.cap, .slice sc.a sc.len sc.cap] 75 (0, 0)))
    (hl : R.length ≤ 100000) (hwl : ∀ r ∈ R, r.w.length ≤ 100000) (hv : RRegs w sr.v R) :
    Calls Tryz.prog 56 #[.pointer (some ⟨rb, 0, none⟩), .agg #[.string n.a, .int .i64 n.n], .string f] w fun e w' => e = .returned (.string (winF (lookF n f R)).1) ∧ Below w.heap.size w w' := by
  have R1 : (w.alloc (.cells #[.string n.a, .int .i64 n.n] 38)).drew.heap[rb]? = _ := alloc_old _ _ _ _ hr
  have R2 : (w.alloc (.cells #[.string n.a, .int .i64 n.n] 38)).drew.heap[w.heap.size]? = _ := alloc_get _ _ _ rfl
  have BL : Below w.heap.size w (w.alloc (.cells #[.string n.a, .int .i64 n.n] 38)).drew := ((Below.refl _ w).alloc (Nat.le_refl _) _).drew
  have RV : RRegs (w.alloc (.cells #[.string n.a, .int .i64 n.n] 38)).drew sr.v R := hv.below ((Below.refl _ w).alloc (Nat.le_refl _) _).drew
  have hll := lookF_len n f R hwl
  clear hr hv
  go_enter Tryz.func56, Tryz.ntmps56
  go_wp2_with fail
  go_region_held3 (fun w' => w'.cell? ⟨rb, 1, none⟩ = some (.slice sr.a sr.len sr.cap) ∧ w'.cell? ⟨w.heap.size, 0, none⟩ = some (.string n.a) ∧ w'.cell? ⟨w.heap.size, 1, none⟩ = some (.int .i64 n.n))
    (first
      | with_reducible exact ⟨(five_cells R1).2.1, two_cells R2⟩
      | go_keep)
    (first
      | (go_at_call 94; refine (lookup_any R _ n f _ hl hwl RV).mono ?_; rintro e w4 ⟨v4, rfl, hwr, hb⟩; obtain ⟨a4, n4, c4, hv4⟩ := hwr.form; subst hv4; have R1 := (hb.block _ (lt_of_block R1)).trans R1; have R2 := (hb.block _ (lt_of_block R2)).trans R2; have BL := BL.trans (hb.mono BL.size))
      | (go_at_call 57; refine (winner_any (lookF n f R) _ _ (Nat.le_trans hll (by omega)) hwr).mono ?_; rintro e w5 ⟨rfl, rfl⟩))
  all_goals go_wp2
  all_goals go_ret
  all_goals exact ⟨rfl, BL⟩
end Go.Proofs.YteigcnamkfebgaaGreatDoor
