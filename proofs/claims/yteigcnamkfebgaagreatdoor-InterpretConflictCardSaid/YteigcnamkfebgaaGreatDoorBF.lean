import Derived.Test.YteigcnamkfebgaaGreatDoorRows
import Derived.JoinedCond
import Derived.JoinedOf
namespace Go.Proofs.YteigcnamkfebgaaGreatDoor
theorem and_mk {a b : Bool} (h : a = true) (h' : b = true) : (a && b) = true := by rw [h, h']; rfl
set_option maxHeartbeats 6400000 in
theorem con_closed : joinedFacts Tryz.pinned.checked.prog 4 Tryz.f4 (OpenSpec.ofChange Rows.interpretConflictSpec).bare Rows.interpretConflictRow = true := by
  unfold joinedFacts
  repeat' (with_reducible refine and_mk ?_ ?_)
  all_goals (as_aux_lemma => kernel_rfl)
end Go.Proofs.YteigcnamkfebgaaGreatDoor
