import Derived.Test.YteigcnamkfebgaaGreatDoorRows
import Derived.JoinedCond
import Derived.JoinedOf
set_option linter.all false
set_option maxHeartbeats 25600000
namespace Go.Proofs.YteigcnamkfebgaaGreatDoor
theorem and_mk {a b:Bool} (h:a=true) (h':b=true):(a&&b)=true:=by rw [h,h'];rfl
theorem com_closed:joinedFacts Tryz.pinned.checked.prog 6 Tryz.f6 (Rows.OpenSpec.upto Rows.interpretCompletenessSpec).bare Rows.interpretCompletenessUptoRow=true:=by
 unfold joinedFacts
 repeat' (with_reducible refine and_mk ?_ ?_)
 all_goals (as_aux_lemma=>kernel_rfl)
end Go.Proofs.YteigcnamkfebgaaGreatDoor
