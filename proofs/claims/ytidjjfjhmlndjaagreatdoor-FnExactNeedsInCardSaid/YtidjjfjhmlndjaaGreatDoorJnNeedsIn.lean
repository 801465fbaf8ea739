/- The closed facts of the row of FnExactNeedsIn. -/
import Derived.Test.YtidjjfjhmlndjaaGreatDoorIo
namespace Go.Proofs.YtidjjfjhmlndjaaGreatDoor

set_option maxRecDepth 100000 in
set_option maxHeartbeats 16000000 in
theorem joinedNeedsIn : joinedFacts Tryz.pinned.checked.prog 4 Tryz.f4 Rows.fnExactNeedsInSpec Rows.fnExactNeedsInRow = true := by
  unfold joinedFacts
  simp only [Bool.and_eq_true]
  repeat' (apply And.intro)
  rotate_left 25
  · exact may_enter
  · rw [show Tryz.pinned.checked.prog.liftsFinal = false from lifts_final]; rfl
  all_goals (as_aux_lemma => kernel_rfl)
end Go.Proofs.YtidjjfjhmlndjaaGreatDoor
