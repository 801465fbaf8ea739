/- The closed facts of the row of FnExactRenewed. -/
import Derived.Test.YtgelpicbnbpooaaGreatIo
namespace Go.Proofs.YtgelpicbnbpooaaGreat

set_option maxRecDepth 100000 in
set_option maxHeartbeats 16000000 in
theorem joinedRenewed : joinedFacts Tryz.pinned.checked.prog 8 Tryz.f8 Rows.fnExactRenewedSpec Rows.fnExactRenewedRow = true := by
  unfold joinedFacts
  simp only [Bool.and_eq_true]
  repeat' (apply And.intro)
  rotate_left 25
  · exact may_enter
  · rw [show Tryz.pinned.checked.prog.liftsFinal = false from lifts_final]; rfl
  all_goals (as_aux_lemma => kernel_rfl)
end Go.Proofs.YtgelpicbnbpooaaGreat
