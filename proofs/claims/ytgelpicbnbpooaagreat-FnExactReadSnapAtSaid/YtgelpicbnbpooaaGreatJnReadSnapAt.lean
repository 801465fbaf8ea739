/- The closed facts of the row of FnExactReadSnapAt. -/
import Derived.Test.YtgelpicbnbpooaaGreatIo
namespace Go.Proofs.YtgelpicbnbpooaaGreat

set_option maxRecDepth 100000 in
set_option maxHeartbeats 16000000 in
theorem joinedReadSnapAt : joinedFacts Tryz.pinned.checked.prog 9 Tryz.f9 Rows.fnExactReadSnapAtSpec Rows.fnExactReadSnapAtRow = true := by
  unfold joinedFacts
  simp only [Bool.and_eq_true]
  repeat' (apply And.intro)
  rotate_left 25
  · exact may_enter
  · rw [show Tryz.pinned.checked.prog.liftsFinal = false from lifts_final]; rfl
  all_goals (as_aux_lemma => kernel_rfl)
end Go.Proofs.YtgelpicbnbpooaaGreat
