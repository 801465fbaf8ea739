/- The closed facts of the row of FnExactSnap2Text. -/
import Derived.Test.YtemaanibghedlaaGreatIo
namespace Go.Proofs.YtemaanibghedlaaGreat

set_option maxRecDepth 100000 in
set_option maxHeartbeats 16000000 in
theorem joinedSnap2Text : joinedFacts Tryz.pinned.checked.prog 9 Tryz.f9 Rows.fnExactSnap2TextSpec Rows.fnExactSnap2TextRow = true := by
  unfold joinedFacts
  simp only [Bool.and_eq_true]
  repeat' (apply And.intro)
  rotate_left 25
  · exact may_enter
  · rw [show Tryz.pinned.checked.prog.liftsFinal = false from lifts_final]; rfl
  all_goals (as_aux_lemma => kernel_rfl)
end Go.Proofs.YtemaanibghedlaaGreat
