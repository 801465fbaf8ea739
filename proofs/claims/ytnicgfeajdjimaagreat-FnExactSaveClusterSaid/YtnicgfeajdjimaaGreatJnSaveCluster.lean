/- The closed facts of the row of FnExactSaveCluster. -/
import Derived.Test.YtnicgfeajdjimaaGreatIo
namespace Go.Proofs.YtnicgfeajdjimaaGreat

set_option maxRecDepth 100000 in
set_option maxHeartbeats 16000000 in
theorem joinedSaveCluster : joinedFacts Tryz.pinned.checked.prog 3 Tryz.f3 Rows.fnExactSaveClusterSpec Rows.fnExactSaveClusterRow = true := by
  unfold joinedFacts
  simp only [Bool.and_eq_true]
  repeat' (apply And.intro)
  rotate_left 25
  · exact may_enter
  · rw [show Tryz.pinned.checked.prog.liftsFinal = false from lifts_final]; rfl
  all_goals (as_aux_lemma => kernel_rfl)
end Go.Proofs.YtnicgfeajdjimaaGreat
