/- Sn4 (what is wanted of them). -/
import Derived.Test.YtnicgfeajdjimaaGreatBSn2
import Derived.Test.YtnicgfeajdjimaaGreatBSn3
namespace Go.Proofs.YtnicgfeajdjimaaGreat
open Go.RowKit
set_option linter.unusedVariables false
set_option linter.unusedSimpArgs false
set_option maxRecDepth 100000
set_option maxHeartbeats 1000000
def storedT (c : ClusterD) (k : Int) : ByteArray := if expB c k then frameB k (snapAtT c k) else ⟨#[]⟩
def storedN (c : ClusterD) (k : Int) : Int := if expB c k then 0 else 8
theorem storedT_size (c : ClusterD) (k : Int) : (storedT c k).size ≤ 20000 := by
  unfold storedT; split
  · exact frameB_size _ _
  · exact Nat.zero_le _
theorem stored_bad {c : ClusterD} {k : Int} (h : (!(expB c k)) = true) : storedT c k = ⟨#[]⟩ ∧ storedN c k = 8 := by
  unfold storedT storedN; revert h; generalize expB c k = b; cases b <;> simp
theorem stored_ok {c : ClusterD} {k : Int} (h : (!(expB c k)) = false) : storedT c k = frameB k (snapAtT c k) ∧ storedN c k = 0 := by
  unfold storedT storedN; revert h; generalize expB c k = b; cases b <;> simp
theorem impl_StoredText_D (c : ClusterD) (k : Int) (hc : c.fine) : Spec Tryz.prog 37 [c.d, .sc (.int .i64 k)] (fun d => d = .tup [.sc (.string (storedT c k)), .sc (.int .i64 (storedN c k))] ∧ (storedT c k).size ≤ 20000) := by
  unfold ClusterD.d
  refine sp_ (rs := [.tmp 4, .tmp 5]) (nt := 16) Tryz.func37 rfl fun X hX => ?_
  refine nm_ ?_
  repeat' ((first | contradiction | (with_reducible exact tt_) | ((with_reducible show Wk (AwStepF _ _ _ _ _ _ _)); first | (refine cl_ rfl _ _ (impl_Expressible_D c k hc) rfl rfl ?_; rintro _ rfl) | (refine cl_ rfl _ _ (impl_SnapAt_D c k hc) rfl rfl ?_; rintro _ ⟨rfl, hz⟩) | (refine cl_ rfl _ _ (impl_FrameText_D _ _) rfl rfl ?_; rintro _ ⟨rfl, hz⟩)) | ((with_reducible show Wk (AwStep _ _ _ _ _)); first | (refine pln_ ?_)) | ((with_reducible show Wk (boolK _ _ _ _)); first | (refine bk_ (fun h h' => ?_) (fun h h' => ?_))) | ((with_reducible show Wk (_ ∧ _)); first | (refine and_ ?_ ?_)) | fail) <;> (try refine nm_ ?_))
  all_goals (refine ⟨?_⟩)
  all_goals first | contradiction | (exact storedT_size c k) | (rw [(stored_bad (by assumption)).1, (stored_bad (by assumption)).2]) | (rw [(stored_ok (by assumption)).1, (stored_ok (by assumption)).2]) | trace_state
end Go.Proofs.YtnicgfeajdjimaaGreat
