/- The laws of a cluster's encodings over data. -/
import Derived.Test.YtemaanibghedlaaGreatSn2
import Derived.Test.YtemaanibghedlaaGreatCl12
namespace Go.Proofs.YtemaanibghedlaaGreat
open Go.RowKit
set_option maxRecDepth 100000
set_option maxHeartbeats 1000000

theorem laws_FnExactSnap1Text_D (c : ClusterD) (hr : c.raw) : Spec Tryz.prog 7 [c.d] (fun d => d = .sc (.bool true)) := by
  refine sp_ (rs := [.tmp 2]) (nt := 27) Tryz.func7 rfl fun X hX => ?_
  refine nm_ ?_
  repeat' ((first | contradiction | (with_reducible exact tt_) | (refine bk_ (fun h h' => ?_) (fun h h' => ?_)) | (refine and_ ?_ ?_) | (refine pln_ ?_) | (refine cl_ rfl _ _ (laws_szCluster_D c 1048576 (by omega) (by omega) hr) rfl rfl ?_; rintro _ ⟨r1, rfl, ha1, hb1, hc1⟩) | (refine cl_ rfl _ _ (laws_toCluster_D c (hc1 (by omega))) rfl rfl ?_; rintro _ rfl) | (refine cl_ rfl _ _ (spec_Snap1Text_D c (hc1 (by omega))) rfl rfl ?_; rintro _ ⟨rfl, hz⟩) | (refine cl_ rfl _ _ (impl_Snap1Text_D c (hc1 (by omega))) rfl rfl ?_; rintro _ ⟨rfl, hz⟩) | (refine cl_ rfl _ _ (laws_eqCluster_D c (rl_of (hc1 (by omega)))) rfl rfl ?_; rintro _ rfl) | (refine wo_ (id := 10) [] [(0, true), (1, true), (2, false), (3, false), (4, true)] ?_) | fail) <;> (try refine nm_ ?_))
  all_goals (refine ⟨?_⟩)
  all_goals first | contradiction | rfl | trace_state

theorem laws_FnExactSnap2Text_D (c : ClusterD) (hr : c.raw) : Spec Tryz.prog 9 [c.d] (fun d => d = .sc (.bool true)) := by
  refine sp_ (rs := [.tmp 2]) (nt := 27) Tryz.func9 rfl fun X hX => ?_
  refine nm_ ?_
  repeat' ((first | contradiction | (with_reducible exact tt_) | (refine bk_ (fun h h' => ?_) (fun h h' => ?_)) | (refine and_ ?_ ?_) | (refine pln_ ?_) | (refine cl_ rfl _ _ (laws_szCluster_D c 1048576 (by omega) (by omega) hr) rfl rfl ?_; rintro _ ⟨r1, rfl, ha1, hb1, hc1⟩) | (refine cl_ rfl _ _ (laws_toCluster_D c (hc1 (by omega))) rfl rfl ?_; rintro _ rfl) | (refine cl_ rfl _ _ (spec_Snap2Text_D c (hc1 (by omega))) rfl rfl ?_; rintro _ ⟨rfl, hz⟩) | (refine cl_ rfl _ _ (impl_Snap2Text_D c (hc1 (by omega))) rfl rfl ?_; rintro _ ⟨rfl, hz⟩) | (refine cl_ rfl _ _ (laws_eqCluster_D c (rl_of (hc1 (by omega)))) rfl rfl ?_; rintro _ rfl) | (refine wo_ (id := 10) [] [(0, true), (1, true), (2, false), (3, false), (4, true)] ?_) | fail) <;> (try refine nm_ ?_))
  all_goals (refine ⟨?_⟩)
  all_goals first | contradiction | rfl | trace_state

theorem laws_FnExactSnapAt_D (c : ClusterD) (k : Int) (hr : c.raw) : Spec Tryz.prog 12 [c.d, .sc (.int .i64 k)] (fun d => d = .sc (.bool true)) := by
  refine sp_ (rs := [.tmp 4]) (nt := 31) Tryz.func12 rfl fun X hX => ?_
  refine nm_ ?_
  repeat' ((first | contradiction | (with_reducible exact tt_) | (refine bk_ (fun h h' => ?_) (fun h h' => ?_)) | (refine and_ ?_ ?_) | (refine pln_ ?_) | (refine cl_ rfl _ _ (laws_szCluster_D c 1048576 (by omega) (by omega) hr) rfl rfl ?_; rintro _ ⟨r1, rfl, ha1, hb1, hc1⟩) | (refine cl_ rfl _ _ (laws_toCluster_D c (hc1 (by omega))) rfl rfl ?_; rintro _ rfl) | (refine cl_ rfl _ _ (spec_SnapAt_D c k (hc1 (by omega))) rfl rfl ?_; rintro _ ⟨rfl, hz⟩) | (refine cl_ rfl _ _ (impl_SnapAt_D c k (hc1 (by omega))) rfl rfl ?_; rintro _ ⟨rfl, hz⟩) | (refine cl_ rfl _ _ (laws_eqCluster_D c (rl_of (hc1 (by omega)))) rfl rfl ?_; rintro _ rfl) | (refine wo_ (id := 10) [] [(0, true), (1, true), (2, false), (3, false), (4, true)] ?_) | fail) <;> (try refine nm_ ?_))
  all_goals (refine ⟨?_⟩)
  all_goals first | contradiction | rfl | trace_state

end Go.Proofs.YtemaanibghedlaaGreat
