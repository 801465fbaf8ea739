/- The laws FnExactExpressible and FnExactOldestFor over data. -/
import Derived.Test.YtemaanibghedlaaGreatCl8
import Derived.Test.YtemaanibghedlaaGreatCl9
import Derived.Test.YtemaanibghedlaaGreatCl10
import Derived.Test.YtemaanibghedlaaGreatCl11
namespace Go.Proofs.YtemaanibghedlaaGreat
open Go.RowKit
set_option maxRecDepth 100000
set_option maxHeartbeats 1000000

theorem rl_of {c : ClusterD} (h : c.fine) : c.rl := by
  have h1 := h.hlen
  have h2 := h.plen
  refine ⟨by omega, by omega, fun k => ?_, fun k => ?_⟩
  · have h3 := (h.host k).labels.len
    have h4 := (h.host k).tlen
    exact ⟨by omega, by omega⟩
  · have h3 := (h.pod k).labels.len
    have h4 := (h.pod k).tlen
    have h5 := (h.pod k).nlen
    exact ⟨by omega, by omega, by omega, fun j => by have := ((h.pod k).need j).len; show _ ≤ _; omega⟩

theorem laws_FnExactExpressible_D (c : ClusterD) (k : Int) (hr : c.raw) : Spec Tryz.prog 5 [c.d, .sc (.int .i64 k)] (fun d => d = .sc (.bool true)) := by
  refine sp_ (rs := [.tmp 4]) (nt := 31) Tryz.func5 rfl fun X hX => ?_
  refine nm_ ?_
  repeat' ((first | contradiction | (with_reducible exact tt_) | (refine bk_ (fun h h' => ?_) (fun h h' => ?_)) | (refine and_ ?_ ?_) | (refine pln_ ?_) | (refine cl_ rfl _ _ (laws_szCluster_D c 1048576 (by omega) (by omega) hr) rfl rfl ?_; rintro _ ⟨r1, rfl, ha1, hb1, hc1⟩) | (refine cl_ rfl _ _ (laws_toCluster_D c (hc1 (by omega))) rfl rfl ?_; rintro _ rfl) | (refine cl_ rfl _ _ (spec_Expressible_D c k (hc1 (by omega))) rfl rfl ?_; rintro _ rfl) | (refine cl_ rfl _ _ (impl_Expressible_D c k (hc1 (by omega))) rfl rfl ?_; rintro _ rfl) | (refine cl_ rfl _ _ (laws_eqCluster_D c (rl_of (hc1 (by omega)))) rfl rfl ?_; rintro _ rfl) | (refine wo_ (id := 10) [] [(0, true), (1, true), (2, false), (3, false), (4, true)] ?_) | fail) <;> (try refine nm_ ?_))
  all_goals (refine ⟨?_⟩)
  all_goals first | contradiction | rfl | trace_state

theorem laws_FnExactOldestFor_D (c : ClusterD) (hr : c.raw) : Spec Tryz.prog 6 [c.d] (fun d => d = .sc (.bool true)) := by
  refine sp_ (rs := [.tmp 2]) (nt := 27) Tryz.func6 rfl fun X hX => ?_
  refine nm_ ?_
  repeat' ((first | contradiction | (with_reducible exact tt_) | (refine bk_ (fun h h' => ?_) (fun h h' => ?_)) | (refine and_ ?_ ?_) | (refine pln_ ?_) | (refine cl_ rfl _ _ (laws_szCluster_D c 1048576 (by omega) (by omega) hr) rfl rfl ?_; rintro _ ⟨r1, rfl, ha1, hb1, hc1⟩) | (refine cl_ rfl _ _ (laws_toCluster_D c (hc1 (by omega))) rfl rfl ?_; rintro _ rfl) | (refine cl_ rfl _ _ (spec_OldestFor_D c (hc1 (by omega))) rfl rfl ?_; rintro _ rfl) | (refine cl_ rfl _ _ (impl_OldestFor_D c (hc1 (by omega))) rfl rfl ?_; rintro _ rfl) | (refine cl_ rfl _ _ (laws_eqCluster_D c (rl_of (hc1 (by omega)))) rfl rfl ?_; rintro _ rfl) | (refine wo_ (id := 10) [] [(0, true), (1, true), (2, false), (3, false), (4, true)] ?_) | fail) <;> (try refine nm_ ?_))
  all_goals (refine ⟨?_⟩)
  all_goals first | contradiction | rfl | trace_state

end Go.Proofs.YtemaanibghedlaaGreat
