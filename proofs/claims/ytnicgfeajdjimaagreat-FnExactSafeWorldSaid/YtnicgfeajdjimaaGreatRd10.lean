/- Version 1 is read, and made version 2. -/
import Derived.Test.YtnicgfeajdjimaaGreatRd7
import Derived.Test.YtnicgfeajdjimaaGreatRd8
import Derived.Test.YtnicgfeajdjimaaGreatRds
import Derived.Test.YtnicgfeajdjimaaGreatSn2
namespace Go.Proofs.YtnicgfeajdjimaaGreat
open Go.RowKit
set_option maxRecDepth 100000
set_option maxHeartbeats 4000000

theorem impl_ReadSnap1_C (s : ByteArray) (hz : s.size ≤ 1048576) : SpecH Tryz.prog 53 [.sc (.string s)] [] 0 (fun d os' nb' => ∃ c ok, Fin (rd1 s) c ok ∧ (c.fine ∧ c.hosts.length ≤ 8 ∧ c.pods.length ≤ 12 ∧ (ok = true → expB c 1 = true)) ∧ d = .tup [.agg [.own 0 0 (c.hosts).length, .own 1 0 (c.pods).length, .sc (.int .i64 c.next), .sc (.int .i64 c.w1), .sc (.int .i64 c.w2), .sc (.int .i64 c.w3)], .sc (.bool ok)] ∧ os' = [(0, ⟨119, 6, (c.hosts).length, hostsT (c.hosts)⟩), (1, ⟨125, 9, (c.pods).length, placedsT (c.pods)⟩)] ∧ nb' = 2) := by
  have h := impl_ReadSnap1_D s hz
  rw [snap1_ag] at h
  exact h
theorem spec_ReadSnap1_C (s : ByteArray) (hz : s.size ≤ 1048576) : Spec Tryz.prog 135 [.sc (.string s)] (fun d => ∃ c ok, Fin (rd1 s) c ok ∧ c.fine ∧ d = .tup [c.d, .sc (.bool ok)]) := spec_ReadSnap1_D s hz

theorem impl_Upgraded12_D (s : ByteArray) (hz : s.size ≤ 1048576) : Spec Tryz.prog 50 [.sc (.string s)] (fun d => ∃ t ok, Txt (up12 s) t ok ∧ t.size ≤ 60000 ∧ d = .tup [.sc (.string t), .sc (.bool ok)]) := by
  refine sp_ (rs := [.tmp 2, .tmp 3]) (nt := 15) Tryz.func50 rfl fun X hX => ?_
  refine nm_ ?_
  repeat' ((first | contradiction | (with_reducible exact tt_) | (refine bk_ (fun h h' => ?_) (fun h h' => ?_)) | (refine and_ ?_ ?_) | (refine pln_ ?_) | (refine awH_ rfl (impl_ReadSnap1_C s hz) [] ?_; rintro _ _ _ ⟨c, ok, hf, ⟨hc, h8, h12, hk⟩, rfl, rfl, rfl⟩ _) | (refine bo_ rfl [.cool 0, .frz 0, .cool 1, .frz 1] (impl_Snap2Text_D c hc) ?_; rintro _ ⟨rfl, hs⟩; refine ⟨rfl, ?_⟩) | fail) <;> (try refine nm_ ?_))
  all_goals (refine ⟨?_⟩)
  all_goals first | contradiction | (exact ⟨_, _, up12_no hf (by first | assumption | simp_all), (by decide), rfl⟩) | (exact ⟨_, _, up12_yes hf (by first | assumption | simp_all), snap2T_le hc, rfl⟩) | trace_state

theorem spec_Upgraded12_D (s : ByteArray) (hz : s.size ≤ 1048576) : Spec Tryz.prog 60 [.sc (.string s)] (fun d => ∃ t ok, Txt (up12 s) t ok ∧ t.size ≤ 60000 ∧ d = .tup [.sc (.string t), .sc (.bool ok)]) := by
  refine sp_ (rs := [.tmp 2, .tmp 3]) (nt := 15) Tryz.func60 rfl fun X hX => ?_
  refine nm_ ?_
  repeat' ((first | contradiction | (with_reducible exact tt_) | (refine bk_ (fun h h' => ?_) (fun h h' => ?_)) | (refine and_ ?_ ?_) | (refine pln_ ?_) | (refine cl_ rfl _ _ (spec_ReadSnap1_C s hz) rfl rfl ?_; rintro _ ⟨c, ok, hf, hc, rfl⟩; (unfold ClusterD.d)) | (refine cl_ rfl _ _ (spec_Snap2Text_D c hc) rfl rfl ?_; rintro _ ⟨rfl, hs⟩) | fail) <;> (try refine nm_ ?_))
  all_goals (refine ⟨?_⟩)
  all_goals first | contradiction | (exact ⟨_, _, up12_no hf (by first | assumption | simp_all), (by decide), rfl⟩) | (exact ⟨_, _, up12_yes hf (by first | assumption | simp_all), snap2T_le hc, rfl⟩) | trace_state

end Go.Proofs.YtnicgfeajdjimaaGreat
