/- Version 1 is read, and made version 2. -/
import Derived.Test.YtgelpicbnbpooaaGreatRd7
import Derived.Test.YtgelpicbnbpooaaGreatRd8
import Derived.Test.YtgelpicbnbpooaaGreatRds
import Derived.Test.YtgelpicbnbpooaaGreatSn2
namespace Go.Proofs.YtgelpicbnbpooaaGreat
open Go.RowKit
set_option maxRecDepth 100000
set_option maxHeartbeats 1000000

theorem impl_ReadSnap1_C (s : ByteArray) (hz : s.size ≤ 1048576) : SpecH Tryz.prog 25 [.sc (.string s)] [] 0 (fun d os' nb' => ∃ c ok, Fin (rd1 s) c ok ∧ (c.fine ∧ c.hosts.length ≤ 8 ∧ c.pods.length ≤ 12 ∧ (ok = true → expB c 1 = true)) ∧ d = .tup [.agg [.own 0 0 (c.hosts).length, .own 1 0 (c.pods).length, .sc (.int .i64 c.next), .sc (.int .i64 c.w1), .sc (.int .i64 c.w2), .sc (.int .i64 c.w3)], .sc (.bool ok)] ∧ os' = [(0, ⟨104, 6, (c.hosts).length, hostsT (c.hosts)⟩), (1, ⟨111, 9, (c.pods).length, placedsT (c.pods)⟩)] ∧ nb' = 2) := by
  have h := impl_ReadSnap1_D s hz
  rw [snap1_ag] at h
  exact h
theorem spec_ReadSnap1_C (s : ByteArray) (hz : s.size ≤ 1048576) : Spec Tryz.prog 24 [.sc (.string s)] (fun d => ∃ c ok, Fin (rd1 s) c ok ∧ c.fine ∧ d = .tup [c.d, .sc (.bool ok)]) := spec_ReadSnap1_D s hz

theorem impl_Upgraded12_D (s : ByteArray) (hz : s.size ≤ 1048576) : Spec Tryz.prog 21 [.sc (.string s)] (fun d => ∃ t ok, Txt (up12 s) t ok ∧ t.size ≤ 60000 ∧ d = .tup [.sc (.string t), .sc (.bool ok)]) := by
  refine sp_ (rs := [.tmp 2, .tmp 3]) (nt := 15) Tryz.func21 rfl fun X hX => ?_
  refine nm_ ?_
  repeat' ((first | contradiction | (with_reducible exact tt_) | (refine bk_ (fun h h' => ?_) (fun h h' => ?_)) | (refine and_ ?_ ?_) | (refine pln_ ?_) | (refine awH_ rfl (impl_ReadSnap1_C s hz) [] ?_; rintro _ _ _ ⟨c, ok, hf, ⟨hc, h8, h12, hk⟩, rfl, rfl, rfl⟩ _) | (refine bo_ rfl [.cool 0, .frz 0, .cool 1, .frz 1] (impl_Snap2Text_D c hc) ?_; rintro _ ⟨rfl, hs⟩; refine ⟨rfl, ?_⟩) | fail) <;> (try refine nm_ ?_))
  all_goals (refine ⟨?_⟩)
  all_goals first | contradiction | (exact ⟨_, _, up12_no hf (by first | assumption | simp_all), (by decide), rfl⟩) | (exact ⟨_, _, up12_yes hf (by first | assumption | simp_all), snap2T_le hc, rfl⟩) | trace_state

theorem spec_Upgraded12_D (s : ByteArray) (hz : s.size ≤ 1048576) : Spec Tryz.prog 20 [.sc (.string s)] (fun d => ∃ t ok, Txt (up12 s) t ok ∧ t.size ≤ 60000 ∧ d = .tup [.sc (.string t), .sc (.bool ok)]) := by
  refine sp_ (rs := [.tmp 2, .tmp 3]) (nt := 15) Tryz.func20 rfl fun X hX => ?_
  refine nm_ ?_
  repeat' ((first | contradiction | (with_reducible exact tt_) | (refine bk_ (fun h h' => ?_) (fun h h' => ?_)) | (refine and_ ?_ ?_) | (refine pln_ ?_) | (refine cl_ rfl _ _ (spec_ReadSnap1_C s hz) rfl rfl ?_; rintro _ ⟨c, ok, hf, hc, rfl⟩; (unfold ClusterD.d)) | (refine cl_ rfl _ _ (spec_Snap2Text_D c hc) rfl rfl ?_; rintro _ ⟨rfl, hs⟩) | fail) <;> (try refine nm_ ?_))
  all_goals (refine ⟨?_⟩)
  all_goals first | contradiction | (exact ⟨_, _, up12_no hf (by first | assumption | simp_all), (by decide), rfl⟩) | (exact ⟨_, _, up12_yes hf (by first | assumption | simp_all), snap2T_le hc, rfl⟩) | trace_state

theorem laws_FnExactUpgraded12_D (s : ByteArray) : Spec Tryz.prog 3 [.sc (.string s)] (fun d => d = .sc (.bool true)) := by
  refine sp_ (rs := [.tmp 2]) (nt := 28) Tryz.func3 rfl fun X hX => ?_
  refine nm_ ?_
  repeat' ((first | contradiction | (with_reducible exact tt_) | (refine bk_ (fun h h' => ?_) (fun h h' => ?_)) | (refine and_ ?_ ?_) | (refine pln_ ?_) | (refine cl_ rfl _ _ (spec_Upgraded12_D s (by omega)) rfl rfl ?_; rintro _ ⟨t, ok, h1, ht, rfl⟩) | (refine cl_ rfl _ _ (impl_Upgraded12_D s (by omega)) rfl rfl ?_; rintro _ ⟨t2, ok2, h2, ht2, rfl⟩; (obtain ⟨rfl, rfl⟩ := txt_same h1 h2)) | fail) <;> (try refine nm_ ?_))
  all_goals (refine ⟨?_⟩)
  all_goals first | contradiction | rfl | (exfalso; simp_all) | trace_state

end Go.Proofs.YtgelpicbnbpooaaGreat
