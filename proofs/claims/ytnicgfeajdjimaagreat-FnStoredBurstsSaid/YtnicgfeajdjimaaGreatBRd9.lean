/- Rd9 (what is wanted of them). -/
import Derived.Test.YtnicgfeajdjimaaGreatBRd4
import Derived.Test.YtnicgfeajdjimaaGreatBRd1
import Derived.Test.YtnicgfeajdjimaaGreatBRdm
import Derived.Test.YtnicgfeajdjimaaGreatBNn
import Derived.Test.YtnicgfeajdjimaaGreatBRds
import Derived.Test.YtnicgfeajdjimaaGreatBCl4
import Derived.Test.YtnicgfeajdjimaaGreatBSn2
namespace Go.Proofs.YtnicgfeajdjimaaGreat
open Go.RowKit
set_option linter.unusedVariables false
set_option linter.unusedSimpArgs false
set_option maxRecDepth 100000
set_option maxHeartbeats 4000000
theorem impl_ReadSnap_C (s : ByteArray) (hz : s.size ≤ 1048579) : SpecH Tryz.prog 104 [.sc (.string s)] [] 0 (fun d os' nb' => ∃ c ok, Fin (rdC s) c ok ∧ (c.fine ∧ c.hosts.length ≤ 8 ∧ c.pods.length ≤ 12 ∧ (ok = true → clusterB c = true)) ∧ d = .tup [.agg [.own 0 0 (c.hosts).length, .own 1 0 (c.pods).length, .sc (.int .i64 c.next), .sc (.int .i64 c.w1), .sc (.int .i64 c.w2), .sc (.int .i64 c.w3)], .sc (.bool ok)] ∧ os' = [(0, ⟨119, 6, (c.hosts).length, hostsT (c.hosts)⟩), (1, ⟨125, 9, (c.pods).length, placedsT (c.pods)⟩)] ∧ nb' = 2) := by
  have h := impl_ReadSnap_D s hz
  rw [snap_ag] at h
  exact h
theorem cat_usual {s : ByteArray} (hz : s.size ≤ 1048576) : (usualT ++ s).size ≤ 1048579 := by rw [ByteArray.size_append, usual_size]; omega
theorem impl_ReadSnap2_D (s : ByteArray) (hz : s.size ≤ 1048576) : SpecH Tryz.prog 55 [.sc (.string s)] [] 0 (fun d os' nb' => ∃ c ok, Fin (rd2 s) c ok ∧ (c.fine ∧ c.hosts.length ≤ 8 ∧ c.pods.length ≤ 12 ∧ (ok = true → clusterB c = true)) ∧ d = .tup [.agg [.own 0 0 (c.hosts).length, .own 1 0 (c.pods).length, .sc (.int .i64 c.next), .sc (.int .i64 c.w1), .sc (.int .i64 c.w2), .sc (.int .i64 c.w3)], .sc (.bool ok)] ∧ os' = [(0, ⟨119, 6, (c.hosts).length, hostsT (c.hosts)⟩), (1, ⟨125, 9, (c.pods).length, placedsT (c.pods)⟩)] ∧ nb' = 2) := by
  have hcat := cat_usual hz; have hu := usual_size
  have ex0 := @ByteArray.size_append
  refine spH_ (rs := [.cell 2 43, .tmp 3]) (nt := 10) Tryz.func55 rfl fun X hX => ?_
  refine nm_ ?_
  repeat' ((first | contradiction | (with_reducible exact tt_) | (refine bk_ (fun h h' => ?_) (fun h h' => ?_)) | (refine and_ ?_ ?_) | (refine pln_ ?_) | (refine cl_ rfl _ _ (impl_usualBytes_D) rfl rfl ?_; rintro _ ⟨rfl, hu⟩) | (refine awH_ rfl (impl_ReadSnap_C (usualT ++ s) hcat) [] ?_; rintro _ _ _ ⟨c, ok, hf, ⟨hc, h8, h12, hk⟩, rfl, rfl, rfl⟩ _) | (refine rh_ [1, 2] ?_) | fail) <;> (try refine nm_ ?_))
  all_goals clear ex0
  all_goals (refine ⟨?_⟩)
  all_goals first | contradiction | (refine ⟨c, ok, hf, ⟨hc, h8, h12, hk⟩, rfl, ?_⟩; first | rfl | exact ⟨rfl, rfl⟩) | trace_state
theorem impl_Upgraded23_D (s : ByteArray) (hz : s.size ≤ 1048576) : Spec Tryz.prog 52 [.sc (.string s)] (fun d => ∃ t ok, Txt (up23 s) t ok ∧ t.size ≤ 60000 ∧ d = .tup [.sc (.string t), .sc (.bool ok)]) := by
  refine sp_ (rs := [.tmp 2, .tmp 3]) (nt := 15) Tryz.func52 rfl fun X hX => ?_
  refine nm_ ?_
  repeat' ((first | contradiction | (with_reducible exact tt_) | (refine bk_ (fun h h' => ?_) (fun h h' => ?_)) | (refine and_ ?_ ?_) | (refine pln_ ?_) | (refine awH_ rfl (impl_ReadSnap2_D s hz) [] ?_; rintro _ _ _ ⟨c, ok, hf, ⟨hc, h8, h12, hk⟩, rfl, rfl, rfl⟩ _) | (refine bo_ rfl [.cool 0, .frz 0, .cool 1, .frz 1] (impl_SnapText_D c hc) ?_; rintro _ ⟨rfl, hs⟩; refine ⟨rfl, ?_⟩) | fail) <;> (try refine nm_ ?_))
  all_goals (refine ⟨?_⟩)
  all_goals first | contradiction | (exact ⟨_, _, up23_no hf (by first | assumption | simp_all), (by decide), rfl⟩) | (exact ⟨_, _, up23_yes hf (by first | assumption | simp_all), snapT_le hc, rfl⟩) | trace_state
end Go.Proofs.YtnicgfeajdjimaaGreat
