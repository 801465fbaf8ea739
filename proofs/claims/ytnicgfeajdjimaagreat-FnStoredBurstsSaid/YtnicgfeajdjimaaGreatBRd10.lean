/- Rd10, Rd12 (what is wanted of them). -/
import Derived.Test.YtnicgfeajdjimaaGreatBRd7
import Derived.Test.YtnicgfeajdjimaaGreatBRd1
import Derived.Test.YtnicgfeajdjimaaGreatBRdm
import Derived.Test.YtnicgfeajdjimaaGreatBNn
import Derived.Test.YtnicgfeajdjimaaGreatBRds
import Derived.Test.YtnicgfeajdjimaaGreatBCl4
import Derived.Test.YtnicgfeajdjimaaGreatBSn2
import Derived.Test.YtnicgfeajdjimaaGreatBRd9
import Derived.Test.YtnicgfeajdjimaaGreatBRd11
import Derived.Test.YtnicgfeajdjimaaGreatBRdf
namespace Go.Proofs.YtnicgfeajdjimaaGreat
open Go.RowKit
set_option linter.unusedVariables false
set_option linter.unusedSimpArgs false
set_option maxRecDepth 100000
set_option maxHeartbeats 4000000
theorem impl_ReadSnap1_C (s : ByteArray) (hz : s.size ≤ 1048576) : SpecH Tryz.prog 53 [.sc (.string s)] [] 0 (fun d os' nb' => ∃ c ok, Fin (rd1 s) c ok ∧ (c.fine ∧ c.hosts.length ≤ 8 ∧ c.pods.length ≤ 12 ∧ (ok = true → expB c 1 = true)) ∧ d = .tup [.agg [.own 0 0 (c.hosts).length, .own 1 0 (c.pods).length, .sc (.int .i64 c.next), .sc (.int .i64 c.w1), .sc (.int .i64 c.w2), .sc (.int .i64 c.w3)], .sc (.bool ok)] ∧ os' = [(0, ⟨119, 6, (c.hosts).length, hostsT (c.hosts)⟩), (1, ⟨125, 9, (c.pods).length, placedsT (c.pods)⟩)] ∧ nb' = 2) := by
  have h := impl_ReadSnap1_D s hz
  rw [snap1_ag] at h
  exact h
theorem impl_Upgraded12_D (s : ByteArray) (hz : s.size ≤ 1048576) : Spec Tryz.prog 50 [.sc (.string s)] (fun d => ∃ t ok, Txt (up12 s) t ok ∧ t.size ≤ 60000 ∧ d = .tup [.sc (.string t), .sc (.bool ok)]) := by
  refine sp_ (rs := [.tmp 2, .tmp 3]) (nt := 15) Tryz.func50 rfl fun X hX => ?_
  refine nm_ ?_
  repeat' ((first | contradiction | (with_reducible exact tt_) | (refine bk_ (fun h h' => ?_) (fun h h' => ?_)) | (refine and_ ?_ ?_) | (refine pln_ ?_) | (refine awH_ rfl (impl_ReadSnap1_C s hz) [] ?_; rintro _ _ _ ⟨c, ok, hf, ⟨hc, h8, h12, hk⟩, rfl, rfl, rfl⟩ _) | (refine bo_ rfl [.cool 0, .frz 0, .cool 1, .frz 1] (impl_Snap2Text_D c hc) ?_; rintro _ ⟨rfl, hs⟩; refine ⟨rfl, ?_⟩) | fail) <;> (try refine nm_ ?_))
  all_goals (refine ⟨?_⟩)
  all_goals first | contradiction | (exact ⟨_, _, up12_no hf (by first | assumption | simp_all), (by decide), rfl⟩) | (exact ⟨_, _, up12_yes hf (by first | assumption | simp_all), snap2T_le hc, rfl⟩) | trace_state
end Go.Proofs.YtnicgfeajdjimaaGreat
namespace Go.Proofs.YtnicgfeajdjimaaGreat
open Go.RowKit
set_option linter.unusedVariables false
set_option linter.unusedSimpArgs false
set_option maxRecDepth 100000
set_option maxHeartbeats 4000000
theorem impl_ReadSnapAt_D (s : ByteArray) (hz : s.size ≤ 1048576) (k : Int) : SpecH Tryz.prog 33 [.sc (.string s), .sc (.int .i64 k)] [] 0 (fun d os' nb' => ∃ c ok, Fin (rdAt s k) c ok ∧ (c.fine ∧ c.hosts.length ≤ 8 ∧ c.pods.length ≤ 12) ∧ d = .tup [.agg [.own 0 0 (c.hosts).length, .own 1 0 (c.pods).length, .sc (.int .i64 c.next), .sc (.int .i64 c.w1), .sc (.int .i64 c.w2), .sc (.int .i64 c.w3)], .sc (.bool ok)] ∧ os' = [(0, ⟨119, 6, (c.hosts).length, hostsT (c.hosts)⟩), (1, ⟨125, 9, (c.pods).length, placedsT (c.pods)⟩)] ∧ nb' = 2) := by
  refine spJ_ (rs := [.cell 4 43, .tmp 5]) (nt := 36) Tryz.func33 rfl fun X hX => ?_
  refine nm_ ?_
  repeat' ((first | contradiction | (with_reducible exact tt_) | (refine bk_ (fun h h' => ?_) (fun h h' => ?_)) | (refine and_ ?_ ?_) | (refine pln_ ?_) | (refine cl_ rfl _ _ (within_D _ _ _) rfl rfl ?_; rintro _ rfl) | (refine cl_ rfl _ _ (impl_Upgraded12_D s hz) rfl rfl ?_; rintro _ ⟨t, ok1, h1, ht, rfl⟩) | (refine cl_ rfl _ _ (impl_Upgraded23_D s hz) rfl rfl ?_; rintro _ ⟨u, ok2, h2, hu, rfl⟩) | (refine cl_ rfl _ _ (impl_Upgraded23_D t (by omega)) rfl rfl ?_; rintro _ ⟨u, ok2, h2, hu, rfl⟩) | (refine awH_ rfl (impl_ReadSnap_C s (by omega)) [] ?_; rintro _ _ _ ⟨c, ok, hf, ⟨hc, h8, h12, hk⟩, rfl, rfl, rfl⟩ _) | (refine awH_ rfl (impl_ReadSnap_C t (by omega)) [] ?_; rintro _ _ _ ⟨c, ok, hf, ⟨hc, h8, h12, hk⟩, rfl, rfl, rfl⟩ _) | (refine awH_ rfl (impl_ReadSnap_C u (by omega)) [] ?_; rintro _ _ _ ⟨c, ok, hf, ⟨hc, h8, h12, hk⟩, rfl, rfl, rfl⟩ _) | (refine rjj_ [.nil 0 0 119 6, .nil 0 1 125 9] [1, 2] ?_) | (refine rjj_ [] [1, 2] ?_) | fail) <;> (try refine nm_ ?_))
  all_goals (refine ⟨?_⟩)
  all_goals first | contradiction | (exfalso; omega) | (refine ⟨c, ok, at_3 (by omega) hf, ⟨hc, h8, h12⟩, rfl, ?_⟩; first | rfl | exact ⟨rfl, rfl⟩) | (refine ⟨c, ok, at2_yes (by omega) h2 (by first | assumption | exact rfl) hf, ⟨hc, h8, h12⟩, rfl, ?_⟩; first | rfl | exact ⟨rfl, rfl⟩) | (refine ⟨c, ok, at1_yes (by omega) h1 (by first | assumption | exact rfl) h2 (by first | assumption | exact rfl) hf, ⟨hc, h8, h12⟩, rfl, ?_⟩; first | rfl | exact ⟨rfl, rfl⟩) | (refine ⟨zeroC, false, at_no (by omega), ⟨zero_fine, (by decide), (by decide)⟩, rfl, ?_⟩; first | rfl | exact ⟨rfl, rfl⟩) | (refine ⟨zeroC, false, at1_no (by omega) h1 (by first | assumption | exact rfl), ⟨zero_fine, (by decide), (by decide)⟩, rfl, ?_⟩; first | rfl | exact ⟨rfl, rfl⟩) | (refine ⟨zeroC, false, at1_no2 (by omega) h1 (by first | assumption | exact rfl) h2 (by first | assumption | exact rfl), ⟨zero_fine, (by decide), (by decide)⟩, rfl, ?_⟩; first | rfl | exact ⟨rfl, rfl⟩) | (refine ⟨zeroC, false, at2_no (by omega) h2 (by first | assumption | exact rfl), ⟨zero_fine, (by decide), (by decide)⟩, rfl, ?_⟩; first | rfl | exact ⟨rfl, rfl⟩) | trace_state
theorem impl_ReadStored_D (s : ByteArray) (hs : s.size ≤ 4611686018427387904) : SpecH Tryz.prog 39 [.sc (.string s)] [] 0 (fun d os' nb' => ∃ c code, St8 s c code ∧ (c.fine ∧ c.hosts.length ≤ 8 ∧ c.pods.length ≤ 12) ∧ d = .tup [.agg [.own 0 0 (c.hosts).length, .own 1 0 (c.pods).length, .sc (.int .i64 c.next), .sc (.int .i64 c.w1), .sc (.int .i64 c.w2), .sc (.int .i64 c.w3)], .sc (.int .i64 code)] ∧ os' = [(0, ⟨119, 6, (c.hosts).length, hostsT (c.hosts)⟩), (1, ⟨125, 9, (c.pods).length, placedsT (c.pods)⟩)] ∧ nb' = 2) := by
  refine spJ_ (rs := [.cell 2 43, .tmp 3]) (nt := 33) Tryz.func39 rfl fun X hX => ?_
  refine nm_ ?_
  repeat' ((first | contradiction | (with_reducible exact tt_) | (refine bk_ (fun h h' => ?_) (fun h h' => ?_)) | (refine and_ ?_ ?_) | (refine pln_ ?_) | (refine cl_ rfl _ _ (impl_ReadFrame_D s hs) rfl rfl ?_; rintro _ ⟨v, t, code, hF, ⟨ht, hv⟩, rfl⟩) | (refine awH_ rfl (impl_ReadSnapAt_D t (by omega) v) [] ?_; rintro _ _ _ ⟨c, ok, hf, ⟨hc, h8, h12⟩, rfl, rfl, rfl⟩ _) | (refine rjj_ [.nil 0 0 119 6, .nil 0 1 125 9] [2, 3] ?_; refine nm_ ?_; fail_if_success (show Wk False)) | (refine rjj_ [.nil 0 0 119 6, .nil 0 1 125 9] [5, 6] ?_; refine nm_ ?_; fail_if_success (show Wk False)) | (refine rjj_ [] [2, 3] ?_; refine nm_ ?_; fail_if_success (show Wk False)) | fail) <;> (try refine nm_ ?_))
  all_goals (refine ⟨?_⟩)
  all_goals first | contradiction | (refine ⟨c, 0, st_yes hF (by omega) (by omega) hf (by first | assumption | exact rfl), ⟨hc, h8, h12⟩, rfl, ?_⟩; first | rfl | exact ⟨rfl, rfl⟩) | (refine ⟨zeroC, _, st_frame hF (by omega), ⟨zero_fine, (by decide), (by decide)⟩, rfl, ?_⟩; first | rfl | exact ⟨rfl, rfl⟩) | (refine ⟨zeroC, 6, st_version hF (by omega) (by omega), ⟨zero_fine, (by decide), (by decide)⟩, rfl, ?_⟩; first | rfl | exact ⟨rfl, rfl⟩) | (refine ⟨zeroC, 7, st_no hF (by omega) (by omega) hf (by first | assumption | exact rfl), ⟨zero_fine, (by decide), (by decide)⟩, rfl, ?_⟩; first | rfl | exact ⟨rfl, rfl⟩) | trace_state
theorem impl_StoredOk_D (s : ByteArray) (hs : s.size ≤ 4611686018427387904) : Spec Tryz.prog 40 [.sc (.string s)] (fun d => ∃ c code, St8 s c code ∧ d = .sc (.bool (code == 0))) := by
  refine sp_ (rs := [.tmp 2]) (nt := 12) Tryz.func40 rfl fun X hX => ?_
  refine nm_ ?_
  repeat' ((first | contradiction | (with_reducible exact tt_) | (refine bk_ (fun h h' => ?_) (fun h h' => ?_)) | (refine and_ ?_ ?_) | (refine pln_ ?_) | (refine awH_ rfl (impl_ReadStored_D s hs) [] ?_; rintro _ _ _ ⟨c, code, hS, ⟨hc, h8, h12⟩, rfl, rfl, rfl⟩ _) | fail) <;> (try refine nm_ ?_))
  all_goals (refine ⟨?_⟩)
  all_goals first | exact ⟨c, code, hS, rfl⟩ | trace_state
end Go.Proofs.YtnicgfeajdjimaaGreat
