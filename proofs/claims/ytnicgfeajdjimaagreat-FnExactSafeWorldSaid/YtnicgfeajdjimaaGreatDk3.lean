/- What stands on a disk. -/
import Derived.Test.YtnicgfeajdjimaaGreatRd12
import Derived.Test.YtnicgfeajdjimaaGreatMkx
import Derived.Test.YtnicgfeajdjimaaGreatDk1
import Derived.Test.YtnicgfeajdjimaaGreatDk2
import Derived.Test.YtnicgfeajdjimaaGreatNo
namespace Go.Proofs.YtnicgfeajdjimaaGreat
open Go.RowKit
set_option maxRecDepth 100000
set_option maxHeartbeats 1000000

def rsR (fs : List FileD) : ClusterD × Int := if fileB fs stNm < 0 then (zeroC, 11) else rdSt (txtB fs stNm)
structure Rs8 (fs : List FileD) (c : ClusterD) (code : Int) : Prop where
  eq : rsR fs = (c, code)
theorem Rs8.same {fs : List FileD} {c c' : ClusterD} {k k' : Int} (h : Rs8 fs c k) (h' : Rs8 fs c' k') : c' = c ∧ k' = k := by
  have := h.eq.symm.trans h'.eq
  injection this with e1 e2
  exact ⟨e1.symm, e2.symm⟩
theorem rs_no {fs : List FileD} (h : fileB fs stNm < 0) : Rs8 fs zeroC 11 := ⟨if_pos h⟩
theorem rs_yes {fs : List FileD} (h : 0 ≤ fileB fs stNm) {c : ClusterD} {k : Int} (hs : St8 (txtB fs stNm) c k) : Rs8 fs c k := ⟨by rw [rsR, if_neg (by omega), hs.eq]⟩
def newC : ClusterD := ⟨[], [], 1, 2, 1, 3⟩
theorem new_fine : newC.fine := fine_mk (by decide) (allF_nil host_def) (by decide) (allF_nil placed_def) (by decide)
def sdR (fs : List FileD) : ClusterD × Int := if (rsR fs).2 = 11 then (newC, 0) else rsR fs
structure Sd8 (fs : List FileD) (c : ClusterD) (code : Int) : Prop where
  eq : sdR fs = (c, code)
theorem Sd8.same {fs : List FileD} {c c' : ClusterD} {k k' : Int} (h : Sd8 fs c k) (h' : Sd8 fs c' k') : c' = c ∧ k' = k := by
  have := h.eq.symm.trans h'.eq
  injection this with e1 e2
  exact ⟨e1.symm, e2.symm⟩
theorem sd_no {fs : List FileD} {c : ClusterD} {k : Int} (h : Rs8 fs c k) (hk : k = 11) : Sd8 fs newC 0 := ⟨by rw [sdR, h.eq, if_pos hk]⟩
theorem sd_yes {fs : List FileD} {c : ClusterD} {k : Int} (h : Rs8 fs c k) (hk : ¬ k = 11) : Sd8 fs c k := ⟨by rw [sdR, h.eq, if_neg hk]⟩
theorem txt_fit {fs : List FileD} (hf : DiskF fs) (nm : ByteArray) : (txtB fs nm).size ≤ 1048576 := by
  unfold txtB
  split
  · exact Nat.zero_le _
  · exact (hf.f _).t
theorem few_new : Few2 newC := ⟨nil_few, nil_few⟩
theorem few_rs {fs : List FileD} {c : ClusterD} {k : Int} (h : Rs8 fs c k) : Few2 c := by
  have e := h.eq
  unfold rsR at e
  split at e
  · injection e with e1 e2; subst e1; exact few_zero
  · exact few_st ⟨e⟩
theorem few_sd {fs : List FileD} {c : ClusterD} {k : Int} (h : Sd8 fs c k) : Few2 c := by
  have e := h.eq
  unfold sdR at e
  split at e
  · injection e with e1 e2; subst e1; exact few_new
  · exact few_rs ⟨e⟩

theorem impl_RestoreFrom_D (fs : List FileD) (hf : DiskF fs) : SpecH Tryz.prog 24 [.agg [.sl fs.length (filesD fs)]] [] 0 (fun d os' nb' => ∃ c code, Rs8 fs c code ∧ (c.fine ∧ c.hosts.length ≤ 8 ∧ c.pods.length ≤ 12) ∧ d = .tup [.agg [.own 0 0 (c.hosts).length, .own 1 0 (c.pods).length, .sc (.int .i64 c.next), .sc (.int .i64 c.w1), .sc (.int .i64 c.w2), .sc (.int .i64 c.w3)], .sc (.int .i64 code)] ∧ os' = [(0, ⟨119, 6, (c.hosts).length, hostsT (c.hosts)⟩), (1, ⟨125, 9, (c.pods).length, placedsT (c.pods)⟩)] ∧ nb' = 2) := by
  have htx := txt_fit hf stNm
  refine spJ_ (rs := [.cell 2 43, .tmp 3]) (nt := 18) Tryz.func24 rfl fun X hX => ?_
  refine nm_ ?_
  repeat' ((first | contradiction | (with_reducible exact tt_) | (refine bk_ (fun h h' => ?_) (fun h h' => ?_)) | (refine and_ ?_ ?_) | (refine pln_ ?_) | (refine cl_ rfl _ _ (impl_TextOf_D fs stNm hf.len) rfl rfl ?_; rintro _ rfl) | (refine awH_ rfl (impl_ReadStored_D (txtB fs stNm) (by omega)) [] ?_; rintro _ _ _ ⟨c, code, hS, ⟨hc, h8, h12⟩, rfl, rfl, rfl⟩ _) | (refine rjj_ [.nil 1 0 119 6, .nil 1 1 125 9] [2, 3] ?_) | (refine rjj_ [] [2, 3] ?_) | fail) <;> (try refine nm_ ?_))
  all_goals (refine ⟨?_⟩)
  all_goals first | contradiction | (refine ⟨c, code, rs_yes (by omega) hS, ⟨hc, h8, h12⟩, rfl, ?_⟩; first | rfl | exact ⟨rfl, rfl⟩) | (refine ⟨zeroC, 11, rs_no (by omega), ⟨zero_fine, (by decide), (by decide)⟩, rfl, ?_⟩; first | rfl | exact ⟨rfl, rfl⟩) | trace_state

theorem spec_RestoreFrom_D (fs : List FileD) (hf : DiskF fs) : Spec Tryz.prog 23 [.agg [.sl fs.length (filesD fs)]] (fun d => ∃ c code, Rs8 fs c code ∧ c.fine ∧ d = .tup [c.d, .sc (.int .i64 code)]) := by
  have htx := txt_fit hf stNm
  refine spG_ (rs := [.cell 2 43, .tmp 3]) (nt := 18) Tryz.func23 rfl fun X hX => ?_
  refine nm_ ?_
  repeat' ((first | contradiction | (with_reducible exact tt_) | (refine bk_ (fun h h' => ?_) (fun h h' => ?_)) | (refine and_ ?_ ?_) | (refine pln_ ?_) | (refine cl_ rfl _ _ (spec_TextOf_D fs stNm hf.len) rfl rfl ?_; rintro _ rfl) | (refine cl_ rfl _ _ (spec_ReadStored_D (txtB fs stNm) (by omega)) rfl rfl ?_; rintro _ ⟨c, code, hS, hc, rfl⟩; (unfold ClusterD.d)) | (refine rgg_ [.nil 1 0 119 6, .nil 1 1 125 9, .frz 2, .frz 3] ?_) | (refine rgg_ [] ?_) | fail) <;> (try refine nm_ ?_))
  all_goals (refine ⟨?_⟩)
  all_goals first | contradiction | (exact ⟨c, code, rs_yes (by omega) hS, hc, rfl⟩) | (exact ⟨zeroC, 11, rs_no (by omega), zero_fine, rfl⟩) | trace_state

theorem impl_ClusterNew_D  : Spec Tryz.prog 92 [] (fun d => d = .agg [.sc (.slice none 0 0), .sc (.slice none 0 0), .sc (.int .i64 1), .sc (.int .i64 2), .sc (.int .i64 1), .sc (.int .i64 3)]) := by
  refine sp_ (rs := [.cell 0 43]) (nt := 3) Tryz.func92 rfl fun X hX => ?_
  refine nm_ ?_
  repeat' ((first | contradiction | (with_reducible exact tt_) | (refine bk_ (fun h h' => ?_) (fun h h' => ?_)) | (refine and_ ?_ ?_) | (refine pln_ ?_) | (refine cl_ rfl _ _ (impl_UsualWeights_D) rfl rfl ?_; rintro _ rfl) | fail) <;> (try refine nm_ ?_))
  all_goals (refine ⟨?_⟩)
  all_goals first | rfl | trace_state

theorem spec_ClusterNew_D  : Spec Tryz.prog 91 [] (fun d => d = .agg [.sc (.slice none 0 0), .sc (.slice none 0 0), .sc (.int .i64 1), .sc (.int .i64 2), .sc (.int .i64 1), .sc (.int .i64 3)]) := by
  refine sp_ (rs := [.cell 0 43]) (nt := 3) Tryz.func91 rfl fun X hX => ?_
  refine nm_ ?_
  repeat' ((first | contradiction | (with_reducible exact tt_) | (refine bk_ (fun h h' => ?_) (fun h h' => ?_)) | (refine and_ ?_ ?_) | (refine pln_ ?_) | (refine cl_ rfl _ _ (spec_UsualWeights_D) rfl rfl ?_; rintro _ rfl) | fail) <;> (try refine nm_ ?_))
  all_goals (refine ⟨?_⟩)
  all_goals first | rfl | trace_state

theorem impl_Standing_D (fs : List FileD) (hf : DiskF fs) : SpecH Tryz.prog 27 [.agg [.sl fs.length (filesD fs)]] [] 0 (fun d os' nb' => ∃ c code, Sd8 fs c code ∧ (c.fine ∧ c.hosts.length ≤ 8 ∧ c.pods.length ≤ 12) ∧ d = .tup [.agg [.own 0 0 (c.hosts).length, .own 1 0 (c.pods).length, .sc (.int .i64 c.next), .sc (.int .i64 c.w1), .sc (.int .i64 c.w2), .sc (.int .i64 c.w3)], .sc (.int .i64 code)] ∧ os' = [(0, ⟨119, 6, (c.hosts).length, hostsT (c.hosts)⟩), (1, ⟨125, 9, (c.pods).length, placedsT (c.pods)⟩)] ∧ nb' = 2) := by
  refine spJ_ (rs := [.cell 2 43, .tmp 3]) (nt := 16) Tryz.func27 rfl fun X hX => ?_
  refine nm_ ?_
  repeat' ((first | contradiction | (with_reducible exact tt_) | (refine bk_ (fun h h' => ?_) (fun h h' => ?_)) | (refine and_ ?_ ?_) | (refine pln_ ?_) | (refine cl_ rfl _ _ (impl_ClusterNew_D) rfl rfl ?_; rintro _ rfl) | (refine awH_ rfl (impl_RestoreFrom_D fs hf) [] ?_; rintro _ _ _ ⟨c, code, hS, ⟨hc, h8, h12⟩, rfl, rfl, rfl⟩ _) | (refine rjj_ [.nil 1 0 119 6, .nil 1 1 125 9] [5, 6] ?_) | (refine rjj_ [] [2, 3] ?_) | fail) <;> (try refine nm_ ?_))
  all_goals (refine ⟨?_⟩)
  all_goals first | contradiction | (refine ⟨c, code, sd_yes hS (by omega), ⟨hc, h8, h12⟩, rfl, ?_⟩; first | rfl | exact ⟨rfl, rfl⟩) | (refine ⟨newC, 0, sd_no hS (by omega), ⟨new_fine, (by decide), (by decide)⟩, rfl, ?_⟩; first | rfl | exact ⟨rfl, rfl⟩) | trace_state

theorem spec_Standing_D (fs : List FileD) (hf : DiskF fs) : Spec Tryz.prog 26 [.agg [.sl fs.length (filesD fs)]] (fun d => ∃ c code, Sd8 fs c code ∧ c.fine ∧ d = .tup [c.d, .sc (.int .i64 code)]) := by
  refine spG_ (rs := [.cell 2 43, .tmp 3]) (nt := 16) Tryz.func26 rfl fun X hX => ?_
  refine nm_ ?_
  repeat' ((first | contradiction | (with_reducible exact tt_) | (refine bk_ (fun h h' => ?_) (fun h h' => ?_)) | (refine and_ ?_ ?_) | (refine pln_ ?_) | (refine cl_ rfl _ _ (spec_RestoreFrom_D fs hf) rfl rfl ?_; rintro _ ⟨c, code, hS, hc, rfl⟩; (unfold ClusterD.d)) | (refine cl_ rfl _ _ (spec_ClusterNew_D) rfl rfl ?_; rintro _ rfl) | (refine rgg_ [.nil 1 0 119 6, .nil 1 1 125 9, .frz 3, .frz 4] ?_) | (refine rgg_ [] ?_) | fail) <;> (try refine nm_ ?_))
  all_goals (refine ⟨?_⟩)
  all_goals first | contradiction | (exact ⟨c, code, sd_yes hS (by omega), hc, rfl⟩) | (exact ⟨newC, 0, sd_no hS (by omega), new_fine, rfl⟩) | trace_state

set_option maxHeartbeats 20000000 in
theorem laws_FnExactRestoreFrom_D (fs : List FileD) (hr : rowRaw FileD.raw fs) : Spec Tryz.prog 4 [.agg [.sl fs.length (filesD fs)]] (fun d => d = .sc (.bool true)) := by
  refine sp_ (rs := [.tmp 2]) (nt := 96) Tryz.func4 rfl fun X hX => ?_
  refine nm_ ?_
  repeat' ((first | contradiction | (with_reducible exact tt_) | (refine bk_ (fun h h' => ?_) (fun h h' => ?_)) | (refine and_ ?_ ?_) | (refine pln_ ?_) | (refine cl_ rfl _ _ (laws_szDisk_D fs _ (by omega) (by omega) hr) rfl rfl ?_; rintro _ ⟨r1, rfl, ha1, hb1, hc1⟩; (by_cases hneg : r1 < 0; rotate_left; obtain ⟨hfd, hln⟩ := diskF_row (hc1 (by omega)); rotate_left)) | (refine awH_ rfl (laws_toDisk_D fs hln) [] ?_; rintro _ _ _ ⟨rfl, rfl, rfl⟩ _) | (refine awH_ rfl (laws_markDisk_D fs 1 (by decide) (by decide) (by omega)) [3] ?_; rintro _ _ _ ⟨rfl, rfl, rfl⟩ _) | (refine awH_ rfl (laws_markCluster_D c 1 (by decide) (by decide) (by omega) (by omega) hfew.h hfew.p) [5, 6] ?_; rintro _ _ _ ⟨rfl, rfl, rfl⟩ _) | (refine bo_ rfl [.cool 5, .frz 5, .cool 6, .frz 6] (laws_eqCluster_D c (rl_fine hc)) ?_; rintro _ rfl; refine ⟨rfl, ?_⟩) | (refine bo_ rfl [.cool 10, .frz 10, .cool 11, .frz 11] (laws_eqCluster_D c (rl_fine hc)) ?_; rintro _ rfl; refine ⟨rfl, ?_⟩) | (refine bo_ rfl [.frz 3, .frz 8] (laws_eqDisk_D fs (by omega)) ?_; rintro _ rfl; refine ⟨rfl, ?_⟩) | (refine bo_ rfl [.cool 5, .frz 5, .cool 6, .frz 6] (laws_heldCluster_D c 1 (by decide) (by decide) (by omega) (by omega) hfew.h hfew.p) ?_; rintro _ rfl; refine ⟨rfl, ?_⟩) | (refine boH_ rfl [.frz 3] (impl_RestoreFrom_D fs hfd) ?_; rintro _ _ _ ⟨c2, ok2, hf2, ⟨hc2, h8, h12⟩, rfl, rfl, rfl⟩; refine ⟨⟨rfl, dryO_⟩, ?_⟩; (obtain ⟨rfl, rfl⟩ := hf2.same hS; have hfew := few_rs hS; have hr1 := mkHk_rng c.hosts 1 hfew.h; have hr2 := mkPk_rng c.pods (mkHk c.hosts 1) hfew.p)) | (refine boH_ rfl [.frz 9] (impl_RestoreFrom_D fs hfd) ?_; rintro _ _ _ ⟨c2, ok2, hf2, ⟨hc2, _, _⟩, rfl, rfl, rfl⟩; refine ⟨⟨rfl, dryO_⟩, ?_⟩; (obtain ⟨rfl, rfl⟩ := hf2.same hS)) | (refine wo_ (id := 10) [] [(0, true), (1, true), (2, false), (3, false), (4, true)] ?_) | (refine afz_ [1] ?_; refine nm_ ?_; refine cl_ rfl _ _ (spec_RestoreFrom_D fs hfd) rfl rfl ?_; rintro _ ⟨c, code, hS, hc, rfl⟩; unfold ClusterD.d) | fail) <;> (try refine nm_ ?_))
  all_goals (refine ⟨?_⟩)
  all_goals first | contradiction | rfl | (exfalso; omega) | trace_state

set_option maxHeartbeats 20000000 in
theorem laws_FnExactStanding_D (fs : List FileD) (hr : rowRaw FileD.raw fs) : Spec Tryz.prog 5 [.agg [.sl fs.length (filesD fs)]] (fun d => d = .sc (.bool true)) := by
  refine sp_ (rs := [.tmp 2]) (nt := 96) Tryz.func5 rfl fun X hX => ?_
  refine nm_ ?_
  repeat' ((first | contradiction | (with_reducible exact tt_) | (refine bk_ (fun h h' => ?_) (fun h h' => ?_)) | (refine and_ ?_ ?_) | (refine pln_ ?_) | (refine cl_ rfl _ _ (laws_szDisk_D fs _ (by omega) (by omega) hr) rfl rfl ?_; rintro _ ⟨r1, rfl, ha1, hb1, hc1⟩; (by_cases hneg : r1 < 0; rotate_left; obtain ⟨hfd, hln⟩ := diskF_row (hc1 (by omega)); rotate_left)) | (refine awH_ rfl (laws_toDisk_D fs hln) [] ?_; rintro _ _ _ ⟨rfl, rfl, rfl⟩ _) | (refine awH_ rfl (laws_markDisk_D fs 1 (by decide) (by decide) (by omega)) [3] ?_; rintro _ _ _ ⟨rfl, rfl, rfl⟩ _) | (refine awH_ rfl (laws_markCluster_D c 1 (by decide) (by decide) (by omega) (by omega) hfew.h hfew.p) [5, 6] ?_; rintro _ _ _ ⟨rfl, rfl, rfl⟩ _) | (refine bo_ rfl [.cool 5, .frz 5, .cool 6, .frz 6] (laws_eqCluster_D c (rl_fine hc)) ?_; rintro _ rfl; refine ⟨rfl, ?_⟩) | (refine bo_ rfl [.cool 10, .frz 10, .cool 11, .frz 11] (laws_eqCluster_D c (rl_fine hc)) ?_; rintro _ rfl; refine ⟨rfl, ?_⟩) | (refine bo_ rfl [.frz 3, .frz 8] (laws_eqDisk_D fs (by omega)) ?_; rintro _ rfl; refine ⟨rfl, ?_⟩) | (refine bo_ rfl [.cool 5, .frz 5, .cool 6, .frz 6] (laws_heldCluster_D c 1 (by decide) (by decide) (by omega) (by omega) hfew.h hfew.p) ?_; rintro _ rfl; refine ⟨rfl, ?_⟩) | (refine boH_ rfl [.frz 3] (impl_Standing_D fs hfd) ?_; rintro _ _ _ ⟨c2, ok2, hf2, ⟨hc2, h8, h12⟩, rfl, rfl, rfl⟩; refine ⟨⟨rfl, dryO_⟩, ?_⟩; (obtain ⟨rfl, rfl⟩ := hf2.same hS; have hfew := few_sd hS; have hr1 := mkHk_rng c.hosts 1 hfew.h; have hr2 := mkPk_rng c.pods (mkHk c.hosts 1) hfew.p)) | (refine boH_ rfl [.frz 9] (impl_Standing_D fs hfd) ?_; rintro _ _ _ ⟨c2, ok2, hf2, ⟨hc2, _, _⟩, rfl, rfl, rfl⟩; refine ⟨⟨rfl, dryO_⟩, ?_⟩; (obtain ⟨rfl, rfl⟩ := hf2.same hS)) | (refine wo_ (id := 10) [] [(0, true), (1, true), (2, false), (3, false), (4, true)] ?_) | (refine afz_ [1] ?_; refine nm_ ?_; refine cl_ rfl _ _ (spec_Standing_D fs hfd) rfl rfl ?_; rintro _ ⟨c, code, hS, hc, rfl⟩; unfold ClusterD.d) | fail) <;> (try refine nm_ ?_))
  all_goals (refine ⟨?_⟩)
  all_goals first | contradiction | rfl | (exfalso; omega) | trace_state

end Go.Proofs.YtnicgfeajdjimaaGreat
