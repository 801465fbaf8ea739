/- The program's acts on disks. -/
import Derived.Test.YtnicgfeajdjimaaGreatDk4
namespace Go.Proofs.YtnicgfeajdjimaaGreat
open Go.RowKit
set_option linter.unusedVariables false
set_option linter.unusedSimpArgs false
set_option maxRecDepth 100000
set_option maxHeartbeats 4000000

theorem filesD_none {fs : List FileD} (h : filesD fs = []) : fs = [] := by
  have := congrArg List.length h
  rw [filesD_len] at this
  exact List.eq_nil_of_length_eq_zero (by simp at this; omega)
theorem syF_len (fs : List FileD) (k : Nat) : (syF fs k).length = fs.length := List.length_set
theorem withF_fits {f : FileD} {fs a : List FileD} {k : Nat} {b : Bool} (hR : a ++ withF f b (fs.drop k) = withF f false fs) : a.length ≤ fs.length + 1 := by
  have h1 := withF_len f false fs
  have h2 := congrArg List.length hR
  rw [List.length_append] at h2
  simp only [cond_false] at h1
  omega

theorem till_both {tx : ByteArray} {gs : List FileD} {st i code : Int} {R : List FileD × Int} (hR : (code = 0 ∧ stepsR tx (min st 3 - i).toNat i gs = R) ∨ (¬ code = 0 ∧ (gs, code) = R)) (hi : i < (if (3 : Int) < st then 3 else st)) (hc : code = 0) : ((stepR gs tx i).2 = 0 ∧ stepsR tx (min st 3 - (i + 1)).toNat (i + 1) (stepR gs tx i).1 = R) ∨ (¬ (stepR gs tx i).2 = 0 ∧ ((stepR gs tx i).1, (stepR gs tx i).2) = R) := by
  have hm : i < min st 3 := by rw [Int.min_def]; split at hi <;> split <;> omega
  rcases hR with ⟨_, hR⟩ | ⟨h, _⟩
  · by_cases h : (stepR gs tx i).2 = 0
    · exact .inl ⟨h, till_go hR hm h⟩
    · exact .inr ⟨h, till_no hR hm h⟩
  · exact absurd hc h
theorem till_fin {tx : ByteArray} {gs : List FileD} {st i code : Int} {R : List FileD × Int} (hR : (code = 0 ∧ stepsR tx (min st 3 - i).toNat i gs = R) ∨ (¬ code = 0 ∧ (gs, code) = R)) (hi : (if (3 : Int) < st then 3 else st) ≤ i ∨ ¬ code = 0) : (gs, code) = R := by
  rcases hR with ⟨h, hR⟩ | ⟨_, hR⟩
  · have hi' : (if (3 : Int) < st then 3 else st) ≤ i := hi.resolve_right (fun e => e h)
    have hm : min st 3 ≤ i := by rw [Int.min_def]; split at hi' <;> split <;> omega
    rw [h]
    exact till_end hR hm
  · exact hR

theorem cloneFiles_O (fs : List FileD) (hn : fs.length ≤ 1048580) : SpecH Tryz.prog 153 [.sl fs.length (filesD fs)] [] 0 (fun d os' nb' => (d = .own 0 0 fs.length ∧ os' = [(0, ⟨160, 3, (fs).length, filesD (fs)⟩)] ∧ nb' = 1) ∨ (d = .sc (.slice none 0 0) ∧ os' = [] ∧ nb' = 0 ∧ (D.own 0 0 0 = D.own 0 0 fs.length ∧ [(0, (⟨160, 3, 0, []⟩ : Ob))] = [(0, ⟨160, 3, (fs).length, filesD (fs)⟩)] ∧ 0 + 1 = 1))) := by
  refine spH_ (rs := [.tmp 2]) (nt := 8) Tryz.func153 rfl fun X hX => ?_
  refine nm_ ?_
  repeat' ((first | contradiction | (with_reducible exact tt_) | ((with_reducible show Wk (AwStepF _ _ _ _ _ _ _)); first | (refine nnil_ rfl (fun hnil => ?_) ?_) | (refine app_ rfl ?_)) | ((with_reducible show Wk (AwStep _ _ _ _ _)); first | (refine pln_ ?_)) | ((with_reducible show Wk (boolK _ _ _ _)); first | (refine bk_ (fun h h' => ?_) (fun h h' => ?_))) | ((with_reducible show Wk (_ ∧ _)); first | (refine and_ ?_ ?_)) | ((with_reducible show Wk (retOkH _ _ _ _ _)); first | (refine rh_ [] ?_; refine nm_ ?_; fail_if_success (show Wk False)) | (refine rh_ [1] ?_; refine nm_ ?_; fail_if_success (show Wk False))) | fail) <;> (try refine nm_ ?_))
  all_goals (refine ⟨?_⟩)
  all_goals first | contradiction | (exact .inl ⟨rfl, rfl, rfl⟩) | (obtain rfl := filesD_none hnil; exact .inr ⟨rfl, rfl, rfl, rfl, rfl, rfl⟩) | (obtain rfl := filesD_none hnil; rfl) | trace_state

theorem cloneFiles_H (fs : List FileD) (hn : fs.length ≤ 1048580) : SpecH Tryz.prog 153 [.sl fs.length (filesD fs)] [] 0 (fun d os' nb' => d = .own 0 0 fs.length ∧ os' = [(0, ⟨160, 3, (fs).length, filesD (fs)⟩)] ∧ nb' = 1) := specH_nil 160 3 (cloneFiles_O fs hn)

theorem impl_copyDisk_D (fs : List FileD) (hn : fs.length ≤ 1048580) : SpecH Tryz.prog 77 [.agg [.sl fs.length (filesD fs)]] [] 0 (fun d os' nb' => d = .agg [.own 0 0 fs.length] ∧ os' = [(0, ⟨160, 3, (fs).length, filesD (fs)⟩)] ∧ nb' = 1) := by
  refine spH_ (rs := [.cell 2 35]) (nt := 7) Tryz.func77 rfl fun X hX => ?_
  refine nm_ ?_
  repeat' ((first | contradiction | (with_reducible exact tt_) | ((with_reducible show Wk (AwStepF _ _ _ _ _ _ _)); first | (refine awH_ rfl (cloneFiles_H fs hn) [] ?_; rintro _ _ _ ⟨rfl, rfl, rfl⟩ _)) | ((with_reducible show Wk (AwStep _ _ _ _ _)); first | (refine pln_ ?_)) | ((with_reducible show Wk (boolK _ _ _ _)); first | (refine bk_ (fun h h' => ?_) (fun h h' => ?_))) | ((with_reducible show Wk (_ ∧ _)); first | (refine and_ ?_ ?_)) | ((with_reducible show Wk (retOkH _ _ _ _ _)); first | (refine rh_ [2] ?_)) | fail) <;> (try refine nm_ ?_))
  all_goals (refine ⟨?_⟩)
  all_goals first | exact ⟨rfl, rfl, rfl⟩ | trace_state

theorem impl_withFile_D (fs : List FileD) (f : FileD) (hf : DiskF fs) (hn : fs.length ≤ 1048576) : SpecH Tryz.prog 317 [.agg [.sl fs.length (filesD fs)], .agg (fileCells f)] [] 0 (fun d os' nb' => d = .agg [.own 0 0 (withF f false fs).length] ∧ os' = [(0, ⟨160, 3, (withF f false fs).length, filesD (withF f false fs)⟩)] ∧ nb' = 1) := by
  unfold fileCells
  refine spH_ (rs := [.cell 4 35]) (nt := 53) Tryz.func317 rfl fun X hX => ?_
  refine nm_ ?_
  repeat' ((first | contradiction | (with_reducible exact tt_) | ((with_reducible show Wk (AwStepF _ _ _ _ _ _ _)); first | (refine app_ rfl ?_)) | ((with_reducible show Wk (AwStep _ _ _ _ _)); first | (refine pln_ ?_)) | ((with_reducible show Wk (AwCode _ _ _ _ _)); first | (refine nilC_ 3 0 160 3 (by simp [nilAt, St.ob, cellOb, List.lookup_cons]) ?_; refine nm_ ?_; refine lpK_ (ι := Nat × List FileD × Bool) [] [0, 1, 2, 3, 4] 0x3878 (fun ⟨k, acc, b⟩ => [(6, .sc (.bool b)), (13, .sc (.int .i64 (k : Int)))]) (fun ⟨k, acc, b⟩ => [(3, ⟨35, 1, 1, [.own 4 0 acc.length]⟩), (4, ⟨160, 3, (acc).length, filesD (acc)⟩)]) (fun ⟨k, acc, b⟩ => k ≤ fs.length ∧ acc ++ withF f b (fs.drop k) = withF f false fs) (fun ⟨k, acc, b⟩ => fs.length - k) (0, [], false) ?_ ?_; (focus (exact ⟨Nat.zero_le _, rfl⟩)); rintro _ hN0 ⟨k, acc, b⟩ hinv; (try dsimp only at hinv); obtain ⟨hk, hR⟩ := hinv; have hfit := withF_fits hR; cases b <;> (replace hR := Lib.hid hR); skip)) | ((with_reducible show Wk (boolK _ _ _ _)); first | (refine bk_ (fun h h' => ?_) (fun h h' => ?_))) | ((with_reducible show Wk (_ ∧ _)); first | (refine and_ ?_ ?_)) | ((with_reducible show Wk (retOkH _ _ _ _ _)); first | (refine rh_ [4] ?_; refine nm_ ?_; fail_if_success (show Wk False)) | (refine rh_ [6] ?_; refine nm_ ?_; fail_if_success (show Wk False))) | (refine hN0.run ((k + 1, acc ++ [f], true)) [] [0, 1, 2, 3, 7] ?_ ?_; (focus (exact ⟨by show k + 1 ≤ fs.length; omega, with_over (k := k) (by omega) (by first | assumption | exact (by assumption : _ ∧ _).2 | exact (by assumption : _ ∨ _).resolve_left (by decide)) (by first | assumption | exact (by assumption : _ ∧ _).2 | exact (by assumption : _ ∨ _).resolve_left (by decide)) hR.out⟩)); (focus (show fs.length - (k + 1) < fs.length - k; omega))) | (refine hN0.run ((k + 1, acc ++ [f] ++ [(fs.getD k default)], true)) [] [0, 1, 2, 3, 9] ?_ ?_; (focus (exact ⟨by show k + 1 ≤ fs.length; omega, with_lay (k := k) (by omega) (by first | assumption | exact (by assumption : _ ∧ _).2 | exact (by assumption : _ ∨ _).resolve_left (by decide)) (by first | assumption | exact (by assumption : _ ∧ _).2 | exact (by assumption : _ ∨ _).resolve_left (by decide)) hR.out⟩)); (focus (show fs.length - (k + 1) < fs.length - k; omega))) | (refine hN0.run ((k + 1, acc ++ [(fs.getD k default)], true)) [] [0, 1, 2, 3, 7] ?_ ?_; (focus (exact ⟨by show k + 1 ≤ fs.length; omega, with_keep (k := k) (b := true) (by omega) (.inl rfl) (by first | assumption | exact (by assumption : _ ∧ _).2 | exact (by assumption : _ ∨ _).resolve_left (by decide)) hR.out⟩)); (focus (show fs.length - (k + 1) < fs.length - k; omega))) | (refine hN0.run ((k + 1, acc ++ [(fs.getD k default)], false)) [] [0, 1, 2, 3, 7] ?_ ?_; (focus (exact ⟨by show k + 1 ≤ fs.length; omega, with_keep (k := k) (b := false) (by omega) (.inr (by first | assumption | exact (by assumption : _ ∧ _).2 | exact (by assumption : _ ∨ _).resolve_left (by decide))) (by first | assumption | exact (by assumption : _ ∧ _).2 | exact (by assumption : _ ∨ _).resolve_left (by decide)) hR.out⟩)); (focus (show fs.length - (k + 1) < fs.length - k; omega))) | (refine hN0.run ((k + 1, acc, true)) [] [0, 1, 2, 3, 4] ?_ ?_; (focus (exact ⟨by show k + 1 ≤ fs.length; omega, with_skip (k := k) (b := true) (by omega) (.inl rfl) (by first | assumption | exact (by assumption : _ ∧ _).2 | exact (by assumption : _ ∨ _).resolve_left (by decide)) hR.out⟩)); (focus (show fs.length - (k + 1) < fs.length - k; omega))) | (refine hN0.run ((k + 1, acc, false)) [] [0, 1, 2, 3, 4] ?_ ?_; (focus (exact ⟨by show k + 1 ≤ fs.length; omega, with_skip (k := k) (b := false) (by omega) (.inr (by first | assumption | exact (by assumption : _ ∧ _).2 | exact (by assumption : _ ∨ _).resolve_left (by decide))) (by first | assumption | exact (by assumption : _ ∧ _).2 | exact (by assumption : _ ∨ _).resolve_left (by decide)) hR.out⟩)); (focus (show fs.length - (k + 1) < fs.length - k; omega))) | fail) <;> (try refine nm_ ?_))
  all_goals (refine ⟨?_⟩)
  all_goals first | contradiction | (exfalso; omega) | rfl | (have e := with_end (k := k) (by omega) hR.out; rw [← e] <;> rfl) | (have e := with_end2 (k := k) (by omega) hR.out; rw [← e] <;> first | rfl | (rw [List.length_append] <;> rfl)) | trace_state

theorem impl_WriteFile_D (fs : List FileD) (nm tx : ByteArray) (hnm : nm.size ≤ 1048576) (htx : tx.size ≤ 1048576) (hf : DiskF fs) (hn : fs.length ≤ 1048576) : SpecH Tryz.prog 244 [.agg [.sl fs.length (filesD fs)], .sc (.string nm), .sc (.string tx)] [] 0 (fun d os' nb' => d = .tup [.agg [.own 0 0 (wrR fs nm tx).1.length], .sc (.int .i64 (wrR fs nm tx).2)] ∧ os' = [(0, ⟨160, 3, ((wrR fs nm tx).1).length, filesD ((wrR fs nm tx).1)⟩)] ∧ nb' = 1) := by
  refine spH_ (rs := [.cell 6 35, .tmp 7]) (nt := 40) Tryz.func244 rfl fun X hX => ?_
  refine nm_ ?_
  repeat' ((first | contradiction | (with_reducible exact tt_) | ((with_reducible show Wk (AwStepF _ _ _ _ _ _ _)); first | (refine cl_ rfl _ _ (impl_DiskOk_D fs hf) rfl rfl ?_; rintro _ rfl) | (refine cl_ rfl _ _ (impl_NameOk_D nm hnm) rfl rfl ?_; rintro _ rfl) | (refine cl_ rfl _ _ (impl_FileAt_D fs nm hf.len) rfl rfl ?_; rintro _ rfl) | (refine awH_ rfl (impl_copyDisk_D fs hf.len) [] ?_; rintro _ _ _ ⟨rfl, rfl, rfl⟩ _) | (refine awH_ rfl (impl_withFile_D fs ⟨nm, tx, 0⟩ hf hn) [] ?_; rintro _ _ _ ⟨rfl, rfl, rfl⟩ _)) | ((with_reducible show Wk (AwStep _ _ _ _ _)); first | (refine pln_ ?_)) | ((with_reducible show Wk (boolK _ _ _ _)); first | (refine bk_ (fun h h' => ?_) (fun h h' => ?_))) | ((with_reducible show Wk (_ ∧ _)); first | (refine and_ ?_ ?_)) | ((with_reducible show Wk (retOkH _ _ _ _ _)); first | (refine rh_ [2] ?_)) | fail) <;> (try refine nm_ ?_))
  all_goals (refine ⟨?_⟩)
  all_goals first | contradiction | (exfalso; omega) | (rw [wr_bad (by first | omega | (simp_all; done) | (simp_all; omega))] <;> first | exact ⟨rfl, rfl, rfl⟩ | rfl) | (rw [wr_full (by first | omega | (simp_all; done) | (simp_all; omega)) (by first | omega | (simp_all; done) | (simp_all; omega))] <;> first | exact ⟨rfl, rfl, rfl⟩ | rfl) | (have hC : diskB fs = true ∧ nmB nm = true ∧ tx.size ≤ 20000 := (by first | omega | (simp_all; done) | (simp_all; omega)); rw [wr_good hC (by first | omega | (simp_all; done) | (simp_all; omega)), withF_put (asc_of hC.1)] <;> first | exact ⟨rfl, rfl, rfl⟩ | rfl) | trace_state

theorem impl_SyncFile_D (fs : List FileD) (nm : ByteArray) (hf : DiskF fs) (hn : fs.length ≤ 1048576) : SpecH Tryz.prog 245 [.agg [.sl fs.length (filesD fs)], .sc (.string nm)] [] 0 (fun d os' nb' => d = .tup [.agg [.own 0 0 (syR fs nm).1.length], .sc (.int .i64 (syR fs nm).2)] ∧ os' = [(0, ⟨160, 3, ((syR fs nm).1).length, filesD ((syR fs nm).1)⟩)] ∧ nb' = 1) := by
  have hr := fileB_rng fs nm; have hz := (hf.f (fileB fs nm).toNat).t
  have ex0 := @filesD_set2
  refine spH_ (rs := [.cell 4 35, .tmp 5]) (nt := 33) Tryz.func245 rfl fun X hX => ?_
  refine nm_ ?_
  repeat' ((first | contradiction | (with_reducible exact tt_) | ((with_reducible show Wk (AwStepF _ _ _ _ _ _ _)); first | (refine cl_ rfl _ _ (impl_FileAt_D fs nm hf.len) rfl rfl ?_; rintro _ rfl) | (refine cl_ rfl _ _ (impl_DiskOk_D fs hf) rfl rfl ?_; rintro _ rfl) | (refine awH_ rfl (impl_copyDisk_D fs hf.len) [] ?_; rintro _ _ _ ⟨rfl, rfl, rfl⟩ _)) | ((with_reducible show Wk (AwStep _ _ _ _ _)); first | (refine pln_ ?_)) | ((with_reducible show Wk (AwCode _ _ _ _ _)); first | (refine wtr_ (id := 7) [2] (.early 0 (.early 1 (.early 2 (.early 3 (.early 4 (.early 5 (.early 6 (.early 7 (.one 8 (.early 9 (.early 10 (.early 11 (.one 12 .done))))))))))))) ?_)) | ((with_reducible show Wk (boolK _ _ _ _)); first | (refine bk_ (fun h h' => ?_) (fun h h' => ?_))) | ((with_reducible show Wk (_ ∧ _)); first | (refine and_ ?_ ?_)) | ((with_reducible show Wk (retOkH _ _ _ _ _)); first | (refine rh_ [2] ?_)) | fail) <;> (try refine nm_ ?_))
  all_goals clear ex0
  all_goals (refine ⟨?_⟩)
  all_goals first | contradiction | (exfalso; omega) | (rw [sy_bad (by first | omega | (simp_all; done) | (simp_all; omega))] <;> first | exact ⟨rfl, rfl, rfl⟩ | rfl) | (rw [sy_none (by first | omega | (simp_all; done) | (simp_all; omega)) (by first | omega | (simp_all; done) | (simp_all; omega))] <;> first | exact ⟨rfl, rfl, rfl⟩ | rfl) | (rw [sy_good (by first | omega | (simp_all; done) | (simp_all; omega)) (by first | omega | (simp_all; done) | (simp_all; omega))] <;> (dsimp only; rw [syF_len] <;> first | rfl | exact ⟨rfl, rfl, rfl⟩)) | trace_state

theorem asc_erase {fs : List FileD} (h : Asc fs) (k : Nat) : Asc (fs.eraseIdx k) := h.sublist (List.eraseIdx_sublist fs k)
theorem deleteI_D (fs : List FileD) (q : Int) (hq : 0 ≤ q) (hk : q < fs.length) (hn : fs.length ≤ 1048576) : SpecH Tryz.prog 247 [.own 0 0 fs.length, .sc (.int .i64 q), .sc (.int .i64 (q + 1))] [(0, ⟨160, 3, fs.length, filesD fs⟩)] 1
    (fun d os' nb' => d = .own 1 0 (fs.eraseIdx q.toNat).length ∧ os' = [(1, ⟨160, 3, (fs.eraseIdx q.toNat).length, filesD (fs.eraseIdx q.toNat)⟩)] ∧ nb' = 2) := by
  obtain ⟨k, rfl⟩ := Int.eq_ofNat_of_zero_le hq
  have ek : ((k : Int)).toNat = k := by omega
  rw [ek]
  exact deleteFile_D fs k (by omega) hn

theorem impl_RenameFile_D (fs : List FileD) (fr nm : ByteArray) (hnm : nm.size ≤ 1048576) (hf : DiskF fs) (hn : fs.length ≤ 1048576) : SpecH Tryz.prog 246 [.agg [.sl fs.length (filesD fs)], .sc (.string fr), .sc (.string nm)] [] 0 (fun d os' nb' => d = .tup [.agg [.own 0 0 (mvR fs fr nm).1.length], .sc (.int .i64 (mvR fs fr nm).2)] ∧ os' = [(0, ⟨160, 3, ((mvR fs fr nm).1).length, filesD ((mvR fs fr nm).1)⟩)] ∧ nb' = 1) := by
  have hr := fileB_rng fs fr; have he := erase_fine hf (fileB fs fr).toNat; have hel := List.length_eraseIdx_le fs (fileB fs fr).toNat
  refine spH_ (rs := [.cell 6 35, .tmp 7]) (nt := 47) Tryz.func246 rfl fun X hX => ?_
  refine nm_ ?_
  repeat' ((first | contradiction | (with_reducible exact tt_) | ((with_reducible show Wk (AwStepF _ _ _ _ _ _ _)); first | (refine cl_ rfl _ _ (impl_FileAt_D fs fr hf.len) rfl rfl ?_; rintro _ rfl) | (refine cl_ rfl _ _ (impl_DiskOk_D fs hf) rfl rfl ?_; rintro _ rfl) | (refine cl_ rfl _ _ (impl_NameOk_D nm hnm) rfl rfl ?_; rintro _ rfl) | (refine awH_ rfl (impl_copyDisk_D fs hf.len) [] ?_; rintro _ _ _ ⟨rfl, rfl, rfl⟩ _) | (refine awH_ rfl (deleteI_D fs (fileB fs fr) (by omega) (by omega) (by omega)) [3] ?_; rintro _ _ _ ⟨rfl, rfl, rfl⟩ _) | (refine afz_ [5] ?_; refine nm_ ?_; refine awH_ rfl (impl_withFile_D (fs.eraseIdx (fileB fs fr).toNat) ⟨nm, (fs.getD (fileB fs fr).toNat default).text, (fs.getD (fileB fs fr).toNat default).synced⟩ he (by omega)) [] ?_; rintro _ _ _ ⟨rfl, rfl, rfl⟩ _)) | ((with_reducible show Wk (AwStep _ _ _ _ _)); first | (refine pln_ ?_)) | ((with_reducible show Wk (boolK _ _ _ _)); first | (refine bk_ (fun h h' => ?_) (fun h h' => ?_))) | ((with_reducible show Wk (_ ∧ _)); first | (refine and_ ?_ ?_)) | ((with_reducible show Wk (retOkH _ _ _ _ _)); first | (refine rh_ [2] ?_; refine nm_ ?_; fail_if_success (show Wk False)) | (refine rh_ [6] ?_; refine nm_ ?_; fail_if_success (show Wk False))) | fail) <;> (try refine nm_ ?_))
  all_goals (refine ⟨?_⟩)
  all_goals first | contradiction | (exfalso; omega) | (rw [mv_bad (by first | omega | (simp_all; done) | (simp_all; omega))] <;> first | exact ⟨rfl, rfl, rfl⟩ | rfl) | (rw [mv_none (by first | omega | (simp_all; done) | (simp_all; omega)) (by first | omega | (simp_all; done) | (simp_all; omega))] <;> first | exact ⟨rfl, rfl, rfl⟩ | rfl) | (have hC : diskB fs = true ∧ nmB nm = true := (by first | omega | (simp_all; done) | (simp_all; omega)); rw [mv_good hC (by first | omega | (simp_all; done) | (simp_all; omega))] <;> (dsimp only; unfold mvF; rw [← withF_put (asc_erase (asc_of hC.1) _)] <;> first | exact ⟨rfl, rfl, rfl⟩ | rfl)) | trace_state

theorem impl_SaveStep_D (fs : List FileD) (tx : ByteArray) (st : Int) (htx : tx.size ≤ 1048576) (hf : DiskF fs) (hn : fs.length ≤ 1048576) : SpecH Tryz.prog 141 [.agg [.sl fs.length (filesD fs)], .sc (.string tx), .sc (.int .i64 st)] [] 0 (fun d os' nb' => d = .tup [.agg [.own 0 0 (stepR fs tx st).1.length], .sc (.int .i64 (stepR fs tx st).2)] ∧ os' = [(0, ⟨160, 3, ((stepR fs tx st).1).length, filesD ((stepR fs tx st).1)⟩)] ∧ nb' = 1) := by
  refine spH_ (rs := [.cell 6 35, .tmp 7]) (nt := 30) Tryz.func141 rfl fun X hX => ?_
  refine nm_ ?_
  repeat' ((first | contradiction | (with_reducible exact tt_) | ((with_reducible show Wk (AwStepF _ _ _ _ _ _ _)); first | (refine awH_ rfl (impl_copyDisk_D fs hf.len) [] ?_; rintro _ _ _ ⟨rfl, rfl, rfl⟩ _) | (refine awH_ rfl (impl_WriteFile_D fs newNm tx (by decide) htx hf hn) [] ?_; rintro _ _ _ ⟨rfl, rfl, rfl⟩ _) | (refine awH_ rfl (impl_SyncFile_D fs newNm hf hn) [] ?_; rintro _ _ _ ⟨rfl, rfl, rfl⟩ _) | (refine awH_ rfl (impl_RenameFile_D fs newNm stNm (by decide) hf hn) [] ?_; rintro _ _ _ ⟨rfl, rfl, rfl⟩ _)) | ((with_reducible show Wk (AwStep _ _ _ _ _)); first | (refine pln_ ?_)) | ((with_reducible show Wk (boolK _ _ _ _)); first | (refine bk_ (fun h h' => ?_) (fun h h' => ?_))) | ((with_reducible show Wk (_ ∧ _)); first | (refine and_ ?_ ?_)) | ((with_reducible show Wk (retOkH _ _ _ _ _)); first | (refine rh_ [2] ?_)) | fail) <;> (try refine nm_ ?_))
  all_goals (refine ⟨?_⟩)
  all_goals first | contradiction | (exfalso; omega) | (rw [step_0 (by omega)] <;> first | exact ⟨rfl, rfl, rfl⟩ | rfl) | (rw [step_1 (by omega)] <;> first | exact ⟨rfl, rfl, rfl⟩ | rfl) | (rw [step_2 (by omega)] <;> first | exact ⟨rfl, rfl, rfl⟩ | rfl) | (rw [step_x (by omega) (by omega) (by omega)] <;> first | exact ⟨rfl, rfl, rfl⟩ | rfl) | trace_state

theorem impl_SavedTill_D (fs : List FileD) (tx : ByteArray) (st : Int) (htx : tx.size ≤ 1048576) (hf : DiskF fs) (hn : fs.length ≤ 1048576) : SpecH Tryz.prog 64 [.agg [.sl fs.length (filesD fs)], .sc (.string tx), .sc (.int .i64 st)] [] 0 (fun d os' nb' => d = .tup [.agg [.own 0 0 (tillR fs tx st).1.length], .sc (.int .i64 (tillR fs tx st).2)] ∧ os' = [(0, ⟨160, 3, ((tillR fs tx st).1).length, filesD ((tillR fs tx st).1)⟩)] ∧ nb' = 1) := by
  refine spH_ (rs := [.cell 6 35, .tmp 7]) (nt := 32) Tryz.func64 rfl fun X hX => ?_
  refine nm_ ?_
  repeat' ((first | contradiction | (with_reducible exact tt_) | ((with_reducible show Wk (AwStepF _ _ _ _ _ _ _)); first | (refine mn2_ rfl ?_) | (refine awH_ rfl (impl_copyDisk_D fs hf.len) [] ?_; rintro _ _ _ ⟨rfl, rfl, rfl⟩ _) | (refine afz_ [2] ?_; refine nm_ ?_; refine awH_ rfl (impl_SaveStep_D gs tx i htx hG.f hgl) [] ?_; rintro _ _ _ ⟨rfl, rfl, rfl⟩ _)) | ((with_reducible show Wk (AwStep _ _ _ _ _)); first | (refine pln_ ?_)) | ((with_reducible show Wk (AwCode _ _ _ _ _)); first | (refine lpK_ (ι := Int × Int × List FileD) [] [0, 1, 2, 3] 0x746 (fun ⟨i, code, gs⟩ => [(10, .sc (.int .i64 i)), (9, .sc (.int .i64 code))]) (fun ⟨i, code, gs⟩ => [(2, ⟨160, 3, (gs).length, filesD (gs)⟩), (3, ⟨35, 1, 1, [.own 2 0 gs.length]⟩)]) (fun ⟨i, code, gs⟩ => ((0 ≤ i ∧ i ≤ 3) ∧ DiskG fs gs ∧ gs.length ≤ 1048576) ∧ ((code = 0 ∧ stepsR tx (min st 3 - i).toNat i gs = tillR fs tx st) ∨ (¬ code = 0 ∧ (gs, code) = tillR fs tx st))) (fun ⟨i, code, gs⟩ => (4 - i).toNat + (if code = 0 then 1 else 0)) (0, 0, fs) ?_ ?_; (focus (refine ⟨⟨by omega, ⟨hf, .inl (Nat.le_refl _)⟩, hn⟩, .inl ⟨rfl, ?_⟩⟩; rw [Int.sub_zero]; rfl)); rintro _ hN0 ⟨i, code, gs⟩ hinv; (try dsimp only at hinv); obtain ⟨⟨hi, hG, hgl⟩, hR⟩ := hinv; replace hR := Lib.hid hR; have hG2 := hG.trans (step_fine hG.f (tx := tx) (st := i)); have hgl2 : (stepR gs tx i).1.length ≤ 1048576 := (by rcases hG2.len with h | h <;> omega); skip)) | ((with_reducible show Wk (boolK _ _ _ _)); first | (refine bk_ (fun h h' => ?_) (fun h h' => ?_))) | ((with_reducible show Wk (_ ∧ _)); first | (refine and_ ?_ ?_)) | ((with_reducible show Wk (retOkH _ _ _ _ _)); first | (refine rh_ [2] ?_)) | (refine hN0.run ((i + 1, (stepR gs tx i).2, (stepR gs tx i).1)) [] [0, 1, 4, 3] ?_ ?_; (focus (exact ⟨⟨by omega, hG2, hgl2⟩, till_both hR.out (by omega) (by omega)⟩)); (focus (show (4 - (i + 1)).toNat + _ < (4 - i).toNat + _; split <;> split <;> omega))) | fail) <;> (try refine nm_ ?_))
  all_goals (refine ⟨?_⟩)
  all_goals first | contradiction | (exfalso; omega) | (rw [← till_fin hR.out (by omega)] <;> first | exact ⟨rfl, rfl, rfl⟩ | rfl) | trace_state

end Go.Proofs.YtnicgfeajdjimaaGreat
