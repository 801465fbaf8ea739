/- The acts on disks. -/
import Derived.Test.YtnicgfeajdjimaaGreatDk1
import Derived.Test.YtnicgfeajdjimaaGreatDkDel
import Derived.Test.YtnicgfeajdjimaaGreatNo
namespace Go.Proofs.YtnicgfeajdjimaaGreat
open Go.RowKit
set_option linter.unusedVariables false
set_option linter.unusedSimpArgs false
set_option maxRecDepth 100000
set_option maxHeartbeats 4000000

theorem filesD_app (a b : List FileD) : filesD a ++ filesD b = filesD (a ++ b) := by simp [filesD, flatD]
theorem flat_take_of {α : Type} {cells : α → List D} {size : Nat} (hs : ∀ x, (cells x).length = size) (xs : List α) (k : Nat) (h : k ≤ xs.length) : (flatD cells xs).take (k * size) = flatD cells (xs.take k) := by
  have hl : (flatD cells (xs.take k)).length = k * size := by rw [flat_len hs, List.length_take, Nat.min_eq_left h]
  have e : flatD cells xs = flatD cells (xs.take k) ++ flatD cells (xs.drop k) := by
    unfold flatD
    rw [← List.flatMap_append, List.take_append_drop]
  rw [e, ← hl, List.take_left]
theorem flat_drop_of {α : Type} {cells : α → List D} {size : Nat} (hs : ∀ x, (cells x).length = size) (xs : List α) (k : Nat) : (flatD cells xs).drop (k * size) = flatD cells (xs.drop k) := by
  rcases Nat.lt_or_ge xs.length k with h | h
  · rw [List.drop_of_length_le (by rw [flat_len hs]; exact Nat.mul_le_mul_right _ (Nat.le_of_lt h)), List.drop_of_length_le (Nat.le_of_lt h)]
    rfl
  · have hl : (flatD cells (xs.take k)).length = k * size := by rw [flat_len hs, List.length_take, Nat.min_eq_left h]
    have e : flatD cells xs = flatD cells (xs.take k) ++ flatD cells (xs.drop k) := by
      unfold flatD
      rw [← List.flatMap_append, List.take_append_drop]
    rw [e, ← hl, List.drop_left]
/-- The first k files, under a name of their own. -/
theorem take_ex (fs : List FileD) (k : Nat) (h : k ≤ fs.length) : ∃ a, a = fs.take k ∧ a.length = k ∧ (filesD fs).take (k * 3) = filesD a := ⟨_, rfl, by rw [List.length_take]; omega, flat_take_of fileCells_len fs k h⟩
theorem drop_ex (fs : List FileD) (k : Nat) : ∃ b, b = fs.drop k ∧ b.length = fs.length - k ∧ ((filesD fs).drop (k * 3)).take ((fs.length - k) * 3) = filesD b := by
  refine ⟨_, rfl, List.length_drop, ?_⟩
  rw [show (filesD fs).drop (k * 3) = filesD (fs.drop k) from flat_drop_of fileCells_len fs k]
  exact List.take_of_length_le (by rw [filesD_len, List.length_drop]; exact Nat.le_refl _)
theorem row_close {gs : List FileD} {n : Nat} {xs : List FileD} (e : xs = gs) (hn : n = xs.length) : D.agg [.sl n (filesD xs)] = D.agg [.sl gs.length (filesD gs)] := by subst e; subst hn; rfl
theorem filesD_set2 (fs : List FileD) (k : Nat) (v : Int) (h : k < fs.length) : (filesD fs).set (k * 3 + 2) (.sc (.int .i64 v)) = filesD (fs.set k ⟨(fs.getD k default).name, (fs.getD k default).text, v⟩) := by
  have e : filesD fs = filesD (fs.take k) ++ (fileCells (fs.getD k default) ++ filesD (fs.drop (k + 1))) := by
    conv => lhs; rw [← List.take_append_drop k fs, getD_drop fs h]
    simp [filesD, flatD]
  have e2 : fs.set k ⟨(fs.getD k default).name, (fs.getD k default).text, v⟩ = fs.take k ++ (⟨(fs.getD k default).name, (fs.getD k default).text, v⟩ :: fs.drop (k + 1)) := by
    rw [List.set_eq_take_append_cons_drop, if_pos h]
  have hl : (filesD (fs.take k)).length = k * 3 := by rw [filesD_len, List.length_take, Nat.min_eq_left (by omega)]
  rw [e, e2, List.set_append_right _ _ (by omega), hl, Nat.add_sub_cancel_left]
  simp [filesD, flatD, fileCells]

theorem wr_bad {fs : List FileD} {nm tx : ByteArray} (h : ¬ (diskB fs = true ∧ nmB nm = true ∧ tx.size ≤ 20000)) : wrR fs nm tx = (fs, 1) := if_neg h
theorem wr_full {fs : List FileD} {nm tx : ByteArray} (h : diskB fs = true ∧ nmB nm = true ∧ tx.size ≤ 20000) (h2 : fileB fs nm < 0 ∧ 4 ≤ fs.length) : wrR fs nm tx = (fs, 3) := by rw [wrR, if_pos h, if_pos h2]
theorem wr_good {fs : List FileD} {nm tx : ByteArray} (h : diskB fs = true ∧ nmB nm = true ∧ tx.size ≤ 20000) (h2 : ¬ (fileB fs nm < 0 ∧ 4 ≤ fs.length)) : wrR fs nm tx = (putF ⟨nm, tx, 0⟩ fs, 0) := by rw [wrR, if_pos h, if_neg h2]
theorem sy_bad {fs : List FileD} {nm : ByteArray} (h : diskB fs = false) : syR fs nm = (fs, 1) := if_neg (by rw [h]; decide)
theorem sy_none {fs : List FileD} {nm : ByteArray} (h : diskB fs = true) (h2 : fileB fs nm < 0) : syR fs nm = (fs, 2) := by rw [syR, if_pos h, if_pos h2]
theorem sy_good {fs : List FileD} {nm : ByteArray} (h : diskB fs = true) (h2 : 0 ≤ fileB fs nm) : syR fs nm = (syF fs (fileB fs nm).toNat, 0) := by rw [syR, if_pos h, if_neg (by omega)]
theorem mv_bad {fs : List FileD} {fr nm : ByteArray} (h : ¬ (diskB fs = true ∧ nmB nm = true)) : mvR fs fr nm = (fs, 1) := if_neg h
theorem mv_none {fs : List FileD} {fr nm : ByteArray} (h : diskB fs = true ∧ nmB nm = true) (h2 : fileB fs fr < 0) : mvR fs fr nm = (fs, 2) := by rw [mvR, if_pos h, if_pos h2]
theorem mv_good {fs : List FileD} {fr nm : ByteArray} (h : diskB fs = true ∧ nmB nm = true) (h2 : 0 ≤ fileB fs fr) : mvR fs fr nm = (mvF fs (fileB fs fr).toNat nm, 0) := by rw [mvR, if_pos h, if_neg (by omega)]
theorem step_0 {fs : List FileD} {tx : ByteArray} {st : Int} (h : st = 0) : stepR fs tx st = wrR fs newNm tx := if_pos h
theorem step_1 {fs : List FileD} {tx : ByteArray} {st : Int} (h : st = 1) : stepR fs tx st = syR fs newNm := by rw [stepR, if_neg (by omega), if_pos h]
theorem step_2 {fs : List FileD} {tx : ByteArray} {st : Int} (h : st = 2) : stepR fs tx st = mvR fs newNm stNm := by rw [stepR, if_neg (by omega), if_neg (by omega), if_pos h]
theorem step_x {fs : List FileD} {tx : ByteArray} {st : Int} (h0 : ¬ st = 0) (h1 : ¬ st = 1) (h2 : ¬ st = 2) : stepR fs tx st = (fs, 12) := by rw [stepR, if_neg h0, if_neg h1, if_neg h2]

theorem till_go {tx : ByteArray} {gs : List FileD} {m i : Int} {R : List FileD × Int} (hR : stepsR tx (m - i).toNat i gs = R) (hi : i < m) (h : (stepR gs tx i).2 = 0) : stepsR tx (m - (i + 1)).toNat (i + 1) (stepR gs tx i).1 = R := by
  rw [show (m - i).toNat = (m - (i + 1)).toNat + 1 by omega] at hR
  exact steps_go hR h
theorem till_no {tx : ByteArray} {gs : List FileD} {m i : Int} {R : List FileD × Int} (hR : stepsR tx (m - i).toNat i gs = R) (hi : i < m) (h : ¬ (stepR gs tx i).2 = 0) : stepR gs tx i = R := by
  rw [show (m - i).toNat = (m - (i + 1)).toNat + 1 by omega] at hR
  exact steps_no hR h
theorem till_end {tx : ByteArray} {gs : List FileD} {m i : Int} {R : List FileD × Int} (hR : stepsR tx (m - i).toNat i gs = R) (hi : m ≤ i) : (gs, 0) = R := by
  rw [show (m - i).toNat = 0 by omega] at hR
  exact hR

theorem spec_l29Copy_D (fs : List FileD) (hn : fs.length ≤ 1048580) : Spec Tryz.prog 71 [.agg [.sl fs.length (filesD fs)]] (fun d => d = .agg [.sl (fs).length (filesD (fs))]) := by
  refine spG_ (rs := [.cell 2 35]) (nt := 8) Tryz.func71 rfl fun X hX => ?_
  refine nm_ ?_
  repeat' ((first | contradiction | (with_reducible exact tt_) | (refine bk_ (fun h h' => ?_) (fun h h' => ?_)) | (refine and_ ?_ ?_) | (refine pln_ ?_) | (refine app_ rfl ?_) | (refine rgg_ [.frz 3] ?_; refine nm_ ?_; fail_if_success (show Wk False)) | (refine rgg_ [.frz 2] ?_; refine nm_ ?_; fail_if_success (show Wk False)) | (refine rgg_ [.frz 1] ?_; refine nm_ ?_; fail_if_success (show Wk False)) | (refine rgg_ [.frz 4] ?_; refine nm_ ?_; fail_if_success (show Wk False)) | fail) <;> (try refine nm_ ?_))
  all_goals (refine ⟨?_⟩)
  all_goals first | rfl | trace_state

theorem spec_l29Without_D (fs : List FileD) (q : Int) (hq : 0 ≤ q) (hk : q < fs.length) (hn : fs.length ≤ 1048580) : Spec Tryz.prog 323 [.agg [.sl fs.length (filesD fs)], .sc (.int .i64 q)] (fun d => d = .agg [.sl (fs.eraseIdx q.toNat).length (filesD (fs.eraseIdx q.toNat))]) := by
  obtain ⟨k, rfl⟩ := Int.eq_ofNat_of_zero_le hq; have ek : ((k : Int)).toNat = k := (by omega); rw [ek]; obtain ⟨a, ea, la, ta⟩ := take_ex fs k (by omega); obtain ⟨b, eb, lb, tb⟩ := drop_ex fs (k + 1); replace ea := Lib.hid ea; replace eb := Lib.hid eb; have kk : ((k : Int) + 1).toNat = k + 1 := (by omega)
  have ex0 := @filesD_app; have ex1 := @Nat.sub_zero
  refine spG_ (rs := [.cell 4 35]) (nt := 18) Tryz.func323 rfl fun X hX => ?_
  refine nm_ ?_
  repeat' ((first | contradiction | (with_reducible exact tt_) | (refine bk_ (fun h h' => ?_) (fun h h' => ?_)) | (refine and_ ?_ ?_) | (refine pln_ ?_) | (refine app_ rfl ?_) | (refine rgg_ [.frz 5] ?_; refine nm_ ?_; fail_if_success (show Wk False)) | (refine rgg_ [.frz 4] ?_; refine nm_ ?_; fail_if_success (show Wk False)) | (refine rgg_ [.frz 3] ?_; refine nm_ ?_; fail_if_success (show Wk False)) | (refine rgg_ [.frz 6] ?_; refine nm_ ?_; fail_if_success (show Wk False)) | (refine wo_ (id := 1) [1] [(1, true), (2, true), (3, true), (4, true), (6, true), (7, true), (8, true), (9, true), (10, true), (0, false), (5, false), (11, false), (12, true), (13, false)] ?_) | fail) <;> (try refine nm_ ?_))
  all_goals clear ex0 ex1
  all_goals (refine ⟨?_⟩)
  all_goals first | contradiction | (exfalso; omega) | (exact row_close (gs := fs.eraseIdx k) (xs := a ++ b) (by rw [ea.out, eb.out]; exact (List.eraseIdx_eq_take_drop_succ ..).symm) (by rw [List.length_append]; omega)) | trace_state

theorem spec_l29Lay_D (fs : List FileD) (f : FileD) (hf : DiskF fs) (hn : fs.length ≤ 1048576) : Spec Tryz.prog 322 [.agg [.sl fs.length (filesD fs)], .agg (fileCells f)] (fun d => d = .agg [.sl (putF f fs).length (filesD (putF f fs))]) := by
  unfold fileCells
  have ex0 := @filesD_app; have ex1 := @Nat.sub_zero
  refine spG_ (rs := [.cell 4 35]) (nt := 59) Tryz.func322 rfl fun X hX => ?_
  refine nm_ ?_
  repeat' ((first | contradiction | (with_reducible exact tt_) | (refine bk_ (fun h h' => ?_) (fun h h' => ?_)) | (refine and_ ?_ ?_) | (refine pln_ ?_) | (refine app_ rfl ?_) | (refine rgg_ [.frz 6] ?_; refine nm_ ?_; fail_if_success (show Wk False)) | (refine rgg_ [.frz 5] ?_; refine nm_ ?_; fail_if_success (show Wk False)) | (refine rgg_ [.frz 7] ?_; refine nm_ ?_; fail_if_success (show Wk False)) | (refine rgg_ [.frz 4] ?_; refine nm_ ?_; fail_if_success (show Wk False)) | (refine rgg_ [.frz 8] ?_; refine nm_ ?_; fail_if_success (show Wk False)) | (refine wo_ (id := 2) [] [(0, true), (1, true), (2, true), (3, true), (4, true), (5, true), (6, true), (7, true), (8, true), (9, true), (10, true), (11, true), (12, true), (13, true), (14, true), (15, true)] ?_) | (refine wtr_ (id := 4) [] (.early 1 (.early 2 (.early 3 (.early 4 (.early 6 (.two 0 (.two 5 (.one 7 (.one 8 (.early 9 .done))) 7 (.one 5 (.one 8 (.early 9 .done)))) 7 (.one 0 (.one 5 (.one 8 (.early 9 .done)))))))))) ?_) | (refine wo_ (id := 5) [] [(0, true), (1, true), (2, true), (3, true), (4, true), (5, true), (6, true), (7, true), (8, true), (9, true), (10, true), (11, true), (12, true), (13, true), (14, true), (15, true)] ?_) | (refine lpU_ 0x3c (ι := Nat) (fun k => [(5, .sc (.int .i64 (k : Int)))]) (fun k => k ≤ fs.length ∧ fs.take k ++ putF f (fs.drop k) = putF f fs) (fun k => fs.length - k) 0 ?_ ?_; (focus (exact ⟨Nat.zero_le _, rfl⟩)); rintro _ hN0 k hinv; (try dsimp only at hinv); obtain ⟨hk, hR⟩ := hinv; replace hR := Lib.hid hR; obtain ⟨a, ea, la, ta⟩ := take_ex fs k hk; obtain ⟨b, eb, lb, tb⟩ := drop_ex fs k; obtain ⟨b1, eb1, lb1, tb1⟩ := drop_ex fs (k + 1); replace ea := Lib.hid ea; replace eb := Lib.hid eb; replace eb1 := Lib.hid eb1; have kk : ((k : Int) + 1).toNat = k + 1 := (by omega); skip) | (refine hN0.go (k + 1) ?_ ?_; (focus (refine ⟨by show k + 1 ≤ fs.length; omega, ?_⟩; show fs.take (k + 1) ++ _ = _; rw [take_snoc fs k (by omega)]; exact putF_less (by omega) (by first | assumption | exact (by assumption : _ ∧ _).2) hR.out)); (focus (show fs.length - (k + 1) < fs.length - k; omega))) | fail) <;> (try refine nm_ ?_))
  all_goals clear ex0 ex1
  all_goals (refine ⟨?_⟩)
  all_goals first | contradiction | (exfalso; omega) | (exact row_close (gs := putF f fs) (xs := a ++ [f] ++ b1) (by rw [ea.out, eb1.out]; exact putF_same (k := k) (by omega) (by first | assumption | exact (by assumption : _ ∧ _).2 | exact (by assumption : _ ∨ _).resolve_left (by omega)) (by first | assumption | exact (by assumption : _ ∧ _).2 | exact (by assumption : _ ∨ _).resolve_left (by omega)) hR.out) (by simp only [List.length_append, List.length_cons, List.length_nil]; omega)) | (exact row_close (gs := putF f fs) (xs := a ++ [f] ++ b) (by rw [ea.out, eb.out]; exact putF_other (k := k) (by omega) (by first | assumption | exact (by assumption : _ ∧ _).2 | exact (by assumption : _ ∨ _).resolve_left (by omega)) (by first | assumption | exact (by assumption : _ ∧ _).2 | exact (by assumption : _ ∨ _).resolve_left (by omega)) hR.out) (by simp only [List.length_append, List.length_cons, List.length_nil]; omega)) | (exact row_close (gs := putF f fs) (xs := a ++ [f] ++ b) (by rw [ea.out, eb.out]; exact putF_end (k := k) (by omega) hR.out) (by simp only [List.length_append, List.length_cons, List.length_nil]; omega)) | trace_state

theorem l29Copy_H (fs : List FileD) (hn : fs.length ≤ 1048580) : SpecH Tryz.prog 71 [.agg [.sl fs.length (filesD fs)]] [] 0 (fun d os' nb' => d = .agg [.own 0 0 fs.length] ∧ os' = [(0, ⟨160, 3, (fs).length, filesD (fs)⟩)] ∧ nb' = 1) := by
  refine spH_ (rs := [.cell 2 35]) (nt := 8) Tryz.func71 rfl fun X hX => ?_
  refine nm_ ?_
  repeat' ((first | contradiction | (with_reducible exact tt_) | (refine bk_ (fun h h' => ?_) (fun h h' => ?_)) | (refine and_ ?_ ?_) | (refine pln_ ?_) | (refine app_ rfl ?_) | (refine rh_ [3] ?_) | fail) <;> (try refine nm_ ?_))
  all_goals (refine ⟨?_⟩)
  all_goals first | exact ⟨rfl, rfl, rfl⟩ | trace_state

theorem spec_WriteFile_D (fs : List FileD) (nm tx : ByteArray) (hnm : nm.size ≤ 1048576) (htx : tx.size ≤ 1048576) (hf : DiskF fs) (hn : fs.length ≤ 1048576) : Spec Tryz.prog 251 [.agg [.sl fs.length (filesD fs)], .sc (.string nm), .sc (.string tx)] (fun d => d = .tup [.agg [.sl (wrR fs nm tx).1.length (filesD (wrR fs nm tx).1)], .sc (.int .i64 (wrR fs nm tx).2)]) := by
  refine sp_ (rs := [.cell 6 35, .tmp 7]) (nt := 40) Tryz.func251 rfl fun X hX => ?_
  refine nm_ ?_
  repeat' ((first | contradiction | (with_reducible exact tt_) | (refine bk_ (fun h h' => ?_) (fun h h' => ?_)) | (refine and_ ?_ ?_) | (refine pln_ ?_) | (refine cl_ rfl _ _ (spec_DiskOk_D fs hf) rfl rfl ?_; rintro _ rfl) | (refine cl_ rfl _ _ (specName_D nm) rfl rfl ?_; rintro _ rfl) | (refine cl_ rfl _ _ (spec_l29Copy_D fs hf.len) rfl rfl ?_; rintro _ rfl) | (refine cl_ rfl _ _ (spec_FileAt_D fs nm hf.len) rfl rfl ?_; rintro _ rfl) | (refine cl_ rfl _ _ (spec_l29Lay_D fs ⟨nm, tx, 0⟩ hf hn) rfl rfl ?_; rintro _ rfl) | fail) <;> (try refine nm_ ?_))
  all_goals (refine ⟨?_⟩)
  all_goals first | contradiction | (exfalso; omega) | (rw [wr_bad (by first | omega | (simp_all; done) | (simp_all; omega))] <;> rfl) | (rw [wr_full (by first | omega | (simp_all; done) | (simp_all; omega)) (by first | omega | (simp_all; done) | (simp_all; omega))] <;> rfl) | (rw [wr_good (by first | omega | (simp_all; done) | (simp_all; omega)) (by first | omega | (simp_all; done) | (simp_all; omega))] <;> rfl) | trace_state

theorem spec_SyncFile_D (fs : List FileD) (nm : ByteArray) (hf : DiskF fs) (hn : fs.length ≤ 1048576) : Spec Tryz.prog 252 [.agg [.sl fs.length (filesD fs)], .sc (.string nm)] (fun d => d = .tup [.agg [.sl (syR fs nm).1.length (filesD (syR fs nm).1)], .sc (.int .i64 (syR fs nm).2)]) := by
  have hr := fileB_rng fs nm; have hz := (hf.f (fileB fs nm).toNat).t
  have ex0 := @filesD_set2
  refine spG_ (rs := [.cell 4 35, .tmp 5]) (nt := 33) Tryz.func252 rfl fun X hX => ?_
  refine nm_ ?_
  repeat' ((first | contradiction | (with_reducible exact tt_) | (refine bk_ (fun h h' => ?_) (fun h h' => ?_)) | (refine and_ ?_ ?_) | (refine pln_ ?_) | (refine cl_ rfl _ _ (spec_DiskOk_D fs hf) rfl rfl ?_; rintro _ rfl) | (refine cl_ rfl _ _ (spec_FileAt_D fs nm hf.len) rfl rfl ?_; rintro _ rfl) | (refine awH_ rfl (l29Copy_H fs hf.len) [] ?_; rintro _ _ _ ⟨rfl, rfl, rfl⟩ _) | (refine rgg_ [.frz 2] ?_) | (refine wo_ (id := 7) [2] [(0, true), (1, true), (2, true), (3, true), (4, true), (5, true), (6, true), (7, true), (8, true), (9, true), (10, true), (11, true), (12, false)] ?_) | fail) <;> (try refine nm_ ?_))
  all_goals clear ex0
  all_goals (refine ⟨?_⟩)
  all_goals first | contradiction | (exfalso; omega) | (rw [sy_bad (by first | omega | (simp_all; done) | (simp_all; omega))] <;> first | rfl | (show _ = D.tup [.agg [.sl (List.set _ _ _).length _], _]; rw [List.length_set]; rfl)) | (rw [sy_none (by first | omega | (simp_all; done) | (simp_all; omega)) (by first | omega | (simp_all; done) | (simp_all; omega))] <;> first | rfl | (show _ = D.tup [.agg [.sl (List.set _ _ _).length _], _]; rw [List.length_set]; rfl)) | (rw [sy_good (by first | omega | (simp_all; done) | (simp_all; omega)) (by first | omega | (simp_all; done) | (simp_all; omega))] <;> first | rfl | (show _ = D.tup [.agg [.sl (List.set _ _ _).length _], _]; rw [List.length_set]; rfl)) | trace_state

theorem spec_RenameFile_D (fs : List FileD) (fr nm : ByteArray) (hnm : nm.size ≤ 1048576) (hf : DiskF fs) (hn : fs.length ≤ 1048576) : Spec Tryz.prog 253 [.agg [.sl fs.length (filesD fs)], .sc (.string fr), .sc (.string nm)] (fun d => d = .tup [.agg [.sl (mvR fs fr nm).1.length (filesD (mvR fs fr nm).1)], .sc (.int .i64 (mvR fs fr nm).2)]) := by
  have hr := fileB_rng fs fr; have hz := hf.f (fileB fs fr).toNat; have he := erase_fine hf (fileB fs fr).toNat; have hel := List.length_eraseIdx_le fs (fileB fs fr).toNat
  refine sp_ (rs := [.cell 6 35, .tmp 7]) (nt := 39) Tryz.func253 rfl fun X hX => ?_
  refine nm_ ?_
  repeat' ((first | contradiction | (with_reducible exact tt_) | (refine bk_ (fun h h' => ?_) (fun h h' => ?_)) | (refine and_ ?_ ?_) | (refine pln_ ?_) | (refine cl_ rfl _ _ (spec_DiskOk_D fs hf) rfl rfl ?_; rintro _ rfl) | (refine cl_ rfl _ _ (specName_D nm) rfl rfl ?_; rintro _ rfl) | (refine cl_ rfl _ _ (spec_l29Copy_D fs hf.len) rfl rfl ?_; rintro _ rfl) | (refine cl_ rfl _ _ (spec_FileAt_D fs fr hf.len) rfl rfl ?_; rintro _ rfl) | (refine cl_ rfl _ _ (spec_l29Without_D fs (fileB fs fr) (by omega) (by omega) hf.len) rfl rfl ?_; rintro _ rfl) | (refine cl_ rfl _ _ (spec_l29Lay_D (fs.eraseIdx (fileB fs fr).toNat) ⟨nm, (fs.getD (fileB fs fr).toNat default).text, (fs.getD (fileB fs fr).toNat default).synced⟩ he (by omega)) rfl rfl ?_; rintro _ rfl) | (refine wo_ (id := 8) [1] [(0, true), (1, true), (3, true), (2, false), (4, false), (5, false), (6, true)] ?_) | fail) <;> (try refine nm_ ?_))
  all_goals (refine ⟨?_⟩)
  all_goals first | contradiction | (exfalso; omega) | (rw [mv_bad (by first | omega | (simp_all; done) | (simp_all; omega))] <;> rfl) | (rw [mv_none (by first | omega | (simp_all; done) | (simp_all; omega)) (by first | omega | (simp_all; done) | (simp_all; omega))] <;> rfl) | (rw [mv_good (by first | omega | (simp_all; done) | (simp_all; omega)) (by first | omega | (simp_all; done) | (simp_all; omega))] <;> rfl) | trace_state

theorem spec_SaveStep_D (fs : List FileD) (tx : ByteArray) (st : Int) (htx : tx.size ≤ 1048576) (hf : DiskF fs) (hn : fs.length ≤ 1048576) : Spec Tryz.prog 149 [.agg [.sl fs.length (filesD fs)], .sc (.string tx), .sc (.int .i64 st)] (fun d => d = .tup [.agg [.sl (stepR fs tx st).1.length (filesD (stepR fs tx st).1)], .sc (.int .i64 (stepR fs tx st).2)]) := by
  refine sp_ (rs := [.cell 6 35, .tmp 7]) (nt := 30) Tryz.func149 rfl fun X hX => ?_
  refine nm_ ?_
  repeat' ((first | contradiction | (with_reducible exact tt_) | (refine bk_ (fun h h' => ?_) (fun h h' => ?_)) | (refine and_ ?_ ?_) | (refine pln_ ?_) | (refine cl_ rfl _ _ (spec_WriteFile_D fs newNm tx (by decide) htx hf hn) rfl rfl ?_; rintro _ rfl) | (refine cl_ rfl _ _ (spec_SyncFile_D fs newNm hf hn) rfl rfl ?_; rintro _ rfl) | (refine cl_ rfl _ _ (spec_RenameFile_D fs newNm stNm (by decide) hf hn) rfl rfl ?_; rintro _ rfl) | (refine cl_ rfl _ _ (spec_l29Copy_D fs hf.len) rfl rfl ?_; rintro _ rfl) | fail) <;> (try refine nm_ ?_))
  all_goals (refine ⟨?_⟩)
  all_goals first | contradiction | (exfalso; omega) | (rw [step_0 (by omega)]) | (rw [step_1 (by omega)]) | (rw [step_2 (by omega)]) | (rw [step_x (by omega) (by omega) (by omega)]) | trace_state

theorem spec_SavedTill_D (fs : List FileD) (tx : ByteArray) (st : Int) (htx : tx.size ≤ 1048576) (hf : DiskF fs) (hn : fs.length ≤ 1048576) : Spec Tryz.prog 72 [.agg [.sl fs.length (filesD fs)], .sc (.string tx), .sc (.int .i64 st)] (fun d => d = .tup [.agg [.sl (tillR fs tx st).1.length (filesD (tillR fs tx st).1)], .sc (.int .i64 (tillR fs tx st).2)]) := by
  refine spG_ (rs := [.cell 6 35, .tmp 7]) (nt := 36) Tryz.func72 rfl fun X hX => ?_
  refine nm_ ?_
  repeat' ((first | contradiction | (with_reducible exact tt_) | (refine bk_ (fun h h' => ?_) (fun h h' => ?_)) | (refine and_ ?_ ?_) | (refine pln_ ?_) | (refine cl_ rfl _ _ (spec_l29Copy_D fs hf.len) rfl rfl ?_; rintro _ rfl) | (refine cl_ rfl _ _ (spec_SaveStep_D gs tx i htx hG.f hgl) rfl rfl ?_; rintro _ rfl) | (refine rgg_ [] ?_) | (refine lpK_ (ι := Int × List FileD) [] [0, 1, 2] 0x346 (fun ⟨i, gs⟩ => [(9, .sc (.int .i64 i))]) (fun ⟨i, gs⟩ => [(2, ⟨35, 1, 1, [.sl gs.length (filesD gs)]⟩)]) (fun ⟨i, gs⟩ => ((0 ≤ i ∧ i ≤ 3) ∧ DiskG fs gs ∧ gs.length ≤ 1048576) ∧ stepsR tx (min st 3 - i).toNat i gs = tillR fs tx st) (fun ⟨i, gs⟩ => (3 - i).toNat) (0, fs) ?_ ?_; (focus (refine ⟨⟨by omega, ⟨hf, .inl (Nat.le_refl _)⟩, hn⟩, ?_⟩; rw [Int.sub_zero]; rfl)); rintro _ hN0 ⟨i, gs⟩ hinv; (try dsimp only at hinv); obtain ⟨⟨hi, hG, hgl⟩, hR⟩ := hinv; replace hR := Lib.hid hR; have hG2 := hG.trans (step_fine hG.f (tx := tx) (st := i)); have hgl2 : (stepR gs tx i).1.length ≤ 1048576 := (by rcases hG2.len with h | h <;> omega); skip) | (refine hN0.run ((i + 1, (stepR gs tx i).1)) [] [0, 1, 2] ?_ ?_; (focus (exact ⟨⟨by omega, hG2, hgl2⟩, till_go hR.out (by omega) (by omega)⟩)); (focus (show (3 - (i + 1)).toNat < (3 - i).toNat; omega))) | fail) <;> (try refine nm_ ?_))
  all_goals (refine ⟨?_⟩)
  all_goals first | contradiction | (exfalso; omega) | (rw [← till_end hR.out (by omega)]; done) | (rw [← till_no hR.out (by omega) (by omega)]; done) | trace_state

end Go.Proofs.YtnicgfeajdjimaaGreat
