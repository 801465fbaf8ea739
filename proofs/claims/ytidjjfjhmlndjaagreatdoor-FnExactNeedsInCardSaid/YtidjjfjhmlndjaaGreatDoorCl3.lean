/- What is right of needs, pods and hosts; sums (the model). -/
import Derived.Test.YtidjjfjhmlndjaaGreatDoorCl2
namespace Go.Proofs.YtidjjfjhmlndjaaGreatDoor
open Go.RowKit
set_option linter.unusedVariables false
set_option linter.unusedSimpArgs false
set_option maxRecDepth 100000
set_option maxHeartbeats 1000000

theorem spec_NeedLess_D (a b : NeedD) (hn : a.values.length ≤ 1048576 ∨ b.values.length ≤ 1048576) : Spec Tryz.prog 124 [.agg (needCells a), .agg (needCells b)] (fun d => d = .sc (.bool (needLess a b))) := by
  unfold needCells
  refine sp_ (rs := [.tmp 4]) (nt := 69) Tryz.func124 rfl fun X hX => ?_
  refine nm_ ?_
  repeat' ((first | contradiction | (with_reducible exact tt_) | ((with_reducible show Wk (AwStep _ _ _ _ _)); first | (refine pln_ ?_)) | ((with_reducible show Wk (AwCode _ _ _ _ _)); first | (refine wo_ (id := 8) [] [(0, true), (1, true), (2, true), (3, true), (4, true), (5, true), (6, true), (7, true), (8, true), (9, true), (10, true)] ?_) | (refine wo_ (id := 9) [] [(0, true), (1, true), (2, true), (3, true), (4, true), (5, true), (6, true), (7, true), (8, true), (9, true), (10, true), (11, true)] ?_) | (refine lpU_ 0x2c (ι := Nat) (fun k => [(5, .sc (.int .i64 (k : Int)))]) (fun k => k ≤ a.values.length ∧ k ≤ b.values.length ∧ valsLess (a.values.drop k) (b.values.drop k) = valsLess a.values b.values) (fun k => a.values.length - k) 0 ?_ ?_; (focus (exact ⟨by omega, by omega, rfl⟩)); rintro _ hN0 k hinv; (try dsimp only at hinv); obtain ⟨hk, hk2, hj⟩ := hinv; replace hj := Lib.hid hj; skip)) | ((with_reducible show Wk (boolK _ _ _ _)); first | (refine bk_ (fun h h' => ?_) (fun h h' => ?_))) | ((with_reducible show Wk (_ ∧ _)); first | (refine and_ ?_ ?_)) | (refine hN0.go (k + 1) ?_ ?_; (focus (refine ⟨by show k + 1 ≤ _; omega, by show k + 1 ≤ _; omega, ?_⟩; have e := hj.out; rw [valsLess_at (by omega) (by omega), if_pos (by assumption)] at e; exact e)); (focus (show a.values.length - (k + 1) < a.values.length - k; omega))) | fail) <;> (try refine nm_ ?_))
  all_goals (refine ⟨?_⟩)
  all_goals first | contradiction | (have e := hj.out; rw [valsLess_at (by omega) (by omega)] at e; simp_all [needLess]; done) | (have e := hj.out; rw [valsLess_end (by omega) (by omega) (by omega)] at e; simp_all [needLess]; done) | (simp_all [needLess]; done) | trace_state

theorem needB_len {n : NeedD} (h : needB n = true) : n.values.length ≤ 1048576 := by
  rw [needB_eq] at h
  simp only [Bool.and_eq_true] at h
  obtain ⟨_, _, h⟩ := h
  split at h
  · simp at h; simp [h]
  · simp [inB] at h; omega

theorem spec_SelectorOk_D (ns : List NeedD) : Spec Tryz.prog 125 [.sl ns.length (needsD ns)] (fun d => d = .sc (.bool (needsB ns))) := by
  refine sp_ (rs := [.tmp 2]) (nt := 36) Tryz.func125 rfl fun X hX => ?_
  refine nm_ ?_
  repeat' ((first | contradiction | (with_reducible exact tt_) | ((with_reducible show Wk (AwStepF _ _ _ _ _ _ _)); first | (refine cl_ rfl _ _ (spec_NeedOk_D _) rfl rfl ?_; rintro _ rfl) | (refine cl_ rfl _ _ (spec_NeedLess_D _ _ (.inr (needB_len (by assumption)))) rfl rfl ?_; rintro _ rfl)) | ((with_reducible show Wk (AwStep _ _ _ _ _)); first | (refine pln_ ?_)) | ((with_reducible show Wk (AwCode _ _ _ _ _)); first | (refine wtr_ (id := 6) [] (.early 0 (.early 1 (.early 2 (.early 3 (.one 4 (.early 5 (.early 6 (.early 7 (.early 8 (.early 9 (.early 10 (.early 11 (.early 12 (.early 13 (.early 15 (.early 16 (.early 17 (.two 14 (.one 18 (.one 19 (.early 20 (.early 21 (.early 22 .done))))) 18 (.one 14 (.one 19 (.early 20 (.early 21 (.early 22 .done))))))))))))))))))))))) ?_) | (refine lpU_ 0x9 (ι := Nat) (fun k => [(3, .sc (.int .i64 (k : Int)))]) (fun k => k ≤ ns.length ∧ ∀ j : Nat, j < k → needAt ns j = true) (fun k => ns.length - k) 0 ?_ ?_; (focus (exact ⟨by omega, allN_zero⟩)); rintro _ hN0 k hinv; (try dsimp only at hinv); obtain ⟨hk, hj⟩ := hinv; replace hj := Lib.hid hj; skip)) | ((with_reducible show Wk (boolK _ _ _ _)); first | (refine bk_ (fun h h' => ?_) (fun h h' => ?_))) | ((with_reducible show Wk (_ ∧ _)); first | (refine and_ ?_ ?_)) | (refine hN0.go (k + 1) ?_ ?_; (focus (exact ⟨by show k + 1 ≤ ns.length; omega, allN_step hj.out (by unfold needAt nextB; simp_all)⟩)); (focus (show ns.length - (k + 1) < ns.length - k; omega))) | fail) <;> (try refine nm_ ?_))
  all_goals (refine ⟨?_⟩)
  all_goals first | contradiction | rfl | (have e := allN_no (n := ns.length) (p := needAt ns) (k := k) (by omega) (by unfold needAt nextB; simp_all); simp_all [needsB_eq] <;> omega) | (have e := allN_yes (n := ns.length) (p := needAt ns) (by omega) hj.out; simp_all [needsB_eq] <;> omega) | (simp_all [needsB_eq] <;> omega) | (simp [needsB_eq, *] <;> omega) | trace_state

theorem spec_PodOk_D (p : PodD) : Spec Tryz.prog 176 [.agg (podCells p)] (fun d => d = .sc (.bool (podB p))) := by
  unfold podCells
  refine sp_ (rs := [.tmp 2]) (nt := 36) Tryz.func176 rfl fun X hX => ?_
  refine nm_ ?_
  repeat' ((first | contradiction | (with_reducible exact tt_) | ((with_reducible show Wk (AwStepF _ _ _ _ _ _ _)); first | (refine cl_ rfl _ _ (specName_D _) rfl rfl ?_; rintro _ rfl) | (refine cl_ rfl _ _ (spec_LabelsOk_D _) rfl rfl ?_; rintro _ rfl) | (refine cl_ rfl _ _ (l01In_D _ _ _) rfl rfl ?_; rintro _ rfl) | (refine cl_ rfl _ _ (spec_SelectorOk_D _) rfl rfl ?_; rintro _ rfl) | (refine cl_ rfl _ _ (spec_TolerancesOk_D _) rfl rfl ?_; rintro _ rfl)) | ((with_reducible show Wk (AwStep _ _ _ _ _)); first | (refine pln_ ?_)) | ((with_reducible show Wk (boolK _ _ _ _)); first | (refine bk_ (fun h h' => ?_) (fun h h' => ?_))) | ((with_reducible show Wk (_ ∧ _)); first | (refine and_ ?_ ?_)) | fail) <;> (try refine nm_ ?_))
  all_goals (refine ⟨?_⟩)
  all_goals first | contradiction | rfl | (simp_all [podB] <;> omega) | (simp [podB, *] <;> omega) | trace_state

theorem spec_HostOk_D (p : HostD) : Spec Tryz.prog 178 [.agg (hostCells p)] (fun d => d = .sc (.bool (hostB p))) := by
  unfold hostCells
  refine sp_ (rs := [.tmp 2]) (nt := 31) Tryz.func178 rfl fun X hX => ?_
  refine nm_ ?_
  repeat' ((first | contradiction | (with_reducible exact tt_) | ((with_reducible show Wk (AwStepF _ _ _ _ _ _ _)); first | (refine cl_ rfl _ _ (specName_D _) rfl rfl ?_; rintro _ rfl) | (refine cl_ rfl _ _ (spec_LabelsOk_D _) rfl rfl ?_; rintro _ rfl) | (refine cl_ rfl _ _ (l01In_D _ _ _) rfl rfl ?_; rintro _ rfl) | (refine cl_ rfl _ _ (spec_TaintsOk_D _) rfl rfl ?_; rintro _ rfl)) | ((with_reducible show Wk (AwStep _ _ _ _ _)); first | (refine pln_ ?_)) | ((with_reducible show Wk (boolK _ _ _ _)); first | (refine bk_ (fun h h' => ?_) (fun h h' => ?_))) | ((with_reducible show Wk (_ ∧ _)); first | (refine and_ ?_ ?_)) | fail) <;> (try refine nm_ ?_))
  all_goals (refine ⟨?_⟩)
  all_goals first | contradiction | rfl | (simp_all [hostB] <;> omega) | (simp [hostB, *] <;> omega) | trace_state

theorem sumL_no {ns : List Int} {k : Nat} {n : Int} (hk : k < ns.length) (hj : sumN (fun k => ns.getD k default) k = some n) (h : (addB n (ns.getD k default)).isSome = false) : sumL ns = none := by
  refine sumN_none (k := k + 1) ?_ _ hk
  show (sumN _ k).bind _ = _
  rw [hj]
  show addB n (ns.getD k default) = none
  cases e : addB n (ns.getD k default) with
  | none => rfl
  | some v => rw [e] at h; cases h
theorem takeMap_le {f : PodD → Int} {ps : List PodD} {m : Int} (hm : 0 ≤ m) (hr : ∀ j, f (ps.getD j default) ≤ m) (k : Nat) : ∀ j, ((ps.take k).map f).getD j default ≤ m := by
  intro j
  rw [List.getD_eq_getElem?_getD, List.getElem?_map]
  cases h : (ps.take k)[j]? with
  | none => exact hm
  | some p =>
    have h2 := hr j
    rw [List.getElem?_take] at h
    split at h
    · rw [List.getD_eq_getElem?_getD, h] at h2
      exact h2
    · cases h

end Go.Proofs.YtidjjfjhmlndjaaGreatDoor
