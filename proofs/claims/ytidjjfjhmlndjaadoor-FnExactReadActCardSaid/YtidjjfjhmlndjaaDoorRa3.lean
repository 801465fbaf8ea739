/- Acts: whether they are in order, what a line tells of them. -/
import Derived.Test.YtidjjfjhmlndjaaDoorRa2
namespace Go.Proofs.YtidjjfjhmlndjaaDoor
open Go.RowKit
set_option linter.unusedVariables false
set_option linter.unusedSimpArgs false
set_option maxRecDepth 100000
set_option maxHeartbeats 1000000

def actCells (a : ActD) : List D := [.sc (.int .i64 a.kind), .sc (.int .i64 a.format), .sc (.string (ba a.text)), .sc (.string (ba a.name)), .sc (.int .i64 a.w1), .sc (.int .i64 a.w2), .sc (.int .i64 a.w3), .sc (.int .i64 a.schema), .sc (.int .i64 a.steps), .sl a.keeps.length (intsD a.keeps)]
def actOkB (a : ActD) : Bool := inB a.kind 1 10 && (decide ((a.text.length : Int) ≤ 20000) && (inB a.format 0 9 && (inB a.schema 0 9 && (inB a.steps 0 9 && decide ((a.keeps.length : Int) ≤ 4)))))
def sameB (a b : ActD) : Bool := (a.kind == b.kind) && ((a.format == b.format) && (eqB (ba a.text) (ba b.text) && (eqB (ba a.name) (ba b.name) && ((a.w1 == b.w1 && (a.w2 == b.w2 && a.w3 == b.w3)) && ((a.schema == b.schema) && ((a.steps == b.steps) && (a.keeps == b.keeps)))))))
theorem told_1 {a : ActD} (h : a.kind = 1) : toldA a = ⟨1, a.format, a.text, [], 0, 0, 0, 0, 0, []⟩ := if_pos h
theorem told_2 {a : ActD} (h : a.kind = 2 ∨ a.kind = 3 ∨ a.kind = 4) : toldA a = ⟨a.kind, 0, [], a.name, 0, 0, 0, 0, 0, []⟩ := by unfold toldA; rw [if_neg (by omega), if_pos h]
theorem told_6 {a : ActD} (h : a.kind = 6) : toldA a = ⟨6, 0, [], [], a.w1, a.w2, a.w3, 0, 0, []⟩ := by unfold toldA; rw [if_neg (by omega), if_neg (by omega), if_pos h]
theorem told_7 {a : ActD} (h : a.kind = 7) : toldA a = ⟨7, 0, [], [], 0, 0, 0, a.schema, 0, []⟩ := by unfold toldA; rw [if_neg (by omega), if_neg (by omega), if_neg (by omega), if_pos h]
theorem told_9 {a : ActD} (h : a.kind = 9) : toldA a = ⟨9, 0, [], [], 0, 0, 0, a.schema, a.steps, a.keeps⟩ := by unfold toldA; rw [if_neg (by omega), if_neg (by omega), if_neg (by omega), if_neg (by omega), if_pos h]
theorem told_10 {a : ActD} (h : a.kind = 10) : toldA a = ⟨10, 0, [], [], 0, 0, 0, 0, 0, a.keeps⟩ := by unfold toldA; rw [if_neg (by omega), if_neg (by omega), if_neg (by omega), if_neg (by omega), if_neg (by omega), if_pos h]
theorem told_no {a : ActD} (h : ¬ a.kind = 1 ∧ ¬ (a.kind = 2 ∨ a.kind = 3 ∨ a.kind = 4) ∧ ¬ a.kind = 6 ∧ ¬ a.kind = 7 ∧ ¬ a.kind = 9 ∧ ¬ a.kind = 10) : toldA a = ⟨a.kind, 0, [], [], 0, 0, 0, 0, 0, []⟩ := by unfold toldA; rw [if_neg h.1, if_neg h.2.1, if_neg h.2.2.1, if_neg h.2.2.2.1, if_neg h.2.2.2.2.1, if_neg h.2.2.2.2.2]
theorem ba_nil : ba [] = ⟨#[]⟩ := rfl

theorem spec_ActOk_A (a : ActD) (ht : a.text.length ≤ 1048576) (hk : a.keeps.length ≤ 1048576) : Spec Tryd.prog 25 [.agg (actCells a)] (fun d => d = .sc (.bool (actOkB a))) := by
  unfold actCells
  have ex0 := @ba_len
  refine sp_ (rs := [.tmp 2]) (nt := 33) Tryd.func25 rfl fun X hX => ?_
  refine nm_ ?_
  repeat' ((first | contradiction | (with_reducible exact tt_) | ((with_reducible show Wk (AwStepF _ _ _ _ _ _ _)); first | (refine cl_ rfl _ _ (l01In_D _ _ _) rfl rfl ?_; rintro _ rfl)) | ((with_reducible show Wk (AwStep _ _ _ _ _)); first | (refine pln_ ?_)) | ((with_reducible show Wk (boolK _ _ _ _)); first | (refine bk_ (fun h h' => ?_) (fun h h' => ?_))) | ((with_reducible show Wk (_ ∧ _)); first | (refine and_ ?_ ?_)) | fail) <;> (try refine nm_ ?_))
  all_goals clear ex0
  all_goals (refine ⟨?_⟩)
  all_goals first | contradiction | (exfalso; omega) | (unfold actOkB; simp_all; done) | (unfold actOkB inB; simp_all; omega) | trace_state

theorem impl_ActOk_A (a : ActD) (ht : a.text.length ≤ 1048576) (hk : a.keeps.length ≤ 1048576) : Spec Tryd.prog 36 [.agg (actCells a)] (fun d => d = .sc (.bool (actOkB a))) := by
  unfold actCells
  have ex0 := @ba_len
  refine sp_ (rs := [.tmp 2]) (nt := 33) Tryd.func36 rfl fun X hX => ?_
  refine nm_ ?_
  repeat' ((first | contradiction | (with_reducible exact tt_) | ((with_reducible show Wk (AwStepF _ _ _ _ _ _ _)); first | (refine cl_ rfl _ _ (within_D _ _ _) rfl rfl ?_; rintro _ rfl)) | ((with_reducible show Wk (AwStep _ _ _ _ _)); first | (refine pln_ ?_)) | ((with_reducible show Wk (boolK _ _ _ _)); first | (refine bk_ (fun h h' => ?_) (fun h h' => ?_))) | ((with_reducible show Wk (_ ∧ _)); first | (refine and_ ?_ ?_)) | fail) <;> (try refine nm_ ?_))
  all_goals clear ex0
  all_goals (refine ⟨?_⟩)
  all_goals first | contradiction | (exfalso; omega) | (unfold actOkB; simp_all; done) | (unfold actOkB inB; simp_all; omega) | trace_state

theorem spec_l32Told_A (a : ActD) (ht : a.text.length ≤ 1048576) (hk : a.keeps.length ≤ 1048576) : Spec Tryd.prog 27 [.agg (actCells a)] (fun d => d = .agg (actCells (toldA a))) := by
  unfold actCells
  have ex0 := @intsD_takeN; have ex1 := @ba_nil
  refine spG_ (rs := [.cell 2 26]) (nt := 55) Tryd.func27 rfl fun X hX => ?_
  refine nm_ ?_
  repeat' ((first | contradiction | (with_reducible exact tt_) | ((with_reducible show Wk (AwStepF _ _ _ _ _ _ _)); first | (refine app_ rfl ?_)) | ((with_reducible show Wk (AwStep _ _ _ _ _)); first | (refine pln_ ?_)) | ((with_reducible show Wk (boolK _ _ _ _)); first | (refine bk_ (fun h h' => ?_) (fun h h' => ?_))) | ((with_reducible show Wk (_ ∧ _)); first | (refine and_ ?_ ?_)) | ((with_reducible show Wk (retOkG _ _ _ _)); first | (refine rgg_ [.nil 1 9 3 1, .frz 3] ?_; refine nm_ ?_; fail_if_success (show Wk False)) | (refine rgg_ [.frz 4] ?_; refine nm_ ?_; fail_if_success (show Wk False)) | (refine rgg_ [.frz 3] ?_; refine nm_ ?_; fail_if_success (show Wk False))) | fail) <;> (try refine nm_ ?_))
  all_goals clear ex0 ex1
  all_goals (refine ⟨?_⟩)
  all_goals first | contradiction | (exfalso; omega) | (have e9 : a.kind = 1 := (by omega); rw [told_1 e9, e9]; rfl) | (rw [told_2 (by omega)]; rfl) | (have e9 : a.kind = 6 := (by omega); rw [told_6 e9, e9]; rfl) | (have e9 : a.kind = 7 := (by omega); rw [told_7 e9, e9]; rfl) | (have e9 : a.kind = 9 := (by omega); rw [told_9 e9, e9]; rfl) | (have e9 : a.kind = 10 := (by omega); rw [told_10 e9, e9]; rfl) | (rw [told_no (by omega)]; rfl) | trace_state

theorem ieq_go {x y : List Int} {i : Nat} (h : ∀ j, j < i → x.getD j default = y.getD j default) (he : x.getD i default = y.getD i default) : ∀ j, j < i + 1 → x.getD j default = y.getD j default := fun j hj => by
  by_cases e : j = i
  · subst e; exact he
  · exact h j (by omega)
theorem ieq_yes {x y : List Int} {i : Nat} (h : ∀ j, j < i → x.getD j default = y.getD j default) (hl : x.length = y.length) (hi : x.length ≤ i) : (x == y) = true := by
  rw [beq_iff_eq]
  refine List.ext_getElem hl fun j h1 h2 => ?_
  have := h j (by omega)
  rwa [List.getD_eq_getElem?_getD, List.getD_eq_getElem?_getD, List.getElem?_eq_getElem h1, List.getElem?_eq_getElem h2] at this
theorem ieq_len {x y : List Int} (h : ¬ (x.length : Int) = (y.length : Int)) : (x == y) = false := by
  rw [beq_eq_false_iff_ne]
  intro e; subst e; exact h rfl
theorem ieq_no {x y : List Int} {i : Nat} (h : ¬ x.getD i default = y.getD i default) : (x == y) = false := by
  rw [beq_eq_false_iff_ne]
  intro e; subst e; exact h rfl

theorem spec_l32Ints_A (x y : List Int) (hx : x.length ≤ 1048576) (hy : y.length ≤ 1048576) : Spec Tryd.prog 43 [.sl x.length (intsD x), .sl y.length (intsD y)] (fun d => d = .sc (.bool (x == y))) := by
  refine sp_ (rs := [.tmp 4]) (nt := 26) Tryd.func43 rfl fun X hX => ?_
  refine nm_ ?_
  repeat' ((first | contradiction | (with_reducible exact tt_) | ((with_reducible show Wk (AwStep _ _ _ _ _)); first | (refine pln_ ?_)) | ((with_reducible show Wk (AwCode _ _ _ _ _)); first | (refine wo_ (id := 6) [] [(0, true), (1, true), (2, true), (3, true), (4, true), (5, true), (6, true), (7, true), (8, true)] ?_) | (refine lpU_ 0x23 (ι := Nat) (fun i => [(5, .sc (.int .i64 (i : Int)))]) (fun i => i ≤ x.length ∧ ∀ j, j < i → x.getD j default = y.getD j default) (fun i => x.length - i) 0 ?_ ?_; (focus (exact ⟨Nat.zero_le _, fun j h => absurd h (Nat.not_lt_zero _)⟩)); rintro _ hN0 i hinv; (try dsimp only at hinv); obtain ⟨hi, hE⟩ := hinv; replace hE := Lib.hid hE; skip)) | ((with_reducible show Wk (boolK _ _ _ _)); first | (refine bk_ (fun h h' => ?_) (fun h h' => ?_))) | ((with_reducible show Wk (_ ∧ _)); first | (refine and_ ?_ ?_)) | (refine hN0.go (i + 1) ?_ ?_; (focus (exact ⟨by show i + 1 ≤ x.length; omega, ieq_go hE.out (by omega)⟩)); (focus (show x.length - (i + 1) < x.length - i; omega))) | fail) <;> (try refine nm_ ?_))
  all_goals (refine ⟨?_⟩)
  all_goals first | contradiction | (exfalso; omega) | (rw [ieq_len (by omega)]; done) | (rw [ieq_no (i := i) (by assumption)]; done) | (rw [ieq_yes hE.out (by omega) (by omega)]; done) | trace_state

theorem spec_l32Same_A (a b : ActD) (hk : a.keeps.length ≤ 1048576) (hk2 : b.keeps.length ≤ 1048576) : Spec Tryd.prog 26 [.agg (actCells a), .agg (actCells b)] (fun d => d = .sc (.bool (sameB a b))) := by
  unfold actCells
  refine sp_ (rs := [.tmp 4]) (nt := 59) Tryd.func26 rfl fun X hX => ?_
  refine nm_ ?_
  repeat' ((first | contradiction | (with_reducible exact tt_) | ((with_reducible show Wk (AwStepF _ _ _ _ _ _ _)); first | (refine cl_ rfl _ _ (spec_l32Ints_A a.keeps b.keeps hk hk2) rfl rfl ?_; rintro _ rfl) | (refine eqg_ rfl ?_)) | ((with_reducible show Wk (AwStep _ _ _ _ _)); first | (refine pln_ ?_)) | ((with_reducible show Wk (boolK _ _ _ _)); first | (refine bk_ (fun h h' => ?_) (fun h h' => ?_))) | ((with_reducible show Wk (_ ∧ _)); first | (refine and_ ?_ ?_)) | fail) <;> (try refine nm_ ?_))
  all_goals (refine ⟨?_⟩)
  all_goals first | contradiction | (exfalso; omega) | (unfold sameB; simp_all; done) | trace_state

end Go.Proofs.YtidjjfjhmlndjaaDoor
