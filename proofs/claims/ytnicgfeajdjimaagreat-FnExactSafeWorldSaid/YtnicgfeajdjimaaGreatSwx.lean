/- Swx: Sw, Sw1, Sw2, Sw3, one behind the other. -/
import Derived.Test.YtnicgfeajdjimaaGreatDk
import Derived.Test.YtnicgfeajdjimaaGreatCl6
import Derived.Test.YtnicgfeajdjimaaGreatCl11
import Derived.Test.YtnicgfeajdjimaaGreatCl8
import Derived.Test.YtnicgfeajdjimaaGreatCl9
import Derived.Test.YtnicgfeajdjimaaGreatCl10
import Derived.Test.YtnicgfeajdjimaaGreatDk3
namespace Go.Proofs.YtnicgfeajdjimaaGreat
open Go.RowKit

theorem lessB_asym {a b : ByteArray} (h : lessB a b = true) : lessB b a = false := by
  cases h2 : lessB b a with
  | false => rfl
  | true => have := lessB_tr h h2; rw [lessB_irr] at this; cases this
theorem cmpB_neg (a b : ByteArray) : cmpB b a = -cmpB a b := by
  rw [cmpB_if, cmpB_if a b]
  cases h1 : lessB a b with
  | true => rw [lessB_asym h1]; rfl
  | false => cases h2 : lessB b a <;> rfl
theorem cmpI_neg (a b : Int) : cmpI b a = -cmpI a b := by
  unfold cmpI
  split <;> split <;> (try split) <;> omega
theorem cmpVals_neg : ∀ a b : List ByteArray, cmpVals b a = -cmpVals a b
  | [], [] => rfl
  | [], _ :: _ => rfl
  | _ :: _, [] => rfl
  | x :: r, y :: q => by
    unfold cmpVals
    rw [cmpB_neg x y, cmpVals_neg r q]
    by_cases h : cmpB x y = 0
    · simp [h]
    · have h2 : ¬ -cmpB x y = 0 := by omega
      simp [h, h2]
theorem cmpNeed_neg (a b : NeedD) : cmpNeed b a = -cmpNeed a b := by
  unfold cmpNeed
  rw [or3_eq, or3_eq, cmpB_neg a.key b.key, cmpI_neg a.op b.op, cmpVals_neg a.values b.values]
  by_cases h : cmpB a.key b.key = 0
  · by_cases h2 : cmpI a.op b.op = 0
    · simp [h, h2]
    · have h3 : ¬ -cmpI a.op b.op = 0 := by omega
      simp [h, h2, h3]
  · have h2 : ¬ -cmpB a.key b.key = 0 := by omega
    simp [h, h2]
/-- Needs are the same where neither comes ahead of the other. -/
def needSame (a b : NeedD) : Bool := !needLess a b && !needLess b a
theorem cmpNeed_0 (a b : NeedD) : (cmpNeed a b == 0) = needSame a b := by
  unfold needSame
  rw [← cmpNeed_lt a b, ← cmpNeed_lt b a, cmpNeed_neg a b]
  generalize cmpNeed a b = c
  rw [Bool.eq_iff_iff]
  simp only [beq_iff_eq, Bool.and_eq_true, Bool.not_eq_true', decide_eq_false_iff_not]
  omega
/-- Two rows of a length, same place by place. -/
def sameRow {α : Type} [Inhabited α] (p : α → α → Bool) (a b : List α) : Bool := decide (a.length = b.length) && allB a.length fun k => p (a.getD k default) (b.getD k default)
theorem same_no {α : Type} [Inhabited α] {p : α → α → Bool} {a b : List α} (h : ¬ a.length = b.length) : sameRow p a b = false := by unfold sameRow; rw [decide_eq_false h]; rfl
theorem same_at {α : Type} [Inhabited α] {p : α → α → Bool} {a b : List α} {k : Nat} (hk : k < a.length) (h : p (a.getD k default) (b.getD k default) = false) : sameRow p a b = false := by unfold sameRow; rw [allN_no hk h, Bool.and_false]
theorem same_yes {α : Type} [Inhabited α] {p : α → α → Bool} {a b : List α} {k : Nat} (hl : a.length = b.length) (hk : a.length ≤ k) (h : ∀ j : Nat, j < k → p (a.getD j default) (b.getD j default) = true) : sameRow p a b = true := by unfold sameRow; rw [allN_yes hk h, decide_eq_true hl]; rfl
def labelSame (a b : LabelD) : Bool := eqB a.key b.key && eqB a.value b.value
def taintSame (a b : TaintD) : Bool := eqB a.key b.key && (eqB a.value b.value && (a.effect == b.effect))
def tolerSame (a b : TolerD) : Bool := eqB a.key b.key && ((a.equal == b.equal) && (eqB a.value b.value && (a.effect == b.effect)))
def podSame (a b : PodD) : Bool := eqB a.name b.name && (sameRow labelSame a.labels b.labels && ((a.cpu == b.cpu) && ((a.mem == b.mem) && ((a.rank == b.rank) && (sameRow needSame a.needs b.needs && sameRow tolerSame a.tolers b.tolers)))))
def hostSame (a b : HostD) : Bool := eqB a.name b.name && (sameRow labelSame a.labels b.labels && ((a.cpu == b.cpu) && ((a.mem == b.mem) && ((a.slots == b.slots) && sameRow taintSame a.taints b.taints))))
def placedSame (a b : PlacedD) : Bool := eqB a.on b.on && ((a.seq == b.seq) && podSame a.pod b.pod)
def clSame (a b : ClusterD) : Bool := sameRow hostSame a.hosts b.hosts && (sameRow placedSame a.pods b.pods && ((a.next == b.next) && ((a.w1 == b.w1) && ((a.w2 == b.w2) && (a.w3 == b.w3)))))
end Go.Proofs.YtnicgfeajdjimaaGreat
namespace Go.Proofs.YtnicgfeajdjimaaGreat
open Go.RowKit
set_option maxRecDepth 100000
set_option maxHeartbeats 4000000

theorem not_t {b : Bool} (h : (!b) = true) : b = false := by cases b; rfl; cases h
theorem not_f {b : Bool} (h : (!b) = false) : b = true := by cases b; cases h; rfl

theorem spec_SameLabels_D (a b : List LabelD) (ha : a.length ≤ 1048576) : Spec Tryz.prog 191 [.sl a.length (labelsD a), .sl b.length (labelsD b)] (fun d => d = .sc (.bool (sameRow labelSame a b))) := by
  refine sp_ (rs := [.tmp 4]) (nt := 26) Tryz.func191 rfl fun X hX => ?_
  refine nm_ ?_
  repeat' ((first | contradiction | (with_reducible exact tt_) | (refine bk_ (fun h h' => ?_) (fun h h' => ?_)) | (refine and_ ?_ ?_) | (refine pln_ ?_) | (refine eqg_ rfl ?_) | (refine wo_ (id := 6) [] [(0, true), (1, true), (2, true), (3, true), (4, true), (5, true), (6, true), (7, true), (8, false)] ?_) | (refine lpU_ 0x23 (ι := Nat) (fun k => [(5, .sc (.int .i64 (k : Int)))]) (fun k => k ≤ a.length ∧ ∀ j : Nat, j < k → (fun j => labelSame (a.getD j default) (b.getD j default)) j = true) (fun k => a.length - k) 0 ?_ ?_; (focus (exact ⟨by omega, allN_zero⟩)); rintro _ hN0 k hinv; (try dsimp only at hinv); obtain ⟨hk, hj⟩ := hinv; replace hj := Lib.hid hj; skip) | (refine hN0.go (k + 1) ?_ ?_; (focus (exact ⟨by show k + 1 ≤ a.length; omega, allN_step hj.out (by unfold labelSame; first | assumption | exact not_t (by assumption) | exact not_f (by assumption) | (simp_all; done) | (simp_all [needSame]; done) | trace_state)⟩)); (focus (show a.length - (k + 1) < a.length - k; omega))) | fail) <;> (try refine nm_ ?_))
  all_goals (refine ⟨?_⟩)
  all_goals first | contradiction | (exfalso; omega) | (rw [same_no (by omega)]; done) | (rw [same_at (k := k) (by omega) (by unfold labelSame; first | assumption | exact not_t (by assumption) | exact not_f (by assumption) | (simp_all; done) | (simp_all [needSame]; done) | trace_state)]; done) | (rw [same_yes (k := k) (by omega) (by omega) hj.out]; done) | trace_state

theorem equalLabels_D (a b : List LabelD) (ha : a.length ≤ 1048576) : Spec Tryz.prog 363 [.sl a.length (labelsD a), .sl b.length (labelsD b)] (fun d => d = .sc (.bool (sameRow labelSame a b))) := by
  refine sp_ (rs := [.tmp 4]) (nt := 26) Tryz.func363 rfl fun X hX => ?_
  refine nm_ ?_
  repeat' ((first | contradiction | (with_reducible exact tt_) | (refine bk_ (fun h h' => ?_) (fun h h' => ?_)) | (refine and_ ?_ ?_) | (refine pln_ ?_) | (refine eqg_ rfl ?_) | (refine wo_ (id := 6) [] [(0, true), (1, true), (2, true), (3, true), (4, true), (5, true), (6, true), (7, true), (8, false)] ?_) | (refine lpU_ 0x3003 (ι := Nat) (fun k => [(13, .sc (.int .i64 (k : Int)))]) (fun k => k ≤ a.length ∧ ∀ j : Nat, j < k → (fun j => labelSame (a.getD j default) (b.getD j default)) j = true) (fun k => a.length - k) 0 ?_ ?_; (focus (exact ⟨by omega, allN_zero⟩)); rintro _ hN0 k hinv; (try dsimp only at hinv); obtain ⟨hk, hj⟩ := hinv; replace hj := Lib.hid hj; skip) | (refine hN0.go (k + 1) ?_ ?_; (focus (exact ⟨by show k + 1 ≤ a.length; omega, allN_step hj.out (by unfold labelSame; first | assumption | exact not_t (by assumption) | exact not_f (by assumption) | (simp_all; done) | (simp_all [needSame]; done) | trace_state)⟩)); (focus (show a.length - (k + 1) < a.length - k; omega))) | fail) <;> (try refine nm_ ?_))
  all_goals (refine ⟨?_⟩)
  all_goals first | contradiction | (exfalso; omega) | (rw [same_no (by omega)]; done) | (rw [same_at (k := k) (by omega) (by unfold labelSame; first | assumption | exact not_t (by assumption) | exact not_f (by assumption) | (simp_all; done) | (simp_all [needSame]; done) | trace_state)]; done) | (rw [same_yes (k := k) (by omega) (by omega) hj.out]; done) | trace_state

theorem equalTaints_D (a b : List TaintD) (ha : a.length ≤ 1048576) : Spec Tryz.prog 294 [.sl a.length (taintsD a), .sl b.length (taintsD b)] (fun d => d = .sc (.bool (sameRow taintSame a b))) := by
  refine sp_ (rs := [.tmp 4]) (nt := 26) Tryz.func294 rfl fun X hX => ?_
  refine nm_ ?_
  repeat' ((first | contradiction | (with_reducible exact tt_) | (refine bk_ (fun h h' => ?_) (fun h h' => ?_)) | (refine and_ ?_ ?_) | (refine pln_ ?_) | (refine eqg_ rfl ?_) | (refine wo_ (id := 6) [] [(0, true), (1, true), (2, true), (3, true), (4, true), (5, true), (6, true), (7, true), (8, false)] ?_) | (refine lpU_ 0x3003 (ι := Nat) (fun k => [(13, .sc (.int .i64 (k : Int)))]) (fun k => k ≤ a.length ∧ ∀ j : Nat, j < k → (fun j => taintSame (a.getD j default) (b.getD j default)) j = true) (fun k => a.length - k) 0 ?_ ?_; (focus (exact ⟨by omega, allN_zero⟩)); rintro _ hN0 k hinv; (try dsimp only at hinv); obtain ⟨hk, hj⟩ := hinv; replace hj := Lib.hid hj; skip) | (refine hN0.go (k + 1) ?_ ?_; (focus (exact ⟨by show k + 1 ≤ a.length; omega, allN_step hj.out (by unfold taintSame; first | assumption | exact not_t (by assumption) | exact not_f (by assumption) | (simp_all; done) | (simp_all [needSame]; done) | trace_state)⟩)); (focus (show a.length - (k + 1) < a.length - k; omega))) | fail) <;> (try refine nm_ ?_))
  all_goals (refine ⟨?_⟩)
  all_goals first | contradiction | (exfalso; omega) | (rw [same_no (by omega)]; done) | (rw [same_at (k := k) (by omega) (by unfold taintSame; first | assumption | exact not_t (by assumption) | exact not_f (by assumption) | (simp_all; done) | (simp_all [needSame]; done) | trace_state)]; done) | (rw [same_yes (k := k) (by omega) (by omega) hj.out]; done) | trace_state

theorem equalTolers_D (a b : List TolerD) (ha : a.length ≤ 1048576) : Spec Tryz.prog 293 [.sl a.length (tolersD a), .sl b.length (tolersD b)] (fun d => d = .sc (.bool (sameRow tolerSame a b))) := by
  refine sp_ (rs := [.tmp 4]) (nt := 26) Tryz.func293 rfl fun X hX => ?_
  refine nm_ ?_
  repeat' ((first | contradiction | (with_reducible exact tt_) | (refine bk_ (fun h h' => ?_) (fun h h' => ?_)) | (refine and_ ?_ ?_) | (refine pln_ ?_) | (refine eqg_ rfl ?_) | (refine wo_ (id := 6) [] [(0, true), (1, true), (2, true), (3, true), (4, true), (5, true), (6, true), (7, true), (8, false)] ?_) | (refine lpU_ 0x3003 (ι := Nat) (fun k => [(13, .sc (.int .i64 (k : Int)))]) (fun k => k ≤ a.length ∧ ∀ j : Nat, j < k → (fun j => tolerSame (a.getD j default) (b.getD j default)) j = true) (fun k => a.length - k) 0 ?_ ?_; (focus (exact ⟨by omega, allN_zero⟩)); rintro _ hN0 k hinv; (try dsimp only at hinv); obtain ⟨hk, hj⟩ := hinv; replace hj := Lib.hid hj; skip) | (refine hN0.go (k + 1) ?_ ?_; (focus (exact ⟨by show k + 1 ≤ a.length; omega, allN_step hj.out (by unfold tolerSame; first | assumption | exact not_t (by assumption) | exact not_f (by assumption) | (simp_all; done) | (simp_all [needSame]; done) | trace_state)⟩)); (focus (show a.length - (k + 1) < a.length - k; omega))) | fail) <;> (try refine nm_ ?_))
  all_goals (refine ⟨?_⟩)
  all_goals first | contradiction | (exfalso; omega) | (rw [same_no (by omega)]; done) | (rw [same_at (k := k) (by omega) (by unfold tolerSame; first | assumption | exact not_t (by assumption) | exact not_f (by assumption) | (simp_all; done) | (simp_all [needSame]; done) | trace_state)]; done) | (rw [same_yes (k := k) (by omega) (by omega) hj.out]; done) | trace_state

theorem impl_SameLabels_D (a b : List LabelD) (ha : a.length ≤ 1048576) : Spec Tryz.prog 291 [.sl a.length (labelsD a), .sl b.length (labelsD b)] (fun d => d = .sc (.bool (sameRow labelSame a b))) := by
  refine sp_ (rs := [.tmp 4]) (nt := 8) Tryz.func291 rfl fun X hX => ?_
  refine nm_ ?_
  repeat' ((first | contradiction | (with_reducible exact tt_) | (refine bk_ (fun h h' => ?_) (fun h h' => ?_)) | (refine and_ ?_ ?_) | (refine pln_ ?_) | (refine cl_ rfl _ _ (equalLabels_D a b ha) rfl rfl ?_; rintro _ rfl) | fail) <;> (try refine nm_ ?_))
  all_goals (refine ⟨?_⟩)
  all_goals first | rfl | trace_state

theorem spec_SameNeeds_D (a b : List NeedD) (ha : a.length ≤ 1048576) (hv : ∀ k, (a.getD k default).values.length ≤ 1048576) : Spec Tryz.prog 192 [.sl a.length (needsD a), .sl b.length (needsD b)] (fun d => d = .sc (.bool (sameRow needSame a b))) := by
  refine sp_ (rs := [.tmp 4]) (nt := 37) Tryz.func192 rfl fun X hX => ?_
  refine nm_ ?_
  repeat' ((first | contradiction | (with_reducible exact tt_) | (refine bk_ (fun h h' => ?_) (fun h h' => ?_)) | (refine and_ ?_ ?_) | (refine pln_ ?_) | (refine cl_ rfl _ _ (spec_NeedLess_D (a.getD k default) (b.getD k default) (.inl (hv k))) rfl rfl ?_; rintro _ rfl) | (refine cl_ rfl _ _ (spec_NeedLess_D (b.getD k default) (a.getD k default) (.inr (hv k))) rfl rfl ?_; rintro _ rfl) | (refine wtr_ (id := 6) [] (.early 0 (.early 1 (.early 2 (.early 3 (.early 4 (.early 5 (.early 6 (.early 7 (.one 8 (.early 9 (.early 10 (.early 11 (.early 12 (.early 14 (.early 15 (.early 16 (.two 13 (.one 17 (.one 18 (.early 19 .done))) 17 (.one 13 (.one 18 (.early 19 .done)))))))))))))))))))) ?_) | (refine lpU_ 0x23 (ι := Nat) (fun k => [(5, .sc (.int .i64 (k : Int)))]) (fun k => k ≤ a.length ∧ ∀ j : Nat, j < k → (fun j => needSame (a.getD j default) (b.getD j default)) j = true) (fun k => a.length - k) 0 ?_ ?_; (focus (exact ⟨by omega, allN_zero⟩)); rintro _ hN0 k hinv; (try dsimp only at hinv); obtain ⟨hk, hj⟩ := hinv; replace hj := Lib.hid hj; skip) | (refine hN0.go (k + 1) ?_ ?_; (focus (exact ⟨by show k + 1 ≤ a.length; omega, allN_step hj.out (by first | assumption | exact not_t (by assumption) | exact not_f (by assumption) | (simp_all; done) | (simp_all [needSame]; done) | trace_state)⟩)); (focus (show a.length - (k + 1) < a.length - k; omega))) | fail) <;> (try refine nm_ ?_))
  all_goals (refine ⟨?_⟩)
  all_goals first | contradiction | (exfalso; omega) | (rw [same_no (by omega)]; done) | (rw [same_at (k := k) (by omega) (by first | assumption | exact not_t (by assumption) | exact not_f (by assumption) | (simp_all; done) | (simp_all [needSame]; done) | trace_state)]; done) | (rw [same_yes (k := k) (by omega) (by omega) hj.out]; done) | trace_state

theorem impl_SameNeeds_1_D (x y : NeedD) (hx : x.values.length ≤ 1048576) : Spec Tryz.prog 365 [.agg (needCells x), .agg (needCells y)] (fun d => d = .sc (.bool (needSame x y))) := by
  unfold needCells
  have ex0 := @cmpNeed_0
  refine sp_ (rs := [.tmp 4]) (nt := 9) Tryz.func365 rfl fun X hX => ?_
  refine nm_ ?_
  repeat' ((first | contradiction | (with_reducible exact tt_) | (refine bk_ (fun h h' => ?_) (fun h h' => ?_)) | (refine and_ ?_ ?_) | (refine pln_ ?_) | (refine cl_ rfl _ _ (impl_compareNeeds_D x y hx) rfl rfl ?_; rintro _ rfl; (skip)) | fail) <;> (try refine nm_ ?_))
  all_goals clear ex0
  all_goals (refine ⟨?_⟩)
  all_goals first | rfl | (rw [← cmpNeed_0]; done) | trace_state

theorem equalNeeds_D (a b : List NeedD) (ha : a.length ≤ 1048576) (hv : ∀ k, (a.getD k default).values.length ≤ 1048576) : Spec Tryz.prog 364 [.sl a.length (needsD a), .sl b.length (needsD b), .fn 365 []] (fun d => d = .sc (.bool (sameRow needSame a b))) := by
  refine sp_ (rs := [.tmp 6]) (nt := 32) Tryz.func364 rfl fun X hX => ?_
  refine nm_ ?_
  repeat' ((first | contradiction | (with_reducible exact tt_) | (refine bk_ (fun h h' => ?_) (fun h h' => ?_)) | (refine and_ ?_ ?_) | (refine pln_ ?_) | (refine clC_ rfl rfl _ _ (impl_SameNeeds_1_D (a.getD k default) (b.getD k default) (hv k)) rfl rfl rfl ?_; rintro _ rfl) | (refine lpU_ 0x38006 (ι := Nat) (fun k => [(17, .sc (.int .i64 (k : Int)))]) (fun k => k ≤ a.length ∧ ∀ j : Nat, j < k → (fun j => needSame (a.getD j default) (b.getD j default)) j = true) (fun k => a.length - k) 0 ?_ ?_; (focus (exact ⟨by omega, allN_zero⟩)); rintro _ hN0 k hinv; (try dsimp only at hinv); obtain ⟨hk, hj⟩ := hinv; replace hj := Lib.hid hj; skip) | (refine hN0.go (k + 1) ?_ ?_; (focus (exact ⟨by show k + 1 ≤ a.length; omega, allN_step hj.out (by first | assumption | exact not_t (by assumption) | exact not_f (by assumption) | (simp_all; done) | (simp_all [needSame]; done) | trace_state)⟩)); (focus (show a.length - (k + 1) < a.length - k; omega))) | fail) <;> (try refine nm_ ?_))
  all_goals (refine ⟨?_⟩)
  all_goals first | contradiction | (exfalso; omega) | (rw [same_no (by omega)]; done) | (rw [same_at (k := k) (by omega) (by first | assumption | exact not_t (by assumption) | exact not_f (by assumption) | (simp_all; done) | (simp_all [needSame]; done) | trace_state)]; done) | (rw [same_yes (k := k) (by omega) (by omega) hj.out]; done) | trace_state

theorem impl_SameNeeds_D (a b : List NeedD) (ha : a.length ≤ 1048576) (hv : ∀ k, (a.getD k default).values.length ≤ 1048576) : Spec Tryz.prog 292 [.sl a.length (needsD a), .sl b.length (needsD b)] (fun d => d = .sc (.bool (sameRow needSame a b))) := by
  refine sp_ (rs := [.tmp 4]) (nt := 8) Tryz.func292 rfl fun X hX => ?_
  refine nm_ ?_
  repeat' ((first | contradiction | (with_reducible exact tt_) | (refine bk_ (fun h h' => ?_) (fun h h' => ?_)) | (refine and_ ?_ ?_) | (refine pln_ ?_) | (refine cl_ rfl _ _ (equalNeeds_D a b ha hv) rfl rfl ?_; rintro _ rfl) | fail) <;> (try refine nm_ ?_))
  all_goals (refine ⟨?_⟩)
  all_goals first | rfl | trace_state

theorem spec_SameHost_D (a b : HostD) (ha : a.fine) : Spec Tryz.prog 105 [.agg (hostCells a), .agg (hostCells b)] (fun d => d = .sc (.bool (hostSame a b))) := by
  unfold hostCells; have hl := ha.tlen
  refine sp_ (rs := [.tmp 4]) (nt := 67) Tryz.func105 rfl fun X hX => ?_
  refine nm_ ?_
  repeat' ((first | contradiction | (with_reducible exact tt_) | (refine bk_ (fun h h' => ?_) (fun h h' => ?_)) | (refine and_ ?_ ?_) | (refine pln_ ?_) | (refine cl_ rfl _ _ (spec_SameLabels_D a.labels b.labels ha.labels.len) rfl rfl ?_; rintro _ rfl) | (refine eqg_ rfl ?_) | (refine wo_ (id := 6) [] [(0, true), (1, true), (2, true), (3, true), (4, true), (5, true), (6, true), (7, true), (8, true), (9, true), (10, false)] ?_) | (refine lpU_ 0x2c (ι := Nat) (fun k => [(5, .sc (.int .i64 (k : Int)))]) (fun k => k ≤ a.taints.length ∧ ∀ j : Nat, j < k → (fun j => taintSame (a.taints.getD j default) (b.taints.getD j default)) j = true) (fun k => a.taints.length - k) 0 ?_ ?_; (focus (exact ⟨by omega, allN_zero⟩)); rintro _ hN0 k hinv; (try dsimp only at hinv); obtain ⟨hk, hj⟩ := hinv; replace hj := Lib.hid hj; skip) | (refine hN0.go (k + 1) ?_ ?_; (focus (exact ⟨by show k + 1 ≤ a.taints.length; omega, allN_step hj.out (by unfold taintSame; first | assumption | exact not_t (by assumption) | exact not_f (by assumption) | (simp_all; done))⟩)); (focus (show a.taints.length - (k + 1) < a.taints.length - k; omega))) | fail) <;> (try refine nm_ ?_))
  all_goals (refine ⟨?_⟩)
  all_goals first | contradiction | (exfalso; omega) | (have e := same_no (p := taintSame) (a := a.taints) (b := b.taints) (by omega); simp_all [hostSame]; done) | (have e := same_at (p := taintSame) (a := a.taints) (b := b.taints) (k := k) (by omega) (by unfold taintSame; first | assumption | exact not_t (by assumption) | exact not_f (by assumption) | (simp_all; done)); simp_all [hostSame]; done) | (have e := same_yes (p := taintSame) (a := a.taints) (b := b.taints) (k := k) (by omega) (by omega) hj.out; simp_all [hostSame]; done) | (simp_all [hostSame]; done) | trace_state

theorem spec_SamePod_D (a b : PodD) (ha : a.fine) : Spec Tryz.prog 106 [.agg (podCells a), .agg (podCells b)] (fun d => d = .sc (.bool (podSame a b))) := by
  unfold podCells; have hl := ha.tlen
  refine sp_ (rs := [.tmp 4]) (nt := 75) Tryz.func106 rfl fun X hX => ?_
  refine nm_ ?_
  repeat' ((first | contradiction | (with_reducible exact tt_) | (refine bk_ (fun h h' => ?_) (fun h h' => ?_)) | (refine and_ ?_ ?_) | (refine pln_ ?_) | (refine cl_ rfl _ _ (spec_SameLabels_D a.labels b.labels ha.labels.len) rfl rfl ?_; rintro _ rfl) | (refine cl_ rfl _ _ (spec_SameNeeds_D a.needs b.needs ha.nlen (fun k => (ha.need k).len)) rfl rfl ?_; rintro _ rfl) | (refine eqg_ rfl ?_) | (refine wo_ (id := 6) [] [(0, true), (1, true), (2, true), (3, true), (4, true), (5, true), (6, true), (7, true), (8, true), (9, true), (10, false)] ?_) | (refine lpU_ 0x2c (ι := Nat) (fun k => [(5, .sc (.int .i64 (k : Int)))]) (fun k => k ≤ a.tolers.length ∧ ∀ j : Nat, j < k → (fun j => tolerSame (a.tolers.getD j default) (b.tolers.getD j default)) j = true) (fun k => a.tolers.length - k) 0 ?_ ?_; (focus (exact ⟨by omega, allN_zero⟩)); rintro _ hN0 k hinv; (try dsimp only at hinv); obtain ⟨hk, hj⟩ := hinv; replace hj := Lib.hid hj; skip) | (refine hN0.go (k + 1) ?_ ?_; (focus (exact ⟨by show k + 1 ≤ a.tolers.length; omega, allN_step hj.out (by unfold tolerSame; first | assumption | exact not_t (by assumption) | exact not_f (by assumption) | (simp_all; done))⟩)); (focus (show a.tolers.length - (k + 1) < a.tolers.length - k; omega))) | fail) <;> (try refine nm_ ?_))
  all_goals (refine ⟨?_⟩)
  all_goals first | contradiction | (exfalso; omega) | (have e := same_no (p := tolerSame) (a := a.tolers) (b := b.tolers) (by omega); simp_all [podSame]; done) | (have e := same_at (p := tolerSame) (a := a.tolers) (b := b.tolers) (k := k) (by omega) (by unfold tolerSame; first | assumption | exact not_t (by assumption) | exact not_f (by assumption) | (simp_all; done)); simp_all [podSame]; done) | (have e := same_yes (p := tolerSame) (a := a.tolers) (b := b.tolers) (k := k) (by omega) (by omega) hj.out; simp_all [podSame]; done) | (simp_all [podSame]; done) | trace_state

theorem impl_SameHost_D (a b : HostD) (ha : a.fine) : Spec Tryz.prog 209 [.agg (hostCells a), .agg (hostCells b)] (fun d => d = .sc (.bool (hostSame a b))) := by
  unfold hostCells
  refine sp_ (rs := [.tmp 4]) (nt := 45) Tryz.func209 rfl fun X hX => ?_
  refine nm_ ?_
  repeat' ((first | contradiction | (with_reducible exact tt_) | (refine bk_ (fun h h' => ?_) (fun h h' => ?_)) | (refine and_ ?_ ?_) | (refine pln_ ?_) | (refine cl_ rfl _ _ (impl_SameLabels_D a.labels b.labels ha.labels.len) rfl rfl ?_; rintro _ rfl) | (refine cl_ rfl _ _ (equalTaints_D a.taints b.taints ha.tlen) rfl rfl ?_; rintro _ rfl) | fail) <;> (try refine nm_ ?_))
  all_goals (refine ⟨?_⟩)
  all_goals first | contradiction | rfl | (simp_all [hostSame]; done) | (simp_all [hostSame]; omega) | trace_state

theorem impl_SamePod_D (a b : PodD) (ha : a.fine) : Spec Tryz.prog 207 [.agg (podCells a), .agg (podCells b)] (fun d => d = .sc (.bool (podSame a b))) := by
  unfold podCells
  refine sp_ (rs := [.tmp 4]) (nt := 52) Tryz.func207 rfl fun X hX => ?_
  refine nm_ ?_
  repeat' ((first | contradiction | (with_reducible exact tt_) | (refine bk_ (fun h h' => ?_) (fun h h' => ?_)) | (refine and_ ?_ ?_) | (refine pln_ ?_) | (refine cl_ rfl _ _ (impl_SameLabels_D a.labels b.labels ha.labels.len) rfl rfl ?_; rintro _ rfl) | (refine cl_ rfl _ _ (impl_SameNeeds_D a.needs b.needs ha.nlen (fun k => (ha.need k).len)) rfl rfl ?_; rintro _ rfl) | (refine cl_ rfl _ _ (equalTolers_D a.tolers b.tolers ha.tlen) rfl rfl ?_; rintro _ rfl) | fail) <;> (try refine nm_ ?_))
  all_goals (refine ⟨?_⟩)
  all_goals first | contradiction | rfl | (simp_all [podSame]; done) | (simp_all [podSame]; omega) | trace_state

end Go.Proofs.YtnicgfeajdjimaaGreat
namespace Go.Proofs.YtnicgfeajdjimaaGreat
open Go.RowKit
set_option maxRecDepth 100000
set_option maxHeartbeats 4000000

theorem impl_SameCluster_1_D (x y : PlacedD) (hx : x.pod.fine) : Spec Tryz.prog 206 [.agg (placedCells x), .agg (placedCells y)] (fun d => d = .sc (.bool (placedSame x y))) := by
  unfold placedCells
  refine sp_ (rs := [.tmp 4]) (nt := 24) Tryz.func206 rfl fun X hX => ?_
  refine nm_ ?_
  repeat' ((first | contradiction | (with_reducible exact tt_) | (refine bk_ (fun h h' => ?_) (fun h h' => ?_)) | (refine and_ ?_ ?_) | (refine pln_ ?_) | (refine cl_ rfl _ _ (impl_SamePod_D x.pod y.pod hx) rfl rfl ?_; rintro _ rfl) | fail) <;> (try refine nm_ ?_))
  all_goals (refine ⟨?_⟩)
  all_goals first | contradiction | rfl | (simp_all [placedSame]; done) | trace_state

theorem equalHosts_D (a b : List HostD) (ha : a.length ≤ 1048576) (hv : ∀ k, (a.getD k default).fine) : Spec Tryz.prog 208 [.sl a.length (hostsD a), .sl b.length (hostsD b), .fn 209 []] (fun d => d = .sc (.bool (sameRow hostSame a b))) := by
  refine sp_ (rs := [.tmp 6]) (nt := 32) Tryz.func208 rfl fun X hX => ?_
  refine nm_ ?_
  repeat' ((first | contradiction | (with_reducible exact tt_) | (refine bk_ (fun h h' => ?_) (fun h h' => ?_)) | (refine and_ ?_ ?_) | (refine pln_ ?_) | (refine clC_ rfl rfl _ _ (impl_SameHost_D (a.getD k default) (b.getD k default) (hv k)) rfl rfl rfl ?_; rintro _ rfl) | (refine lpU_ 0x38006 (ι := Nat) (fun k => [(17, .sc (.int .i64 (k : Int)))]) (fun k => k ≤ a.length ∧ ∀ j : Nat, j < k → (fun j => hostSame (a.getD j default) (b.getD j default)) j = true) (fun k => a.length - k) 0 ?_ ?_; (focus (exact ⟨by omega, allN_zero⟩)); rintro _ hN0 k hinv; (try dsimp only at hinv); obtain ⟨hk, hj⟩ := hinv; replace hj := Lib.hid hj; skip) | (refine hN0.go (k + 1) ?_ ?_; (focus (exact ⟨by show k + 1 ≤ a.length; omega, allN_step hj.out (by first | assumption | exact not_t (by assumption) | exact not_f (by assumption) | (simp_all; done) | (simp_all [needSame]; done) | trace_state)⟩)); (focus (show a.length - (k + 1) < a.length - k; omega))) | fail) <;> (try refine nm_ ?_))
  all_goals (refine ⟨?_⟩)
  all_goals first | contradiction | (exfalso; omega) | (rw [same_no (by omega)]; done) | (rw [same_at (k := k) (by omega) (by first | assumption | exact not_t (by assumption) | exact not_f (by assumption) | (simp_all; done) | (simp_all [needSame]; done) | trace_state)]; done) | (rw [same_yes (k := k) (by omega) (by omega) hj.out]; done) | trace_state

theorem equalPlaceds_D (a b : List PlacedD) (ha : a.length ≤ 1048576) (hv : ∀ k, (a.getD k default).pod.fine) : Spec Tryz.prog 210 [.sl a.length (placedsD a), .sl b.length (placedsD b), .fn 206 []] (fun d => d = .sc (.bool (sameRow placedSame a b))) := by
  refine sp_ (rs := [.tmp 6]) (nt := 32) Tryz.func210 rfl fun X hX => ?_
  refine nm_ ?_
  repeat' ((first | contradiction | (with_reducible exact tt_) | (refine bk_ (fun h h' => ?_) (fun h h' => ?_)) | (refine and_ ?_ ?_) | (refine pln_ ?_) | (refine clC_ rfl rfl _ _ (impl_SameCluster_1_D (a.getD k default) (b.getD k default) (hv k)) rfl rfl rfl ?_; rintro _ rfl) | (refine lpU_ 0x38006 (ι := Nat) (fun k => [(17, .sc (.int .i64 (k : Int)))]) (fun k => k ≤ a.length ∧ ∀ j : Nat, j < k → (fun j => placedSame (a.getD j default) (b.getD j default)) j = true) (fun k => a.length - k) 0 ?_ ?_; (focus (exact ⟨by omega, allN_zero⟩)); rintro _ hN0 k hinv; (try dsimp only at hinv); obtain ⟨hk, hj⟩ := hinv; replace hj := Lib.hid hj; skip) | (refine hN0.go (k + 1) ?_ ?_; (focus (exact ⟨by show k + 1 ≤ a.length; omega, allN_step hj.out (by first | assumption | exact not_t (by assumption) | exact not_f (by assumption) | (simp_all; done) | (simp_all [needSame]; done) | trace_state)⟩)); (focus (show a.length - (k + 1) < a.length - k; omega))) | fail) <;> (try refine nm_ ?_))
  all_goals (refine ⟨?_⟩)
  all_goals first | contradiction | (exfalso; omega) | (rw [same_no (by omega)]; done) | (rw [same_at (k := k) (by omega) (by first | assumption | exact not_t (by assumption) | exact not_f (by assumption) | (simp_all; done) | (simp_all [needSame]; done) | trace_state)]; done) | (rw [same_yes (k := k) (by omega) (by omega) hj.out]; done) | trace_state

theorem impl_SameCluster_D (a b : ClusterD) (ha : a.fine) : Spec Tryz.prog 117 [a.d, b.d] (fun d => d = .sc (.bool (clSame a b))) := by
  unfold ClusterD.d
  refine sp_ (rs := [.tmp 4]) (nt := 33) Tryz.func117 rfl fun X hX => ?_
  refine nm_ ?_
  repeat' ((first | contradiction | (with_reducible exact tt_) | (refine bk_ (fun h h' => ?_) (fun h h' => ?_)) | (refine and_ ?_ ?_) | (refine pln_ ?_) | (refine cl_ rfl _ _ (equalHosts_D a.hosts b.hosts ha.hlen ha.host) rfl rfl ?_; rintro _ rfl) | (refine cl_ rfl _ _ (equalPlaceds_D a.pods b.pods ha.plen ha.pod) rfl rfl ?_; rintro _ rfl) | (refine eqg_ rfl ?_) | fail) <;> (try refine nm_ ?_))
  all_goals (refine ⟨?_⟩)
  all_goals first | contradiction | rfl | (simp_all [clSame]; done) | (simp_all [clSame]; omega) | trace_state

theorem spec_SameCluster_D (a b : ClusterD) (ha : a.fine) : Spec Tryz.prog 34 [a.d, b.d] (fun d => d = .sc (.bool (clSame a b))) := by
  unfold ClusterD.d; have hl1 := ha.hlen; have hl2 := ha.plen
  refine sp_ (rs := [.tmp 4]) (nt := 95) Tryz.func34 rfl fun X hX => ?_
  refine nm_ ?_
  repeat' ((first | contradiction | (with_reducible exact tt_) | (refine bk_ (fun h h' => ?_) (fun h h' => ?_)) | (refine and_ ?_ ?_) | (refine pln_ ?_) | (refine cl_ rfl _ _ (spec_SameHost_D (a.hosts.getD k default) (b.hosts.getD k default) (ha.host k)) rfl rfl ?_; rintro _ rfl) | (refine cl_ rfl _ _ (spec_SamePod_D (a.pods.getD m default).pod (b.pods.getD m default).pod (ha.pod m)) rfl rfl ?_; rintro _ rfl) | (refine eqg_ rfl ?_) | (refine wo_ (id := 6) [] [(0, true), (1, true), (2, true), (3, true), (4, true), (5, true), (6, true), (7, true), (8, true), (9, true), (10, false), (11, true)] ?_) | (refine lpU_ 0x2c (ι := Nat) (fun k => [(5, .sc (.int .i64 (k : Int)))]) (fun k => k ≤ a.hosts.length ∧ ∀ j : Nat, j < k → (fun j => hostSame (a.hosts.getD j default) (b.hosts.getD j default)) j = true) (fun k => a.hosts.length - k) 0 ?_ ?_; (focus (exact ⟨by omega, allN_zero⟩)); rintro _ hN0 k hinv; (try dsimp only at hinv); obtain ⟨hk, hj⟩ := hinv; replace hj := Lib.hid hj; skip) | (refine hN0.go (k + 1) ?_ ?_; (focus (exact ⟨by show k + 1 ≤ a.hosts.length; omega, allN_step hj.out (by first | assumption | exact not_t (by assumption) | exact not_f (by assumption) | (simp_all; done))⟩)); (focus (show a.hosts.length - (k + 1) < a.hosts.length - k; omega))) | (refine lpU_ 0x4c (ι := Nat) (fun m => [(6, .sc (.int .i64 (m : Int)))]) (fun m => m ≤ a.pods.length ∧ ∀ j : Nat, j < m → (fun j => placedSame (a.pods.getD j default) (b.pods.getD j default)) j = true) (fun m => a.pods.length - m) 0 ?_ ?_; (focus (exact ⟨by omega, allN_zero⟩)); rintro _ hN1 m hinv; (try dsimp only at hinv); obtain ⟨hkm, hjm⟩ := hinv; replace hjm := Lib.hid hjm; skip) | (refine hN1.go (m + 1) ?_ ?_; (focus (exact ⟨by show m + 1 ≤ a.pods.length; omega, allN_step hjm.out (by unfold placedSame; first | assumption | exact not_t (by assumption) | exact not_f (by assumption) | (simp_all; done))⟩)); (focus (show a.pods.length - (m + 1) < a.pods.length - m; omega))) | fail) <;> (try refine nm_ ?_))
  all_goals (refine ⟨?_⟩)
  all_goals first | contradiction | (exfalso; omega) | (have e := same_no (p := hostSame) (a := a.hosts) (b := b.hosts) (by omega); simp_all [clSame]; done) | (have e := same_no (p := placedSame) (a := a.pods) (b := b.pods) (by omega); simp_all [clSame]; done) | (have e := same_at (p := placedSame) (a := a.pods) (b := b.pods) (k := m) (by omega) (by unfold placedSame; first | assumption | exact not_t (by assumption) | exact not_f (by assumption) | (simp_all; done)); simp_all [clSame]; done) | (have e := same_at (p := hostSame) (a := a.hosts) (b := b.hosts) (k := k) (by omega) (by first | assumption | exact not_t (by assumption) | exact not_f (by assumption) | (simp_all; done)); simp_all [clSame]; done) | (have e := same_yes (p := hostSame) (a := a.hosts) (b := b.hosts) (k := k) (by omega) (by omega) hj.out; have e2 := same_yes (p := placedSame) (a := a.pods) (b := b.pods) (k := m) (by omega) (by omega) hjm.out; simp_all [clSame]; done) | (simp_all [clSame]; done) | (simp_all [clSame]; omega) | trace_state

end Go.Proofs.YtnicgfeajdjimaaGreat
namespace Go.Proofs.YtnicgfeajdjimaaGreat
open Go.RowKit
set_option maxRecDepth 100000
set_option maxHeartbeats 4000000

def safeB (c l : ClusterD) (fs : List FileD) (ev : Bool) : Bool := clusterB c && (diskB fs && (if ev = true then decide ((rsR fs).2 = 0) && clSame (rsR fs).1 l else decide ((rsR fs).2 = 11)))
theorem safe_no1 {c l : ClusterD} {fs : List FileD} {ev : Bool} (h : ¬ (clusterB c = true ∧ diskB fs = true)) : safeB c l fs ev = false := by
  unfold safeB
  cases h1 : clusterB c <;> cases h2 : diskB fs <;> first | rfl | exact absurd ⟨h1, h2⟩ h
theorem safe_never {c l : ClusterD} {fs : List FileD} {ev : Bool} {q : ClusterD} {k : Int} (h : clusterB c = true ∧ diskB fs = true) (hs : Rs8 fs q k) (he : ev = false) : safeB c l fs ev = (k == 11) := by
  unfold safeB
  rw [h.1, h.2, he, hs.eq]
  simp only [Bool.true_and, Bool.false_eq_true, if_false]
  rw [Bool.eq_iff_iff, decide_eq_true_eq, beq_iff_eq]
theorem safe_ever {c l : ClusterD} {fs : List FileD} {ev : Bool} {q : ClusterD} {k : Int} (h : clusterB c = true ∧ diskB fs = true) (hs : Rs8 fs q k) (he : ev = true) (hk : k = 0) : safeB c l fs ev = clSame q l := by
  unfold safeB
  rw [h.1, h.2, he, hs.eq]
  simp only [Bool.true_and, if_true, hk, decide_true]
theorem safe_ever0 {c l : ClusterD} {fs : List FileD} {ev : Bool} {q : ClusterD} {k : Int} (h : clusterB c = true ∧ diskB fs = true) (hs : Rs8 fs q k) (he : ev = true) (hk : ¬ k = 0) : safeB c l fs ev = false := by
  unfold safeB
  rw [h.1, h.2, he, hs.eq]
  simp only [Bool.true_and, if_true, decide_eq_false hk, Bool.false_and]

theorem impl_SafeWorld_D (c l : ClusterD) (fs : List FileD) (ev : Bool) (hc : c.fine) (_hl : l.fine) (hf : DiskF fs) (_hn : fs.length ≤ 1048576) : Spec Tryz.prog 48 [.agg [.sl c.hosts.length (hostsD c.hosts), .sl c.pods.length (placedsD c.pods), .sc (.int .i64 c.next), .sc (.int .i64 c.w1), .sc (.int .i64 c.w2), .sc (.int .i64 c.w3), .sl fs.length (filesD fs), .sl l.hosts.length (hostsD l.hosts), .sl l.pods.length (placedsD l.pods), .sc (.int .i64 l.next), .sc (.int .i64 l.w1), .sc (.int .i64 l.w2), .sc (.int .i64 l.w3), .sc (.bool ev)]] (fun d => d = .sc (.bool (safeB c l fs ev))) := by
  refine sp_ (rs := [.tmp 2]) (nt := 34) Tryz.func48 rfl fun X hX => ?_
  refine nm_ ?_
  repeat' ((first | contradiction | (with_reducible exact tt_) | (refine bk_ (fun h h' => ?_) (fun h h' => ?_)) | (refine and_ ?_ ?_) | (refine pln_ ?_) | (refine cl_ rfl _ _ (impl_ClusterOk_D c hc) rfl rfl ?_; rintro _ rfl) | (refine cl_ rfl _ _ (impl_DiskOk_D fs hf) rfl rfl ?_; rintro _ rfl) | (refine awH_ rfl (impl_RestoreFrom_D fs hf) [] ?_; rintro _ _ _ ⟨q, code, hS, ⟨hq, h8, h12⟩, rfl, rfl, rfl⟩ _) | (refine bo_ rfl [.cool 1, .frz 1, .cool 2, .frz 2] (impl_SameCluster_D q l hq) ?_; rintro _ rfl; refine ⟨rfl, ?_⟩) | (refine bo_ rfl [.cool 2, .frz 2, .cool 3, .frz 3] (impl_SameCluster_D q l hq) ?_; rintro _ rfl; refine ⟨rfl, ?_⟩) | (refine bo_ rfl [.cool 3, .frz 3, .cool 4, .frz 4] (impl_SameCluster_D q l hq) ?_; rintro _ rfl; refine ⟨rfl, ?_⟩) | fail) <;> (try refine nm_ ?_))
  all_goals (refine ⟨?_⟩)
  all_goals first | contradiction | (rw [safe_no1 (by first | assumption | omega | (simp_all; done) | (simp_all; omega))]; done) | (rw [safe_never (by first | assumption | omega | (simp_all; done) | (simp_all; omega)) hS (by first | assumption | omega | (simp_all; done) | (simp_all; omega))]; done) | (rw [safe_ever (by first | assumption | omega | (simp_all; done) | (simp_all; omega)) hS (by first | assumption | omega | (simp_all; done) | (simp_all; omega)) (by first | assumption | omega | (simp_all; done) | (simp_all; omega))]; done) | (rw [safe_ever0 (by first | assumption | omega | (simp_all; done) | (simp_all; omega)) hS (by first | assumption | omega | (simp_all; done) | (simp_all; omega)) (by first | assumption | omega | (simp_all; done) | (simp_all; omega))]; done) | trace_state

theorem spec_SafeWorld_D (c l : ClusterD) (fs : List FileD) (ev : Bool) (hc : c.fine) (_hl : l.fine) (hf : DiskF fs) (_hn : fs.length ≤ 1048576) : Spec Tryz.prog 46 [.agg [.sl c.hosts.length (hostsD c.hosts), .sl c.pods.length (placedsD c.pods), .sc (.int .i64 c.next), .sc (.int .i64 c.w1), .sc (.int .i64 c.w2), .sc (.int .i64 c.w3), .sl fs.length (filesD fs), .sl l.hosts.length (hostsD l.hosts), .sl l.pods.length (placedsD l.pods), .sc (.int .i64 l.next), .sc (.int .i64 l.w1), .sc (.int .i64 l.w2), .sc (.int .i64 l.w3), .sc (.bool ev)]] (fun d => d = .sc (.bool (safeB c l fs ev))) := by
  refine sp_ (rs := [.tmp 2]) (nt := 34) Tryz.func46 rfl fun X hX => ?_
  refine nm_ ?_
  repeat' ((first | contradiction | (with_reducible exact tt_) | (refine bk_ (fun h h' => ?_) (fun h h' => ?_)) | (refine and_ ?_ ?_) | (refine pln_ ?_) | (refine cl_ rfl _ _ (spec_RestoreFrom_D fs hf) rfl rfl ?_; rintro _ ⟨q, code, hS, hq, rfl⟩; (unfold ClusterD.d)) | (refine cl_ rfl _ _ (spec_ClusterOk_D c hc) rfl rfl ?_; rintro _ rfl) | (refine cl_ rfl _ _ (spec_DiskOk_D fs hf) rfl rfl ?_; rintro _ rfl) | (refine cl_ rfl _ _ (spec_SameCluster_D q l hq) rfl rfl ?_; rintro _ rfl) | fail) <;> (try refine nm_ ?_))
  all_goals (refine ⟨?_⟩)
  all_goals first | contradiction | (rw [safe_no1 (by first | assumption | omega | (simp_all; done) | (simp_all; omega))]; done) | (rw [safe_never (by first | assumption | omega | (simp_all; done) | (simp_all; omega)) hS (by first | assumption | omega | (simp_all; done) | (simp_all; omega))]; done) | (rw [safe_ever (by first | assumption | omega | (simp_all; done) | (simp_all; omega)) hS (by first | assumption | omega | (simp_all; done) | (simp_all; omega)) (by first | assumption | omega | (simp_all; done) | (simp_all; omega))]; done) | (rw [safe_ever0 (by first | assumption | omega | (simp_all; done) | (simp_all; omega)) hS (by first | assumption | omega | (simp_all; done) | (simp_all; omega)) (by first | assumption | omega | (simp_all; done) | (simp_all; omega))]; done) | trace_state

theorem laws_eqWorld_D (c l : ClusterD) (fs : List FileD) (ev : Bool) (hc : c.rl) (hl : l.rl) (hn : fs.length ≤ 9223372036854775807) : Spec Tryz.prog 49 [.agg [.sl c.hosts.length (hostsD c.hosts), .sl c.pods.length (placedsD c.pods), .sc (.int .i64 c.next), .sc (.int .i64 c.w1), .sc (.int .i64 c.w2), .sc (.int .i64 c.w3), .sl fs.length (filesD fs), .sl l.hosts.length (hostsD l.hosts), .sl l.pods.length (placedsD l.pods), .sc (.int .i64 l.next), .sc (.int .i64 l.w1), .sc (.int .i64 l.w2), .sc (.int .i64 l.w3), .sc (.bool ev)], .agg [.sl c.hosts.length (hostsD c.hosts), .sl c.pods.length (placedsD c.pods), .sc (.int .i64 c.next), .sc (.int .i64 c.w1), .sc (.int .i64 c.w2), .sc (.int .i64 c.w3), .sl fs.length (filesD fs), .sl l.hosts.length (hostsD l.hosts), .sl l.pods.length (placedsD l.pods), .sc (.int .i64 l.next), .sc (.int .i64 l.w1), .sc (.int .i64 l.w2), .sc (.int .i64 l.w3), .sc (.bool ev)]] (fun d => d = .sc (.bool true)) := by
  refine sp_ (rs := [.tmp 4]) (nt := 28) Tryz.func49 rfl fun X hX => ?_
  refine nm_ ?_
  repeat' ((first | contradiction | (with_reducible exact tt_) | (refine bk_ (fun h h' => ?_) (fun h h' => ?_)) | (refine and_ ?_ ?_) | (refine pln_ ?_) | (refine cl_ rfl _ _ (laws_eqCluster_D c hc) rfl rfl ?_; rintro _ rfl) | (refine cl_ rfl _ _ (laws_eqCluster_D l hl) rfl rfl ?_; rintro _ rfl) | (refine cl_ rfl _ _ (laws_eqDisk_D fs hn) rfl rfl ?_; rintro _ rfl) | fail) <;> (try refine nm_ ?_))
  all_goals (refine ⟨?_⟩)
  all_goals first | contradiction | rfl | (exfalso; omega) | trace_state

theorem laws_toWorld_D (c l : ClusterD) (fs : List FileD) (ev : Bool) (hc : c.fine) (hl : l.fine) (_hf : DiskF fs) (hn : fs.length ≤ 1048576) : Spec Tryz.prog 47 [.agg [.sl c.hosts.length (hostsD c.hosts), .sl c.pods.length (placedsD c.pods), .sc (.int .i64 c.next), .sc (.int .i64 c.w1), .sc (.int .i64 c.w2), .sc (.int .i64 c.w3), .sl fs.length (filesD fs), .sl l.hosts.length (hostsD l.hosts), .sl l.pods.length (placedsD l.pods), .sc (.int .i64 l.next), .sc (.int .i64 l.w1), .sc (.int .i64 l.w2), .sc (.int .i64 l.w3), .sc (.bool ev)]] (fun d => d = .agg [.sl c.hosts.length (hostsD c.hosts), .sl c.pods.length (placedsD c.pods), .sc (.int .i64 c.next), .sc (.int .i64 c.w1), .sc (.int .i64 c.w2), .sc (.int .i64 c.w3), .sl fs.length (filesD fs), .sl l.hosts.length (hostsD l.hosts), .sl l.pods.length (placedsD l.pods), .sc (.int .i64 l.next), .sc (.int .i64 l.w1), .sc (.int .i64 l.w2), .sc (.int .i64 l.w3), .sc (.bool ev)]) := by
  refine spG_ (rs := [.cell 2 77]) (nt := 20) Tryz.func47 rfl fun X hX => ?_
  refine nm_ ?_
  repeat' ((first | contradiction | (with_reducible exact tt_) | (refine bk_ (fun h h' => ?_) (fun h h' => ?_)) | (refine and_ ?_ ?_) | (refine pln_ ?_) | (refine cl_ rfl _ _ (laws_toCluster_D c hc) rfl rfl ?_; rintro _ rfl; (unfold ClusterD.d)) | (refine cl_ rfl _ _ (laws_toCluster_D l hl) rfl rfl ?_; rintro _ rfl; (unfold ClusterD.d)) | (refine awH_ rfl (laws_toDisk_D fs hn) [] ?_; rintro _ _ _ ⟨rfl, rfl, rfl⟩ _) | (refine rgg_ [.frz 3] ?_; refine nm_ ?_; fail_if_success (show Wk False)) | (refine rgg_ [.frz 2] ?_; refine nm_ ?_; fail_if_success (show Wk False)) | (refine rgg_ [.frz 4] ?_; refine nm_ ?_; fail_if_success (show Wk False)) | fail) <;> (try refine nm_ ?_))
  all_goals (refine ⟨?_⟩)
  all_goals first | contradiction | rfl | (exfalso; omega) | trace_state

theorem laws_szWorld_D (c l : ClusterD) (fs : List FileD) (ev : Bool) (n : Int) (hn0 : 0 ≤ n) (hn1 : n ≤ 1048576) (hc : c.raw) (hl : l.raw) (hf : rowRaw FileD.raw fs) : Spec Tryz.prog 45 [.agg [.sl c.hosts.length (hostsD c.hosts), .sl c.pods.length (placedsD c.pods), .sc (.int .i64 c.next), .sc (.int .i64 c.w1), .sc (.int .i64 c.w2), .sc (.int .i64 c.w3), .sl fs.length (filesD fs), .sl l.hosts.length (hostsD l.hosts), .sl l.pods.length (placedsD l.pods), .sc (.int .i64 l.next), .sc (.int .i64 l.w1), .sc (.int .i64 l.w2), .sc (.int .i64 l.w3), .sc (.bool ev)], .sc (.int .i64 n)] (fun d => ∃ r : Int, d = .sc (.int .i64 r) ∧ -1 ≤ r ∧ r ≤ n ∧ (0 ≤ r → c.fine ∧ l.fine ∧ rowFine FileD.fine fs)) := by
  refine sp_ (rs := [.tmp 4]) (nt := 24) Tryz.func45 rfl fun X hX => ?_
  refine nm_ ?_
  repeat' ((first | contradiction | (with_reducible exact tt_) | (refine bk_ (fun h h' => ?_) (fun h h' => ?_)) | (refine and_ ?_ ?_) | (refine pln_ ?_) | (refine cl_ rfl _ _ (laws_szCluster_D c _ (by omega) (by omega) hc) rfl rfl ?_; rintro _ ⟨r1, rfl, ha1, hb1, hc1⟩) | (refine cl_ rfl _ _ (laws_szCluster_D l _ (by omega) (by omega) hl) rfl rfl ?_; rintro _ ⟨r3, rfl, ha3, hb3, hc3⟩) | (refine cl_ rfl _ _ (laws_szDisk_D fs _ (by omega) (by omega) hf) rfl rfl ?_; rintro _ ⟨r2, rfl, ha2, hb2, hc2⟩) | fail) <;> (try refine nm_ ?_))
  all_goals (refine ⟨?_⟩)
  all_goals first | contradiction | (exact ⟨-1, rfl, by omega, by omega, fun h => absurd h (by decide)⟩) | (refine ⟨_, rfl, by omega, by omega, fun _ => ⟨hc1 (by omega), hc3 (by omega), hc2 (by omega)⟩⟩) | (exact ⟨_, rfl, by omega, by omega⟩) | trace_state

theorem laws_FnExactSafeWorld_D (c l : ClusterD) (fs : List FileD) (ev : Bool) (hc : c.raw) (hl : l.raw) (hf : rowRaw FileD.raw fs) : Spec Tryz.prog 9 [.agg [.sl c.hosts.length (hostsD c.hosts), .sl c.pods.length (placedsD c.pods), .sc (.int .i64 c.next), .sc (.int .i64 c.w1), .sc (.int .i64 c.w2), .sc (.int .i64 c.w3), .sl fs.length (filesD fs), .sl l.hosts.length (hostsD l.hosts), .sl l.pods.length (placedsD l.pods), .sc (.int .i64 l.next), .sc (.int .i64 l.w1), .sc (.int .i64 l.w2), .sc (.int .i64 l.w3), .sc (.bool ev)]] (fun d => d = .sc (.bool true)) := by
  refine sp_ (rs := [.tmp 2]) (nt := 27) Tryz.func9 rfl fun X hX => ?_
  refine nm_ ?_
  repeat' ((first | contradiction | (with_reducible exact tt_) | (refine bk_ (fun h h' => ?_) (fun h h' => ?_)) | (refine and_ ?_ ?_) | (refine pln_ ?_) | (refine cl_ rfl _ _ (laws_szWorld_D c l fs ev _ (by omega) (by omega) hc hl hf) rfl rfl ?_; rintro _ ⟨r1, rfl, ha1, hb1, hc1⟩; (by_cases hneg : r1 < 0; rotate_left; obtain ⟨g1, g2, g3⟩ := hc1 (by omega); obtain ⟨hfd, hln⟩ := diskF_row g3; rotate_left)) | (refine cl_ rfl _ _ (laws_toWorld_D c l fs ev g1 g2 hfd hln) rfl rfl ?_; rintro _ rfl) | (refine cl_ rfl _ _ (spec_SafeWorld_D c l fs ev g1 g2 hfd hln) rfl rfl ?_; rintro _ rfl) | (refine cl_ rfl _ _ (impl_SafeWorld_D c l fs ev g1 g2 hfd hln) rfl rfl ?_; rintro _ rfl) | (refine cl_ rfl _ _ (laws_eqWorld_D c l fs ev (rl_fine g1) (rl_fine g2) (by omega)) rfl rfl ?_; rintro _ rfl) | (refine wo_ (id := 10) [] [(0, true), (1, true), (2, false), (3, false), (4, true)] ?_) | fail) <;> (try refine nm_ ?_))
  all_goals (refine ⟨?_⟩)
  all_goals first | contradiction | rfl | (exfalso; omega) | trace_state

end Go.Proofs.YtnicgfeajdjimaaGreat
