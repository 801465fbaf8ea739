/- Scp, Sc1 (what is wanted of them). -/
import Derived.Test.YtnicgfeajdjimaaGreatBSwx
import Derived.Test.YtnicgfeajdjimaaGreatBTr2
import Derived.Test.YtnicgfeajdjimaaGreatBRd10
import Derived.Test.YtnicgfeajdjimaaGreatBSn4
import Derived.Test.YtnicgfeajdjimaaGreatBDr9
namespace Go.Proofs.YtnicgfeajdjimaaGreat
open Go.RowKit
set_option linter.unusedVariables false
theorem eqB_same (a : ByteArray) : eqB a a = true := by unfold eqB; exact beq_self_eq_true _
theorem sameRow_self {α : Type} [Inhabited α] {p : α → α → Bool} (h : ∀ x, p x x = true) (a : List α) : sameRow p a a = true := by
  unfold sameRow
  rw [decide_eq_true rfl, Bool.true_and]
  exact allN_yes (Nat.le_refl _) fun j _ => h _
theorem labelSame_self (a : LabelD) : labelSame a a = true := by unfold labelSame; rw [eqB_same, eqB_same]; rfl
theorem taintSame_self (a : TaintD) : taintSame a a = true := by unfold taintSame; rw [eqB_same, eqB_same, beq_self_eq_true]; rfl
theorem tolerSame_self (a : TolerD) : tolerSame a a = true := by unfold tolerSame; rw [eqB_same, eqB_same, beq_self_eq_true, beq_self_eq_true]; rfl
theorem needSame_self (a : NeedD) : needSame a a = true := by
  rw [← cmpNeed_0, beq_iff_eq]
  have := cmpNeed_neg a a
  omega
theorem podSame_self (a : PodD) : podSame a a = true := by
  unfold podSame
  rw [eqB_same, sameRow_self labelSame_self, sameRow_self needSame_self, sameRow_self tolerSame_self, beq_self_eq_true, beq_self_eq_true, beq_self_eq_true]; rfl
theorem hostSame_self (a : HostD) : hostSame a a = true := by
  unfold hostSame
  rw [eqB_same, sameRow_self labelSame_self, sameRow_self taintSame_self, beq_self_eq_true, beq_self_eq_true, beq_self_eq_true]; rfl
theorem placedSame_self (a : PlacedD) : placedSame a a = true := by unfold placedSame; rw [eqB_same, beq_self_eq_true, podSame_self]; rfl
theorem clSame_self (c : ClusterD) : clSame c c = true := by
  unfold clSame
  rw [sameRow_self hostSame_self, sameRow_self placedSame_self, beq_self_eq_true, beq_self_eq_true, beq_self_eq_true, beq_self_eq_true]; rfl
theorem st_read {c q : ClusterD} {code : Int} {k : Int} (hf : c.fine) (he : expB c k = true) (h : St8 (storedT c k) q code) : c = q ∧ 0 = code := by
  have e := (stored_at hf he).symm.trans h.eq
  injection e with e1 e2
  exact ⟨e1, e2⟩
theorem storedN_0 {c : ClusterD} {k : Int} (he : expB c k = true) : storedN c k = 0 := by unfold storedN; rw [if_pos he]
end Go.Proofs.YtnicgfeajdjimaaGreat
namespace Go.Proofs.YtnicgfeajdjimaaGreat
open Go.RowKit
set_option linter.unusedVariables false
set_option linter.unusedSimpArgs false
set_option maxRecDepth 100000
set_option maxHeartbeats 4000000
theorem laws_big_D (bs : List Int) (hb : bs.length ≤ 9223372036854775807) : Spec Tryz.prog 28 [.sl bs.length (u8D bs)] (fun d => d = .sc (.bool (decide ((1048576 : Int) < bs.length)))) := by
  refine sp_ (rs := [.tmp 2]) (nt := 6) Tryz.func28 rfl fun X hX => ?_
  refine nm_ ?_
  repeat' ((first | contradiction | (with_reducible exact tt_) | ((with_reducible show Wk (AwStep _ _ _ _ _)); first | (refine pln_ ?_)) | ((with_reducible show Wk (boolK _ _ _ _)); first | (refine bk_ (fun h h' => ?_) (fun h h' => ?_))) | ((with_reducible show Wk (_ ∧ _)); first | (refine and_ ?_ ?_)) | fail) <;> (try refine nm_ ?_))
  all_goals (refine ⟨?_⟩)
  all_goals first | rfl | trace_state
end Go.Proofs.YtnicgfeajdjimaaGreat
