/- Scp (what is wanted of them). -/
import Derived.Test.YtnicgfeajdjimaaGreatQSwx
import Derived.Test.YtnicgfeajdjimaaGreatQTr2
import Derived.Test.YtnicgfeajdjimaaGreatQRd10
namespace Go.Proofs.YtnicgfeajdjimaaGreat
open Go.RowKit
set_option linter.unusedVariables false
theorem eqB_same (a : ByteArray) : eqB a a = true := by unfold eqB; exact beq_self_eq_true _
theorem sameRow_self {α : Type} [Inhabited α] {p : α → α → Bool} (h : ∀ x, p x x = true) (a : List α) : sameRow p a a = true := by
  unfold sameRow
  rw [decide_eq_true rfl, Bool.true_and]
  exact allN_yes (Nat.le_refl _) fun j _ => h _
theorem labelSame_self (a : LabelD) : labelSame a a = true := by unfold labelSame; rw [eqB_same, eqB_same]; rfl
theorem taintSame_self (a : TaintD) : taintSame a a = true := by unfold taintSame; rw [eqB_same, eqB_same, beq_self_eq_true]; rfl
theorem tolerSame_self (a : TolerD) : tolerSame a a = true := by unfold tolerSame; rw [eqB_same, eqB_same, beq_self_eq_true, beq_self_eq_true]; rfl
theorem needSame_self (a : NeedD) : needSame a a = true := by
  rw [← cmpNeed_0, beq_iff_eq]
  have := cmpNeed_neg a a
  omega
theorem podSame_self (a : PodD) : podSame a a = true := by
  unfold podSame
  rw [eqB_same, sameRow_self labelSame_self, sameRow_self needSame_self, sameRow_self tolerSame_self, beq_self_eq_true, beq_self_eq_true, beq_self_eq_true]; rfl
theorem hostSame_self (a : HostD) : hostSame a a = true := by
  unfold hostSame
  rw [eqB_same, sameRow_self labelSame_self, sameRow_self taintSame_self, beq_self_eq_true, beq_self_eq_true, beq_self_eq_true]; rfl
theorem placedSame_self (a : PlacedD) : placedSame a a = true := by unfold placedSame; rw [eqB_same, beq_self_eq_true, podSame_self]; rfl
theorem clSame_self (c : ClusterD) : clSame c c = true := by
  unfold clSame
  rw [sameRow_self hostSame_self, sameRow_self placedSame_self, beq_self_eq_true, beq_self_eq_true, beq_self_eq_true, beq_self_eq_true]; rfl
theorem sc_read {c q : ClusterD} {ok : Bool} {k : Int} (hf : c.fine) (he : expB c k = true) (h : Fin (rdAt (snapAtT c k) k) q ok) : c = q ∧ true = ok := by
  have e := (rdAt_snap hf he).symm.trans h.eq
  injection e with e1 e2
  exact ⟨e1, e2⟩
theorem st_read {c q : ClusterD} {code : Int} {k : Int} (hf : c.fine) (he : expB c k = true) (h : St8 (storedT c k) q code) : c = q ∧ 0 = code := by
  have e := (stored_at hf he).symm.trans h.eq
  injection e with e1 e2
  exact ⟨e1, e2⟩
theorem fr_read {c : ClusterD} {t : ByteArray} {v code : Int} {k : Int} (hf : c.fine) (he : expB c k = true) (h : Frm (storedT c k) v t code) : k = v ∧ 0 = code := by
  have e := (stored_frame hf he).symm.trans h.eq
  injection e with e1 e2
  injection e1 with e3 e4
  exact ⟨e3, e2⟩
theorem storedN_0 {c : ClusterD} {k : Int} (he : expB c k = true) : storedN c k = 0 := by unfold storedN; rw [if_pos he]
theorem exp_9 (c : ClusterD) : expB c 9 = false := by
  cases h : expB c 9 with
  | false => rfl
  | true => have := exp_rng h; omega
theorem storedN_9 (c : ClusterD) : storedN c 9 = 8 := by unfold storedN; rw [exp_9]; rfl
theorem rn_stored {c : ClusterD} {k : Int} (hf : c.fine) (hc : clusterB c = true) (he : expB c k = true) : rnT (storedT c k) = (storedT c 3, 0) := by
  rw [rn_yes (c := c) (k := 0) ⟨stored_at hf he⟩ rfl, storedN_0 (exp_3 hc)]
theorem snapAt_3 (c : ClusterD) : snapAtT c 3 = snapT c := rfl
theorem snap_empty {c : ClusterD} {k : Int} (hk : 1 ≤ k ∧ k ≤ 2) (h : expB c k = false) : snapAtT c k = ⟨#[]⟩ := by
  rcases (by omega : k = 1 ∨ k = 2) with rfl | rfl
  · show snap1T c = _
    unfold snap1T; rw [h]; rfl
  · show snap2T c = _
    unfold snap2T; rw [h]; rfl
theorem exp_next {c : ClusterD} {k : Int} (hk : k < 3) (h : expB c k = true) : expB c (k + 1) = true := by
  have hr := exp_rng h
  rcases (by omega : k = 1 ∨ k = 2) with rfl | rfl
  · exact exp_up12 h
  · exact exp_up23 h
end Go.Proofs.YtnicgfeajdjimaaGreat
