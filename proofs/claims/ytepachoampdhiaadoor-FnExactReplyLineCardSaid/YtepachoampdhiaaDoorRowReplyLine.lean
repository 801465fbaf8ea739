/- The law FnExactReplyLine returns true for every argument. Under the condition of its row, that three tables of the library hold what their initialisers lay; the card ties that to the program's text. -/
import Derived.Test.YtepachoampdhiaaDoorLines
import Derived.Test.YtepachoampdhiaaDoorOpenLines
import Derived.Test.YtepachoampdhiaaDoorTabs
namespace Go.Proofs.YtepachoampdhiaaDoor
open Go.RowKit Go.ChangeShapes Go.WideShapes Go.ChangeAt

theorem readsReplyLine : ((Tryd.f4.params.toList).all fun t => Tryd.prog.readableRec t && decide (t < Tryd.prog.types.size)) = true := by kernel_rfl
theorem laidMetReplyLine (os : Os) : laidMet Tryd.prog Rows.fnExactReplyLineRow.laid ((laidWorld os).forCall (fun _ _ => 0) ⟨#[], #[.agg #[.int .i64 0, .int .i64 0, .int .i64 0, .string ⟨#[]⟩, .string ⟨#[]⟩, .string ⟨#[]⟩]], []⟩).memory := laidMet_of_run' 8 (by kernel_rfl) (by kernel_rfl)
theorem wholeReplyLine (os : Os) {H : Type} (enc : TypeId × Value → H) : ∃ places, DataW.whole enc Tryd.prog ((laidWorld os).forCall (fun _ _ => 0) ⟨#[], #[.agg #[.int .i64 0, .int .i64 0, .int .i64 0, .string ⟨#[]⟩, .string ⟨#[]⟩, .string ⟨#[]⟩]], []⟩).memory Tryd.f4.params.toList Rows.fnExactReplyLineSpec.vars false (#[.agg #[.int .i64 0, .int .i64 0, .int .i64 0, .string ⟨#[]⟩, .string ⟨#[]⟩, .string ⟨#[]⟩]] : Array Value).toList 8 = some ([.agg [.lit (.int .i64 0), .agg [.lit (.int .i64 0), .lit (.int .i64 0), .lit (.string [])], .lit (.string []), .lit (.string [])]], [], places) := ⟨[], by kernel_rfl⟩
set_option maxRecDepth 100000 in
set_option maxHeartbeats 1000000 in
theorem liftedReplyLine (os : Os) (started : os.Started) (H : Type) (enc : TypeId × Value → H) (F : Stop.Interp) :
    ReturnsInHanded {} Tryd.checked os 4 .any ((OpenSpec.ofChange Rows.fnExactReplyLineSpec).preRow enc Tryd.prog Tryd.f4 Rows.fnExactReplyLineRow.domain false Rows.fnExactReplyLineRow.laid) (((OpenSpec.ofChange Rows.fnExactReplyLineSpec).at F).post enc Tryd.prog Tryd.f4 false true false false) := by
  obtain ⟨places, hx⟩ := wholeReplyLine os enc
  refine returnsInHanded_of_row (C := Tryd.checked) (s := OpenSpec.ofChange Rows.fnExactReplyLineSpec) ownKnobNone started (by kernel_rfl) Tryd.func4
    (witness_row_at (enc := enc) (C := Tryd.checked) false (laidWorld os) #[.agg #[.int .i64 0, .int .i64 0, .int .i64 0, .string ⟨#[]⟩, .string ⟨#[]⟩, .string ⟨#[]⟩]] rfl (by kernel_rfl) (by kernel_rfl) (by kernel_rfl)
      (OpenSpec.preRow_of_cond 8 hx (by kernel_rfl) (fun k hk => by cases hk) (by kernel_rfl) (laidMetReplyLine os))) ?_
  intro W base args ds gs before hval0 hW _ _ _ hL _ _
  have hval : ∀ (j : Nat) t v, Tryd.f4.params[j]? = some t → args[j]? = some v → Value.okWide Tryd.prog W .any base t v := hval0
  have hW' := hW
  obtain ⟨p, q, hA0, hV, rfl, hfz, hnd⟩ := hW
  have hA : DataW.TrodAll enc Tryd.prog W 0 (fun _ => true) true Tryd.f4.params.toList args.toList ds p := hA0
  rw [Tryd.params4] at hA hval
  obtain ⟨v0, d0, rfl, rfl, h0⟩ := trodAll_one hA
  obtain ⟨rfl, rfl⟩ := trodVars_none hV
  have hT : tabT (fun b => b < W.heap.size) W := tabT_laid hL
  obtain ⟨x, rfl, hx0, hrep0⟩ := open_Reply (hval 0 30 v0 rfl rfl) h0
  have walk := specT_law (lawReplyLine_D x hx0.1 hx0.2.1 hx0.2.2.1 hx0.2.2.2.1 hx0.2.2.2.2.1 hx0.2.2.2.2.2) W hT #[x.v] rfl (by
    intro j d hd
    rcases j with _ | j
    · simp only [List.getElem?_cons_zero, Option.some.injEq] at hd
      subst hd
      exact hrep0
    · simp at hd)
  refine walk.mono fun e W' ⟨he, hb⟩ => ?_
  subst he
  exact ⟨_, rfl, law_post laidOutYes (reads_all readsReplyLine) rfl rfl Tryd.underlying4 rfl hW' ⟨rfl, rfl, rfl⟩ hb⟩
theorem saidReplyLine : Rows.FnExactReplyLineSaid :=
  OpenClaim.holds_of_cond 4 Tryd.f4 rfl rfl rfl rfl rfl rfl rfl ⟨rfl, rfl, rfl, rfl, rfl⟩ rfl rfl rfl rfl rfl (by kernel_rfl) Tryd.func4 (by kernel_rfl)
    (of_decide_eq_true (by kernel_rfl)) (by unfold Func.isWrapper; first | (rw [if_pos (by decide +kernel)]; kernel_rfl) | (rw [if_neg (by decide +kernel)]; exact ⟨rfl, rfl⟩))
    (fun os started H enc _ F => by rw [OpenClaim.pre_eq_preRow]; exact liftedReplyLine os started H enc F)
theorem plainReplyLine (f : FuncId) (fn : Func) (hf : Tryd.pinned.checked.prog.funcNamed "loop.example/g00968/laws.FnExactReplyLine" = some f) (hfn : Tryd.pinned.checked.prog.funcs[f]? = some fn) :
    false = Tryd.pinned.checked.prog.looks [] ∧ ∀ (j : Nat) t, fn.params[j]? = some t → Tryd.pinned.checked.prog.wantsStandIn t = false := by
  obtain rfl : f = 4 := Option.some.inj ((show Tryd.prog.funcNamed "loop.example/g00968/laws.FnExactReplyLine" = some 4 by kernel_rfl).symm.trans hf) |>.symm
  obtain rfl : fn = Tryd.f4 := (Option.some.inj (Tryd.func4.symm.trans hfn)).symm
  refine ⟨by kernel_rfl, fun j t ht => ?_⟩
  rw [Tryd.params4] at ht
  obtain rfl : t = 30 := by simpa using Array.mem_of_getElem? ht
  exact (show Tryd.prog.wantsStandIn 30 = false by kernel_rfl)
theorem cardReplyLine : Rows.FnExactReplyLineCardSaid :=
  Claim7.holds_tied_plain_at .later [] _ _ _ _ saidReplyLine (fun _ h => by cases h) (by kernel_rfl) (fun _ h => by cases h) fnExactReplyLine_row_tie rfl ⟨rfl, rfl⟩ (by kernel_rfl) rfl plainReplyLine (by kernel_rfl)
#print axioms cardReplyLine
end Go.Proofs.YtepachoampdhiaaDoor
