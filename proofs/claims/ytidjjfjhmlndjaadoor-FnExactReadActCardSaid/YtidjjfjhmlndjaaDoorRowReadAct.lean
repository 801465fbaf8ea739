/- The law FnExactReadAct returns true for every argument. Under the condition of its row, that tables and error variables of the library hold what their initialisers lay; the card ties that to the program's text. -/
import Derived.Test.YtidjjfjhmlndjaaDoorRa8
import Derived.Test.YtidjjfjhmlndjaaDoorOpen
import Derived.Test.YtidjjfjhmlndjaaDoorTab3
import Derived.Test.YtidjjfjhmlndjaaDoorCards
import Derived.Test.YtidjjfjhmlndjaaDoorTie
import Derived.Deep.DeepWitnessRowRef
namespace Go.Proofs.YtidjjfjhmlndjaaDoor
open Go.RowKit Go.ChangeShapes Go.WideShapes Go.ChangeAt

theorem readsReadAct : ((Tryd.f3.params.toList).all fun t => Tryd.prog.readableRec t && decide (t < Tryd.prog.types.size)) = true := by kernel_rfl
theorem laidMetReadAct (os : Os) : laidMetH Tryd.prog Rows.fnExactReadActRow.laid ((laidWorld os).forCall (fun _ _ => 0) ⟨#[], #[.string ⟨#[]⟩], []⟩).memory := laidMetH_of_parts3 (fuel := 8) (laidMet_of_run' 8 (by kernel_rfl) (by kernel_rfl)) (by kernel_rfl) (by kernel_rfl)
theorem wholeReadAct (os : Os) {H : Type} (enc : TypeId × Value → H) : ∃ places, DataW.whole enc Tryd.prog ((laidWorld os).forCall (fun _ _ => 0) ⟨#[], #[.string ⟨#[]⟩], []⟩).memory Tryd.f3.params.toList Rows.fnExactReadActSpec.vars false (#[.string ⟨#[]⟩] : Array Value).toList 8 = some ([.lit (.string [])], [], places) := ⟨[], by kernel_rfl⟩
set_option maxRecDepth 100000 in
set_option maxHeartbeats 1000000 in
theorem liftedReadAct (os : Os) (started : os.Started) (H : Type) (enc : TypeId × Value → H) (F : Stop.Interp) :
    ReturnsInHanded {} Tryd.checked os 3 .any ((OpenSpec.ofChange Rows.fnExactReadActSpec).preRow enc Tryd.prog Tryd.f3 Rows.fnExactReadActRow.domain false Rows.fnExactReadActRow.laid) (((OpenSpec.ofChange Rows.fnExactReadActSpec).at F).post enc Tryd.prog Tryd.f3 false true false false) := by
  obtain ⟨places, hx⟩ := wholeReadAct os enc
  refine returnsInHanded_of_row (C := Tryd.checked) (s := OpenSpec.ofChange Rows.fnExactReadActSpec) ownKnobNone started (by kernel_rfl) Tryd.func3
    (witness_row_atRef (enc := enc) (C := Tryd.checked) false (laidWorld os) #[.string ⟨#[]⟩] rfl (by kernel_rfl) (by kernel_rfl) (by kernel_rfl)
      (OpenSpec.preRow_of_cond 8 hx (by kernel_rfl) (fun k hk => by cases hk) (by kernel_rfl) (laidMetReadAct os))) ?_
  intro W base args ds gs before hval0 hW _ _ _ hL _ _
  have hval : ∀ (j : Nat) t v, Tryd.f3.params[j]? = some t → args[j]? = some v → Value.okWide Tryd.prog W .any base t v := hval0
  have hW' := hW
  obtain ⟨p, q, hA0, hV, rfl, hfz, hnd⟩ := hW
  have hA : DataW.TrodAll enc Tryd.prog W 0 (fun _ => true) true Tryd.f3.params.toList args.toList ds p := hA0
  rw [Tryd.params3] at hA hval
  obtain ⟨v0, d0, rfl, rfl, h0⟩ := trodAll_one hA
  obtain ⟨rfl, rfl⟩ := trodVars_none hV
  have hT : TT (fun b => b < W.heap.size) W.heap := tt_laid hL
  obtain ⟨s0, rfl, _, _, a0⟩ := Go.ChangeMaps.open_string Tryd.underlying9 (hval 0 9 v0 rfl rfl) h0
  have walk := spec_law (lawReadAct_A s0) W #[.string s0] rfl (by
    intro j d hd
    rcases j with _ | j
    · simp only [List.getElem?_cons_zero, Option.some.injEq] at hd
      subst hd
      exact ⟨rfl, rfl⟩
    · simp at hd) hT
  refine walk.mono fun e W' ⟨he, hb⟩ => ?_
  subst he
  exact ⟨_, rfl, law_post laidOutYes (reads_all readsReadAct) rfl rfl Tryd.underlying4 rfl hW' ⟨rfl, rfl, rfl⟩ hb⟩
theorem saidReadAct : Rows.FnExactReadActSaid :=
  OpenClaim.holds_of_cond 3 Tryd.f3 rfl rfl rfl rfl rfl rfl rfl ⟨rfl, rfl, rfl, rfl, rfl⟩ rfl rfl rfl rfl rfl (by kernel_rfl) Tryd.func3 (by kernel_rfl)
    (of_decide_eq_true (by kernel_rfl)) (by unfold Func.isWrapper; first | (rw [if_pos (by decide +kernel)]; kernel_rfl) | (rw [if_neg (by decide +kernel)]; exact ⟨rfl, rfl⟩))
    (fun os started H enc _ F => by rw [OpenClaim.pre_eq_preRow]; exact liftedReadAct os started H enc F)
theorem plainReadAct (f : FuncId) (fn : Func) (hf : Tryd.pinned.checked.prog.funcNamed "loop.example/g00968/laws.FnExactReadAct" = some f) (hfn : Tryd.pinned.checked.prog.funcs[f]? = some fn) :
    true = Tryd.pinned.checked.prog.looks [] ∧ ∀ (j : Nat) t, fn.params[j]? = some t → Tryd.pinned.checked.prog.wantsStandIn t = false := by
  obtain rfl : f = 3 := Option.some.inj ((show Tryd.prog.funcNamed "loop.example/g00968/laws.FnExactReadAct" = some 3 by kernel_rfl).symm.trans hf) |>.symm
  obtain rfl : fn = Tryd.f3 := (Option.some.inj (Tryd.func3.symm.trans hfn)).symm
  refine ⟨by kernel_rfl, fun j t ht => ?_⟩
  rw [Tryd.params3] at ht
  obtain rfl : t = 9 := by simpa using Array.mem_of_getElem? ht
  exact (show Tryd.prog.wantsStandIn 9 = false by kernel_rfl)
theorem cardReadAct : Rows.FnExactReadActCardSaid :=
  Claim7.holds_tied_plain_at .later [] _ _ _ _ saidReadAct (fun _ h => by cases h) (by kernel_rfl) (fun _ h => by cases h) fnExactReadAct_row_tie rfl ⟨rfl, rfl⟩ (by kernel_rfl) rfl plainReadAct (by kernel_rfl)
#print axioms cardReadAct
end Go.Proofs.YtidjjfjhmlndjaaDoor
