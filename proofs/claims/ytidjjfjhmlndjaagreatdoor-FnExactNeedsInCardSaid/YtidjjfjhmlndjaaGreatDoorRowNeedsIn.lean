/- The law FnExactNeedsIn returns true for every argument. Under the condition of its row, that tables of the library hold what their initialisers lay; the card ties that to the program's text. -/
import Derived.Test.YtidjjfjhmlndjaaGreatDoorNt2
import Derived.Test.YtidjjfjhmlndjaaGreatDoorJnNeedsIn
import Derived.Test.YtidjjfjhmlndjaaGreatDoorOpenTr
import Derived.Test.YtidjjfjhmlndjaaGreatDoorTab4
import Derived.Test.YtidjjfjhmlndjaaGreatDoorCards
import Derived.Test.YtidjjfjhmlndjaaGreatDoorTie
import Derived.Deep.DeepWitnessRowRef
namespace Go.Proofs.YtidjjfjhmlndjaaGreatDoor
open Go.RowKit Go.ChangeShapes Go.WideShapes Go.ChangeAt

theorem readsNeedsIn : ((Tryz.f4.params.toList).all fun t => Tryz.prog.readableRec t && decide (t < Tryz.prog.types.size)) = true := by kernel_rfl
theorem laidMetNeedsIn (os : Os) : laidMetH Tryz.prog Rows.fnExactNeedsInRow.laid ((laidWorld os).forCall (fun _ _ => 0) ⟨#[], #[.slice none 0 0, .string ⟨#[]⟩], []⟩).memory := laidMetH_of_parts3 (fuel := 8) (laidMet_of_run' 8 (by kernel_rfl) (by kernel_rfl)) (by kernel_rfl) (by kernel_rfl)
theorem wholeNeedsIn (os : Os) {H : Type} (enc : TypeId × Value → H) : ∃ places, DataW.whole enc Tryz.prog ((laidWorld os).forCall (fun _ _ => 0) ⟨#[], #[.slice none 0 0, .string ⟨#[]⟩], []⟩).memory Tryz.f4.params.toList Rows.fnExactNeedsInSpec.vars false (#[.slice none 0 0, .string ⟨#[]⟩] : Array Value).toList 8 = some ([.nil, .lit (.string [])], [], places) := ⟨[], by kernel_rfl⟩
set_option maxRecDepth 100000 in
set_option maxHeartbeats 1000000 in
theorem liftedNeedsIn (os : Os) (started : os.Started) (H : Type) (enc : TypeId × Value → H) (F : Stop.Interp) :
    ReturnsInHanded {} Tryz.checked os 4 .any ((OpenSpec.ofChange Rows.fnExactNeedsInSpec).preRow enc Tryz.prog Tryz.f4 Rows.fnExactNeedsInRow.domain false Rows.fnExactNeedsInRow.laid) (((OpenSpec.ofChange Rows.fnExactNeedsInSpec).at F).post enc Tryz.prog Tryz.f4 false true false false) := by
  obtain ⟨places, hx⟩ := wholeNeedsIn os enc
  refine returnsInHanded_of_row (C := Tryz.checked) (s := OpenSpec.ofChange Rows.fnExactNeedsInSpec) ownKnobNone started (by kernel_rfl) Tryz.func4
    (witness_row_atRef (enc := enc) (C := Tryz.checked) false (laidWorld os) #[.slice none 0 0, .string ⟨#[]⟩] rfl (by kernel_rfl) (by kernel_rfl) (by kernel_rfl)
      (OpenSpec.preRow_of_cond 8 hx (by kernel_rfl) (fun k hk => by cases hk) (by kernel_rfl) (laidMetNeedsIn os))) ?_
  intro W base args ds gs before hval0 hW _ _ _ hL _ _
  have hval : ∀ (j : Nat) t v, Tryz.f4.params[j]? = some t → args[j]? = some v → Value.okWide Tryz.prog W .any base t v := hval0
  have hW' := hW
  obtain ⟨p, q, hA0, hV, rfl, hfz, hnd⟩ := hW
  have hA : DataW.TrodAll enc Tryz.prog W 0 (fun _ => true) true Tryz.f4.params.toList args.toList ds p := hA0
  rw [Tryz.params4] at hA hval
  obtain ⟨v0, v1, d0, d1, p0, p1, rfl, rfl, rfl, h0, h1⟩ := trodAll_two hA
  obtain ⟨rfl, rfl⟩ := trodVars_none hV
  have hT : TT (fun b => b < W.heap.size) W.heap := tt_laid hL
  obtain ⟨xs, a0, b0, e0⟩ := open_Trees (hval 0 42 v0 rfl rfl) h0
  obtain ⟨s1, rfl, _, _, a1⟩ := Go.ChangeMaps.open_string Tryz.underlying9 (hval 1 9 v1 rfl rfl) h1
  have walk := spec_law (lawNeedsIn_A xs s1 b0 e0 (ms a1)) W #[v0, .string s1] rfl (by
    intro j d hd
    rcases j with _ | _ | j
    · simp only [List.getElem?_cons_zero, Option.some.injEq] at hd
      subst hd
      exact a0
    · simp only [List.getElem?_cons_succ, List.getElem?_cons_zero, Option.some.injEq] at hd
      subst hd
      exact ⟨rfl, rfl⟩
    · simp at hd) hT
  refine walk.mono fun e W' ⟨he, hb⟩ => ?_
  subst he
  exact ⟨_, rfl, law_post laidOutYes (reads_all readsNeedsIn) rfl rfl Tryz.underlying4 rfl hW' ⟨rfl, rfl, rfl⟩ hb⟩
theorem saidNeedsIn : Rows.FnExactNeedsInSaid :=
  OpenClaim.holds_of_cond 4 Tryz.f4 rfl rfl rfl rfl rfl rfl rfl ⟨rfl, rfl, rfl, rfl, rfl⟩ rfl rfl rfl rfl rfl (by kernel_rfl) Tryz.func4 joinedNeedsIn
    (of_decide_eq_true (by kernel_rfl)) (by unfold Func.isWrapper; first | (rw [if_pos (by decide +kernel)]; kernel_rfl) | (rw [if_neg (by decide +kernel)]; exact ⟨rfl, rfl⟩))
    (fun os started H enc _ F => by rw [OpenClaim.pre_eq_preRow]; exact liftedNeedsIn os started H enc F)
theorem plainNeedsIn (f : FuncId) (fn : Func) (hf : Tryz.pinned.checked.prog.funcNamed "loop.example/g00968/laws.FnExactNeedsIn" = some f) (hfn : Tryz.pinned.checked.prog.funcs[f]? = some fn) :
    true = Tryz.pinned.checked.prog.looks [] ∧ ∀ (j : Nat) t, fn.params[j]? = some t → Tryz.pinned.checked.prog.wantsStandIn t = false := by
  obtain rfl : f = 4 := Option.some.inj ((show Tryz.prog.funcNamed "loop.example/g00968/laws.FnExactNeedsIn" = some 4 by kernel_rfl).symm.trans hf) |>.symm
  obtain rfl : fn = Tryz.f4 := (Option.some.inj (Tryz.func4.symm.trans hfn)).symm
  refine ⟨by kernel_rfl, fun j t ht => ?_⟩
  rw [Tryz.params4] at ht
  have ht2 : t = 42 ∨ t = 9 := by simpa using Array.mem_of_getElem? ht
  rcases ht2 with rfl | rfl
  · exact (show Tryz.prog.wantsStandIn 42 = false by kernel_rfl)
  · exact (show Tryz.prog.wantsStandIn 9 = false by kernel_rfl)
theorem cardNeedsIn : Rows.FnExactNeedsInCardSaid :=
  Claim7.holds_tied_plain_at .later [] _ _ _ _ saidNeedsIn (fun _ h => by cases h) (by kernel_rfl) (fun _ h => by cases h) fnExactNeedsIn_row_tie rfl ⟨rfl, rfl⟩ (by kernel_rfl) rfl plainNeedsIn (by kernel_rfl)
#print axioms cardNeedsIn
end Go.Proofs.YtidjjfjhmlndjaaGreatDoor
