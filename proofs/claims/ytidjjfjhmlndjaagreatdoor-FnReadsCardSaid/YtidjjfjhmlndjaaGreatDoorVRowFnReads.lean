/- The law FnReads returns true for every argument. Under the condition of its row, that tables of the library hold what their initialisers lay; the card ties that to the program's text. -/
import Derived.Test.YtidjjfjhmlndjaaGreatDoorVSw1
import Derived.Test.YtidjjfjhmlndjaaGreatDoorVIo
import Derived.Test.YtidjjfjhmlndjaaGreatDoorVOpen
import Derived.Test.YtidjjfjhmlndjaaGreatDoorVTab5
import Derived.Test.YtidjjfjhmlndjaaGreatDoorCards
import Derived.Test.YtidjjfjhmlndjaaGreatDoorTie
import Derived.Deep.DeepWitnessRowRef
namespace Go.Proofs.YtidjjfjhmlndjaaGreatDoor
open Go.RowKit Go.ChangeShapes Go.WideShapes Go.ChangeAt
theorem readsFnReads : ((Tryz.f6.params.toList).all fun t => Tryz.prog.readableRec t && decide (t < Tryz.prog.types.size)) = true := by kernel_rfl
theorem laidMetFnReads (os : Os) : laidMetH Tryz.prog Rows.fnReadsRow.laid ((laidWorld os).forCall (fun _ _ => 0) ⟨#[], #[.slice none 0 0], []⟩).memory := laidMetH_of_parts3 (fuel := 8) (laidMet_of_run' 8 (by kernel_rfl) (by kernel_rfl)) (by kernel_rfl) (by kernel_rfl)
theorem wholeFnReads (os : Os) {H : Type} (enc : TypeId × Value → H) : ∃ places, DataW.whole enc Tryz.prog ((laidWorld os).forCall (fun _ _ => 0) ⟨#[], #[.slice none 0 0], []⟩).memory Tryz.f6.params.toList Rows.fnReadsSpec.vars false (#[.slice none 0 0] : Array Value).toList 8 = some ([.nil], [], places) := ⟨[], by kernel_rfl⟩
set_option maxRecDepth 100000 in
set_option maxHeartbeats 1000000 in
theorem liftedFnReads (os : Os) (started : os.Started) (H : Type) (enc : TypeId × Value → H) (F : Stop.Interp) :
    ReturnsInHanded {} Tryz.checked os 6 .any ((OpenSpec.ofChange Rows.fnReadsSpec).preRow enc Tryz.prog Tryz.f6 Rows.fnReadsRow.domain false Rows.fnReadsRow.laid) (((OpenSpec.ofChange Rows.fnReadsSpec).at F).post enc Tryz.prog Tryz.f6 false true false false) := by
  obtain ⟨places, hx⟩ := wholeFnReads os enc
  refine returnsInHanded_of_row (C := Tryz.checked) (s := OpenSpec.ofChange Rows.fnReadsSpec) ownKnobNone started (by kernel_rfl) Tryz.func6
    (witness_row_atRef (enc := enc) (C := Tryz.checked) false (laidWorld os) #[.slice none 0 0] rfl (by kernel_rfl) (by kernel_rfl) (by kernel_rfl)
      (OpenSpec.preRow_of_cond 8 hx (by kernel_rfl) (fun k hk => by cases hk) (by kernel_rfl) (laidMetFnReads os))) ?_
  intro W base args ds gs before hval0 hW _ _ _ hL _ _
  have hval : ∀ (j : Nat) t v, Tryz.f6.params[j]? = some t → args[j]? = some v → Value.okWide Tryz.prog W .any base t v := hval0
  have hW' := hW
  obtain ⟨p, q, hA0, hV, rfl, hfz, hnd⟩ := hW
  have hA : DataW.TrodAll enc Tryz.prog W 0 (fun _ => true) true Tryz.f6.params.toList args.toList ds p := hA0
  rw [Tryz.params6] at hA hval
  obtain ⟨v0, d0, rfl, rfl, h0⟩ := trodAll_one hA
  obtain ⟨rfl, rfl⟩ := trodVars_none hV
  have hT : TT (fun b => b < W.heap.size) W.heap := tt_laid hL
  obtain ⟨c0, a0⟩ := open_Bytes (hval 0 74 v0 rfl rfl) h0
  have walk := spec_law (lawFnReads_A c0 a0.2) W #[v0] rfl (by
    intro j d hd
    rcases j with _ | j
    · simp only [List.getElem?_cons_zero, Option.some.injEq] at hd
      subst hd
      exact a0.1
    · simp at hd) hT
  refine walk.mono fun e W' ⟨he, hb⟩ => ?_
  subst he
  exact ⟨_, rfl, law_post laidOutYes (reads_all readsFnReads) rfl rfl Tryz.underlying4 rfl hW' ⟨rfl, rfl, rfl⟩ hb⟩
theorem saidFnReads : Rows.FnReadsSaid :=
  OpenClaim.holds_of_cond 6 Tryz.f6 rfl rfl rfl rfl rfl rfl rfl ⟨rfl, rfl, rfl, rfl, rfl⟩ rfl rfl rfl rfl rfl (by kernel_rfl) Tryz.func6 joinedFnReads
    (of_decide_eq_true (by kernel_rfl)) (by unfold Func.isWrapper; first | (rw [if_pos (by decide +kernel)]; kernel_rfl) | (rw [if_neg (by decide +kernel)]; exact ⟨rfl, rfl⟩))
    (fun os started H enc _ F => by rw [OpenClaim.pre_eq_preRow]; exact liftedFnReads os started H enc F)
theorem plainFnReads (f : FuncId) (fn : Func) (hf : Tryz.pinned.checked.prog.funcNamed "loop.example/g00968/laws.FnReads" = some f) (hfn : Tryz.pinned.checked.prog.funcs[f]? = some fn) :
    true = Tryz.pinned.checked.prog.looks [] ∧ ∀ (j : Nat) t, fn.params[j]? = some t → Tryz.pinned.checked.prog.wantsStandIn t = false := by
  obtain rfl : f = 6 := Option.some.inj ((show Tryz.prog.funcNamed "loop.example/g00968/laws.FnReads" = some 6 by kernel_rfl).symm.trans hf) |>.symm
  obtain rfl : fn = Tryz.f6 := (Option.some.inj (Tryz.func6.symm.trans hfn)).symm
  refine ⟨by kernel_rfl, fun j t ht => ?_⟩
  rw [Tryz.params6] at ht
  obtain rfl : t = 74 := by simpa using Array.mem_of_getElem? ht
  exact (show Tryz.prog.wantsStandIn 74 = false by kernel_rfl)
theorem goes_no {P : Program} (h : P.funcs.toList.any Func.goes = false) (f : FuncId) : P.goes f = false := by
  have h2 : ∀ g : FuncId, (P.funcs[g]?).any Func.goes = false := fun g => by
    cases e : P.funcs[g]? with
    | none => rfl
    | some fn =>
      have := List.any_eq_false.1 h fn (Array.mem_toList_iff.2 (Array.mem_of_getElem? e))
      simpa using this
  have h3 : (P.closure f).any (fun g => (P.funcs[g]?).any Func.goes) = false := by
    rw [Bool.eq_false_iff]
    intro k
    obtain ⟨g, _, hg⟩ := List.any_eq_true.1 k
    rw [h2 g] at hg
    cases hg
  have h4 : P.funcs.any Func.goes = false := by rw [← Array.any_toList]; exact h
  unfold Program.goes
  rw [h3, h4, Bool.and_false]
  rfl
theorem goesBy_no {P : Program} {c : OpenClaim} (h : P.funcs.toList.any Func.goes = false) (hs : c.start = .entering) : false = c.goesBy P := by
  unfold OpenClaim.goesBy Program.goesAt Program.goesFrom
  rw [hs]
  cases P.funcNamed c.func with
  | none => rfl
  | some f =>
    show false = (P.goes f || false)
    rw [goes_no h]
    rfl
theorem goesFnReads : false = Rows.fnReadsRow.goesBy Tryz.pinned.checked.prog := goesBy_no (show Tryz.pinned.checked.prog.funcs.toList.any Func.goes = false by kernel_rfl) rfl
theorem cardFnReads : Rows.FnReadsCardSaid :=
  Claim7.holds_tied_plain_at .later [] _ _ _ _ saidFnReads (fun _ h => by cases h) (by as_aux_lemma => kernel_rfl) (fun _ h => by cases h) fnReads_row_tie rfl ⟨rfl, rfl⟩ (by as_aux_lemma => kernel_rfl) rfl plainFnReads goesFnReads
#print axioms cardFnReads
end Go.Proofs.YtidjjfjhmlndjaaGreatDoor
