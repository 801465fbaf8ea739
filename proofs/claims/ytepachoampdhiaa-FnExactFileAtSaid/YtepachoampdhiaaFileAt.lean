/- The law FnExactFileAt returns true for every argument: every disk, every name. No condition. -/
import Derived.Test.YtepachoampdhiaaLawFileAt
import Derived.Test.YtepachoampdhiaaOpenDisk
namespace Go.Proofs.Ytepachoampdhiaa
open Go.RowKit Go.ChangeShapes Go.WideShapes Go.ChangeAt

theorem ownKnobNone : ownKnob Try.prog.godebug = none := by kernel_rfl
theorem laidOutYes : laidOutB Try.prog = true := by kernel_rfl

theorem readsFileAt : ((Try.f3.params.toList).all fun t => Try.prog.readableRec t && decide (t < Try.prog.types.size)) = true := by kernel_rfl
set_option maxRecDepth 100000 in
theorem fileAt_lifted (os : Os) (started : os.Started) (H : Type) (enc : TypeId × Value → H) :
    ReturnsInHanded {} Try.checked os 3 .any (Rows.fnExactFileAtSpec.pre6 enc Try.prog Try.f3 Rows.fnExactFileAtRow.domain false) (Rows.fnExactFileAtSpec.post enc Try.prog Try.f3 false true false false) := by
  refine returnsInHanded_of_change (C := Try.checked) ownKnobNone started (by kernel_rfl) Try.func3
    (ChangeSpec.witness6 (enc := enc) (C := Try.checked) false ⟨#[], #[.agg #[.slice none 0 0], .string ⟨#[]⟩], []⟩ 8 (by kernel_rfl) (by kernel_rfl) (by kernel_rfl) (by kernel_rfl)) ?_
  intro W base args ds gs before hval0 hW hcnd _
  have hval : ∀ (j : Nat) t v, Try.f3.params[j]? = some t → args[j]? = some v → Value.okWide Try.prog W .any base t v := hval0
  have hW' := hW
  obtain ⟨p, q, hA0, hV, rfl, hfz, hnd⟩ := hW
  have hA : DataW.TrodAll enc Try.prog W 0 (fun _ => true) true Try.f3.params.toList args.toList ds p := hA0
  rw [Try.params3] at hA hval
  obtain ⟨v0, v1, d0, d1, p0, p1, rfl, rfl, rfl, h0, h1⟩ := trodAll_two hA
  obtain ⟨rfl, rfl⟩ := trodVars_none hV
  obtain ⟨u, fs, rfl, hu⟩ := open_Disk (hval 0 24 v0 rfl rfl) h0
  obtain ⟨s, rfl, hs⟩ := open_Str (hval 1 9 v1 rfl rfl) h1
  refine (lawFileAt_any u fs s W hu (files_ok hu) hs).mono fun e W' ⟨he, hb⟩ => ?_
  subst he
  exact ⟨_, rfl, law_post laidOutYes (reads_all readsFileAt) rfl rfl Try.underlying4 rfl hW' ⟨rfl, rfl, rfl⟩ hb⟩

theorem fileAt_holds : Rows.FnExactFileAtSaid :=
  OpenClaim.holds_of_wide 3 Try.f3 rfl rfl rfl rfl rfl rfl rfl ⟨rfl, rfl, rfl, rfl, rfl⟩ rfl rfl rfl rfl rfl (by kernel_rfl) Try.func3 (by kernel_rfl)
    (of_decide_eq_true (by kernel_rfl)) (by unfold Func.isWrapper; first | (rw [if_pos (by decide +kernel)]; kernel_rfl) | (rw [if_neg (by decide +kernel)]; exact ⟨rfl, rfl⟩))
    (fun os started H enc _ => fileAt_lifted os started H enc)
#print axioms fileAt_holds
end Go.Proofs.Ytepachoampdhiaa
