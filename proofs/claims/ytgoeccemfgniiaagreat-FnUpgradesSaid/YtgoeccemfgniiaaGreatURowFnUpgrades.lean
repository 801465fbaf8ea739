/- The law FnUpgrades returns true for every argument. No condition. -/
import Derived.Test.YtgoeccemfgniiaaGreatUOpen
import Derived.Test.YtgoeccemfgniiaaGreatUUp1
import Derived.Test.YtgoeccemfgniiaaGreatUIo
namespace Go.Proofs.YtgoeccemfgniiaaGreat
open Go.RowKit Go.ChangeShapes Go.WideShapes Go.ChangeAt
theorem fnUpgrades_any (b0 : List Int) (w : World) (v0 : Value) (q0 : BytesR w v0 b0) : Calls Tryz.prog 10 #[v0] w fun e w' => e = .returned (.bool true) ∧ Below w.heap.size w w' := by
  refine spec_law (laws_FnUpgrades_D b0 q0.2) w _ rfl fun j d hd => ?_
  rcases j with _ | j
  · simp only [List.getElem?_cons_zero, Option.some.injEq] at hd
    subst hd
    exact q0.1
  · simp at hd
theorem readsFnUpgrades : ((Tryz.f10.params.toList).all fun t => Tryz.prog.readableRec t && decide (t < Tryz.prog.types.size)) = true := by kernel_rfl
set_option maxRecDepth 100000 in
set_option maxHeartbeats 1000000 in
theorem fnUpgrades_lifted (os : Os) (started : os.Started) (H : Type) (enc : TypeId × Value → H) :
    ReturnsInHanded {} Tryz.checked os 10 .any (Rows.fnUpgradesSpec.pre6 enc Tryz.prog Tryz.f10 Rows.fnUpgradesRow.domain false) (Rows.fnUpgradesSpec.post enc Tryz.prog Tryz.f10 false true false false) := by
  refine returnsInHanded_of_change (C := Tryz.checked) ownKnobNone started (by kernel_rfl) Tryz.func10
    (ChangeSpec.witness6 (enc := enc) (C := Tryz.checked) false ⟨#[], #[.slice none 0 0], []⟩ 8 (by kernel_rfl) (by kernel_rfl) (by kernel_rfl) (by kernel_rfl)) ?_
  intro W base args ds gs before hval0 hW hcnd _
  have hval : ∀ (j : Nat) t v, Tryz.f10.params[j]? = some t → args[j]? = some v → Value.okWide Tryz.prog W .any base t v := hval0
  have hW' := hW
  obtain ⟨p, q, hA0, hV, rfl, hfz, hnd⟩ := hW
  have hA : DataW.TrodAll enc Tryz.prog W 0 (fun _ => true) true Tryz.f10.params.toList args.toList ds p := hA0
  rw [Tryz.params10] at hA hval
  obtain ⟨v0, d0, rfl, rfl, h0⟩ := trodAll_one hA
  obtain ⟨rfl, rfl⟩ := trodVars_none hV
  obtain ⟨b0, a0⟩ := open_Bytes (hval 0 53 v0 rfl rfl) h0
  refine (fnUpgrades_any b0 W v0 a0).mono fun e W' ⟨he, hb⟩ => ?_
  subst he
  exact ⟨_, rfl, law_post laidOutYes (reads_all readsFnUpgrades) rfl rfl Tryz.underlying4 rfl hW' ⟨rfl, rfl, rfl⟩ hb⟩
theorem fnUpgrades_holds : Rows.FnUpgradesSaid :=
  OpenClaim.holds_of_wide 10 Tryz.f10 rfl rfl rfl rfl rfl rfl rfl ⟨rfl, rfl, rfl, rfl, rfl⟩ rfl rfl rfl rfl rfl (by kernel_rfl) Tryz.func10 joinedFnUpgrades
    (of_decide_eq_true (by kernel_rfl)) (by unfold Func.isWrapper; rw [if_neg (by decide +kernel)]; exact ⟨rfl, rfl⟩)
    (fun os started H enc _ => fnUpgrades_lifted os started H enc)
#print axioms fnUpgrades_holds
end Go.Proofs.YtgoeccemfgniiaaGreat
