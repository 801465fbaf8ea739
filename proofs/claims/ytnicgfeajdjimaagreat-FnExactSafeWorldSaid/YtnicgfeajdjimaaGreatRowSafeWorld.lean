/- The law FnExactSafeWorld returns true for every argument. No condition. -/
import Derived.Test.YtnicgfeajdjimaaGreatOpx
import Derived.Test.YtnicgfeajdjimaaGreatSwx
import Derived.Test.YtnicgfeajdjimaaGreatJnSafeWorld
namespace Go.Proofs.YtnicgfeajdjimaaGreat
open Go.RowKit Go.ChangeShapes Go.WideShapes Go.ChangeAt

theorem fnExactSafeWorld_any (c0 l0 : ClusterD) (f0 : List FileD) (e0 : Bool) (w : World) (v0 : Value) (q0 : WorldR w v0 c0 l0 f0 e0) : Calls Tryz.prog 9 #[v0] w fun e w' => e = .returned (.bool true) ∧ Below w.heap.size w w' := by
  refine spec_law (laws_FnExactSafeWorld_D c0 l0 f0 e0 q0.2.1 q0.2.2.1 q0.2.2.2) w _ rfl fun j d hd => ?_
  rcases j with _ | j
  · simp only [List.getElem?_cons_zero, Option.some.injEq] at hd
    subst hd
    exact q0.1
  · simp at hd

theorem readsSafeWorld : ((Tryz.f9.params.toList).all fun t => Tryz.prog.readableRec t && decide (t < Tryz.prog.types.size)) = true := by kernel_rfl
set_option maxRecDepth 100000 in
set_option maxHeartbeats 1000000 in
theorem fnExactSafeWorld_lifted (os : Os) (started : os.Started) (H : Type) (enc : TypeId × Value → H) :
    ReturnsInHanded {} Tryz.checked os 9 .any (Rows.fnExactSafeWorldSpec.pre6 enc Tryz.prog Tryz.f9 Rows.fnExactSafeWorldRow.domain false) (Rows.fnExactSafeWorldSpec.post enc Tryz.prog Tryz.f9 false true false false) := by
  refine returnsInHanded_of_change (C := Tryz.checked) ownKnobNone started (by kernel_rfl) Tryz.func9
    (ChangeSpec.witness6 (enc := enc) (C := Tryz.checked) false ⟨#[], #[.agg #[.slice none 0 0, .slice none 0 0, .int .i64 0, .int .i64 0, .int .i64 0, .int .i64 0, .slice none 0 0, .slice none 0 0, .slice none 0 0, .int .i64 0, .int .i64 0, .int .i64 0, .int .i64 0, .bool false]], []⟩ 8 (by kernel_rfl) (by kernel_rfl) (by kernel_rfl) (by kernel_rfl)) ?_
  intro W base args ds gs before hval0 hW hcnd _
  have hval : ∀ (j : Nat) t v, Tryz.f9.params[j]? = some t → args[j]? = some v → Value.okWide Tryz.prog W .any base t v := hval0
  have hW' := hW
  obtain ⟨p, q, hA0, hV, rfl, hfz, hnd⟩ := hW
  have hA : DataW.TrodAll enc Tryz.prog W 0 (fun _ => true) true Tryz.f9.params.toList args.toList ds p := hA0
  rw [Tryz.params9] at hA hval
  obtain ⟨v0, d0, rfl, rfl, h0⟩ := trodAll_one hA
  obtain ⟨rfl, rfl⟩ := trodVars_none hV
  obtain ⟨c0, l0, f0, e0, a0⟩ := open_World (hval 0 73 v0 rfl rfl) h0
  refine (fnExactSafeWorld_any c0 l0 f0 e0 W v0 a0).mono fun e W' ⟨he, hb⟩ => ?_
  subst he
  exact ⟨_, rfl, law_post laidOutYes (reads_all readsSafeWorld) rfl rfl Tryz.underlying4 rfl hW' ⟨rfl, rfl, rfl⟩ hb⟩

theorem safeWorld_holds : Rows.FnExactSafeWorldSaid :=
  OpenClaim.holds_of_wide 9 Tryz.f9 rfl rfl rfl rfl rfl rfl rfl ⟨rfl, rfl, rfl, rfl, rfl⟩ rfl rfl rfl rfl rfl (by kernel_rfl) Tryz.func9 joinedSafeWorld
    (of_decide_eq_true (by kernel_rfl)) (by unfold Func.isWrapper; rw [if_neg (by decide +kernel)]; exact ⟨rfl, rfl⟩)
    (fun os started H enc _ => fnExactSafeWorld_lifted os started H enc)
#print axioms safeWorld_holds
end Go.Proofs.YtnicgfeajdjimaaGreat
