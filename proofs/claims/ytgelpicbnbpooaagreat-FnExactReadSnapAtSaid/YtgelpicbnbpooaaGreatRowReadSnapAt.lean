/- The law FnExactReadSnapAt returns true for every argument. No condition. -/
import Derived.Test.YtgelpicbnbpooaaGreatOpen
import Derived.Test.YtgelpicbnbpooaaGreatOpenInt3
import Derived.Test.YtgelpicbnbpooaaGreatMk5
import Derived.Test.YtgelpicbnbpooaaGreatJnReadSnapAt
namespace Go.Proofs.YtgelpicbnbpooaaGreat
open Go.RowKit Go.ChangeShapes Go.WideShapes Go.ChangeAt

theorem fnExactReadSnapAt_any (s0 : ByteArray) (n1 : Int) (w : World)  : Calls Tryz.prog 9 #[.string s0, .int .i64 n1] w fun e w' => e = .returned (.bool true) ∧ Below w.heap.size w w' := by
  refine spec_law (laws_FnExactReadSnapAt_D s0 n1) w _ rfl fun j d hd => ?_
  rcases j with _ | _ | j
  · simp only [List.getElem?_cons_zero, Option.some.injEq] at hd
    subst hd
    exact ⟨rfl, rfl⟩
  · simp only [List.getElem?_cons_succ, List.getElem?_cons_zero, Option.some.injEq] at hd
    subst hd
    exact ⟨rfl, rfl⟩
  · simp at hd

theorem readsReadSnapAt : ((Tryz.f9.params.toList).all fun t => Tryz.prog.readableRec t && decide (t < Tryz.prog.types.size)) = true := by kernel_rfl
set_option maxRecDepth 100000 in
set_option maxHeartbeats 1000000 in
theorem fnExactReadSnapAt_lifted (os : Os) (started : os.Started) (H : Type) (enc : TypeId × Value → H) :
    ReturnsInHanded {} Tryz.checked os 9 .any (Rows.fnExactReadSnapAtSpec.pre6 enc Tryz.prog Tryz.f9 Rows.fnExactReadSnapAtRow.domain false) (Rows.fnExactReadSnapAtSpec.post enc Tryz.prog Tryz.f9 false true false false) := by
  refine returnsInHanded_of_change (C := Tryz.checked) ownKnobNone started (by kernel_rfl) Tryz.func9
    (ChangeSpec.witness6 (enc := enc) (C := Tryz.checked) false ⟨#[], #[.string ⟨#[]⟩, .int .i64 0], []⟩ 8 (by kernel_rfl) (by kernel_rfl) (by kernel_rfl) (by kernel_rfl)) ?_
  intro W base args ds gs before hval0 hW hcnd _
  have hval : ∀ (j : Nat) t v, Tryz.f9.params[j]? = some t → args[j]? = some v → Value.okWide Tryz.prog W .any base t v := hval0
  have hW' := hW
  obtain ⟨p, q, hA0, hV, rfl, hfz, hnd⟩ := hW
  have hA : DataW.TrodAll enc Tryz.prog W 0 (fun _ => true) true Tryz.f9.params.toList args.toList ds p := hA0
  rw [Tryz.params9] at hA hval
  obtain ⟨v0, v1, d0, d1, p0, p1, rfl, rfl, rfl, h0, h1⟩ := trodAll_two hA
  obtain ⟨rfl, rfl⟩ := trodVars_none hV
  obtain ⟨s0, rfl, _, _, a0⟩ := Go.ChangeMaps.open_string Tryz.underlying9 (hval 0 9 v0 rfl rfl) h0
  obtain ⟨n1, rfl, _⟩ := open_I (hval 1 3 v1 rfl rfl) h1
  refine (fnExactReadSnapAt_any s0 n1 W ).mono fun e W' ⟨he, hb⟩ => ?_
  subst he
  exact ⟨_, rfl, law_post laidOutYes (reads_all readsReadSnapAt) rfl rfl Tryz.underlying4 rfl hW' ⟨rfl, rfl, rfl⟩ hb⟩

theorem readSnapAt_holds : Rows.FnExactReadSnapAtSaid :=
  OpenClaim.holds_of_wide 9 Tryz.f9 rfl rfl rfl rfl rfl rfl rfl ⟨rfl, rfl, rfl, rfl, rfl⟩ rfl rfl rfl rfl rfl (by kernel_rfl) Tryz.func9 joinedReadSnapAt
    (of_decide_eq_true (by kernel_rfl)) (by unfold Func.isWrapper; rw [if_neg (by decide +kernel)]; exact ⟨rfl, rfl⟩)
    (fun os started H enc _ => fnExactReadSnapAt_lifted os started H enc)
#print axioms readSnapAt_holds
end Go.Proofs.YtgelpicbnbpooaaGreat
