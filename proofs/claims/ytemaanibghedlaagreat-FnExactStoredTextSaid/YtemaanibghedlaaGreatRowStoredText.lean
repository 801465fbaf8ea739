/- The law FnExactStoredText returns true for every argument. No condition. -/
import Derived.Test.YtemaanibghedlaaGreatOpenCl
import Derived.Test.YtemaanibghedlaaGreatSn4
import Derived.Test.YtemaanibghedlaaGreatJnStoredText
namespace Go.Proofs.YtemaanibghedlaaGreat
open Go.RowKit Go.ChangeShapes Go.WideShapes Go.ChangeAt

theorem fnExactStoredText_any (c0 : ClusterD) (n1 : Int) (w : World) (v0 : Value) (q0 : ClusterR w v0 c0) : Calls Tryz.prog 14 #[v0, .int .i64 n1] w fun e w' => e = .returned (.bool true) ∧ Below w.heap.size w w' := by
  refine spec_law (laws_FnExactStoredText_D c0 n1 q0.2) w _ rfl fun j d hd => ?_
  rcases j with _ | _ | j
  · simp only [List.getElem?_cons_zero, Option.some.injEq] at hd
    subst hd
    exact q0.1
  · simp only [List.getElem?_cons_succ, List.getElem?_cons_zero, Option.some.injEq] at hd
    subst hd
    exact ⟨rfl, rfl⟩
  · simp at hd

theorem readsStoredText : ((Tryz.f14.params.toList).all fun t => Tryz.prog.readableRec t && decide (t < Tryz.prog.types.size)) = true := by kernel_rfl
set_option maxRecDepth 100000 in
set_option maxHeartbeats 1000000 in
theorem fnExactStoredText_lifted (os : Os) (started : os.Started) (H : Type) (enc : TypeId × Value → H) :
    ReturnsInHanded {} Tryz.checked os 14 .any (Rows.fnExactStoredTextSpec.pre6 enc Tryz.prog Tryz.f14 Rows.fnExactStoredTextRow.domain false) (Rows.fnExactStoredTextSpec.post enc Tryz.prog Tryz.f14 false true false false) := by
  refine returnsInHanded_of_change (C := Tryz.checked) ownKnobNone started (by kernel_rfl) Tryz.func14
    (ChangeSpec.witness6 (enc := enc) (C := Tryz.checked) false ⟨#[], #[.agg #[.slice none 0 0, .slice none 0 0, .int .i64 0, .int .i64 0, .int .i64 0, .int .i64 0], .int .i64 0], []⟩ 8 (by kernel_rfl) (by kernel_rfl) (by kernel_rfl) (by kernel_rfl)) ?_
  intro W base args ds gs before hval0 hW hcnd _
  have hval : ∀ (j : Nat) t v, Tryz.f14.params[j]? = some t → args[j]? = some v → Value.okWide Tryz.prog W .any base t v := hval0
  have hW' := hW
  obtain ⟨p, q, hA0, hV, rfl, hfz, hnd⟩ := hW
  have hA : DataW.TrodAll enc Tryz.prog W 0 (fun _ => true) true Tryz.f14.params.toList args.toList ds p := hA0
  rw [Tryz.params14] at hA hval
  obtain ⟨v0, v1, d0, d1, p0, p1, rfl, rfl, rfl, h0, h1⟩ := trodAll_two hA
  obtain ⟨rfl, rfl⟩ := trodVars_none hV
  obtain ⟨c0, a0⟩ := open_Cluster (hval 0 30 v0 rfl rfl) h0
  obtain ⟨n1, rfl, _⟩ := open_I (hval 1 3 v1 rfl rfl) h1
  refine (fnExactStoredText_any c0 n1 W v0 a0).mono fun e W' ⟨he, hb⟩ => ?_
  subst he
  exact ⟨_, rfl, law_post laidOutYes (reads_all readsStoredText) rfl rfl Tryz.underlying4 rfl hW' ⟨rfl, rfl, rfl⟩ hb⟩

theorem storedText_holds : Rows.FnExactStoredTextSaid :=
  OpenClaim.holds_of_wide 14 Tryz.f14 rfl rfl rfl rfl rfl rfl rfl ⟨rfl, rfl, rfl, rfl, rfl⟩ rfl rfl rfl rfl rfl (by kernel_rfl) Tryz.func14 joinedStoredText
    (of_decide_eq_true (by kernel_rfl)) (by unfold Func.isWrapper; rw [if_neg (by decide +kernel)]; exact ⟨rfl, rfl⟩)
    (fun os started H enc _ => fnExactStoredText_lifted os started H enc)
#print axioms storedText_holds
end Go.Proofs.YtemaanibghedlaaGreat
