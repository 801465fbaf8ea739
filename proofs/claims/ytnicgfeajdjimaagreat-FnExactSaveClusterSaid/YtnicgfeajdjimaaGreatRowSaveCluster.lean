/- The law FnExactSaveCluster returns true for every argument. No condition. -/
import Derived.Test.YtnicgfeajdjimaaGreatOpenDk
import Derived.Test.YtnicgfeajdjimaaGreatDk6
import Derived.Test.YtnicgfeajdjimaaGreatJnSaveCluster
namespace Go.Proofs.YtnicgfeajdjimaaGreat
open Go.RowKit Go.ChangeShapes Go.WideShapes Go.ChangeAt

theorem fnExactSaveCluster_any (c0 : List FileD) (c1 : ClusterD) (n2 : Int) (w : World) (v0 : Value) (q0 : DiskR w v0 c0) (v1 : Value) (q1 : ClusterR w v1 c1) : Calls Tryz.prog 3 #[v0, v1, .int .i64 n2] w fun e w' => e = .returned (.bool true) ∧ Below w.heap.size w w' := by
  refine spec_law (laws_FnExactSaveCluster_D c0 c1 n2 q0.2 q1.2) w _ rfl fun j d hd => ?_
  rcases j with _ | _ | _ | j
  · simp only [List.getElem?_cons_zero, Option.some.injEq] at hd
    subst hd
    exact q0.1
  · simp only [List.getElem?_cons_succ, List.getElem?_cons_zero, Option.some.injEq] at hd
    subst hd
    exact q1.1
  · simp only [List.getElem?_cons_succ, List.getElem?_cons_zero, Option.some.injEq] at hd
    subst hd
    exact ⟨rfl, rfl⟩
  · simp at hd

theorem readsSaveCluster : ((Tryz.f3.params.toList).all fun t => Tryz.prog.readableRec t && decide (t < Tryz.prog.types.size)) = true := by kernel_rfl
set_option maxRecDepth 100000 in
set_option maxHeartbeats 1000000 in
theorem fnExactSaveCluster_lifted (os : Os) (started : os.Started) (H : Type) (enc : TypeId × Value → H) :
    ReturnsInHanded {} Tryz.checked os 3 .any (Rows.fnExactSaveClusterSpec.pre6 enc Tryz.prog Tryz.f3 Rows.fnExactSaveClusterRow.domain false) (Rows.fnExactSaveClusterSpec.post enc Tryz.prog Tryz.f3 false true false false) := by
  refine returnsInHanded_of_change (C := Tryz.checked) ownKnobNone started (by kernel_rfl) Tryz.func3
    (ChangeSpec.witness6 (enc := enc) (C := Tryz.checked) false ⟨#[], #[.agg #[.slice none 0 0], .agg #[.slice none 0 0, .slice none 0 0, .int .i64 0, .int .i64 0, .int .i64 0, .int .i64 0], .int .i64 0], []⟩ 8 (by kernel_rfl) (by kernel_rfl) (by kernel_rfl) (by kernel_rfl)) ?_
  intro W base args ds gs before hval0 hW hcnd _
  have hval : ∀ (j : Nat) t v, Tryz.f3.params[j]? = some t → args[j]? = some v → Value.okWide Tryz.prog W .any base t v := hval0
  have hW' := hW
  obtain ⟨p, q, hA0, hV, rfl, hfz, hnd⟩ := hW
  have hA : DataW.TrodAll enc Tryz.prog W 0 (fun _ => true) true Tryz.f3.params.toList args.toList ds p := hA0
  rw [Tryz.params3] at hA hval
  obtain ⟨v0, v1, v2, d0, d1, d2, p0, p1, p2, rfl, rfl, rfl, h0, h1, h2⟩ := trodAll_three hA
  obtain ⟨rfl, rfl⟩ := trodVars_none hV
  obtain ⟨c0, a0⟩ := open_Disk (hval 0 24 v0 rfl rfl) h0
  obtain ⟨c1, a1⟩ := open_Cluster (hval 1 30 v1 rfl rfl) h1
  obtain ⟨n2, rfl, _⟩ := open_I (hval 2 3 v2 rfl rfl) h2
  refine (fnExactSaveCluster_any c0 c1 n2 W v0 a0 v1 a1).mono fun e W' ⟨he, hb⟩ => ?_
  subst he
  exact ⟨_, rfl, law_post laidOutYes (reads_all readsSaveCluster) rfl rfl Tryz.underlying4 rfl hW' ⟨rfl, rfl, rfl⟩ hb⟩

theorem saveCluster_holds : Rows.FnExactSaveClusterSaid :=
  OpenClaim.holds_of_wide 3 Tryz.f3 rfl rfl rfl rfl rfl rfl rfl ⟨rfl, rfl, rfl, rfl, rfl⟩ rfl rfl rfl rfl rfl (by kernel_rfl) Tryz.func3 joinedSaveCluster
    (of_decide_eq_true (by kernel_rfl)) (by unfold Func.isWrapper; rw [if_neg (by decide +kernel)]; exact ⟨rfl, rfl⟩)
    (fun os started H enc _ => fnExactSaveCluster_lifted os started H enc)
#print axioms saveCluster_holds
end Go.Proofs.YtnicgfeajdjimaaGreat
