/- The law of the lines of a cluster. -/
import Derived.Test.YtidjjfjhmlndjaaGreatDoorLi2
import Derived.Test.YtidjjfjhmlndjaaGreatDoorTo
import Derived.Test.YtidjjfjhmlndjaaGreatDoorMk2
import Derived.Test.YtidjjfjhmlndjaaGreatDoorMk3
import Derived.Test.YtidjjfjhmlndjaaGreatDoorCl8
import Derived.Test.YtidjjfjhmlndjaaGreatDoorCl9
import Derived.Test.YtidjjfjhmlndjaaGreatDoorCl10
namespace Go.Proofs.YtidjjfjhmlndjaaGreatDoor
open Go.RowKit
set_option linter.unusedVariables false
set_option linter.unusedSimpArgs false
set_option maxRecDepth 100000
set_option maxHeartbeats 40000000

theorem few_of6 {α : Type} [Inhabited α] {P : α → Prop} {xs : List α} (h : ∀ k, P (xs.getD k default)) : Few P xs := by
  refine ⟨fun x hx => ?_⟩
  obtain ⟨k, rfl⟩ := mem_getD hx
  exact h k
theorem few_hosts {c : ClusterD} (h : c.fine) : Few hostFew c.hosts := few_of6 fun k => ⟨(h.host k).labels.len, (h.host k).tlen⟩
theorem few_pods {c : ClusterD} (h : c.fine) : Few placedFew c.pods := few_of6 fun k => ⟨(h.pod k).labels.len, (h.pod k).nlen, few_of6 fun j => ((h.pod k).need j).len, (h.pod k).tlen⟩
theorem rl_fine6 {c : ClusterD} (h : c.fine) : c.rl := by
  have h1 := h.hlen
  have h2 := h.plen
  refine ⟨by omega, by omega, fun k => ?_, fun k => ?_⟩
  · have h3 := (h.host k).labels.len
    have h4 := (h.host k).tlen
    exact ⟨by omega, by omega⟩
  · have h3 := (h.pod k).labels.len
    have h4 := (h.pod k).tlen
    have h5 := (h.pod k).nlen
    exact ⟨by omega, by omega, by omega, fun j => by have := ((h.pod k).need j).len; show _ ≤ _; omega⟩
/-- Which copy is wanted. -/
inductive Fst6 : Prop | intro
inductive Snd6 : Prop | intro
theorem fst6 {p : Prop} (_ : Fst6) (h : p) : p := h
theorem snd6 {p : Prop} (_ : Snd6) (h : p) : p := h

theorem cluL_len {c : ClusterD} (hc : c.fine) {q : List PlacedD} (hq : WtB c q) : (cluL c (wNm q q.length)).length ≤ 2097152 := by
  have h1 := hq.len
  have h2 := hc.plen
  have h3 := hc.hlen
  unfold cluL
  rw [linW_len (Nat.le_refl _), wNm_all]
  omega
theorem wtB_one {c : ClusterD} {p q : List PlacedD} (h : WtB c p) (g : WtB c q) : p = q := stb_one wt_sto h g

set_option maxHeartbeats 20000000 in
theorem lawClusterLines_A (c : ClusterD) (hcr : c.raw) : Spec Tryz.prog 3 [c.d] (fun d => d = .sc (.bool true)) := by
  unfold ClusterD.d; have hfst := Fst6.intro
  refine sp_ (rs := [.tmp 2]) (nt := 69) Tryz.func3 rfl fun X hX => ?_
  refine nm_ ?_
  repeat' ((first | contradiction | (with_reducible exact tt_) | ((with_reducible show Wk (AwStepF _ _ _ _ _ _ _)); first | (refine cl_ rfl _ _ (laws_szCluster_D c 1048576 (by decide) (by decide) hcr) rfl rfl ?_; rintro _ ⟨r2, rfl, ha2, hb2, hc2⟩; (by_cases hneg2 : r2 < 0; rotate_left; have hcf := hc2 (by omega); rotate_left)) | (refine cl_ rfl _ _ (laws_toCluster_D c (fst6 hfst hcf)) rfl rfl ?_; rintro _ rfl; (unfold ClusterD.d)) | (refine cl_ rfl _ _ (spec_ClusterLines_A c hcf) rfl rfl ?_; rintro _ ⟨q, hq, rfl⟩; (have hll := cluL_len hcf hq; generalize hL : cluL c (wNm q q.length) = L at *; replace hL := Lib.hid hL; replace hq := Lib.hid hq; have hsnd := Snd6.intro; clear hfst; have hch := hcf.hlen; have hcp := hcf.plen; have hr1 := mkHk_rng c.hosts 1 (few_hosts hcf); have hr2 := mkPk_rng c.pods (mkHk c.hosts 1) (few_pods hcf))) | (refine awH_ rfl (toCluster_H c (snd6 hsnd hcf)) [] ?_; rintro _ _ _ ⟨rfl, rfl, rfl⟩ _) | (refine awH_ rfl (laws_markCluster_D c 1 (by decide) (by decide) hcf.hlen hcf.plen (few_hosts hcf) (few_pods hcf)) [1, 2] ?_; rintro _ _ _ ⟨rfl, rfl, rfl⟩ _) | (refine awH_ rfl (laws_markStringS_D L 1 (by decide) (by decide) (by omega)) [4] ?_; rintro _ _ _ ⟨rfl, rfl, rfl⟩ _) | (refine bo_ rfl [.frz 4] (laws_eqStringS_D L (by omega)) ?_; rintro _ rfl; refine ⟨rfl, ?_⟩) | (refine bo_ rfl [.frz 9] (laws_eqStringS_D L (by omega)) ?_; rintro _ rfl; refine ⟨rfl, ?_⟩) | (refine bo_ rfl [.cool 1, .frz 1, .cool 2, .frz 2, .cool 5, .frz 5, .cool 6, .frz 6] (laws_eqCluster_D c (rl_fine6 hcf)) ?_; rintro _ rfl; refine ⟨rfl, ?_⟩) | (refine bo_ rfl [.frz 4] (laws_heldStringS_D L.length 1 (by decide) (by decide) (by omega)) ?_; rintro _ rfl; refine ⟨rfl, ?_⟩) | (refine boH_ rfl [.cool 1, .frz 1, .cool 2, .frz 2] (impl_ClusterLines_A c (snd6 hsnd hcf)) ?_; rintro _ _ _ ⟨q2, hq2, rfl, rfl, rfl⟩; refine ⟨⟨rfl, dryO_⟩, ?_⟩; (obtain rfl := wtB_one hq2 hq.out; simp only [hL.out])) | (refine boH_ rfl [.cool 7, .frz 7, .cool 8, .frz 8] (impl_ClusterLines_A c (snd6 hsnd hcf)) ?_; rintro _ _ _ ⟨q3, hq3, rfl, rfl, rfl⟩; refine ⟨⟨rfl, dryO_⟩, ?_⟩; (obtain rfl := wtB_one hq3 hq.out; simp only [hL.out]))) | ((with_reducible show Wk (AwStep _ _ _ _ _)); first | (refine pln_ ?_)) | ((with_reducible show Wk (AwCode _ _ _ _ _)); first | (refine wo_ (id := 10) [] [(0, true), (1, true), (2, false), (3, false), (4, true)] ?_)) | ((with_reducible show Wk (boolK _ _ _ _)); first | (refine bk_ (fun h h' => ?_) (fun h h' => ?_))) | ((with_reducible show Wk (_ ∧ _)); first | (refine and_ ?_ ?_)) | fail) <;> (try refine nm_ ?_))
  all_goals (refine ⟨?_⟩)
  all_goals first | contradiction | rfl | (exfalso; omega) | trace_state

end Go.Proofs.YtidjjfjhmlndjaaGreatDoor
