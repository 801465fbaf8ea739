/- The laws of what is read with its memory. -/
import Derived.Test.YtgelpicbnbpooaaGreatRd9
import Derived.Test.YtgelpicbnbpooaaGreatRdf
import Derived.Test.YtgelpicbnbpooaaGreatMk3
import Derived.Test.YtgelpicbnbpooaaGreatCl8
namespace Go.Proofs.YtgelpicbnbpooaaGreat
open Go.RowKit
set_option maxRecDepth 100000
set_option maxHeartbeats 1000000

theorem rl_fine {c : ClusterD} (h : c.fine) : c.rl := by
  have h1 := h.hlen
  have h2 := h.plen
  refine ⟨by omega, by omega, fun k => ?_, fun k => ?_⟩
  · have h3 := (h.host k).labels.len
    have h4 := (h.host k).tlen
    exact ⟨by omega, by omega⟩
  · have h3 := (h.pod k).labels.len
    have h4 := (h.pod k).tlen
    have h5 := (h.pod k).nlen
    exact ⟨by omega, by omega, by omega, fun j => by have := ((h.pod k).need j).len; show _ ≤ _; omega⟩
theorem few_of {α : Type} [Inhabited α] {P : α → Prop} {xs : List α} (h : ∀ k, k < xs.length → P (xs.getD k default)) : Few P xs := by
  refine ⟨fun x hx => ?_⟩
  obtain ⟨k, hk, rfl⟩ := List.getElem_of_mem hx
  have := h k hk
  rwa [List.getD_eq_getElem?_getD, List.getElem?_eq_getElem hk] at this
theorem labels_few {ls : List LabelD} (h : labelsB ls = true) : ls.length ≤ 10 := by
  unfold labelsB at h
  simp only [Bool.and_eq_true, decide_eq_true_eq] at h
  omega
theorem hosts_few {c : ClusterD} (h : clusterB c = true) : Few hostFew c.hosts := few_of fun k hk => by
  have h1 := cl_hosts h hk
  refine ⟨labels_few (host_labels h1), ?_⟩
  unfold hostB taintsB at h1
  simp only [Bool.and_eq_true, decide_eq_true_eq] at h1
  have := h1.2.2.1.1
  omega
theorem pods_few {c : ClusterD} (h : clusterB c = true) : Few placedFew c.pods := few_of fun k hk => by
  have h1 := cl_pods0 h hk
  refine ⟨labels_few (pod_labels h1), ?_, few_of fun j hj => ?_, ?_⟩
  · unfold podB needsB at h1
    simp only [Bool.and_eq_true, decide_eq_true_eq] at h1
    have := h1.2.2.1.1
    omega
  · unfold podB needsB at h1
    simp only [Bool.and_eq_true, decide_eq_true_eq] at h1
    have h2 := allB_at h1.2.2.1.2 hj
    unfold needB at h2
    simp only [Bool.and_eq_true] at h2
    obtain ⟨⟨_, _, h8⟩, _⟩ := h2
    show _ ≤ _
    split at h8
    · have := beq_iff_eq.1 h8
      omega
    · unfold inB at h8
      simp only [Bool.and_eq_true, decide_eq_true_eq] at h8
      omega
  · unfold podB tolersB at h1
    simp only [Bool.and_eq_true, decide_eq_true_eq] at h1
    have := h1.2.2.2.1.1
    omega
theorem nil_few {α : Type} {P : α → Prop} : Few P ([] : List α) := ⟨fun _ h => by cases h⟩
/-- What finR hands out is right, or nothing. -/
theorem fin_few {s : ByteArray} {x : ClusterD × Int} {c : ClusterD} {ok : Bool} (h : Fin (finR s x) c ok) : Few hostFew c.hosts ∧ Few placedFew c.pods := by
  have e := h.eq
  unfold finR at e
  split at e
  · rename_i hc
    injection e with e1 e2
    subst e1
    exact ⟨hosts_few hc.2, pods_few hc.2⟩
  · injection e with e1 e2
    subst e1
    exact ⟨nil_few, nil_few⟩
structure Few2 (c : ClusterD) : Prop where
  h : Few hostFew c.hosts
  p : Few placedFew c.pods
theorem few_rdC {s : ByteArray} {c : ClusterD} {ok : Bool} (h : Fin (rdC s) c ok) : Few2 c := ⟨(fin_few h).1, (fin_few h).2⟩
theorem few_zero : Few2 zeroC := ⟨nil_few, nil_few⟩

set_option maxHeartbeats 20000000 in
theorem laws_FnExactReadSnap2_D (s : ByteArray) : Spec Tryz.prog 6 [.sc (.string s)] (fun d => d = .sc (.bool true)) := by
  refine sp_ (rs := [.tmp 2]) (nt := 66) Tryz.func6 rfl fun X hX => ?_
  refine nm_ ?_
  repeat' ((first | contradiction | (with_reducible exact tt_) | (refine bk_ (fun h h' => ?_) (fun h h' => ?_)) | (refine and_ ?_ ?_) | (refine pln_ ?_) | (refine cl_ rfl _ _ (spec_ReadSnap2_D s (by omega)) rfl rfl ?_; rintro _ ⟨c, ok, hf, hc, rfl⟩; (unfold ClusterD.d)) | (refine awH_ rfl (impl_ReadSnap2_D s (by omega)) [] ?_; rintro _ _ _ ⟨c2, ok2, hf2, ⟨hc2, h8, h12, hk2⟩, rfl, rfl, rfl⟩ _; (obtain ⟨rfl, rfl⟩ := fin_same hf2 hf; have hfew := few_rdC hf; have hr1 := mkHk_rng c.hosts 1 hfew.h; have hr2 := mkPk_rng c.pods (mkHk c.hosts 1) hfew.p)) | (refine awH_ rfl (laws_markCluster_D c 1 (by decide) (by decide) (by omega) (by omega) hfew.h hfew.p) [1, 2] ?_; rintro _ _ _ ⟨rfl, rfl, rfl⟩ _) | (refine bo_ rfl [.cool 1, .frz 1, .cool 2, .frz 2] (laws_eqCluster_D c (rl_fine hc)) ?_; rintro _ rfl; refine ⟨rfl, ?_⟩) | (refine bo_ rfl [.cool 4, .frz 4, .cool 5, .frz 5] (laws_eqCluster_D c (rl_fine hc)) ?_; rintro _ rfl; refine ⟨rfl, ?_⟩) | (refine bo_ rfl [.cool 1, .frz 1, .cool 2, .frz 2] (laws_heldCluster_D c 1 (by decide) (by decide) (by omega) (by omega) hfew.h hfew.p) ?_; rintro _ rfl; refine ⟨rfl, ?_⟩) | fail) <;> (try refine nm_ ?_))
  all_goals (refine ⟨?_⟩)
  all_goals first | contradiction | rfl | (exfalso; omega) | trace_state

end Go.Proofs.YtgelpicbnbpooaaGreat
