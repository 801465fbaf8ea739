/- Mkx: Mk4, Mk5, one behind the other. -/
import Derived.Test.YtnicgfeajdjimaaGreatRd9
import Derived.Test.YtnicgfeajdjimaaGreatRdf
import Derived.Test.YtnicgfeajdjimaaGreatMk3
import Derived.Test.YtnicgfeajdjimaaGreatCl8
import Derived.Test.YtnicgfeajdjimaaGreatRd12
namespace Go.Proofs.YtnicgfeajdjimaaGreat
open Go.RowKit
set_option maxRecDepth 100000
set_option maxHeartbeats 1000000

theorem rl_fine {c : ClusterD} (h : c.fine) : c.rl := by
  have h1 := h.hlen
  have h2 := h.plen
  refine ⟨by omega, by omega, fun k => ?_, fun k => ?_⟩
  · have h3 := (h.host k).labels.len
    have h4 := (h.host k).tlen
    exact ⟨by omega, by omega⟩
  · have h3 := (h.pod k).labels.len
    have h4 := (h.pod k).tlen
    have h5 := (h.pod k).nlen
    exact ⟨by omega, by omega, by omega, fun j => by have := ((h.pod k).need j).len; show _ ≤ _; omega⟩
theorem few_of {α : Type} [Inhabited α] {P : α → Prop} {xs : List α} (h : ∀ k, k < xs.length → P (xs.getD k default)) : Few P xs := by
  refine ⟨fun x hx => ?_⟩
  obtain ⟨k, hk, rfl⟩ := List.getElem_of_mem hx
  have := h k hk
  rwa [List.getD_eq_getElem?_getD, List.getElem?_eq_getElem hk] at this
theorem labels_few {ls : List LabelD} (h : labelsB ls = true) : ls.length ≤ 10 := by
  unfold labelsB at h
  simp only [Bool.and_eq_true, decide_eq_true_eq] at h
  omega
theorem hosts_few {c : ClusterD} (h : clusterB c = true) : Few hostFew c.hosts := few_of fun k hk => by
  have h1 := cl_hosts h hk
  refine ⟨labels_few (host_labels h1), ?_⟩
  unfold hostB taintsB at h1
  simp only [Bool.and_eq_true, decide_eq_true_eq] at h1
  have := h1.2.2.1.1
  omega
theorem pods_few {c : ClusterD} (h : clusterB c = true) : Few placedFew c.pods := few_of fun k hk => by
  have h1 := cl_pods0 h hk
  refine ⟨labels_few (pod_labels h1), ?_, few_of fun j hj => ?_, ?_⟩
  · unfold podB needsB at h1
    simp only [Bool.and_eq_true, decide_eq_true_eq] at h1
    have := h1.2.2.1.1
    omega
  · unfold podB needsB at h1
    simp only [Bool.and_eq_true, decide_eq_true_eq] at h1
    have h2 := allB_at h1.2.2.1.2 hj
    unfold needB at h2
    simp only [Bool.and_eq_true] at h2
    obtain ⟨⟨_, _, h8⟩, _⟩ := h2
    show _ ≤ _
    split at h8
    · have := beq_iff_eq.1 h8
      omega
    · unfold inB at h8
      simp only [Bool.and_eq_true, decide_eq_true_eq] at h8
      omega
  · unfold podB tolersB at h1
    simp only [Bool.and_eq_true, decide_eq_true_eq] at h1
    have := h1.2.2.2.1.1
    omega
theorem nil_few {α : Type} {P : α → Prop} : Few P ([] : List α) := ⟨fun _ h => by cases h⟩
/-- What finR hands out is right, or nothing. -/
theorem fin_few {s : ByteArray} {x : ClusterD × Int} {c : ClusterD} {ok : Bool} (h : Fin (finR s x) c ok) : Few hostFew c.hosts ∧ Few placedFew c.pods := by
  have e := h.eq
  unfold finR at e
  split at e
  · rename_i hc
    injection e with e1 e2
    subst e1
    exact ⟨hosts_few hc.2, pods_few hc.2⟩
  · injection e with e1 e2
    subst e1
    exact ⟨nil_few, nil_few⟩
structure Few2 (c : ClusterD) : Prop where
  h : Few hostFew c.hosts
  p : Few placedFew c.pods
theorem few_rdC {s : ByteArray} {c : ClusterD} {ok : Bool} (h : Fin (rdC s) c ok) : Few2 c := ⟨(fin_few h).1, (fin_few h).2⟩
theorem few_zero : Few2 zeroC := ⟨nil_few, nil_few⟩

end Go.Proofs.YtnicgfeajdjimaaGreat
namespace Go.Proofs.YtnicgfeajdjimaaGreat
open Go.RowKit
set_option maxRecDepth 100000
set_option maxHeartbeats 1000000

theorem few_rd1 {s : ByteArray} {c : ClusterD} {ok : Bool} (h : Fin (rd1 s) c ok) : Few2 c := ⟨(fin_few h).1, (fin_few h).2⟩
theorem few_at2 {s : ByteArray} {c : ClusterD} {ok : Bool} (h : Fin (at2 s) c ok) : Few2 c := by
  have e := h.eq
  unfold at2 at e
  cases hb : (up23 s).2 with
  | true => rw [hb] at e; exact few_rdC ⟨e⟩
  | false => rw [hb] at e; injection e with e1 e2; subst e1; exact few_zero
theorem few_at {s : ByteArray} {k : Int} {c : ClusterD} {ok : Bool} (h : Fin (rdAt s k) c ok) : Few2 c := by
  have e := h.eq
  unfold rdAt at e
  split at e
  · unfold at1 at e
    cases hb : (up12 s).2 with
    | true => rw [hb] at e; exact few_at2 ⟨e⟩
    | false => rw [hb] at e; injection e with e1 e2; subst e1; exact few_zero
  · split at e
    · exact few_at2 ⟨e⟩
    · split at e
      · exact few_rdC ⟨e⟩
      · injection e with e1 e2; subst e1; exact few_zero
theorem few_st {s : ByteArray} {c : ClusterD} {k : Int} (h : St8 s c k) : Few2 c := by
  have e := h.eq
  unfold rdSt at e
  split at e
  · injection e with e1 e2; subst e1; exact few_zero
  · split at e
    · injection e with e1 e2; subst e1; exact few_zero
    · cases hb : (rdAt (frR s).1.2 (frR s).1.1).2 with
      | true => rw [hb] at e; injection e with e1 e2; exact few_at (ok := true) ⟨Prod.ext e1 hb⟩
      | false => rw [hb] at e; injection e with e1 e2; subst e1; exact few_zero

end Go.Proofs.YtnicgfeajdjimaaGreat
