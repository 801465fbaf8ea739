/- Cl4 (what is wanted of them). -/
import Derived.Test.YtnicgfeajdjimaaGreatQCl3
namespace Go.Proofs.YtnicgfeajdjimaaGreat
open Go.RowKit
set_option linter.unusedVariables false
set_option linter.unusedSimpArgs false
set_option maxRecDepth 100000
set_option maxHeartbeats 1000000
def hostAtOk (c : ClusterD) (i : Nat) : Bool := hostB (c.hosts.getD i default) && (nextB (fun a b => lessB a.name b.name) c.hosts i && fitsB c.pods (c.hosts.getD i default))
def seqAt (c : ClusterD) (i k : Nat) : Bool := !((c.pods.getD k default).seq == (c.pods.getD i default).seq)
theorem placedB_eq (c : ClusterD) (i : Nat) : placedB c i = (podB (c.pods.getD i default).pod && (nextB (fun a b => lessB a.pod.name b.pod.name) c.pods i && (inB (c.pods.getD i default).seq 1 (c.next - 1) && ((emptyB (c.pods.getD i default).on || decide (0 ≤ hostAtB c.hosts (c.pods.getD i default).on)) && allB i (seqAt c i))))) := rfl
theorem clusterB_eq (c : ClusterD) : clusterB c = (decide (c.hosts.length ≤ 8) && (decide (c.pods.length ≤ 12) && (inB c.next 1 1000000000 && ((inB c.w1 0 10 && (inB c.w2 0 10 && inB c.w3 0 10)) && (allB c.hosts.length (hostAtOk c) && allB c.pods.length (placedB c)))))) := rfl
theorem cl_host {c : ClusterD} {m : Nat} (h : m < c.hosts.length) (hp : hostAtOk c m = false) : D.sc (.bool false) = D.sc (.bool (clusterB c)) := by
  rw [clusterB_eq, allN_no h hp]; simp
theorem cl_pod {c : ClusterD} {k : Nat} (h : k < c.pods.length) (hp : placedB c k = false) : D.sc (.bool false) = D.sc (.bool (clusterB c)) := by
  rw [clusterB_eq, allN_no h hp]; simp
set_option maxHeartbeats 6000000 in
theorem spec_ClusterOk_D (c : ClusterD) (hc : c.fine) : Spec Tryz.prog 95 [c.d] (fun d => d = .sc (.bool (clusterB c))) := by
  unfold ClusterD.d
  refine sp_ (rs := [.tmp 2]) (nt := 163) Tryz.func95 rfl fun X hX => ?_
  refine nm_ ?_
  repeat' ((first | contradiction | (with_reducible exact tt_) | ((with_reducible show Wk (AwStepF _ _ _ _ _ _ _)); first | (refine cl_ rfl _ _ (l01In_D _ _ _) rfl rfl ?_; rintro _ rfl) | (refine cl_ rfl _ _ (spec_WeightsOk_D _ _ _) rfl rfl ?_; rintro _ rfl) | (refine cl_ rfl _ _ (spec_PodOk_D (c.pods.getD k default).pod) rfl rfl ?_; rintro _ rfl) | (refine cl_ rfl _ _ (spec_HostAt_D c _ hc.hlen) rfl rfl ?_; rintro _ rfl) | (refine cl_ rfl _ _ (spec_HostOk_D (c.hosts.getD m default)) rfl rfl ?_; rintro _ rfl) | (refine cl_ rfl _ _ (spec_UsedOn_D c _ hc) rfl rfl ?_; rintro _ rfl)) | ((with_reducible show Wk (AwStep _ _ _ _ _)); first | (refine pln_ ?_)) | ((with_reducible show Wk (AwCode _ _ _ _ _)); first | (refine wo_ (id := 7) [] [(0, true), (1, true), (2, false), (3, true), (4, true), (5, true), (6, true), (7, true), (8, true), (9, true), (10, true), (11, true), (12, true), (13, true), (14, true), (16, true), (17, true), (18, true), (15, false), (19, true), (20, true), (21, true), (22, true), (23, true), (24, true), (25, true), (26, true), (27, true), (28, false), (29, true), (30, true), (31, true), (32, true), (33, true), (34, true), (35, true), (36, true), (37, true), (38, true), (39, false), (40, true), (41, true), (42, true)] ?_) | (refine wo_ (id := 12) [] [(0, true), (1, true), (2, true), (3, true), (4, true), (5, true), (6, true), (7, true), (8, true)] ?_) | (refine wo_ (id := 18) [] [(0, true), (1, false), (2, true), (3, true), (4, true), (5, true), (6, true), (7, true), (8, true), (9, true), (10, true), (11, true), (12, true), (14, true), (15, true), (13, false), (16, true), (17, true), (18, true)] ?_) | (refine lpU_ 0xa (ι := Nat) (fun k => [(3, .sc (.int .i64 (k : Int)))]) (fun k => k ≤ c.pods.length ∧ ∀ j : Nat, j < k → placedB c j = true) (fun k => c.pods.length - k) 0 ?_ ?_; (focus (exact ⟨by omega, allN_zero⟩)); rintro _ hN0 k hinv; (try dsimp only at hinv); obtain ⟨hk, hj⟩ := hinv; replace hj := Lib.hid hj; skip) | (refine lpU_ 0x3a (ι := Nat) (fun q => [(5, .sc (.int .i64 (q : Int)))]) (fun q => q ≤ k ∧ ∀ j : Nat, j < q → seqAt c k j = true) (fun q => k - q) 0 ?_ ?_; (focus (exact ⟨by omega, allN_zero⟩)); rintro _ hN1 q hinv; (try dsimp only at hinv); obtain ⟨hkq, hjq⟩ := hinv; replace hjq := Lib.hid hjq; skip) | (refine lpU_ 0x42 (ι := Nat) (fun m => [(6, .sc (.int .i64 (m : Int)))]) (fun m => m ≤ c.hosts.length ∧ ∀ j : Nat, j < m → hostAtOk c j = true) (fun m => c.hosts.length - m) 0 ?_ ?_; (focus (exact ⟨by omega, allN_zero⟩)); rintro _ hN2 m hinv; (try dsimp only at hinv); obtain ⟨hkm, hjm⟩ := hinv; replace hjm := Lib.hid hjm; skip)) | ((with_reducible show Wk (boolK _ _ _ _)); first | (refine bk_ (fun h h' => ?_) (fun h h' => ?_))) | ((with_reducible show Wk (_ ∧ _)); first | (refine and_ ?_ ?_)) | (refine hN0.go (k + 1) ?_ ?_; (focus (exact ⟨by show k + 1 ≤ c.pods.length; omega, allN_step hj.out (by rw [placedB_eq, allN_yes (n := k) (p := seqAt c k) (by omega) hjq.out]; unfold nextB; simp_all)⟩)); (focus (show c.pods.length - (k + 1) < c.pods.length - k; omega))) | (refine hN1.go (q + 1) ?_ ?_; (focus (exact ⟨by show q + 1 ≤ k; omega, allN_step hjq.out (by unfold seqAt; simp_all)⟩)); (focus (show k - (q + 1) < k - q; omega))) | (refine hN2.go (m + 1) ?_ ?_; (focus (exact ⟨by show m + 1 ≤ c.hosts.length; omega, allN_step hjm.out (by unfold hostAtOk nextB fitsB; cases hu : usedB c.pods (c.hosts.getD m default).name <;> simp_all)⟩)); (focus (show c.hosts.length - (m + 1) < c.hosts.length - m; omega))) | fail) <;> (try refine nm_ ?_))
  all_goals (refine ⟨?_⟩)
  all_goals first | contradiction | (exfalso; omega) | (rw [clusterB_eq, allN_yes (n := c.pods.length) (p := placedB c) (k := k) (by omega) hj.out, allN_yes (n := c.hosts.length) (p := hostAtOk c) (k := m) (by omega) hjm.out, show decide (c.hosts.length ≤ 8) = true from decide_eq_true (by omega), show decide (c.pods.length ≤ 12) = true from decide_eq_true (by omega)]; simp_all; done) | (refine cl_host (m := m) ?_ ?_; (focus (omega; done)); (focus (unfold hostAtOk nextB fitsB; rcases hu : usedB c.pods (c.hosts.getD m default).name with _ | ⟨a, b, n⟩ <;> first | (simp_all; done) | (simp_all; omega); done))) | (refine cl_pod (k := k) ?_ ?_; (focus (omega; done)); (focus (rw [placedB_eq, allN_no (n := k) (p := seqAt c k) (k := q) (by omega) (by unfold seqAt; simp_all)]; simp; done))) | (refine cl_pod (k := k) ?_ ?_; (focus (omega; done)); (focus (rw [placedB_eq]; unfold nextB; first | (simp_all; done) | (simp_all; omega); done))) | (rw [clusterB_eq]; rw [Bool.not_eq_true'] at h; rw [h]; simp; done) | (rw [clusterB_eq]; simp_all; done) | (rw [clusterB_eq]; simp_all; omega) | trace_state
def hostPlain (c : ClusterD) (i : Nat) : Bool := (c.hosts.getD i default).slots == 20 && !decide (0 < (c.hosts.getD i default).taints.length)
def needPlain (ns : List NeedD) (j : Nat) : Bool := (ns.getD j default).op == 1 && (((ns.getD j default).values.length : Int) == 1)
def podPlain (c : ClusterD) (i : Nat) : Bool := (c.pods.getD i default).pod.rank == 0 && (!decide (0 < (c.pods.getD i default).pod.tolers.length) && allB (c.pods.getD i default).pod.needs.length (needPlain (c.pods.getD i default).pod.needs))
def plainB (c : ClusterD) : Bool := allB c.hosts.length (hostPlain c) && allB c.pods.length (podPlain c)
def usualB (c : ClusterD) : Bool := c.w1 == 2 && (c.w2 == 1 && c.w3 == 3)
def expB (c : ClusterD) (k : Int) : Bool := inB k 1 3 && (clusterB c && ((!decide (k < 3) || usualB c) && (decide (k > 1) || plainB c)))
def oldB (c : ClusterD) : Int := if expB c 1 then 1 else if expB c 2 then 2 else if expB c 3 then 3 else 0
theorem oldB_hit {c : ClusterD} {k : Nat} (h1 : 1 ≤ k) (h2 : k ≤ 3) (hk : expB c k = true) (hj : ∀ j : Nat, j < k → (decide (j = 0) || !expB c j) = true) : oldB c = (k : Int) := by
  unfold oldB
  obtain rfl | rfl | rfl : k = 1 ∨ k = 2 ∨ k = 3 := by omega
  · have hk' : expB c 1 = true := hk
    rw [if_pos hk']; rfl
  · have a := hj 1 (by omega)
    simp at a hk
    simp [a, hk]
  · have a := hj 1 (by omega)
    have b := hj 2 (by omega)
    simp at a b hk
    simp [a, b, hk]
theorem oldB_none {c : ClusterD} {k : Nat} (h2 : 3 < k) (hj : ∀ j : Nat, j < k → (decide (j = 0) || !expB c j) = true) : oldB c = 0 := by
  unfold oldB
  have a := hj 1 (by omega)
  have b := hj 2 (by omega)
  have d := hj 3 (by omega)
  simp at a b d
  simp [a, b, d]
set_option maxHeartbeats 4000000 in
theorem spec_l27Plain_D (c : ClusterD) (hc : c.fine) : Spec Tryz.prog 99 [c.d] (fun d => d = .sc (.bool (plainB c))) := by
  unfold ClusterD.d; have hc1 := hc.hlen; have hc2 := hc.plen
  refine sp_ (rs := [.tmp 2]) (nt := 77) Tryz.func99 rfl fun X hX => ?_
  refine nm_ ?_
  repeat' ((first | contradiction | (with_reducible exact tt_) | ((with_reducible show Wk (AwStep _ _ _ _ _)); first | (refine pln_ ?_)) | ((with_reducible show Wk (AwCode _ _ _ _ _)); first | (refine lpU_ 0xa (ι := Nat) (fun m => [(3, .sc (.int .i64 (m : Int)))]) (fun m => m ≤ c.hosts.length ∧ ∀ j : Nat, j < m → hostPlain c j = true) (fun m => c.hosts.length - m) 0 ?_ ?_; (focus (exact ⟨by omega, allN_zero⟩)); rintro _ hN0 m hinv; (try dsimp only at hinv); obtain ⟨hkm, hjm⟩ := hinv; replace hjm := Lib.hid hjm; skip) | (refine lpU_ 0x12 (ι := Nat) (fun k => [(4, .sc (.int .i64 (k : Int)))]) (fun k => k ≤ c.pods.length ∧ ∀ j : Nat, j < k → podPlain c j = true) (fun k => c.pods.length - k) 0 ?_ ?_; (focus (exact ⟨by omega, allN_zero⟩)); rintro _ hN1 k hinv; (try dsimp only at hinv); obtain ⟨hk, hj⟩ := hinv; replace hj := Lib.hid hj; have hq0 := (hc.pod k).nlen; skip) | (refine lpU_ 0x72 (ι := Nat) (fun q => [(6, .sc (.int .i64 (q : Int)))]) (fun q => q ≤ (c.pods.getD k default).pod.needs.length ∧ ∀ j : Nat, j < q → needPlain (c.pods.getD k default).pod.needs j = true) (fun q => (c.pods.getD k default).pod.needs.length - q) 0 ?_ ?_; (focus (exact ⟨by omega, allN_zero⟩)); rintro _ hN2 q hinv; (try dsimp only at hinv); obtain ⟨hkq, hjq⟩ := hinv; replace hjq := Lib.hid hjq; skip)) | ((with_reducible show Wk (boolK _ _ _ _)); first | (refine bk_ (fun h h' => ?_) (fun h h' => ?_))) | ((with_reducible show Wk (_ ∧ _)); first | (refine and_ ?_ ?_)) | (refine hN0.go (m + 1) ?_ ?_; (focus (exact ⟨by show m + 1 ≤ c.hosts.length; omega, allN_step hjm.out (by unfold hostPlain; simp_all)⟩)); (focus (show c.hosts.length - (m + 1) < c.hosts.length - m; omega))) | (refine hN1.go (k + 1) ?_ ?_; (focus (exact ⟨by show k + 1 ≤ c.pods.length; omega, allN_step hj.out (by unfold podPlain; rw [allN_yes (n := (c.pods.getD k default).pod.needs.length) (p := needPlain (c.pods.getD k default).pod.needs) (by omega) hjq.out]; simp_all)⟩)); (focus (show c.pods.length - (k + 1) < c.pods.length - k; omega))) | (refine hN2.go (q + 1) ?_ ?_; (focus (exact ⟨by show q + 1 ≤ (c.pods.getD k default).pod.needs.length; omega, allN_step hjq.out (by unfold needPlain; simp_all)⟩)); (focus (show (c.pods.getD k default).pod.needs.length - (q + 1) < (c.pods.getD k default).pod.needs.length - q; omega))) | fail) <;> (try refine nm_ ?_))
  all_goals (refine ⟨?_⟩)
  all_goals first | contradiction | (rw [plainB, allN_no (n := c.hosts.length) (p := hostPlain c) (k := m) (by omega) (by unfold hostPlain; simp_all)]; rfl) | (have e := allN_no (n := (c.pods.getD k default).pod.needs.length) (p := needPlain (c.pods.getD k default).pod.needs) (k := q) (by omega) (by unfold needPlain; simp_all); rw [plainB, allN_no (n := c.pods.length) (p := podPlain c) (k := k) (by omega) (by unfold podPlain; rw [e]; simp)]; simp; done) | (rw [plainB, allN_no (n := c.pods.length) (p := podPlain c) (k := k) (by omega) (by unfold podPlain; simp_all)]; simp; done) | (rw [plainB, allN_yes (n := c.hosts.length) (p := hostPlain c) (k := m) (by omega) hjm.out, allN_yes (n := c.pods.length) (p := podPlain c) (k := k) (by omega) hj.out]; rfl) | trace_state
theorem spec_Expressible_D (c : ClusterD) (k : Int) (hc : c.fine) : Spec Tryz.prog 31 [c.d, .sc (.int .i64 k)] (fun d => d = .sc (.bool (expB c k))) := by
  unfold ClusterD.d
  refine sp_ (rs := [.tmp 4]) (nt := 29) Tryz.func31 rfl fun X hX => ?_
  refine nm_ ?_
  repeat' ((first | contradiction | (with_reducible exact tt_) | ((with_reducible show Wk (AwStepF _ _ _ _ _ _ _)); first | (refine cl_ rfl _ _ (l01In_D _ _ _) rfl rfl ?_; rintro _ rfl) | (refine cl_ rfl _ _ (spec_ClusterOk_D c hc) rfl rfl ?_; rintro _ rfl) | (refine cl_ rfl _ _ (spec_UsualWeights_D) rfl rfl ?_; rintro _ rfl) | (refine cl_ rfl _ _ (spec_l27Plain_D c hc) rfl rfl ?_; rintro _ rfl) | (refine eqg_ rfl ?_)) | ((with_reducible show Wk (AwStep _ _ _ _ _)); first | (refine pln_ ?_)) | ((with_reducible show Wk (AwCode _ _ _ _ _)); first | (refine wo_ (id := 1) [] [(0, true), (1, false), (2, true), (3, true), (4, true), (5, false), (6, true), (7, true), (8, true), (9, true), (10, true), (11, true), (12, true), (13, true), (14, false), (15, false), (16, true), (17, true)] ?_)) | ((with_reducible show Wk (boolK _ _ _ _)); first | (refine bk_ (fun h h' => ?_) (fun h h' => ?_))) | ((with_reducible show Wk (_ ∧ _)); first | (refine and_ ?_ ?_)) | fail) <;> (try refine nm_ ?_))
  all_goals (refine ⟨?_⟩)
  all_goals first | contradiction | rfl | (simp_all [expB, usualB] <;> omega) | (simp [expB, usualB, *] <;> omega) | trace_state
theorem spec_OldestFor_D (c : ClusterD) (hc : c.fine) : Spec Tryz.prog 42 [c.d] (fun d => d = .sc (.int .i64 (oldB c))) := by
  unfold ClusterD.d
  refine sp_ (rs := [.tmp 2]) (nt := 12) Tryz.func42 rfl fun X hX => ?_
  refine nm_ ?_
  repeat' ((first | contradiction | (with_reducible exact tt_) | ((with_reducible show Wk (AwStepF _ _ _ _ _ _ _)); first | (refine cl_ rfl _ _ (spec_Expressible_D c _ hc) rfl rfl ?_; rintro _ rfl)) | ((with_reducible show Wk (AwStep _ _ _ _ _)); first | (refine pln_ ?_)) | ((with_reducible show Wk (AwCode _ _ _ _ _)); first | (refine lpU_ 0xa (ι := Nat) (fun k => [(3, .sc (.int .i64 (k : Int)))]) (fun k => 1 ≤ k ∧ k ≤ 4 ∧ ∀ j : Nat, j < k → (decide (j = 0) || !expB c j) = true) (fun k => 4 - k) 1 ?_ ?_; (focus (exact ⟨by omega, by omega, fun j h => by obtain rfl : j = 0 := (by omega); rfl⟩)); rintro _ hN0 k hinv; (try dsimp only at hinv); obtain ⟨h1, h2, hj⟩ := hinv; replace hj := Lib.hid hj; skip)) | ((with_reducible show Wk (boolK _ _ _ _)); first | (refine bk_ (fun h h' => ?_) (fun h h' => ?_))) | ((with_reducible show Wk (_ ∧ _)); first | (refine and_ ?_ ?_)) | (refine hN0.go (k + 1) ?_ ?_; (focus (refine ⟨by show 1 ≤ k + 1; omega, by show k + 1 ≤ 4; omega, allN_step hj.out (by simp_all)⟩)); (focus (show 4 - (k + 1) < 4 - k; omega))) | fail) <;> (try refine nm_ ?_))
  all_goals (refine ⟨?_⟩)
  all_goals first | contradiction | (rw [oldB_hit (k := k) (by omega) (by omega) (by assumption) hj.out]; done) | (rw [oldB_none (k := k) (by omega) hj.out]; done) | trace_state
end Go.Proofs.YtnicgfeajdjimaaGreat
