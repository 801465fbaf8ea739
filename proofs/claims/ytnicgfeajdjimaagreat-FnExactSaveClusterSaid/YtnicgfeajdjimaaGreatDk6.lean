/- A cluster is saved on a disk. -/
import Derived.Test.YtnicgfeajdjimaaGreatDk5
import Derived.Test.YtnicgfeajdjimaaGreatDk2
import Derived.Test.YtnicgfeajdjimaaGreatSn4
import Derived.Test.YtnicgfeajdjimaaGreatTo
import Derived.Test.YtnicgfeajdjimaaGreatMk2
import Derived.Test.YtnicgfeajdjimaaGreatMk3
import Derived.Test.YtnicgfeajdjimaaGreatCl8
import Derived.Test.YtnicgfeajdjimaaGreatCl10
import Derived.Test.YtnicgfeajdjimaaGreatJo
import Derived.Test.YtnicgfeajdjimaaGreatFlt
namespace Go.Proofs.YtnicgfeajdjimaaGreat
open Go.RowKit
set_option linter.unusedVariables false
set_option linter.unusedSimpArgs false
set_option maxRecDepth 100000
set_option maxHeartbeats 4000000

def svR (fs : List FileD) (c : ClusterD) (k : Int) : List FileD × Int := if storedN c k = 0 then tillR fs (storedT c k) 3 else (fs, storedN c k)
theorem sv_0 {fs : List FileD} {c : ClusterD} {k : Int} (h : storedN c k = 0) : svR fs c k = tillR fs (storedT c k) 3 := if_pos h
theorem sv_1 {fs : List FileD} {c : ClusterD} {k : Int} (h : ¬ storedN c k = 0) : svR fs c k = (fs, storedN c k) := if_neg h
theorem few_of6 {α : Type} [Inhabited α] {P : α → Prop} {xs : List α} (h : ∀ k, P (xs.getD k default)) : Few P xs := by
  refine ⟨fun x hx => ?_⟩
  obtain ⟨k, rfl⟩ := mem_getD hx
  exact h k
theorem few_hosts {c : ClusterD} (h : c.fine) : Few hostFew c.hosts := few_of6 fun k => ⟨(h.host k).labels.len, (h.host k).tlen⟩
theorem few_pods {c : ClusterD} (h : c.fine) : Few placedFew c.pods := few_of6 fun k => ⟨(h.pod k).labels.len, (h.pod k).nlen, few_of6 fun j => ((h.pod k).need j).len, (h.pod k).tlen⟩
theorem rl_fine6 {c : ClusterD} (h : c.fine) : c.rl := by
  have h1 := h.hlen
  have h2 := h.plen
  refine ⟨by omega, by omega, fun k => ?_, fun k => ?_⟩
  · have h3 := (h.host k).labels.len
    have h4 := (h.host k).tlen
    exact ⟨by omega, by omega⟩
  · have h3 := (h.pod k).labels.len
    have h4 := (h.pod k).tlen
    have h5 := (h.pod k).nlen
    exact ⟨by omega, by omega, by omega, fun j => by have := ((h.pod k).need j).len; show _ ≤ _; omega⟩
/-- Which copy is wanted. -/
inductive Fst6 : Prop | intro
inductive Snd6 : Prop | intro
theorem fst6 {p : Prop} (_ : Fst6) (h : p) : p := h
theorem snd6 {p : Prop} (_ : Snd6) (h : p) : p := h
theorem mkF_at : ∀ (n : Nat) (k : Int) (i : Nat), i < n → (mkF n k).getD i default = ⟨markT (k + 3 * (i : Int)).toNat, markT (k + 3 * (i : Int) + 1).toNat, k + 3 * (i : Int) + 1 + 1⟩
  | n + 1, k, 0, _ => by
    show (⟨markT k.toNat, markT (k + 1).toNat, k + 1 + 1⟩ : FileD) = _
    rw [show k + 3 * ((0 : Nat) : Int) = k by omega]
  | n + 1, k, i + 1, h => by
    show (mkF n (k + 1 + 1 + 1)).getD i default = _
    rw [mkF_at n (k + 1 + 1 + 1) i (by omega), show k + 1 + 1 + 1 + 3 * (i : Int) = k + 3 * ((i + 1 : Nat) : Int) by omega]
theorem sv_len {fs : List FileD} {c : ClusterD} {k : Int} (h : DiskF fs) (hn : fs.length ≤ 1048576) : (svR fs c k).1.length ≤ 1048576 := by
  unfold svR
  split
  · have h1 := (steps_fine (tx := storedT c k) (min (3 : Int) 3).toNat 0 h).len
    show (stepsR (storedT c k) (min (3 : Int) 3).toNat 0 fs).1.length ≤ _
    rcases h1 with h1 | h1 <;> omega
  · exact hn

theorem impl_SaveCluster_D (fs : List FileD) (c : ClusterD) (k : Int) (hc : c.fine) (hf : DiskF fs) (hn : fs.length ≤ 1048576) : SpecH Tryz.prog 17 [.agg [.sl fs.length (filesD fs)], c.d, .sc (.int .i64 k)] [] 0 (fun d os' nb' => d = .tup [.agg [.own 0 0 (svR fs c k).1.length], .sc (.int .i64 (svR fs c k).2)] ∧ os' = [(0, ⟨160, 3, ((svR fs c k).1).length, filesD ((svR fs c k).1)⟩)] ∧ nb' = 1) := by
  unfold ClusterD.d
  refine spH_ (rs := [.cell 6 35, .tmp 7]) (nt := 26) Tryz.func17 rfl fun X hX => ?_
  refine nm_ ?_
  repeat' ((first | contradiction | (with_reducible exact tt_) | ((with_reducible show Wk (AwStepF _ _ _ _ _ _ _)); first | (refine cl_ rfl _ _ (impl_StoredText_D c k hc) rfl rfl ?_; rintro _ ⟨rfl, hts⟩) | (refine awH_ rfl (impl_copyDisk_D fs hf.len) [] ?_; rintro _ _ _ ⟨rfl, rfl, rfl⟩ _) | (refine awH_ rfl (impl_SavedTill_D fs (storedT c k) 3 (by omega) hf hn) [] ?_; rintro _ _ _ ⟨rfl, rfl, rfl⟩ _)) | ((with_reducible show Wk (AwStep _ _ _ _ _)); first | (refine pln_ ?_)) | ((with_reducible show Wk (boolK _ _ _ _)); first | (refine bk_ (fun h h' => ?_) (fun h h' => ?_))) | ((with_reducible show Wk (_ ∧ _)); first | (refine and_ ?_ ?_)) | ((with_reducible show Wk (retOkH _ _ _ _ _)); first | (refine rh_ [2] ?_; refine nm_ ?_; fail_if_success (show Wk False)) | (refine rh_ [3] ?_; refine nm_ ?_; fail_if_success (show Wk False)) | (refine rh_ [4] ?_; refine nm_ ?_; fail_if_success (show Wk False))) | fail) <;> (try refine nm_ ?_))
  all_goals (refine ⟨?_⟩)
  all_goals first | contradiction | (exfalso; omega) | (rw [sv_0 (by omega)] <;> first | exact ⟨rfl, rfl, rfl⟩ | rfl) | (rw [sv_1 (by omega)] <;> first | exact ⟨rfl, rfl, rfl⟩ | rfl) | trace_state

theorem spec_SaveCluster_D (fs : List FileD) (c : ClusterD) (k : Int) (hc : c.fine) (hf : DiskF fs) (hn : fs.length ≤ 1048576) : Spec Tryz.prog 14 [.agg [.sl fs.length (filesD fs)], c.d, .sc (.int .i64 k)] (fun d => d = .tup [.agg [.sl (svR fs c k).1.length (filesD (svR fs c k).1)], .sc (.int .i64 (svR fs c k).2)]) := by
  unfold ClusterD.d
  refine sp_ (rs := [.cell 6 35, .tmp 7]) (nt := 26) Tryz.func14 rfl fun X hX => ?_
  refine nm_ ?_
  repeat' ((first | contradiction | (with_reducible exact tt_) | ((with_reducible show Wk (AwStepF _ _ _ _ _ _ _)); first | (refine cl_ rfl _ _ (spec_StoredText_D c k hc) rfl rfl ?_; rintro _ ⟨rfl, hts⟩) | (refine cl_ rfl _ _ (spec_l29Copy_D fs hf.len) rfl rfl ?_; rintro _ rfl) | (refine cl_ rfl _ _ (spec_SavedTill_D fs (storedT c k) 3 (by omega) hf hn) rfl rfl ?_; rintro _ rfl)) | ((with_reducible show Wk (AwStep _ _ _ _ _)); first | (refine pln_ ?_)) | ((with_reducible show Wk (boolK _ _ _ _)); first | (refine bk_ (fun h h' => ?_) (fun h h' => ?_))) | ((with_reducible show Wk (_ ∧ _)); first | (refine and_ ?_ ?_)) | fail) <;> (try refine nm_ ?_))
  all_goals (refine ⟨?_⟩)
  all_goals first | contradiction | (exfalso; omega) | (rw [sv_0 (by omega)] <;> rfl) | (rw [sv_1 (by omega)] <;> rfl) | trace_state

theorem laws_heldFileS_D (n : Nat) (k0 : Int) (h0 : 0 < k0) (h1 : k0 ≤ 100000000) (hn : n ≤ 1048580) : Spec Tryz.prog 85 [.sl n (filesD (mkF n k0)), .sc (.int .i64 k0)] (fun d => d = .sc (.int .i64 (k0 + 3 * (n : Int)))) := by
  have hat := mkF_at n k0; have hln := mkF_len n k0
  have ex0 := @mkF_len; have ex1 := @eqB_self
  refine sp_ (rs := [.tmp 4]) (nt := 42) Tryz.func85 rfl fun X hX => ?_
  refine nm_ ?_
  repeat' ((first | contradiction | (with_reducible exact tt_) | ((with_reducible show Wk (AwStepF _ _ _ _ _ _ _)); first | (refine cl_ rfl _ _ (laws_markText_D _ (by omega) (by omega)) rfl rfl ?_; rintro _ ⟨rfl, hz⟩)) | ((with_reducible show Wk (AwStep _ _ _ _ _)); first | (refine pln_ ?_)) | ((with_reducible show Wk (AwCode _ _ _ _ _)); first | (refine wo_ (id := 4) [] [(0, true), (1, true), (2, true), (3, true), (4, true), (5, true), (6, false), (7, true)] ?_) | (refine wo_ (id := 7) [] [(0, true), (1, true), (2, true), (3, true), (4, true), (5, true), (6, false), (7, true)] ?_) | (refine lpU_ 0x23 (ι := Nat × Int) (fun ⟨i, k⟩ => [(1, .sc (.int .i64 k)), (5, .sc (.int .i64 (i : Int)))]) (fun ⟨i, k⟩ => i ≤ n ∧ k = k0 + 3 * (i : Int)) (fun ⟨i, k⟩ => n - i) (0, k0) ?_ ?_; (focus (exact ⟨Nat.zero_le _, by omega⟩)); rintro _ hN0 ⟨i, k⟩ hinv; (try dsimp only at hinv); obtain ⟨hi, hk⟩ := hinv; by_cases hlt : i < n; have hx := hat i hlt; subst hk; skip)) | ((with_reducible show Wk (boolK _ _ _ _)); first | (refine bk_ (fun h h' => ?_) (fun h h' => ?_))) | ((with_reducible show Wk (_ ∧ _)); first | (refine and_ ?_ ?_)) | (refine hN0.go ((i + 1, _)) ?_ ?_; (focus (exact ⟨by show i + 1 ≤ n; omega, by show _ = k0 + 3 * ((i + 1 : Nat) : Int); omega⟩)); (focus (show n - (i + 1) < n - i; omega))) | fail) <;> (try refine nm_ ?_))
  all_goals clear ex0 ex1
  all_goals (refine ⟨?_⟩)
  all_goals first | contradiction | (exfalso; omega) | (exfalso; simp_all; done) | (obtain rfl : i = n := (by omega); rfl) | trace_state

theorem laws_heldDisk_D (n : Nat) (k0 : Int) (h0 : 0 < k0) (h1 : k0 ≤ 100000000) (hn : n ≤ 1048580) : Spec Tryz.prog 22 [.agg [.sl n (filesD (mkF n k0))], .sc (.int .i64 k0)] (fun d => d = .sc (.int .i64 (k0 + 3 * (n : Int)))) := by
  refine sp_ (rs := [.tmp 4]) (nt := 12) Tryz.func22 rfl fun X hX => ?_
  refine nm_ ?_
  repeat' ((first | contradiction | (with_reducible exact tt_) | ((with_reducible show Wk (AwStepF _ _ _ _ _ _ _)); first | (refine cl_ rfl _ _ (laws_heldFileS_D n k0 h0 h1 hn) rfl rfl ?_; rintro _ rfl)) | ((with_reducible show Wk (AwStep _ _ _ _ _)); first | (refine pln_ ?_)) | ((with_reducible show Wk (boolK _ _ _ _)); first | (refine bk_ (fun h h' => ?_) (fun h h' => ?_))) | ((with_reducible show Wk (_ ∧ _)); first | (refine and_ ?_ ?_)) | fail) <;> (try refine nm_ ?_))
  all_goals (refine ⟨?_⟩)
  all_goals first | contradiction | (exfalso; omega) | rfl | trace_state

set_option maxHeartbeats 20000000 in
theorem laws_FnExactSaveCluster_D (fs : List FileD) (c : ClusterD) (k : Int) (hr : rowRaw FileD.raw fs) (hcr : c.raw) : Spec Tryz.prog 3 [.agg [.sl fs.length (filesD fs)], c.d, .sc (.int .i64 k)] (fun d => d = .sc (.bool true)) := by
  unfold ClusterD.d; have hfst := Fst6.intro
  refine sp_ (rs := [.tmp 6]) (nt := 124) Tryz.func3 rfl fun X hX => ?_
  refine nm_ ?_
  repeat' ((first | contradiction | (with_reducible exact tt_) | ((with_reducible show Wk (AwStepF _ _ _ _ _ _ _)); first | (refine cl_ rfl _ _ (laws_szDisk_D fs _ (by omega) (by omega) hr) rfl rfl ?_; rintro _ ⟨r1, rfl, ha1, hb1, hc1⟩; (by_cases hneg : r1 < 0; rotate_left; obtain ⟨hfd, hln⟩ := diskF_row (hc1 (by omega)); rotate_left)) | (refine cl_ rfl _ _ (laws_szCluster_D c r1 (by omega) (by omega) hcr) rfl rfl ?_; rintro _ ⟨r2, rfl, ha2, hb2, hc2⟩; (by_cases hneg2 : r2 < 0; rotate_left; have hcf := hc2 (by omega); rotate_left)) | (refine cl_ rfl _ _ (laws_toCluster_D c (fst6 hfst hcf)) rfl rfl ?_; rintro _ rfl; (unfold ClusterD.d)) | (refine awH_ rfl (laws_toDisk_D fs hln) [] ?_; rintro _ _ _ ⟨rfl, rfl, rfl⟩ _) | (refine awH_ rfl (toCluster_H c (snd6 hsnd hcf)) [] ?_; rintro _ _ _ ⟨rfl, rfl, rfl⟩ _) | ((with_reducible show Wk (AwStepF _ _ { dst := some 70, op := _, type := _, pos := _, after := _, guard := _ } _ _ _ _)); (refine awH_ rfl (laws_markDisk_D fs 1 (by decide) (by decide) (by omega)) [3] ?_; rintro _ _ _ ⟨rfl, rfl, rfl⟩ _)) | ((with_reducible show Wk (AwStepF _ _ { dst := some 89, op := _, type := _, pos := _, after := _, guard := _ } _ _ _ _)); (refine awH_ rfl (laws_markDisk_D (svR fs c k).1 1 (by decide) (by decide) (by omega)) [8] ?_; rintro _ _ _ ⟨rfl, rfl, rfl⟩ _)) | (refine awH_ rfl (laws_markCluster_D c (1 + 3 * (fs.length : Int)) (by omega) (by omega) hcf.hlen hcf.plen (few_hosts hcf) (few_pods hcf)) [5, 6] ?_; rintro _ _ _ ⟨rfl, rfl, rfl⟩ _) | ((with_reducible show Wk (AwStepF _ _ { dst := some 51, op := _, type := _, pos := _, after := _, guard := _ } _ _ _ _)); (refine bo_ rfl [.frz 8] (laws_eqDisk_D (svR fs c k).1 (by omega)) ?_; rintro _ rfl; refine ⟨rfl, ?_⟩)) | ((with_reducible show Wk (AwStepF _ _ { dst := some 79, op := _, type := _, pos := _, after := _, guard := _ } _ _ _ _)); (refine bo_ rfl [.frz 8] (laws_eqDisk_D (svR fs c k).1 (by omega)) ?_; rintro _ rfl; refine ⟨rfl, ?_⟩)) | ((with_reducible show Wk (AwStepF _ _ { dst := some 109, op := _, type := _, pos := _, after := _, guard := _ } _ _ _ _)); (refine bo_ rfl [.frz 4] (laws_eqDisk_D (svR fs c k).1 (by omega)) ?_; rintro _ rfl; refine ⟨rfl, ?_⟩)) | ((with_reducible show Wk (AwStepF _ _ { dst := some 61, op := _, type := _, pos := _, after := _, guard := _ } _ _ _ _)); (refine bo_ rfl [.frz 3, .frz 10] (laws_eqDisk_D fs (by omega)) ?_; rintro _ rfl; refine ⟨rfl, ?_⟩)) | (refine bo_ rfl [.cool 5, .frz 5, .cool 6, .frz 6, .cool 11, .frz 11, .cool 12, .frz 12] (laws_eqCluster_D c (rl_fine6 hcf)) ?_; rintro _ rfl; refine ⟨rfl, ?_⟩) | ((with_reducible show Wk (AwStepF _ _ { dst := some 92, op := _, type := _, pos := _, after := _, guard := _ } _ _ _ _)); (refine bo_ rfl [.frz 8] (laws_heldDisk_D (svR fs c k).1.length 1 (by decide) (by decide) (by omega)) ?_; rintro _ rfl; refine ⟨rfl, ?_⟩)) | ((with_reducible show Wk (AwStepF _ _ { dst := some 118, op := _, type := _, pos := _, after := _, guard := _ } _ _ _ _)); (refine bo_ rfl [.frz 2] (laws_heldDisk_D (svR fs c k).1.length 1 (by decide) (by decide) (by omega)) ?_; rintro _ rfl; refine ⟨rfl, ?_⟩)) | ((with_reducible show Wk (AwStepF _ _ { dst := some 46, op := _, type := _, pos := _, after := _, guard := _ } _ _ _ _)); (refine boH_ rfl [.frz 3, .cool 5, .frz 5, .cool 6, .frz 6] (impl_SaveCluster_D fs c k hcf hfd hln) ?_; rintro _ _ _ ⟨rfl, rfl, rfl⟩; refine ⟨⟨rfl, dryO_⟩, ?_⟩)) | ((with_reducible show Wk (AwStepF _ _ { dst := some 104, op := _, type := _, pos := _, after := _, guard := _ } _ _ _ _)); (refine boH_ rfl [.frz 13, .cool 14, .frz 14, .cool 15, .frz 15] (impl_SaveCluster_D fs c k hcf hfd hln) ?_; rintro _ _ _ ⟨rfl, rfl, rfl⟩; refine ⟨⟨rfl, dryO_⟩, ?_⟩)) | ((with_reducible show Wk (AwStepF _ _ { dst := some 104, op := _, type := _, pos := _, after := _, guard := _ } _ _ _ _)); (refine boH_ rfl [.frz 14, .cool 15, .frz 15, .cool 16, .frz 16] (impl_SaveCluster_D fs c k hcf hfd hln) ?_; rintro _ _ _ ⟨rfl, rfl, rfl⟩; refine ⟨⟨rfl, dryO_⟩, ?_⟩)) | ((with_reducible show Wk (AwStepF _ _ { dst := some 104, op := _, type := _, pos := _, after := _, guard := _ } _ _ _ _)); (refine boH_ rfl [.frz 13, .cool 15, .frz 15, .cool 16, .frz 16] (impl_SaveCluster_D fs c k hcf hfd hln) ?_; rintro _ _ _ ⟨rfl, rfl, rfl⟩; refine ⟨⟨rfl, dryO_⟩, ?_⟩)) | (refine afz_ [2] ?_; refine nm_ ?_; refine cl_ rfl _ _ (spec_SaveCluster_D fs c k hcf hfd hln) rfl rfl ?_; rintro _ rfl) | (refine afz_ [3] ?_; refine nm_ ?_; refine cl_ rfl _ _ (spec_SaveCluster_D fs c k hcf hfd hln) rfl rfl ?_; rintro _ rfl)) | ((with_reducible show Wk (AwStep _ _ _ _ _)); first | (refine pln_ ?_)) | ((with_reducible show Wk (AwCode _ _ _ _ _)); first | (refine wtrJ_ (id := 8) [] (.early 0 (.early 2 (.early 4 (.two 1 (.two 3 (.two 5 (.early 6 (.early 7 (.early 8 (.one 9 (.one 10 (.early 11 .done)))))) 9 (.one 5 (.early 6 (.early 7 (.early 8 (.one 10 (.early 11 .done))))))) 9 (.one 3 (.one 5 (.early 6 (.early 7 (.early 8 (.one 10 (.early 11 .done)))))))) 9 (.one 1 (.one 3 (.one 5 (.early 6 (.early 7 (.early 8 (.one 10 (.early 11 .done)))))))))))) (⟨[.none, .none, .sc (.int .i64 k), .ptr 0 0, .ptr 1 0, .none, .none, .none, .ptr 2 0, .sc (.int .i64 (svR fs c k).2), .none, .none, .none, .none, .none, .none, .none, .none, .none, .none, .none, .none, .none, .none, .none, .none, .none, .none, .none, .none, .none, .none, .none, .none, .none, .none, .none, .none, .none, .none, .none, .none, .none, .none, .none, .none, .none, .none, .none, .none, .none, .none, .none, .none, .none, .none, .none, .none, .none, .none, .none, .none, .none, .none, .none, .none, .none, .none, .none, .none, .none, .none, .none, .none, .none, .none, .none, .none, .none, .none, .none, .none, .none, .none, .none, .none, .none, .none, .none, .none, .none, .none, .none, .none, .none, .none, .none, .none, .none, .none, .none, .none, .none, .none, .none, .none, .none, .none, .none, .none, .none, .none, .none, .none, .none, .none, .none, .none, .none, .none, .none, .none, .none, .none], [(0, ⟨24, 1, 1, [.sl fs.length (filesD fs)]⟩), (1, ⟨30, 6, 1, [.sl c.hosts.length (hostsD c.hosts), .sl c.pods.length (placedsD c.pods), .sc (.int .i64 c.next), .sc (.int .i64 c.w1), .sc (.int .i64 c.w2), .sc (.int .i64 c.w3)]⟩), (2, ⟨35, 1, 1, [.sl (svR fs c k).1.length (filesD (svR fs c k).1)]⟩)], 3⟩ : St) ?_ ?_; (focus (intro N hJ8)); rotate_left; have hsnd := Snd6.intro; clear hfst; have hsl := sv_len (c := c) (k := k) hfd hln; have hch := hcf.hlen; have hcp := hcf.plen; have hr1 := mkHk_rng c.hosts (1 + 3 * (fs.length : Int)) (few_hosts hcf); have hr2 := mkPk_rng c.pods (mkHk c.hosts (1 + 3 * (fs.length : Int))) (few_pods hcf); rotate_left) | (refine wo_ (id := 14) [] [(0, true), (1, true), (2, false), (3, false), (4, true)] ?_) | (refine wo_ (id := 16) [] [(0, true), (1, true), (2, false), (3, false), (4, true)] ?_) | (refine wtrJ_ (id := 31) [] (.early 0 (.early 2 (.early 4 (.two 1 (.two 3 (.two 5 (.early 6 (.early 7 (.early 8 (.one 9 (.one 10 (.early 11 .done)))))) 9 (.one 5 (.early 6 (.early 7 (.early 8 (.one 10 (.early 11 .done))))))) 9 (.one 3 (.one 5 (.early 6 (.early 7 (.early 8 (.one 10 (.early 11 .done)))))))) 9 (.one 1 (.one 3 (.one 5 (.early 6 (.early 7 (.early 8 (.one 10 (.early 11 .done)))))))))))) (⟨[.none, .none, .none, .none, .none, .none, .none, .none, .ptr 0 0, .sc (.int .i64 (svR fs c k).2), .none, .none, .ptr 1 0, .none, .none, .sc (.int .i64 (1 + 3 * ((svR fs c k).1.length : Int))), .none, .ptr 3 0, .sc (.int .i64 (svR fs c k).2), .none, .none, .none, .none, .none, .none, .none, .none, .none, .none, .none, .none, .none, .none, .none, .none, .none, .none, .none, .none, .none, .none, .none, .none, .none, .none, .none, .none, .none, .none, .none, .none, .none, .none, .none, .none, .none, .none, .none, .none, .none, .none, .none, .none, .none, .none, .none, .none, .none, .none, .none, .none, .none, .none, .none, .none, .none, .none, .none, .none, .none, .none, .none, .none, .none, .none, .none, .none, .none, .none, .none, .none, .none, .none, .none, .none, .none, .none, .none, .none, .none, .none, .none, .none, .none, .none, .none, .none, .none, .none, .none, .none, .none, .none, .none, .none, .none, .none, .none, .none, .none, .none, .none, .none, .none], [(0, ⟨35, 1, 1, [.sl (svR fs c k).1.length (filesD (svR fs c k).1)]⟩), (1, ⟨35, 1, 1, [.own 2 0 (svR fs c k).1.length]⟩), (2, ⟨160, 3, (svR fs c k).1.length, filesD (mkF (svR fs c k).1.length 1)⟩), (3, ⟨35, 1, 1, [.own 4 0 (svR fs c k).1.length]⟩), (4, ⟨160, 3, ((svR fs c k).1).length, filesD ((svR fs c k).1)⟩)], 5⟩ : St) ?_ ?_; (focus (intro N hJ31)); rotate_left; skip; rotate_left)) | ((with_reducible show Wk (boolK _ _ _ _)); first | (refine bk_ (fun h h' => ?_) (fun h h' => ?_))) | ((with_reducible show Wk (_ ∧ _)); first | (refine and_ ?_ ?_)) | (refine hJ8.go [] [0, 1, 3]) | (refine hJ8.go [] [0, 1, 2]) | (refine hJ31.go [] [2, 9, 8, 17, 16]) | (refine hJ31.go [] [2, 9, 8, 13, 17]) | (refine hJ31.go [] [2, 9, 8, 14, 17]) | (refine hJ31.go [] [2, 9, 8, 16, 17]) | fail) <;> (try refine nm_ ?_))
  all_goals (refine ⟨?_⟩)
  all_goals first | contradiction | rfl | (exfalso; omega) | trace_state

end Go.Proofs.YtnicgfeajdjimaaGreat
