/- The laws FnExactExpressible and FnExactOldestFor over data. -/
import Derived.Test.YtemaanibghedlaaGreatCl8
import Derived.Test.YtemaanibghedlaaGreatCl9
import Derived.Test.YtemaanibghedlaaGreatCl10
import Derived.Test.YtemaanibghedlaaGreatCl11
namespace Go.Proofs.YtemaanibghedlaaGreat
open Go.RowKit

theorem rl_of {c : ClusterD} (h : c.fine) : c.rl := by
  have h1 := h.hlen
  have h2 := h.plen
  refine ⟨by omega, by omega, fun k => ?_, fun k => ?_⟩
  · have h3 := (h.host k).labels.len
    have h4 := (h.host k).tlen
    exact ⟨by omega, by omega⟩
  · have h3 := (h.pod k).labels.len
    have h4 := (h.pod k).tlen
    have h5 := (h.pod k).nlen
    exact ⟨by omega, by omega, by omega, fun j => by have := ((h.pod k).need j).len; show _ ≤ _; omega⟩

set_option maxRecDepth 10000 in
set_option maxHeartbeats 1000000 in
theorem laws_FnExactExpressible_D (c : ClusterD) (k : Int) (hr : c.raw) : Spec Tryz.prog 5 [c.d, .sc (.int .i64 k)] (fun d => d = .sc (.bool true)) := by
  refine spec_intro (rs := [.tmp 4]) (nt := 31) Tryz.func5 rfl (by kernel_rfl) rfl rfl (by simp) fun X hX => ?_
  simp (maxSteps := 2000000) (disch := omega) only [wc_seq, wc_region, wops_plain, wgo_eq, stepOp, St.ev, St.get, St.put, St.newOb, D.cells, D.known, List.length_cons, List.length_nil, List.replicate_succ, List.replicate_zero, List.cons_append, List.nil_append, List.getElem?_cons_zero, Option.getD_some, List.set_cons_succ, List.set_cons_zero, Nat.reduceAdd, Nat.reduceSub, Nat.zero_add, *]
  repeat' ((first | contradiction | (refine boolK_intro (fun h => ?_) (fun h => ?_) <;> (try (have h' := h; simp only [decide_eq_true_eq, decide_eq_false_iff_not, Int.not_lt] at h'))) | (refine And.intro ?_ ?_) | ((first | refine awcall rfl _ _ (laws_szCluster_D c 1048576 (by omega) (by omega) hr) rfl rfl ?_ | refine awcallF rfl _ _ (laws_szCluster_D c 1048576 (by omega) (by omega) hr) rfl rfl ?_); rintro _ ⟨r1, rfl, ha1, hb1, hc1⟩) | ((first | refine awcall rfl _ _ (laws_toCluster_D c (hc1 (by omega))) rfl rfl ?_ | refine awcallF rfl _ _ (laws_toCluster_D c (hc1 (by omega))) rfl rfl ?_); rintro _ rfl) | ((first | refine awcall rfl _ _ (spec_Expressible_D c k (hc1 (by omega))) rfl rfl ?_ | refine awcallF rfl _ _ (spec_Expressible_D c k (hc1 (by omega))) rfl rfl ?_); rintro _ rfl) | ((first | refine awcall rfl _ _ (impl_Expressible_D c k (hc1 (by omega))) rfl rfl ?_ | refine awcallF rfl _ _ (impl_Expressible_D c k (hc1 (by omega))) rfl rfl ?_); rintro _ rfl) | ((first | refine awcall rfl _ _ (laws_eqCluster_D c (rl_of (hc1 (by omega)))) rfl rfl ?_ | refine awcallF rfl _ _ (laws_eqCluster_D c (rl_of (hc1 (by omega)))) rfl rfl ?_); rintro _ rfl) | (refine word_sound (id := 10) mixed [] [(0, true), (1, true), (2, false), (3, false), (4, true)] rfl (by kernel_rfl) (by kernel_rfl) (by simp <;> fail) ?_) | fail) <;> (try simp (maxSteps := 2000000) (disch := omega) only [wc_skip, wc_seq, wc_cond, wc_ret, wc_region, wc_draw, wops_nil, wops_plain, wgo_eq, boolK_false, stepK_some, stepK_none, stepOp, valOp, tq_normal, tq_ret, rq_ret, retOk, St.ev, St.get, St.put, St.newOb, St.setCs, setCs, St.ob, cellOb, loadD, partD, storeD, unD, binD, D.cells, D.known, resAll, resD, tupD, D.noid, D.noidA, D.noid1, List.length_cons, List.length_nil, List.getElem?_cons_succ, List.getElem?_cons_zero, Option.getD_some, List.set_cons_succ, List.set_cons_zero, List.lookup_cons, List.map_cons, List.map_nil, List.all_cons, List.all_nil, List.drop_zero, List.toList_toArray, List.size_toArray, oc_int, oc_bool, oc_slice, vc_agg, Option.map_some, Option.map_none, if_true, if_false, reduceCtorEq, and_true, and_self, cond_false, Bool.and_self, Bool.not_true, Bool.not_false, beq_self_eq_true, Nat.reduceBEq, Nat.reduceAdd, Nat.zero_add, Nat.le_refl, decide_true, Int.reduceLE, word_nil, word_cons, opK_some, woat_plain, wogo_early, wogo_late, earlyK_go, lateK_none, earlyOk, lateOk, stepV, List.contains_cons, List.contains_nil, Bool.or_false, Bool.or_true, ty30, ze37, ty37, bo4, *]))
  all_goals first | contradiction | rfl | trace_state

set_option maxRecDepth 10000 in
set_option maxHeartbeats 1000000 in
theorem laws_FnExactOldestFor_D (c : ClusterD) (hr : c.raw) : Spec Tryz.prog 6 [c.d] (fun d => d = .sc (.bool true)) := by
  refine spec_intro (rs := [.tmp 2]) (nt := 27) Tryz.func6 rfl (by kernel_rfl) rfl rfl (by simp) fun X hX => ?_
  simp (maxSteps := 2000000) (disch := omega) only [wc_seq, wc_region, wops_plain, wgo_eq, stepOp, St.ev, St.get, St.put, St.newOb, D.cells, D.known, List.length_cons, List.length_nil, List.replicate_succ, List.replicate_zero, List.cons_append, List.nil_append, List.getElem?_cons_zero, Option.getD_some, List.set_cons_succ, List.set_cons_zero, Nat.reduceSub, Nat.zero_add, *]
  repeat' ((first | contradiction | (refine boolK_intro (fun h => ?_) (fun h => ?_) <;> (try (have h' := h; simp only [decide_eq_true_eq, decide_eq_false_iff_not, Int.not_lt] at h'))) | (refine And.intro ?_ ?_) | ((first | refine awcall rfl _ _ (laws_szCluster_D c 1048576 (by omega) (by omega) hr) rfl rfl ?_ | refine awcallF rfl _ _ (laws_szCluster_D c 1048576 (by omega) (by omega) hr) rfl rfl ?_); rintro _ ⟨r1, rfl, ha1, hb1, hc1⟩) | ((first | refine awcall rfl _ _ (laws_toCluster_D c (hc1 (by omega))) rfl rfl ?_ | refine awcallF rfl _ _ (laws_toCluster_D c (hc1 (by omega))) rfl rfl ?_); rintro _ rfl) | ((first | refine awcall rfl _ _ (spec_OldestFor_D c (hc1 (by omega))) rfl rfl ?_ | refine awcallF rfl _ _ (spec_OldestFor_D c (hc1 (by omega))) rfl rfl ?_); rintro _ rfl) | ((first | refine awcall rfl _ _ (impl_OldestFor_D c (hc1 (by omega))) rfl rfl ?_ | refine awcallF rfl _ _ (impl_OldestFor_D c (hc1 (by omega))) rfl rfl ?_); rintro _ rfl) | ((first | refine awcall rfl _ _ (laws_eqCluster_D c (rl_of (hc1 (by omega)))) rfl rfl ?_ | refine awcallF rfl _ _ (laws_eqCluster_D c (rl_of (hc1 (by omega)))) rfl rfl ?_); rintro _ rfl) | (refine word_sound (id := 10) mixed [] [(0, true), (1, true), (2, false), (3, false), (4, true)] rfl (by kernel_rfl) (by kernel_rfl) (by simp <;> fail) ?_) | fail) <;> (try simp (maxSteps := 2000000) (disch := omega) only [wc_skip, wc_seq, wc_cond, wc_ret, wc_region, wc_draw, wops_nil, wops_plain, wgo_eq, boolK_false, stepK_some, stepK_none, stepOp, valOp, tq_normal, tq_ret, rq_ret, retOk, St.ev, St.get, St.put, St.newOb, St.setCs, setCs, St.ob, cellOb, loadD, partD, storeD, unD, binD, D.cells, D.known, resAll, resD, tupD, D.noid, D.noidA, D.noid1, List.length_cons, List.length_nil, List.getElem?_cons_succ, List.getElem?_cons_zero, Option.getD_some, List.set_cons_succ, List.set_cons_zero, List.lookup_cons, List.map_cons, List.map_nil, List.all_cons, List.all_nil, List.drop_zero, List.toList_toArray, List.size_toArray, oc_int, oc_bool, oc_slice, vc_agg, Option.map_some, Option.map_none, if_true, if_false, reduceCtorEq, and_true, and_self, cond_false, Bool.and_self, Bool.not_true, Bool.not_false, beq_self_eq_true, bne_self_eq_false, Nat.reduceBEq, Nat.reduceAdd, Nat.zero_add, Nat.le_refl, decide_true, Int.reduceLE, word_nil, word_cons, opK_some, woat_plain, wogo_early, wogo_late, earlyK_go, lateK_none, earlyOk, lateOk, stepV, List.contains_cons, List.contains_nil, Bool.or_false, Bool.or_true, ty30, ze37, ty37, *]))
  all_goals first | contradiction | rfl | trace_state

end Go.Proofs.YtemaanibghedlaaGreat
