/- Numerals, and the lines that tell a fault and a reply. -/
import Derived.Test.YtepachoampdhiaaDoorItoa
import Derived.Test.YtepachoampdhiaaDoorAwI
import Derived.Test.YtepachoampdhiaaDoorAwTy
namespace Go.Proofs.YtepachoampdhiaaDoor
open Go.RowKit

def figI (x : Int) : Int := if x < 10 then 48 + x else 87 + x
theorem wrap_u8 (n : Int) (h : 0 ≤ n ∧ n ≤ 255) : IntKind.u8.wrap n = n := by
  simp only [IntKind.wrap, IntKind.bits, IntKind.signed]
  simp
  omega
theorem tmod10 (m : Int) : -10 < m.tmod 10 ∧ m.tmod 10 < 10 ∧ (m.tmod 10).natAbs = m.natAbs % 10 := by
  refine ⟨?_, Int.tmod_lt_of_pos _ (by omega), by rw [Int.natAbs_tmod]; rfl⟩
  have h := Int.tmod_lt_of_pos (-m) (show (0 : Int) < 10 by omega)
  rw [Int.neg_tmod] at h
  omega
theorem tdiv10 (m : Int) : (m.tdiv 10).natAbs = m.natAbs / 10 := by rw [Int.natAbs_tdiv]; rfl
theorem wrap_q10 (m : Int) (h : -9223372036854775808 ≤ m ∧ m ≤ 9223372036854775807) : IntKind.i64.wrap (m.tdiv 10) = m.tdiv 10 := wrap_in _ (by have := tdiv10 m; omega)
theorem wrap_n10 (m : Int) : IntKind.i64.wrap (0 - m.tmod 10) = 0 - m.tmod 10 := wrap_in _ (by have := tmod10 m; omega)
theorem strOf_one (b : Int) : (strOf [b]).data.toList = [UInt8.ofNat b.toNat] := rfl
def decI (n : Int) (p : Int × ByteArray) : Prop := (-9223372036854775808 ≤ p.1 ∧ p.1 ≤ 9223372036854775807) ∧ digs n.natAbs = digs p.1.natAbs ++ p.2.data.toList ∧ p.2.size ≤ 21
theorem dec_init (n : Int) (hn : -9223372036854775808 ≤ n ∧ n ≤ 9223372036854775807) : decI n (n, ⟨#[]⟩) := ⟨hn, by simp, by simp [ByteArray.size]⟩
theorem fig_nat {x : Int} {k : Nat} (h : x = k) (hk : k < 10) : (figI x).toNat = 48 + k := by
  unfold figI
  rw [if_pos (by omega)]
  omega
theorem dec_step {n m x : Int} {s : ByteArray} (hn : -9223372036854775808 ≤ n ∧ n ≤ 9223372036854775807) (h : decI n (m, s)) (hm : m ≠ 0) (hx : x = (m.tmod 10).natAbs) : decI n (m.tdiv 10, strOf [figI x] ++ s) := by
  obtain ⟨h1, h2, h3⟩ := h
  have h4 := tmod10 m
  have h5 := tdiv10 m
  have h6 : digs n.natAbs = digs (m.tdiv 10).natAbs ++ (strOf [figI x] ++ s).data.toList := by
    rw [h2, digs_step m.natAbs (by omega), h5]
    show _ = _ ++ (strOf [figI x] ++ s).data.toList
    rw [ByteArray.data_append, Array.toList_append, strOf_one]
    have : (figI x).toNat = 48 + m.natAbs % 10 := fig_nat (hx.trans (by rw [h4.2.2])) (Nat.mod_lt _ (by omega))
    rw [this]
    simp
  refine ⟨by show _ ≤ m.tdiv 10 ∧ m.tdiv 10 ≤ _; omega, h6, ?_⟩
  have h7 := digs_le n.natAbs (by omega)
  rw [h6] at h7
  show (strOf [figI x] ++ s).size ≤ 21
  have h8 : (strOf [figI x] ++ s).size = (strOf [figI x] ++ s).data.toList.length := (Array.length_toList).symm
  rw [h8]
  simp only [List.length_append] at h7 ⊢
  omega
theorem dec_stepN {n m : Int} {s : ByteArray} (hn : -9223372036854775808 ≤ n ∧ n ≤ 9223372036854775807) (h : decI n (m, s)) (hm : m ≠ 0) (hx : m.tmod 10 < 0) : decI n (m.tdiv 10, strOf [figI (0 - m.tmod 10)] ++ s) := dec_step hn h hm (by omega)
theorem dec_stepP {n m : Int} {s : ByteArray} (hn : -9223372036854775808 ≤ n ∧ n ≤ 9223372036854775807) (h : decI n (m, s)) (hm : m ≠ 0) (hx : ¬ m.tmod 10 < 0) : decI n (m.tdiv 10, strOf [figI (m.tmod 10)] ++ s) := dec_step hn h hm (by omega)
theorem dec_rng {n m : Int} {s : ByteArray} (h : decI n (m, s)) : -9223372036854775808 ≤ m ∧ m ≤ 9223372036854775807 := h.1
theorem dec_room {n m : Int} {s : ByteArray} (h : decI n (m, s)) : s.size ≤ 21 := h.2.2
theorem dec_end {n m : Int} {s : ByteArray} (h : decI n (m, s)) (hm : m = 0) (hn : n ≠ 0) (b : Bool) (hb : b = decide (n < 0)) : numeral n = (if b = true then ⟨#[45]⟩ ++ s else s) := by
  subst hb
  have h2 := h.2.1
  subst hm
  rw [show (0 : Int).natAbs = 0 by rfl, show digs 0 = [] by rfl, List.nil_append] at h2
  refine ByteArray.ext (Array.toList_inj.1 ?_)
  rw [numeral_of n hn, h2]
  by_cases hneg : n < 0
  · simp [hneg, ByteArray.data_append]
  · simp [hneg]
theorem dec_zero (n : Int) (h : n = 0) : D.sc (.string ⟨#[48]⟩) = D.sc (.string (numeral n)) := by
  subst h
  simp [numeral, Lib.itoa, Lib.decDigits_one]
theorem dec_neg {n m : Int} {s : ByteArray} (h : decI n (m, s)) (hm : m = 0) (hn : n < 0) : D.sc (.string (⟨#[45]⟩ ++ s)) = D.sc (.string (numeral n)) := by
  rw [dec_end h hm (by omega) true (by simp [hn])]
  rfl
theorem dec_pos {n m : Int} {s : ByteArray} (h : decI n (m, s)) (hm : m = 0) (hn : ¬ n < 0) (h0 : n ≠ 0) : D.sc (.string s) = D.sc (.string (numeral n)) := by
  rw [dec_end h hm h0 false (by simp [hn])]
  rfl

set_option maxRecDepth 10000 in
set_option maxHeartbeats 1000000 in
theorem l01Figure_D (x : Int) (h : 0 ≤ x ∧ x < 16) : Spec Tryd.prog 40 [.sc (.int .i64 x)] (fun d => d = .sc (.int .u8 (figI x))) := by
  refine spec_intro (rs := [.tmp 2]) (nt := 12) Tryd.func40 rfl (by kernel_rfl) rfl rfl (by simp) fun X hX => ?_
  simp (maxSteps := 2000000) (disch := omega) only [wc_seq, wc_cond, wc_region, wops_nil, wops_plain, wgo_eq, stepK_some, stepOp, valOp, tq_normal, St.ev, St.get, St.put, binD, List.length_cons, List.length_nil, List.replicate_succ, List.replicate_zero, List.cons_append, List.nil_append, List.getElem?_cons_succ, List.getElem?_cons_zero, Option.getD_some, List.set_cons_succ, List.set_cons_zero, oc_int, Option.map_some, if_true, if_false, reduceCtorEq, Nat.reduceSub, Nat.zero_add, Int.reduceLE, *]
  repeat' ((first | (refine boolK_intro (fun h => ?_) (fun h => ?_) <;> (try (have h' := h; simp only [decide_eq_true_eq, decide_eq_false_iff_not, Int.not_lt] at h'))) | (refine And.intro ?_ ?_) | fail) <;> (try simp (maxSteps := 2000000) (disch := omega) only [wc_skip, wc_seq, wc_ret, wc_region, wops_nil, wops_plain, wgo_eq, stepK_some, stepOp, valOp, tq_normal, tq_ret, rq_ret, retOk, St.ev, St.get, St.put, binD, resAll, resD, tupD, D.noid, D.noidA, D.noid1, List.getElem?_cons_succ, List.getElem?_cons_zero, Option.getD_some, List.set_cons_succ, List.set_cons_zero, oc_int, Option.map_some, if_true, if_false, reduceCtorEq, true_and, wrap_in, convD, Int.reduceLE, ik3, ik5, wrap_u8, *]))
  all_goals (unfold figI; (try simp_all) <;> (split <;> omega))

set_option maxRecDepth 10000 in
set_option maxHeartbeats 1000000 in
theorem specDecimal_D (n : Int) (hn : -9223372036854775808 ≤ n ∧ n ≤ 9223372036854775807) : Spec Tryd.prog 19 [.sc (.int .i64 n)] (fun d => d = .sc (.string (numeral n))) := by
  refine spec_intro (rs := [.tmp 2]) (nt := 30) Tryd.func19 rfl (by kernel_rfl) rfl rfl (by simp) fun X hX => ?_
  simp (maxSteps := 2000000) (disch := omega) only [wc_seq, wc_cond, wc_region, wops_nil, wops_plain, wgo_eq, stepK_some, stepOp, valOp, tq_normal, St.ev, St.get, St.put, binD, List.length_cons, List.length_nil, List.replicate_succ, List.replicate_zero, List.cons_append, List.nil_append, List.getElem?_cons_succ, List.getElem?_cons_zero, Option.getD_some, List.set_cons_succ, List.set_cons_zero, oc_int, oc_str, Option.map_some, if_true, if_false, reduceCtorEq, Nat.reduceSub, Nat.zero_add, Int.reduceLE, *]
  repeat' ((first | (refine boolK_intro (fun h => ?_) (fun h => ?_) <;> (try (have h' := h; simp only [decide_eq_true_eq, decide_eq_false_iff_not, Int.not_lt] at h'))) | (refine And.intro ?_ ?_) | ((first | refine awcall rfl _ _ (l01Figure_D _ (by have := tmod10 m; omega)) rfl rfl ?_ | refine awcallF rfl _ _ (l01Figure_D _ (by have := tmod10 m; omega)) rfl rfl ?_); rintro _ rfl) | (refine bytG rfl ?_) | (refine bytGF rfl ?_) | (refine awloop (ι := Int × ByteArray) (fun ⟨m, s⟩ => ⟨[.sc (.int .i64 m), .none, .none, .sc (.bool (decide (n < 0))), .sc (.string s), .none, .none, .none, .none, .none, .none, .none, .none, .none, .none, .none, .none, .none, .none, .none, .none, .none, .none, .none, .none, .none, .none, .none, .none, .none], [], 0⟩) (fun ⟨m, s⟩ => decI n (m, s)) (fun ⟨m, s⟩ => m.natAbs) (by intro p; show X.nb ≤ 0; omega) (_, _) ?_ ⟨(And.intro (.inr rfl) (And.intro (.inl rfl) (And.intro (.inl rfl) (And.intro (.inr rfl) (And.intro (.inr rfl) (And.intro (.inl rfl) (And.intro (.inl rfl) (And.intro (.inl rfl) (And.intro (.inl rfl) (And.intro (.inl rfl) (And.intro (.inl rfl) (And.intro (.inl rfl) (And.intro (.inl rfl) (And.intro (.inl rfl) (And.intro (.inl rfl) (And.intro (.inl rfl) (And.intro (.inl rfl) (And.intro (.inl rfl) (And.intro (.inl rfl) (And.intro (.inl rfl) (And.intro (.inl rfl) (And.intro (.inl rfl) (And.intro (.inl rfl) (And.intro (.inl rfl) (And.intro (.inl rfl) (And.intro (.inl rfl) (And.intro (.inl rfl) (And.intro (.inl rfl) (And.intro (.inl rfl) (And.intro (.inl rfl) trivial)))))))))))))))))))))))))))))), (by simp <;> fail), (by simp <;> fail), (by first | exact Nat.le_refl _ | exact Nat.zero_le _ | (simp only []; omega)), (by simp [D.lt, D.ltA, D.lt1] <;> fail), (by simp [D.lt1] <;> fail)⟩ ?_; (exact dec_init n hn); rintro ⟨m, s⟩ hinv; replace hinv : decI n (m, s) := hinv; have hroom := dec_room hinv; have hrng := dec_rng hinv; skip) | (refine ⟨(_, _), ?_, ?_, ⟨(And.intro (.inr rfl) (And.intro (.inl rfl) (And.intro (.inl rfl) (And.intro (.inr rfl) (And.intro (.inr rfl) (And.intro (.inl rfl) (And.intro (.inl rfl) (And.intro (.inl rfl) (And.intro (.inl rfl) (And.intro (.inl rfl) (And.intro (.inl rfl) (And.intro (.inl rfl) (And.intro (.inl rfl) (And.intro (.inl rfl) (And.intro (.inl rfl) (And.intro (.inl rfl) (And.intro (.inl rfl) (And.intro (.inl rfl) (And.intro (.inl rfl) (And.intro (.inl rfl) (And.intro (.inl rfl) (And.intro (.inl rfl) (And.intro (.inl rfl) (And.intro (.inl rfl) (And.intro (.inl rfl) (And.intro (.inl rfl) (And.intro (.inl rfl) (And.intro (.inl rfl) (And.intro (.inl rfl) (And.intro (.inl rfl) trivial)))))))))))))))))))))))))))))), (by simp <;> fail), (by simp <;> fail), (by first | exact Nat.le_refl _ | exact Nat.zero_le _ | (simp only []; omega)), (by simp [D.lt, D.ltA, D.lt1] <;> fail), (by simp [D.lt1] <;> fail)⟩⟩; (first | exact dec_stepN hn hinv (by simp_all) (by simp_all) | exact dec_stepP hn hinv (by simp_all) (by simp_all)); (have := tdiv10 m; have : m ≠ 0 := (by simp_all); show (m.tdiv 10).natAbs < m.natAbs; omega)) | fail) <;> (try simp (maxSteps := 2000000) (disch := omega) only [bytS, bytD, u8s_cons, u8s_nil, srcD, Nat.mul_one, ba_size, wc_skip, wc_seq, wc_cond, wc_block, wc_exit, wc_ret, wc_region, wc_loop, wops_nil, wops_plain, wgo_eq, stepK_some, stepK_none, stepOp, valOp, tq_normal, tq_exit, tq_ret, bq_normal, bq_exit, rq_ret, retOk, St.ev, St.get, St.put, St.newOb, St.ob, setL, unD, binD, D.cells, D.known, D.one, resAll, resD, tupD, D.noid, D.noidA, D.noid1, List.length_cons, List.length_nil, List.getElem?_cons_succ, List.getElem?_cons_zero, Option.getD_some, List.set_cons_succ, List.set_cons_zero, List.lookup_cons, List.map_cons, List.map_nil, List.all_cons, List.all_nil, List.drop_zero, List.take_succ_cons, List.take_zero, List.toList_toArray, List.size_toArray, oc_int, oc_str, vc_int, Option.map_some, Option.map_none, if_true, if_false, reduceCtorEq, and_true, true_and, and_self, Bool.and_self, beq_self_eq_true, Nat.reduceLeDiff, Nat.zero_add, Nat.le_refl, convD, fillD, zeroD, buildSliceD, rowD, gpos, Int.reduceLE, Int.reduceEq, decide_true, List.append_nil, el66, ze5, bs66, wrap_q10, wrap_n10, strOf_size, *]))
  all_goals first | (exact dec_zero n (by simp_all)) | (exact dec_neg hinv (by simp_all) (by simp_all)) | (exact dec_pos hinv (by simp_all) (by simp_all) (by simp_all)) | trace_state

set_option maxRecDepth 10000 in
set_option maxHeartbeats 1000000 in
theorem implDecimal_D (n : Int) (hn : -9223372036854775808 ≤ n ∧ n ≤ 9223372036854775807) : SpecT Tryd.prog tabT 20 [.sc (.int .i64 n)] (fun d => d = .sc (.string (numeral n))) := by
  refine specT_intro (rs := [.tmp 2]) (nt := 5) Tryd.func20 rfl (by kernel_rfl) rfl rfl (by simp) fun X hX hT => ?_
  simp (maxSteps := 2000000) (disch := omega) only [wc_seq, wc_region, wops_nil, wops_plain, wgo_eq, stepK_some, stepK_none, stepOp, valOp, tq_normal, St.ev, St.get, St.put, List.length_cons, List.length_nil, List.replicate_succ, List.replicate_zero, List.cons_append, List.nil_append, List.getElem?_cons_zero, Option.getD_some, List.set_cons_succ, List.set_cons_zero, oc_str, Option.map_some, Option.map_none, if_true, Nat.reduceSub, Nat.zero_add, *]
  repeat' ((first | (refine boolK_intro (fun h => ?_) (fun h => ?_) <;> (try (have h' := h; simp only [decide_eq_true_eq, decide_eq_false_iff_not, Int.not_lt, Int.not_le, gt_iff_lt, ge_iff_le] at h'))) | (refine And.intro ?_ ?_) | ((first | refine awcallT tab_stays hT rfl _ _ (itoa_D n hn.1 hn.2) rfl rfl ?_ | refine awcallTF tab_stays hT rfl _ _ (itoa_D n hn.1 hn.2) rfl rfl ?_); rintro _ rfl) | (refine Exists.intro [] (And.intro rfl ?_)) | fail) <;> (try simp (maxSteps := 2000000) (disch := omega) only [eq_self, frzs, wc_ret, wops_nil, wops_plain, wgo_eq, stepK_some, stepOp, valOp, tq_normal, retOk, St.ev, St.get, St.put, resAll, resD, tupD, D.noid, D.noidA, D.noid1, List.getElem?_cons_succ, List.getElem?_cons_zero, Option.getD_some, List.set_cons_succ, List.set_cons_zero, Option.map_some, and_self, rqz_ret, *]))

structure FaultD where
  code : Int
  pos : Int
  path : ByteArray
def FaultD.cells (f : FaultD) : List D := [.sc (.int .i64 f.code), .sc (.int .i64 f.pos), .sc (.string f.path)]
def pathOr (p : ByteArray) : ByteArray := if (p.toList == ByteArray.toList ⟨#[]⟩) = true then ⟨#[45]⟩ else p
theorem pathOr_t {p : ByteArray} (h : (p.toList == ByteArray.toList ⟨#[]⟩) = true) : pathOr p = ⟨#[45]⟩ := if_pos h
theorem pathOr_f {p : ByteArray} (h : (p.toList == ByteArray.toList ⟨#[]⟩) = false) : pathOr p = p := if_neg (by rw [h]; exact Bool.false_ne_true)
def faultLine (f : FaultD) : ByteArray := ((((numeral f.code ++ ⟨#[32]⟩) ++ pathOr f.path) ++ ⟨#[32]⟩) ++ numeral f.pos)
structure FaultD.ok (f : FaultD) : Prop where
  code : -9223372036854775808 ≤ f.code ∧ f.code ≤ 9223372036854775807
  pos : -9223372036854775808 ≤ f.pos ∧ f.pos ≤ 9223372036854775807
  path : f.path.size ≤ 1048576

set_option maxRecDepth 10000 in
set_option maxHeartbeats 1000000 in
theorem specFaultLine_D (f : FaultD) (hf : f.ok) : Spec Tryd.prog 7 [.agg f.cells] (fun d => d = .sc (.string (faultLine f))) := by
  unfold FaultD.cells
  have h1 := hf.path
  have h2 := numeral_size f.code hf.code.1 hf.code.2
  have h3 := numeral_size f.pos hf.pos.1 hf.pos.2
  refine spec_intro (rs := [.tmp 2]) (nt := 19) Tryd.func7 rfl (by kernel_rfl) rfl rfl (by simp) fun X hX => ?_
  simp (maxSteps := 2000000) (disch := omega) only [wc_seq, wc_cond, wc_region, wops_nil, wops_plain, wgo_eq, stepK_some, stepOp, valOp, tq_normal, St.ev, St.get, St.put, St.newOb, St.ob, loadD, partD, fldD, binD, D.cells, D.known, D.one, List.length_cons, List.length_nil, List.replicate_succ, List.replicate_zero, List.cons_append, List.nil_append, List.getElem?_cons_succ, List.getElem?_cons_zero, Option.getD_some, List.set_cons_succ, List.set_cons_zero, List.lookup_cons, List.all_cons, List.all_nil, oc_str, Option.map_some, if_true, Bool.and_self, beq_self_eq_true, Nat.reduceAdd, Nat.reduceSub, Nat.zero_add, fl26_2, ty9, *]
  repeat' ((first | (refine boolK_intro (fun h => ?_) (fun h => ?_) <;> (try (have h' := h; simp only [decide_eq_true_eq, decide_eq_false_iff_not, Int.not_lt, Int.not_le, gt_iff_lt, ge_iff_le] at h'))) | (refine And.intro ?_ ?_) | ((first | refine awcall rfl _ _ (specDecimal_D _ hf.code) rfl rfl ?_ | refine awcallF rfl _ _ (specDecimal_D _ hf.code) rfl rfl ?_); rintro _ rfl) | ((first | refine awcall rfl _ _ (specDecimal_D _ hf.pos) rfl rfl ?_ | refine awcallF rfl _ _ (specDecimal_D _ hf.pos) rfl rfl ?_); rintro _ rfl) | (refine word_sound (id := 4) mixed [] [(0, true), (1, true), (4, true), (7, true), (8, true), (2, false), (3, true), (5, true), (6, true), (9, false), (10, true), (11, true)] rfl (by kernel_rfl) (by kernel_rfl) (by simp <;> fail) ?_) | fail) <;> (try simp (maxSteps := 2000000) (disch := omega) only [ba_size, wc_skip, wc_seq, wc_ret, wc_region, wc_draw, wops_nil, wops_plain, wgo_eq, stepK_some, stepOp, valOp, tq_normal, rq_ret, retOk, St.ev, St.get, St.put, St.ob, loadD, partD, fldD, binD, resAll, resD, tupD, D.noid, D.noidA, D.noid1, List.length_cons, List.length_nil, List.getElem?_cons_succ, List.getElem?_cons_zero, Option.getD_some, List.set_cons_succ, List.set_cons_zero, List.lookup_cons, List.map_cons, List.map_nil, List.size_toArray, oc_str, Option.map_some, Option.map_none, if_true, true_and, Bool.and_self, Bool.not_false, beq_self_eq_true, Nat.reduceLeDiff, Nat.zero_add, gpos, word_nil, word_cons, opK_some, woat_plain, wogo_early, wogo_late, earlyK_go, lateK_none, earlyOk, lateOk, stepV, List.contains_cons, List.contains_nil, Bool.or_false, fl26_0, ty3, fl26_1, ByteArray.size_append, *]))
  all_goals first | rfl | decide | (unfold faultLine; first | rw [pathOr_t (by assumption)] | rw [pathOr_f (by assumption)])

set_option maxRecDepth 10000 in
set_option maxHeartbeats 1000000 in
theorem implFaultLine_D (f : FaultD) (hf : f.ok) : SpecT Tryd.prog tabT 9 [.agg f.cells] (fun d => d = .sc (.string (faultLine f))) := by
  unfold FaultD.cells
  have h1 := hf.path
  have h2 := numeral_size f.code hf.code.1 hf.code.2
  have h3 := numeral_size f.pos hf.pos.1 hf.pos.2
  refine specT_intro (rs := [.tmp 2]) (nt := 19) Tryd.func9 rfl (by kernel_rfl) rfl rfl (by simp) fun X hX hT => ?_
  simp (maxSteps := 2000000) (disch := omega) only [wc_seq, wc_cond, wc_region, wops_nil, wops_plain, wgo_eq, stepK_some, stepOp, valOp, tq_normal, St.ev, St.get, St.put, St.newOb, St.ob, loadD, partD, fldD, binD, D.cells, D.known, D.one, List.length_cons, List.length_nil, List.replicate_succ, List.replicate_zero, List.cons_append, List.nil_append, List.getElem?_cons_succ, List.getElem?_cons_zero, Option.getD_some, List.set_cons_succ, List.set_cons_zero, List.lookup_cons, List.all_cons, List.all_nil, oc_str, Option.map_some, if_true, Bool.and_self, beq_self_eq_true, Nat.reduceAdd, Nat.reduceSub, Nat.zero_add, fl26_2, ty9, *]
  repeat' ((first | (refine boolK_intro (fun h => ?_) (fun h => ?_) <;> (try (have h' := h; simp only [decide_eq_true_eq, decide_eq_false_iff_not, Int.not_lt, Int.not_le, gt_iff_lt, ge_iff_le] at h'))) | (refine And.intro ?_ ?_) | ((first | refine awcallT tab_stays hT rfl _ _ (implDecimal_D _ hf.code) rfl rfl ?_ | refine awcallTF tab_stays hT rfl _ _ (implDecimal_D _ hf.code) rfl rfl ?_); rintro _ rfl) | ((first | refine awcallT tab_stays hT rfl _ _ (implDecimal_D _ hf.pos) rfl rfl ?_ | refine awcallTF tab_stays hT rfl _ _ (implDecimal_D _ hf.pos) rfl rfl ?_); rintro _ rfl) | (refine Exists.intro [] (And.intro rfl ?_)) | (refine word_sound (id := 4) mixed [] [(0, true), (1, true), (4, true), (7, true), (8, true), (2, false), (3, true), (5, true), (6, true), (9, false), (10, true), (11, true)] rfl (by kernel_rfl) (by kernel_rfl) (by simp <;> fail) ?_) | fail) <;> (try simp (maxSteps := 2000000) (disch := omega) only [eq_self, frzs, ba_size, wc_skip, wc_seq, wc_ret, wc_region, wc_draw, wops_nil, wops_plain, wgo_eq, stepK_some, stepOp, valOp, tq_normal, retOk, St.ev, St.get, St.put, St.ob, loadD, partD, fldD, binD, resAll, resD, tupD, D.noid, D.noidA, D.noid1, List.length_cons, List.length_nil, List.getElem?_cons_succ, List.getElem?_cons_zero, Option.getD_some, List.set_cons_succ, List.set_cons_zero, List.lookup_cons, List.map_cons, List.map_nil, List.size_toArray, oc_str, Option.map_some, Option.map_none, if_true, true_and, Bool.and_self, Bool.not_false, beq_self_eq_true, Nat.reduceLeDiff, Nat.zero_add, gpos, word_nil, word_cons, opK_some, woat_plain, wogo_early, wogo_late, earlyK_go, lateK_none, earlyOk, lateOk, stepV, List.contains_cons, List.contains_nil, Bool.or_false, List.contains_cons, List.contains_nil, Bool.or_false, fl26_0, ty3, fl26_1, ByteArray.size_append, rqz_ret, *]))
  all_goals first | rfl | decide | (unfold faultLine; first | rw [pathOr_t (by assumption)] | rw [pathOr_f (by assumption)])

set_option maxRecDepth 10000 in
set_option maxHeartbeats 1000000 in
theorem toFault_D (f : FaultD) : Spec Tryd.prog 8 [.agg f.cells] (fun d => d = .agg f.cells) := by
  unfold FaultD.cells
  refine spec_intro (rs := [.cell 2 26]) (nt := 14) Tryd.func8 rfl (by kernel_rfl) rfl rfl (by simp) fun X hX => ?_
  simp (maxSteps := 2000000) (disch := omega) only [wc_seq, wc_ret, wc_region, wops_nil, wops_plain, wgo_eq, stepK_some, stepOp, valOp, tq_normal, rq_ret, retOk, St.ev, St.get, St.put, St.newOb, St.setCs, setCs, St.ob, loadD, partD, storeD, setL, fldD, D.cells, D.known, D.one, resAll, resD, tupD, D.noid, D.noidA, D.noid1, List.length_cons, List.length_nil, List.replicate_succ, List.replicate_zero, List.cons_append, List.nil_append, List.getElem?_cons_succ, List.getElem?_cons_zero, Option.getD_some, List.set_cons_succ, List.set_cons_zero, List.lookup_cons, List.map_cons, List.map_nil, List.all_cons, List.all_nil, List.drop_zero, List.take_succ_cons, List.take_zero, List.toList_toArray, List.size_toArray, oc_int, oc_str, vc_agg, Option.map_some, if_true, if_false, reduceCtorEq, and_self, Bool.and_self, beq_self_eq_true, Nat.reduceBEq, Nat.reduceAdd, Nat.reduceLeDiff, Nat.reduceEqDiff, Nat.reduceSub, Nat.zero_add, Nat.le_refl, ze26, fl23_0, ty3, fl26_0, fl23_1, fl26_1, fl23_2, ty9, fl26_2, ty26, *]
  repeat' ((first | (refine boolK_intro (fun h => ?_) (fun h => ?_) <;> (try (have h' := h; simp only [decide_eq_true_eq, decide_eq_false_iff_not, Int.not_lt, Int.not_le, gt_iff_lt, ge_iff_le] at h'))) | (refine And.intro ?_ ?_) | fail) <;> (try simp (maxSteps := 2000000) (disch := omega) only [ba_size, wc_skip, wc_label, wc_seq, wc_cond, wc_block, wc_exit, wc_ret, wc_region, wc_draw, wc_loop, wops_nil, wops_plain, wops_true, wops_false, wgo_eq, wskip_eq, guardD, boolK_true, boolK_false, stepK_some, stepK_none, stepOp, valOp, tq_normal, tq_exit, tq_ret, bq_normal, bq_exit, bq_ret, rq_normal, rq_ret, retOk, St.ev, St.get, St.put, St.newOb, St.setCs, setCs, St.ob, loadD, partD, storeD, setL, fldD, idxD, lenD, lenOp, unD, binD, pickD, D.cells, D.known, D.one, resAll, resD, tupD, D.noid, D.noidA, D.noid1, List.length_cons, List.length_nil, List.replicate_succ, List.replicate_zero, List.cons_append, List.nil_append, List.getElem?_cons_succ, List.getElem?_cons_zero, Option.getD_some, List.set_cons_succ, List.set_cons_zero, List.lookup_cons, List.map_cons, List.map_nil, List.all_cons, List.all_nil, List.drop_zero, List.drop_succ_cons, List.take_succ_cons, List.take_zero, List.toList_toArray, List.size_toArray, List.all_toArray, oc_int, oc_str, oc_bool, oc_slice, vc_int, vc_str, vc_bool, vc_slice, vc_agg, Option.map_some, Option.map_none, if_true, if_false, forall_const, reduceCtorEq, false_implies, and_true, true_and, implies_true, and_self, cond_true, cond_false, Bool.false_eq_true, Bool.and_self, Bool.and_true, Bool.true_and, Bool.not_true, Bool.not_false, beq_self_eq_true, bne_self_eq_false, Nat.reduceBEq, Nat.reduceAdd, Nat.reduceLeDiff, Nat.reduceEqDiff, Nat.reduceSub, Nat.zero_add, Nat.add_zero, Nat.le_refl, Nat.reduceMul, wrap_in, convD, buildD, fillD, zeroD, buildSliceD, rowD, sliceD, bndD, gpos, gneg, Int.reduceLE, Int.reduceLT, Int.reduceEq, Int.reduceToNat, ze26, fl23_0, ty3, fl26_0, fl23_1, fl26_1, fl23_2, ty9, fl26_2, ty26, *]))

set_option maxRecDepth 10000 in
set_option maxHeartbeats 1000000 in
theorem szFault_D (f : FaultD) (ht : f.path.size ≤ 9223372036854775807) (left : Int) (h0 : 0 ≤ left) (h1 : left ≤ 1048576) : Spec Tryd.prog 6 [.agg f.cells, .sc (.int .i64 left)] (fun d => ∃ r : Int, d = .sc (.int .i64 r) ∧ r ≤ left ∧ (r = -1 ∨ (0 ≤ r ∧ r + (f.path.size : Int) = left))) := by
  unfold FaultD.cells
  refine spec_intro (rs := [.tmp 4]) (nt := 13) Tryd.func6 rfl (by kernel_rfl) rfl rfl (by simp) fun X hX => ?_
  simp (maxSteps := 2000000) (disch := omega) only [wc_seq, wc_cond, wc_region, wops_nil, wops_plain, wgo_eq, stepK_some, stepOp, valOp, tq_normal, St.ev, St.get, St.put, St.newOb, St.ob, loadD, partD, fldD, lenOp, binD, D.cells, D.known, D.one, List.length_cons, List.length_nil, List.replicate_succ, List.replicate_zero, List.cons_append, List.nil_append, List.getElem?_cons_succ, List.getElem?_cons_zero, Option.getD_some, List.set_cons_succ, List.set_cons_zero, List.lookup_cons, List.all_cons, List.all_nil, oc_int, Option.map_some, if_true, if_false, reduceCtorEq, Bool.and_self, beq_self_eq_true, Nat.reduceAdd, Nat.reduceSub, Nat.zero_add, wrap_in, gpos, Int.reduceLE, fl23_2, ty9, st9, *]
  repeat' ((first | (refine boolK_intro (fun h => ?_) (fun h => ?_) <;> (try (have h' := h; simp only [decide_eq_true_eq, decide_eq_false_iff_not, Int.not_lt] at h'))) | (refine And.intro ?_ ?_) | fail) <;> (try simp (maxSteps := 2000000) (disch := omega) only [wc_skip, wc_seq, wc_ret, wc_region, wops_nil, wops_plain, wgo_eq, stepK_some, stepOp, valOp, tq_normal, tq_ret, rq_ret, retOk, St.ev, St.get, St.put, resAll, resD, tupD, D.noid, D.noidA, D.noid1, List.getElem?_cons_succ, List.getElem?_cons_zero, Option.getD_some, List.set_cons_succ, List.set_cons_zero, oc_int, Option.map_some, if_true, true_and, *]))
  all_goals (refine ⟨_, rfl, ?_, ?_⟩ <;> omega)

set_option maxRecDepth 10000 in
set_option maxHeartbeats 1000000 in
theorem lawFaultLine_D (f : FaultD) (hc : -9223372036854775808 ≤ f.code ∧ f.code ≤ 9223372036854775807) (hp : -9223372036854775808 ≤ f.pos ∧ f.pos ≤ 9223372036854775807) (ht : f.path.size ≤ 9223372036854775807) : SpecT Tryd.prog tabT 3 [.agg f.cells] (fun d => d = .sc (.bool true)) := by
  refine specT_intro (rs := [.tmp 2]) (nt := 20) Tryd.func3 rfl (by kernel_rfl) rfl rfl (by simp) fun X hX hT => ?_
  simp (maxSteps := 2000000) (disch := omega) only [wc_seq, wc_region, wops_plain, wgo_eq, stepOp, St.ev, St.get, St.put, St.newOb, D.cells, D.known, List.length_cons, List.length_nil, List.replicate_succ, List.replicate_zero, List.cons_append, List.nil_append, List.getElem?_cons_zero, Option.getD_some, List.set_cons_succ, List.set_cons_zero, Nat.reduceSub, Nat.zero_add, *]
  repeat' ((first | (refine boolK_intro (fun h => ?_) (fun h => ?_) <;> (try (have h' := h; simp only [decide_eq_true_eq, decide_eq_false_iff_not, Int.not_lt] at h'))) | (refine And.intro ?_ ?_) | ((first | refine awcall rfl _ _ (szFault_D f ht _ (by omega) (by omega)) rfl rfl ?_ | refine awcallF rfl _ _ (szFault_D f ht _ (by omega) (by omega)) rfl rfl ?_); rintro _ ⟨r, rfl, hr1, hr2⟩) | ((first | refine awcall rfl _ _ (toFault_D f) rfl rfl ?_ | refine awcallF rfl _ _ (toFault_D f) rfl rfl ?_); rintro _ rfl) | ((first | refine awcall rfl _ _ (specFaultLine_D f ⟨hc, hp, by omega⟩) rfl rfl ?_ | refine awcallF rfl _ _ (specFaultLine_D f ⟨hc, hp, by omega⟩) rfl rfl ?_); rintro _ rfl) | ((first | refine awcallT tab_stays hT rfl _ _ (implFaultLine_D f ⟨hc, hp, by omega⟩) rfl rfl ?_ | refine awcallTF tab_stays hT rfl _ _ (implFaultLine_D f ⟨hc, hp, by omega⟩) rfl rfl ?_); rintro _ rfl) | (refine Exists.intro [] (And.intro rfl ?_)) | fail) <;> (try simp (maxSteps := 2000000) (disch := omega) only [eq_self, frzs, wc_skip, wc_seq, wc_cond, wc_ret, wc_region, wops_nil, wops_plain, wgo_eq, boolK_false, stepK_some, stepK_none, stepOp, valOp, tq_normal, tq_ret, retOk, St.ev, St.get, St.put, St.ob, loadD, partD, binD, resAll, resD, tupD, D.noid, D.noidA, D.noid1, List.getElem?_cons_succ, List.getElem?_cons_zero, Option.getD_some, List.set_cons_succ, List.set_cons_zero, List.lookup_cons, List.drop_zero, oc_int, oc_bool, Option.map_some, Option.map_none, if_true, if_false, reduceCtorEq, and_self, Bool.not_true, beq_self_eq_true, Nat.zero_add, Int.reduceLE, decide_true, ty23, rqz_ret, *]))

structure ReplyD where
  code : Int
  fault : FaultD
  pod : ByteArray
  host : ByteArray
def ReplyD.cells (r : ReplyD) : List D := [.sc (.int .i64 r.code), .sc (.int .i64 r.fault.code), .sc (.int .i64 r.fault.pos), .sc (.string r.fault.path), .sc (.string r.pod), .sc (.string r.host)]
def isE (p : ByteArray) : Bool := p.toList == ByteArray.toList ⟨#[]⟩
def replyLine (r : ReplyD) : ByteArray :=
  let s := ⟨#[99, 111, 100, 101, 32]⟩ ++ numeral r.code
  let s := if (r.code == 21) = true then s ++ (⟨#[32]⟩ ++ faultLine r.fault) else s
  if (isE r.pod && isE r.host) = true then s else s ++ (((⟨#[32]⟩ ++ r.pod) ++ ⟨#[32, 111, 110, 32]⟩) ++ r.host)
structure ReplyD.ok (r : ReplyD) : Prop where
  code : -9223372036854775808 ≤ r.code ∧ r.code ≤ 9223372036854775807
  fault : r.fault.ok
  pod : r.pod.size ≤ 1048576
  host : r.host.size ≤ 1048576
theorem faultLine_size (f : FaultD) (hf : f.ok) : (faultLine f).size ≤ 1048700 := by
  have h1 := hf.path
  have h2 := numeral_size f.code hf.code.1 hf.code.2
  have h3 := numeral_size f.pos hf.pos.1 hf.pos.2
  have h4 : (pathOr f.path).size ≤ 1048577 := by
    unfold pathOr
    split
    · simp [ba_size]
    · omega
  unfold faultLine
  simp only [ByteArray.size_append, ba_size, List.size_toArray, List.length_cons, List.length_nil]
  omega

set_option maxRecDepth 10000 in
set_option maxHeartbeats 1000000 in
theorem specReplyLine_D (r : ReplyD) (hr : r.ok) : Spec Tryd.prog 11 [.agg r.cells] (fun d => d = .sc (.string (replyLine r))) := by
  unfold ReplyD.cells
  have h1 := hr.pod
  have h2 := hr.host
  have h3 := numeral_size r.code hr.code.1 hr.code.2
  have h4 := faultLine_size r.fault hr.fault
  refine spec_intro (rs := [.tmp 2]) (nt := 35) Tryd.func11 rfl (by kernel_rfl) rfl rfl (by simp) fun X hX => ?_
  simp (maxSteps := 2000000) (disch := omega) only [wc_seq, wc_region, wops_nil, wops_plain, wgo_eq, stepK_some, stepK_none, stepOp, valOp, tq_normal, St.ev, St.get, St.put, St.newOb, St.ob, loadD, partD, fldD, D.cells, D.known, D.one, List.length_cons, List.length_nil, List.replicate_succ, List.replicate_zero, List.cons_append, List.nil_append, List.getElem?_cons_succ, List.getElem?_cons_zero, Option.getD_some, List.set_cons_succ, List.set_cons_zero, List.lookup_cons, List.all_cons, List.all_nil, oc_str, Option.map_some, Option.map_none, if_true, Bool.and_self, beq_self_eq_true, Nat.reduceAdd, Nat.reduceSub, Nat.zero_add, fl34_0, ty3, *]
  repeat' ((first | (refine boolK_intro (fun h => ?_) (fun h => ?_) <;> (try (have h' := h; simp only [decide_eq_true_eq, decide_eq_false_iff_not, Int.not_lt, Int.not_le, gt_iff_lt, ge_iff_le] at h'))) | (refine And.intro ?_ ?_) | ((first | refine awcall rfl _ _ (specDecimal_D _ hr.code) rfl rfl ?_ | refine awcallF rfl _ _ (specDecimal_D _ hr.code) rfl rfl ?_); rintro _ rfl) | ((first | refine awcall rfl _ _ (specFaultLine_D r.fault hr.fault) rfl rfl ?_ | refine awcallF rfl _ _ (specFaultLine_D r.fault hr.fault) rfl rfl ?_); rintro _ rfl) | fail) <;> (try simp (maxSteps := 2000000) (disch := omega) only [ba_size, wc_skip, wc_seq, wc_cond, wc_ret, wc_region, wops_nil, wops_plain, wops_false, wgo_eq, wskip_eq, guardD, boolK_true, boolK_false, stepK_some, stepK_none, stepOp, valOp, tq_normal, rq_ret, retOk, St.ev, St.get, St.put, St.ob, loadD, partD, fldD, binD, pickD, resAll, resD, tupD, D.noid, D.noidA, D.noid1, List.length_cons, List.length_nil, List.getElem?_cons_succ, List.getElem?_cons_zero, Option.getD_some, List.set_cons_succ, List.set_cons_zero, List.lookup_cons, List.drop_zero, List.drop_succ_cons, List.take_succ_cons, List.take_zero, List.size_toArray, oc_int, oc_str, oc_bool, Option.map_some, Option.map_none, if_true, if_false, reduceCtorEq, true_and, cond_false, beq_self_eq_true, Nat.reduceAdd, Nat.reduceLeDiff, Nat.zero_add, gpos, Int.reduceLE, fl34_0, ty3, fl34_1, ty26, fl34_2, ty9, fl34_3, ByteArray.size_append, *]))
  all_goals first | rfl | decide | (unfold replyLine isE; simp_all [ByteArray.append_assoc])

set_option maxRecDepth 10000 in
set_option maxHeartbeats 1000000 in
theorem implReplyLine_D (r : ReplyD) (hr : r.ok) : SpecT Tryd.prog tabT 13 [.agg r.cells] (fun d => d = .sc (.string (replyLine r))) := by
  unfold ReplyD.cells
  have h1 := hr.pod
  have h2 := hr.host
  have h3 := numeral_size r.code hr.code.1 hr.code.2
  have h4 := faultLine_size r.fault hr.fault
  refine specT_intro (rs := [.tmp 2]) (nt := 35) Tryd.func13 rfl (by kernel_rfl) rfl rfl (by simp) fun X hX hT => ?_
  simp (maxSteps := 2000000) (disch := omega) only [wc_seq, wc_region, wops_nil, wops_plain, wgo_eq, stepK_some, stepK_none, stepOp, valOp, tq_normal, St.ev, St.get, St.put, St.newOb, St.ob, loadD, partD, fldD, D.cells, D.known, D.one, List.length_cons, List.length_nil, List.replicate_succ, List.replicate_zero, List.cons_append, List.nil_append, List.getElem?_cons_succ, List.getElem?_cons_zero, Option.getD_some, List.set_cons_succ, List.set_cons_zero, List.lookup_cons, List.all_cons, List.all_nil, oc_str, Option.map_some, Option.map_none, if_true, Bool.and_self, beq_self_eq_true, Nat.reduceAdd, Nat.reduceSub, Nat.zero_add, fl34_0, ty3, *]
  repeat' ((first | (refine boolK_intro (fun h => ?_) (fun h => ?_) <;> (try (have h' := h; simp only [decide_eq_true_eq, decide_eq_false_iff_not, Int.not_lt, Int.not_le, gt_iff_lt, ge_iff_le] at h'))) | (refine And.intro ?_ ?_) | ((first | refine awcallT tab_stays hT rfl _ _ (implDecimal_D _ hr.code) rfl rfl ?_ | refine awcallTF tab_stays hT rfl _ _ (implDecimal_D _ hr.code) rfl rfl ?_); rintro _ rfl) | ((first | refine awcallT tab_stays hT rfl _ _ (implFaultLine_D r.fault hr.fault) rfl rfl ?_ | refine awcallTF tab_stays hT rfl _ _ (implFaultLine_D r.fault hr.fault) rfl rfl ?_); rintro _ rfl) | (refine Exists.intro [] (And.intro rfl ?_)) | fail) <;> (try simp (maxSteps := 2000000) (disch := omega) only [eq_self, frzs, ba_size, wc_skip, wc_seq, wc_cond, wc_ret, wc_region, wops_nil, wops_plain, wops_false, wgo_eq, wskip_eq, guardD, boolK_true, boolK_false, stepK_some, stepK_none, stepOp, valOp, tq_normal, retOk, St.ev, St.get, St.put, St.ob, loadD, partD, fldD, binD, pickD, resAll, resD, tupD, D.noid, D.noidA, D.noid1, List.length_cons, List.length_nil, List.getElem?_cons_succ, List.getElem?_cons_zero, Option.getD_some, List.set_cons_succ, List.set_cons_zero, List.lookup_cons, List.drop_zero, List.drop_succ_cons, List.take_succ_cons, List.take_zero, List.size_toArray, oc_int, oc_str, oc_bool, Option.map_some, Option.map_none, if_true, if_false, reduceCtorEq, true_and, cond_false, beq_self_eq_true, Nat.reduceAdd, Nat.reduceLeDiff, Nat.zero_add, gpos, Int.reduceLE, fl34_0, ty3, fl34_1, ty26, fl34_2, ty9, fl34_3, ByteArray.size_append, rqz_ret, *]))
  all_goals first | rfl | decide | (unfold replyLine isE; simp_all [ByteArray.append_assoc])

set_option maxRecDepth 10000 in
set_option maxHeartbeats 1000000 in
theorem toReply_D (r : ReplyD) : Spec Tryd.prog 12 [.agg r.cells] (fun d => d = .agg r.cells) := by
  unfold ReplyD.cells
  refine spec_intro (rs := [.cell 2 34]) (nt := 18) Tryd.func12 rfl (by kernel_rfl) rfl rfl (by simp) fun X hX => ?_
  simp (maxSteps := 2000000) (disch := omega) only [wc_seq, wc_region, wops_nil, wops_plain, wgo_eq, stepK_some, stepK_none, stepOp, valOp, tq_normal, St.ev, St.get, St.put, St.newOb, St.setCs, setCs, St.ob, loadD, partD, storeD, setL, fldD, D.cells, D.known, D.one, List.length_cons, List.length_nil, List.replicate_succ, List.replicate_zero, List.cons_append, List.nil_append, List.getElem?_cons_succ, List.getElem?_cons_zero, Option.getD_some, List.set_cons_succ, List.set_cons_zero, List.lookup_cons, List.map_cons, List.map_nil, List.all_cons, List.all_nil, List.drop_zero, List.drop_succ_cons, List.take_succ_cons, List.take_zero, List.toList_toArray, List.size_toArray, oc_int, oc_str, vc_agg, Option.map_some, Option.map_none, if_true, if_false, reduceCtorEq, and_self, Bool.and_self, beq_self_eq_true, Nat.reduceBEq, Nat.reduceAdd, Nat.reduceLeDiff, Nat.reduceEqDiff, Nat.reduceSub, Nat.zero_add, ze34, fl30_0, ty3, fl34_0, fl30_1, ty23, *]
  repeat' ((first | (refine boolK_intro (fun h => ?_) (fun h => ?_) <;> (try (have h' := h; simp only [decide_eq_true_eq, decide_eq_false_iff_not, Int.not_lt, Int.not_le, gt_iff_lt, ge_iff_le] at h'))) | (refine And.intro ?_ ?_) | ((first | refine awcall rfl _ _ (toFault_D r.fault) rfl rfl ?_ | refine awcallF rfl _ _ (toFault_D r.fault) rfl rfl ?_); rintro _ rfl) | fail) <;> (try simp (maxSteps := 2000000) (disch := omega) only [wc_seq, wc_ret, wc_region, wops_nil, wops_plain, wgo_eq, stepK_some, stepOp, valOp, tq_normal, rq_ret, retOk, St.ev, St.get, St.put, St.setCs, setCs, St.ob, loadD, partD, storeD, setL, fldD, D.cells, D.known, D.one, resAll, resD, tupD, D.noid, D.noidA, D.noid1, List.length_cons, List.length_nil, List.getElem?_cons_succ, List.getElem?_cons_zero, Option.getD_some, List.set_cons_succ, List.set_cons_zero, List.lookup_cons, List.map_cons, List.map_nil, List.all_cons, List.all_nil, List.drop_zero, List.take_succ_cons, List.take_zero, Option.map_some, if_true, if_false, reduceCtorEq, and_self, Bool.and_self, beq_self_eq_true, Nat.reduceBEq, Nat.reduceAdd, Nat.reduceLeDiff, Nat.reduceEqDiff, Nat.zero_add, Nat.le_refl, fl34_1, ty26, fl30_2, ty9, fl34_2, fl30_3, fl34_3, ty34, FaultD.cells, *]))

set_option maxRecDepth 10000 in
set_option maxHeartbeats 1000000 in
theorem szReply_D (r : ReplyD) (ht : r.fault.path.size ≤ 9223372036854775807) (hp : r.pod.size ≤ 9223372036854775807) (hh : r.host.size ≤ 9223372036854775807) (left : Int) (h0 : 0 ≤ left) (h1 : left ≤ 1048576) : Spec Tryd.prog 10 [.agg r.cells, .sc (.int .i64 left)] (fun d => ∃ q : Int, d = .sc (.int .i64 q) ∧ q ≤ left ∧ (q = -1 ∨ (0 ≤ q ∧ q + ((r.fault.path.size : Int) + r.pod.size + r.host.size) = left))) := by
  unfold ReplyD.cells
  refine spec_intro (rs := [.tmp 4]) (nt := 26) Tryd.func10 rfl (by kernel_rfl) rfl rfl (by simp) fun X hX => ?_
  simp (maxSteps := 2000000) (disch := omega) only [wc_seq, wc_region, wops_nil, wops_plain, wgo_eq, stepK_some, stepK_none, stepOp, valOp, tq_normal, St.ev, St.get, St.put, St.newOb, St.ob, loadD, partD, fldD, D.cells, D.known, D.one, List.length_cons, List.length_nil, List.replicate_succ, List.replicate_zero, List.cons_append, List.nil_append, List.getElem?_cons_succ, List.getElem?_cons_zero, Option.getD_some, List.set_cons_succ, List.set_cons_zero, List.lookup_cons, List.all_cons, List.all_nil, List.drop_zero, List.drop_succ_cons, List.take_succ_cons, List.take_zero, oc_int, Option.map_some, Option.map_none, if_true, Bool.and_self, beq_self_eq_true, Nat.reduceAdd, Nat.reduceLeDiff, Nat.reduceSub, Nat.zero_add, fl30_1, ty23, *]
  repeat' ((first | (refine boolK_intro (fun h => ?_) (fun h => ?_) <;> (try (have h' := h; simp only [decide_eq_true_eq, decide_eq_false_iff_not, Int.not_lt] at h'))) | (refine And.intro ?_ ?_) | ((first | refine awcall rfl _ _ (szFault_D r.fault ht _ (by omega) (by omega)) rfl rfl ?_ | refine awcallF rfl _ _ (szFault_D r.fault ht _ (by omega) (by omega)) rfl rfl ?_); rintro _ ⟨q, rfl, hr1, hr2⟩) | fail) <;> (try simp (maxSteps := 2000000) (disch := omega) only [wc_skip, wc_seq, wc_cond, wc_ret, wc_region, wops_nil, wops_plain, wgo_eq, stepK_some, stepOp, valOp, tq_normal, tq_ret, rq_ret, retOk, St.ev, St.get, St.put, St.ob, loadD, partD, fldD, lenOp, binD, resAll, resD, tupD, D.noid, D.noidA, D.noid1, List.getElem?_cons_succ, List.getElem?_cons_zero, Option.getD_some, List.set_cons_succ, List.set_cons_zero, List.lookup_cons, oc_int, Option.map_some, if_true, if_false, reduceCtorEq, true_and, beq_self_eq_true, Nat.zero_add, wrap_in, gpos, Int.reduceLE, fl30_2, ty9, st9, fl30_3, *]))
  all_goals (refine ⟨_, rfl, ?_, ?_⟩ <;> omega)

set_option maxRecDepth 10000 in
set_option maxHeartbeats 1000000 in
theorem lawReplyLine_D (r : ReplyD) (hc : (-9223372036854775808 ≤ r.code ∧ r.code ≤ 9223372036854775807)) (hfc : (-9223372036854775808 ≤ r.fault.code ∧ r.fault.code ≤ 9223372036854775807)) (hfp : (-9223372036854775808 ≤ r.fault.pos ∧ r.fault.pos ≤ 9223372036854775807)) (ht : r.fault.path.size ≤ 9223372036854775807) (hp : r.pod.size ≤ 9223372036854775807) (hh : r.host.size ≤ 9223372036854775807) : SpecT Tryd.prog tabT 4 [.agg r.cells] (fun d => d = .sc (.bool true)) := by
  refine specT_intro (rs := [.tmp 2]) (nt := 20) Tryd.func4 rfl (by kernel_rfl) rfl rfl (by simp) fun X hX hT => ?_
  simp (maxSteps := 2000000) (disch := omega) only [wc_seq, wc_region, wops_plain, wgo_eq, stepOp, St.ev, St.get, St.put, St.newOb, D.cells, D.known, List.length_cons, List.length_nil, List.replicate_succ, List.replicate_zero, List.cons_append, List.nil_append, List.getElem?_cons_zero, Option.getD_some, List.set_cons_succ, List.set_cons_zero, Nat.reduceSub, Nat.zero_add, *]
  repeat' ((first | (refine boolK_intro (fun h => ?_) (fun h => ?_) <;> (try (have h' := h; simp only [decide_eq_true_eq, decide_eq_false_iff_not, Int.not_lt] at h'))) | (refine And.intro ?_ ?_) | ((first | refine awcall rfl _ _ (szReply_D r ht hp hh _ (by omega) (by omega)) rfl rfl ?_ | refine awcallF rfl _ _ (szReply_D r ht hp hh _ (by omega) (by omega)) rfl rfl ?_); rintro _ ⟨q, rfl, hr1, hr2⟩) | ((first | refine awcall rfl _ _ (toReply_D r) rfl rfl ?_ | refine awcallF rfl _ _ (toReply_D r) rfl rfl ?_); rintro _ rfl) | ((first | refine awcall rfl _ _ (specReplyLine_D r ⟨hc, ⟨hfc, hfp, by omega⟩, by omega, by omega⟩) rfl rfl ?_ | refine awcallF rfl _ _ (specReplyLine_D r ⟨hc, ⟨hfc, hfp, by omega⟩, by omega, by omega⟩) rfl rfl ?_); rintro _ rfl) | ((first | refine awcallT tab_stays hT rfl _ _ (implReplyLine_D r ⟨hc, ⟨hfc, hfp, by omega⟩, by omega, by omega⟩) rfl rfl ?_ | refine awcallTF tab_stays hT rfl _ _ (implReplyLine_D r ⟨hc, ⟨hfc, hfp, by omega⟩, by omega, by omega⟩) rfl rfl ?_); rintro _ rfl) | (refine Exists.intro [] (And.intro rfl ?_)) | fail) <;> (try simp (maxSteps := 2000000) (disch := omega) only [eq_self, frzs, wc_skip, wc_seq, wc_cond, wc_ret, wc_region, wops_nil, wops_plain, wgo_eq, boolK_false, stepK_some, stepK_none, stepOp, valOp, tq_normal, tq_ret, retOk, St.ev, St.get, St.put, St.ob, loadD, partD, binD, resAll, resD, tupD, D.noid, D.noidA, D.noid1, List.getElem?_cons_succ, List.getElem?_cons_zero, Option.getD_some, List.set_cons_succ, List.set_cons_zero, List.lookup_cons, List.drop_zero, oc_int, oc_bool, Option.map_some, Option.map_none, if_true, if_false, reduceCtorEq, and_self, Bool.not_true, beq_self_eq_true, Nat.zero_add, Int.reduceLE, decide_true, ty30, rqz_ret, *]))

end Go.Proofs.YtepachoampdhiaaDoor
