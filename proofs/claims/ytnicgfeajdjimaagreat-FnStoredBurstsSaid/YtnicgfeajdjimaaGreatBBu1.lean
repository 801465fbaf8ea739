/- Bu (what is wanted of them). -/
import Derived.Test.YtnicgfeajdjimaaGreatBCrc
import Derived.Test.YtnicgfeajdjimaaGreatBTr2
import Derived.Test.YtnicgfeajdjimaaGreatBAwc
import Derived.Test.YtnicgfeajdjimaaGreatBScp
namespace Go.Proofs.YtnicgfeajdjimaaGreat
open Go.RowKit
set_option linter.unusedVariables false
theorem xor8_all : ((List.range 256).all fun n => (List.range 8).all fun m => bitI .xor .u8 (n : Int) (bitI .shl .u8 1 (m : Int)) == ((n ^^^ 2 ^ m : Nat) : Int)) = true := by decide +kernel
theorem xor8 {a : Int} {m : Nat} (ha : 0 ≤ a ∧ a ≤ 255) (hm : m < 8) : bitI .xor .u8 a (bitI .shl .u8 1 (m : Int)) = ((a.toNat ^^^ 2 ^ m : Nat) : Int) := by
  obtain ⟨n, rfl⟩ := Int.eq_ofNat_of_zero_le ha.1
  have h1 := List.all_eq_true.1 xor8_all n (List.mem_range.2 (by omega))
  have h2 := List.all_eq_true.1 h1 m (List.mem_range.2 hm)
  simpa using h2
theorem and_1 (n : Nat) (h : n ≤ 4294967295) : bitI .and .i64 (n : Int) 1 = ((n % 2 : Nat) : Int) := by
  delta bitI
  show IntKind.i64.wrap (((BitVec.ofInt 64 (n : Int) &&& BitVec.ofInt 64 (1 : Int)).toNat : Nat) : Int) = _
  rw [BitVec.ofInt_natCast, show (1 : Int) = ((1 : Nat) : Int) from rfl, BitVec.ofInt_natCast, BitVec.toNat_and, BitVec.toNat_ofNat, BitVec.toNat_ofNat, Nat.mod_eq_of_lt (by omega), Nat.mod_eq_of_lt (by decide), Nat.and_one_is_mod, wrap_in _ (by omega)]
theorem shr_n (n i : Nat) (hi : i < 32) : bitI .shr .i64 (n : Int) (i : Int) = ((n / 2 ^ i : Nat) : Int) := by
  delta bitI
  show (n : Int).fdiv (2 ^ (min (i : Int).toNat 64)) = _
  rw [Int.toNat_natCast, Nat.min_eq_left (by omega), Int.fdiv_eq_ediv_of_nonneg _ (by exact Int.le_of_lt (Int.pow_pos (by decide)))]
  push_cast <;> rfl
theorem bit_1 {b : Int} {i : Nat} (hb : 0 ≤ b ∧ b ≤ 4294967295) (hi : i < 32) : bitI .and .i64 (bitI .shr .i64 b (i : Int)) 1 = (if b.toNat.testBit i then 1 else 0) := by
  obtain ⟨n, rfl⟩ := Int.eq_ofNat_of_zero_le hb.1
  have hle : n / 2 ^ i ≤ n := Nat.div_le_self _ _
  rw [shr_n n i hi, and_1 _ (by omega), Int.toNat_natCast, Nat.testBit_eq_decide_div_mod_eq]
  rcases Nat.mod_two_eq_zero_or_one (n / 2 ^ i) with h | h <;> rw [h] <;> rfl
theorem strB_at (s : ByteArray) (k : Nat) : (strB s).getD k 0 = bytB s k := by
  unfold strB bytB
  rw [List.getD_eq_getElem?_getD, List.getElem?_map, Array.getElem?_toList, Array.getD_eq_getD_getElem?]
  cases s.data[k]? <;> rfl
/-- Behind i rounds the bits from p on are turned where b says so. -/
structure Flp (s : ByteArray) (p b i : Nat) (ns : List Int) : Prop where
  len : ns.length = s.size
  rng : ∀ k, 0 ≤ ns.getD k 0 ∧ ns.getD k 0 ≤ 255
  bit : ∀ j, j < 8 * s.size → (ns.getD (j / 8) 0).toNat.testBit (j % 8) = (bitAt s j ^^ (decide (p ≤ j ∧ j < p + i) && b.testBit (j - p)))
theorem flp_0 (s : ByteArray) (p b : Nat) : Flp s p b 0 (strB s) := by
  refine ⟨strB_len s, fun k => ?_, fun j hj => ?_⟩
  · rw [strB_at]; exact bytB_rng s k
  · rw [strB_at, decide_eq_false (by omega), Bool.false_and, Bool.xor_false]
    rfl
theorem flp_no {s : ByteArray} {p b i : Nat} {ns : List Int} (h : Flp s p b i ns) (hb : b.testBit i = false) : Flp s p b (i + 1) ns := by
  refine ⟨h.len, h.rng, fun j hj => ?_⟩
  rw [h.bit j hj]
  by_cases e : j = p + i
  · subst e
    rw [show p + i - p = i by omega, hb, Bool.and_false, Bool.and_false]
  · rw [show decide (p ≤ j ∧ j < p + (i + 1)) = decide (p ≤ j ∧ j < p + i) from decide_eq_decide.2 (by omega)]
theorem getD_set (ns : List Int) (k q : Nat) (v : Int) (hk : k < ns.length) : (ns.set k v).getD q 0 = if q = k then v else ns.getD q 0 := by
  rw [List.getD_eq_getElem?_getD, List.getElem?_set]
  by_cases e : k = q
  · subst e; simp [hk]
  · rw [if_neg e, if_neg (fun h => e h.symm), List.getD_eq_getElem?_getD]
theorem flp_yes {s : ByteArray} {p b i : Nat} {ns : List Int} (h : Flp s p b i ns) (hb : b.testBit i = true) (hlt : p + i < 8 * s.size) : Flp s p b (i + 1) (ns.set ((p + i) / 8) ((((ns.getD ((p + i) / 8) 0).toNat ^^^ 2 ^ ((p + i) % 8) : Nat) : Int))) := by
  have hk : (p + i) / 8 < ns.length := by rw [h.len]; omega
  have hm : (p + i) % 8 < 8 := Nat.mod_lt _ (by decide)
  have hr := h.rng ((p + i) / 8)
  refine ⟨by rw [List.length_set]; exact h.len, fun k => ?_, fun j hj => ?_⟩
  · rw [getD_set _ _ _ _ hk]
    split
    · have h1 : (ns.getD ((p + i) / 8) 0).toNat ^^^ 2 ^ ((p + i) % 8) < 2 ^ 8 := Nat.xor_lt_two_pow (by omega) (Nat.pow_lt_pow_right (by decide) hm)
      omega
    · exact h.rng k
  · rw [getD_set _ _ _ _ hk]
    by_cases e : j / 8 = (p + i) / 8
    · rw [if_pos e, Int.toNat_natCast, Nat.testBit_xor, ← e, h.bit j hj, Nat.testBit_two_pow, Bool.xor_assoc]
      congr 1
      by_cases e2 : j = p + i
      · subst e2
        rw [show p + i - p = i by omega, hb, decide_eq_false (by omega), decide_eq_true rfl, decide_eq_true (by omega)]
        rfl
      · rw [decide_eq_false (by omega : ¬ (p + i) % 8 = j % 8), Bool.xor_false, show decide (p ≤ j ∧ j < p + (i + 1)) = decide (p ≤ j ∧ j < p + i) from decide_eq_decide.2 (by omega)]
    · rw [if_neg e, h.bit j hj, show decide (p ≤ j ∧ j < p + (i + 1)) = decide (p ≤ j ∧ j < p + i) from decide_eq_decide.2 (by omega)]
/-- t is s with bits turned in a row of 32 from p on. -/
structure Bent (s t : ByteArray) (p b : Nat) : Prop where
  sz : t.size = s.size
  bit : ∀ j, j < 8 * s.size → bitAt t j = (bitAt s j ^^ (decide (p ≤ j ∧ j < p + 32) && b.testBit (j - p)))
theorem flp_end {s : ByteArray} {p b i : Nat} {ns : List Int} (h : Flp s p b i ns) (hi : i ≤ 32) (he : 32 ≤ i ∨ 8 * s.size ≤ p + i) : Bent s (strOf ns) p b := by
  refine ⟨by rw [strOf_size, h.len], fun j hj => ?_⟩
  have hj8 : j / 8 < ns.length := by rw [h.len]; omega
  have hg : ns.getD (j / 8) 0 = ns[j / 8] := by rw [List.getD_eq_getElem?_getD, List.getElem?_eq_getElem hj8]; rfl
  have hr := h.rng (j / 8)
  unfold bitAt
  rw [bytB_str hj8 (by rw [← hg]; exact hr.1) (by rw [← hg]; exact hr.2), ← hg, h.bit j hj]
  unfold bitAt
  rw [show decide (p ≤ j ∧ j < p + i) = decide (p ≤ j ∧ j < p + 32) from decide_eq_decide.2 (by omega)]
theorem difs_cut (s t : ByteArray) (a m r : Nat) : difs s t (a + (m + r)) = (List.range a).map (fun j => bitAt s j ^^ bitAt t j) ++ ((List.range m).map (fun j => bitAt s (a + j) ^^ bitAt t (a + j)) ++ (List.range r).map fun j => bitAt s (a + (m + j)) ^^ bitAt t (a + (m + j))) := by
  unfold difs
  rw [List.range_add, List.map_append, List.map_map, List.range_add, List.map_append, List.map_map]
  rfl
theorem fr_zero {s : ByteArray} (h : (frR s).2 = 0) : 14 ≤ s.size ∧ le4 s (s.size - 4) = sumB (s.extract 0 (s.size - 4)) := by
  unfold frR at h
  split at h
  · exact absurd h (by decide)
  split at h
  · exact absurd h (by decide)
  split at h
  · exact absurd h (by decide)
  split at h
  · exact absurd h (by decide)
  split at h
  · exact absurd h (by decide)
  · rename_i h1 _ _ _ h5
    exact ⟨by omega, Classical.not_not.1 h5⟩
theorem bent_frame {s t : ByteArray} {p b : Nat} (hb : Bent s t p b) (hs : (frR s).2 = 0) (hp : p < 8 * s.size) (h0 : b.testBit 0 = true) : ¬ (frR t).2 = 0 := by
  intro ht
  obtain ⟨h1, h2⟩ := fr_zero hs
  obtain ⟨h3, h4⟩ := fr_zero ht
  have hg : ∀ j, j < 8 * s.size → (bitAt s j ^^ bitAt t j) = (decide (p ≤ j ∧ j < p + 32) && b.testBit (j - p)) := fun j hj => by
    rw [hb.bit j hj]
    cases bitAt s j <;> cases (decide (p ≤ j ∧ j < p + 32) && b.testBit (j - p)) <;> rfl
  obtain ⟨m, r, hm, hmr, hm1, hm2⟩ : ∃ m r, 8 * s.size = p + (m + r) ∧ m ≤ 32 ∧ 1 ≤ m ∧ (r = 0 ∨ m = 32) := by
    by_cases hc : 8 * s.size ≤ p + 32
    · exact ⟨8 * s.size - p, 0, by omega, by omega, by omega, .inl rfl⟩
    · exact ⟨32, 8 * s.size - p - 32, by omega, by omega, by omega, .inr rfl⟩
  refine burst_sum hb.sz (by omega) (a := (List.range p).map (fun j => bitAt s j ^^ bitAt t j)) (b := (List.range m).map (fun j => bitAt s (p + j) ^^ bitAt t (p + j))) (c := (List.range r).map fun j => bitAt s (p + (m + j)) ^^ bitAt t (p + (m + j))) ?_ ?_ ?_ ?_ ?_ h2 h4
  · rw [hm]; exact difs_cut s t p m r
  · intro x hx
    obtain ⟨j, hj, rfl⟩ := List.mem_map.1 hx
    have := List.mem_range.1 hj
    rw [hg j (by omega), decide_eq_false (by omega), Bool.false_and]
  · rw [List.length_map, List.length_range]; exact hmr
  · refine List.mem_map.2 ⟨0, List.mem_range.2 (by omega), ?_⟩
    rw [hg (p + 0) (by omega), decide_eq_true (by omega), show p + 0 - p = 0 by omega, h0]
    rfl
  · intro x hx
    obtain ⟨j, hj, rfl⟩ := List.mem_map.1 hx
    have := List.mem_range.1 hj
    rw [hg _ (by omega), decide_eq_false (by omega), Bool.false_and]
theorem bent_stored {c : ClusterD} {k : Int} {t : ByteArray} {p b : Nat} {q : ClusterD} {code : Int} (hf : c.fine) (he : expB c k = true) (hb : Bent (storedT c k) t p b) (hp : p < 8 * (storedT c k).size) (h0 : b.testBit 0 = true) (h : St8 t q code) : zeroC = q ∧ ¬ code = 0 := by
  have hne := bent_frame hb (by rw [stored_frame hf he]) hp h0
  have e := h.eq
  unfold rdSt at e
  rw [if_pos hne] at e
  injection e with e1 e2
  exact ⟨e1, by rw [← e2]; exact hne⟩
end Go.Proofs.YtnicgfeajdjimaaGreat

namespace Go.Proofs.YtnicgfeajdjimaaGreat
open Go.RowKit
set_option linter.unusedVariables false
set_option linter.unusedSimpArgs false
set_option maxRecDepth 100000
set_option maxHeartbeats 4000000
theorem stb_ {X : Ctx} {P : Program} {o : Oper} {s : St} {wr : List Nat} {nb : Nat} {src dst : TypeId} {x : Operand} {K : St → Prop} (ho : o.op = .convert src dst x) (h : Wk (stepK (stbS P s o src dst (s.ev x)) K False)) : Wk (AwStepF X P o s wr nb K) := ⟨stbGF ho h.out⟩
theorem sli_u8 : sliU8 Tryz.prog 53 = some 5 := by kernel_rfl
theorem not_str : isStr Tryz.prog 53 = false := by kernel_rfl
theorem intk_uint : intK Tryz.prog 135 = some IntKind.u64 := by kernel_rfl
theorem und_str : (Tryz.prog.underlying 9).isSome = true := by kernel_rfl
theorem stb_str {s : St} {o : Oper} {t : ByteArray} (h : t.size ≤ 9223372036854775807) : stbS Tryz.prog s o 9 53 (.sc (.string t)) = some ((s.newOb ⟨1000000, 1, t.size, u8D (strB t)⟩).put o.dst (.own s.nb 0 t.size)) := by
  unfold stbS stbD
  have h1 := und_str
  cases hu : Tryz.prog.underlying 9 with
  | none => rw [hu] at h1; cases h1
  | some u => simp only [sli_u8, h, if_true]
structure PlcN (x : Int) : Prop where
  lo : 0 ≤ x
  hi : x < 10000
theorem tdiv8 {m : Int} (h : 0 ≤ m) : m.tdiv 8 = m / 8 := Int.tdiv_eq_ediv_of_nonneg h
theorem tmod8 {m : Int} (h : 0 ≤ m) : m.tmod 8 = m % 8 := Int.tmod_eq_emod_of_nonneg h
theorem u64_in {i : Int} (h : 0 ≤ i ∧ i ≤ 100) : IntKind.u64.wrap i = i := by
  show i % _ = i
  exact Int.emod_eq_of_lt h.1 (by show i < 18446744073709551616; omega)
theorem u64i {i : Nat} (h : i ≤ 100) : IntKind.u64.wrap (i : Int) = (i : Int) := u64_in (by omega)
def qk (p i : Nat) : Nat := (p + i) / 8
def qm (p i : Nat) : Nat := (p + i) % 8
theorem qm_lt (p i : Nat) : qm p i < 8 := Nat.mod_lt _ (by decide)
theorem bit_no {b : Int} {i : Nat} (hb : 0 ≤ b ∧ b ≤ 4294967295) (hi : (i : Int) < 32) (h : ¬ bitI .and .i64 (bitI .shr .i64 b (i : Int)) 1 = 1) : b.toNat.testBit i = false := by
  rw [bit_1 hb (by omega)] at h
  cases e : b.toNat.testBit i with
  | false => rfl
  | true => exact absurd (by rw [e]; rfl) h
theorem bit_yes {b : Int} {i : Nat} (hb : 0 ≤ b ∧ b ≤ 4294967295) (hi : (i : Int) < 32) (h : bitI .and .i64 (bitI .shr .i64 b (i : Int)) 1 ≤ 1 ∧ 1 ≤ bitI .and .i64 (bitI .shr .i64 b (i : Int)) 1) : b.toNat.testBit i = true := by
  rw [bit_1 hb (by omega)] at h
  cases e : b.toNat.testBit i with
  | false => rw [e] at h; exact absurd h.2 (by decide)
  | true => rfl
theorem k8 {p : Int} {i : Nat} (hp : 0 ≤ p) (hl : p + (i : Int) ≤ 4611686018427387904) : IntKind.i64.wrap ((p + (i : Int)).tdiv 8) = (qk p.toNat i : Int) := by
  unfold qk; rw [tdiv8 (by omega), wrap_in _ (by omega)]; omega
theorem m8 {p : Int} {i : Nat} (hp : 0 ≤ p) : (p + (i : Int)).tmod 8 = (qm p.toNat i : Int) := by
  unfold qm; rw [tmod8 (by omega)]; omega
theorem qm_u (p i : Nat) : IntKind.u64.wrap (qm p i : Int) = (qm p i : Int) := u64_in (by have := qm_lt p i; omega)
theorem qk_n {p : Int} {i n : Nat} (hp : 0 ≤ p) (h : p + (i : Int) < 8 * (n : Int)) : qk p.toNat i < n := by
  unfold qk; omega
theorem qk_i {p : Int} {i n : Nat} (hp : 0 ≤ p) (h : p + (i : Int) < 8 * (n : Int)) : (qk p.toNat i : Int) < (n : Int) := by
  unfold qk; omega
theorem u8D_q (ns : List Int) {p : Int} {i : Nat} (hp : 0 ≤ p) (h : p + (i : Int) < 8 * (ns.length : Int)) : (u8D ns)[qk p.toNat i]? = some (.sc (.int .u8 (ns.getD (qk p.toNat i) 0))) := by
  have := qk_n hp h
  simp [u8D, this]
theorem qk_1 {p : Int} {i n : Nat} (hp : 0 ≤ p) (h : p + (i : Int) < 8 * (n : Int)) : qk p.toNat i + 1 ≤ n := qk_n hp h
theorem xor_q {a : Int} {p i : Nat} (ha : 0 ≤ a ∧ a ≤ 255) : bitI .xor .u8 a (bitI .shl .u8 1 (qm p i : Int)) = ((a.toNat ^^^ 2 ^ qm p i : Nat) : Int) := xor8 ha (qm_lt p i)
theorem flp_yesQ {s : ByteArray} {p b : Int} {i : Nat} {ns : List Int} (h : Flp s p.toNat b.toNat i ns) (hp : 0 ≤ p) (hb : 0 ≤ b ∧ b ≤ 4294967295) (hi : (i : Int) < 32) (hlt : p + (i : Int) < 8 * (s.size : Int)) (hy : bitI .and .i64 (bitI .shr .i64 b (i : Int)) 1 ≤ 1 ∧ 1 ≤ bitI .and .i64 (bitI .shr .i64 b (i : Int)) 1) : Flp s p.toNat b.toNat (i + 1) (ns.set (qk p.toNat i) (bitI .xor .u8 (ns.getD (qk p.toNat i) 0) (bitI .shl .u8 1 (qm p.toNat i : Int)))) := by
  rw [xor_q (h.rng _)]
  exact flp_yes h (bit_yes hb hi hy) (by omega)
theorem plc_at {o : List Int} (h : RowW PlcN 12 o) (hl : o.length = 12) {k : Nat} (hk : k < 12) : 0 ≤ o.getD k default ∧ o.getD k default < 10000 := by
  have h1 : PlcN (o.getD k default) := by
    rw [List.getD_eq_getElem?_getD, List.getElem?_eq_getElem (by omega)]
    exact h.all _ (List.getElem_mem _)
  exact ⟨h1.lo, h1.hi⟩
def plQ (o : List Int) (n : Nat) : Int := (o.getD 2 default * 10000 + o.getD 3 default).tmod (8 * (n : Int))
def plB (o : List Int) : Int := 1 + 2 * (o.getD 0 default * 10000 + o.getD 1 default)
theorem plQ_in {o : List Int} {n : Nat} (h2 : 0 ≤ o.getD 2 default ∧ o.getD 2 default < 10000) (h3 : 0 ≤ o.getD 3 default ∧ o.getD 3 default < 10000) (hn : 0 < n) : 0 ≤ plQ o n ∧ plQ o n < 8 * (n : Int) := by
  unfold plQ
  rw [Int.tmod_eq_emod_of_nonneg (by omega)]
  exact ⟨Int.emod_nonneg _ (by omega), Int.emod_lt_of_pos _ (by omega)⟩
theorem plB_in {o : List Int} (h0 : 0 ≤ o.getD 0 default ∧ o.getD 0 default < 10000) (h1 : 0 ≤ o.getD 1 default ∧ o.getD 1 default < 10000) : 0 ≤ plB o ∧ plB o ≤ 4294967295 := by
  unfold plB; omega
theorem plB_odd {o : List Int} (h0 : 0 ≤ o.getD 0 default ∧ o.getD 0 default < 10000) (h1 : 0 ≤ o.getD 1 default ∧ o.getD 1 default < 10000) : (plB o).toNat.testBit 0 = true := by
  rw [Nat.testBit_zero]
  exact decide_eq_true (by unfold plB; omega)
theorem st_14 {c : ClusterD} (hf : c.fine) (he : expB c 3 = true) : 14 ≤ (storedT c 3).size := (fr_zero (by rw [stored_frame hf he])).1
theorem bent_s {c : ClusterD} {s t : ByteArray} {p b : Nat} {q : ClusterD} {code : Int} (hE : Hid (storedT c 3 = s)) (hf : c.fine) (he : expB c 3 = true) (hb : Bent s t p b) (hp : p < 8 * s.size) (h0 : b.testBit 0 = true) (h : St8 t q code) : zeroC = q ∧ ¬ code = 0 := by
  have e := hE.out; subst e
  exact bent_stored hf he hb hp h0 h
theorem read_s {c q : ClusterD} {s : ByteArray} {code : Int} (hE : Hid (storedT c 3 = s)) (hf : c.fine) (he : expB c 3 = true) (h : St8 s q code) : c = q ∧ 0 = code := by
  have e := hE.out; subst e
  exact st_read hf he h
/-- What reads as d reads as d' too. -/
def ASub (d d' : D) : Prop := ∀ (E : Env) (w : World) (v : Value), Rep E w d v → Rep E w d' v
def ASub1 (d d' : D) : Prop := d' = d ∨ (d = .sc (.slice none 0 0) ∧ d' = .sl 0 [])
theorem ASub1.rep1 {d d' : D} (h : ASub1 d d') {E : Env} {w : World} {v : Value} (hr : Rep1 E w d v) : Rep1 E w d' v := by
  rcases h with rfl | ⟨rfl, rfl⟩
  · exact hr
  · obtain ⟨rfl, _⟩ := hr
    exact .sl 0 [] none 0 [] rfl (Nat.le_refl _) (Nat.zero_le _) (fun j u h => by simp at h) (fun j d u h => by simp at h)
theorem ASub.agg {cs cs' : List D} (hl : cs.length = cs'.length) (h : ∀ (j : Nat) (d d' : D), cs[j]? = some d → cs'[j]? = some d' → ASub1 d d') : ASub (.agg cs) (.agg cs') := by
  rintro E w v ⟨us, h1, h2, h3⟩
  refine ⟨us, h1, h2.trans hl, fun j d' u hd' hu => ?_⟩
  cases hc : cs[j]? with
  | none =>
    have := List.getElem?_eq_none_iff.1 hc
    have h4 : j < cs'.length := (List.getElem?_eq_some_iff.1 hd').1
    omega
  | some d => exact ⟨(h j d d' hc hd').rep1 (h3 j d u hc hu).1, (h3 j d u hc hu).2⟩
theorem Spec.argsA {P : Program} {f : FuncId} {ds ds' : List D} {Q : D → Prop} (h : Spec P f ds' Q) (hl : ds.length = ds'.length) (hs : ∀ (j : Nat) (d d' : D), ds[j]? = some d → ds'[j]? = some d' → ASub d d') : Spec P f ds Q := by
  refine ⟨h.1, fun ro w args h1 h2 h3 => h.2 ro w args h1 (h2.trans hl) fun j d' hd' => ?_⟩
  cases hc : ds[j]? with
  | none =>
    have := List.getElem?_eq_none_iff.1 hc
    have h4 : j < ds'.length := (List.getElem?_eq_some_iff.1 hd').1
    omega
  | some d => exact hs j d d' hc hd' _ _ _ (h3 j d hc)
def nilC : D := .agg [.sc (.slice none 0 0), .sc (.slice none 0 0), .sc (.int .i64 0), .sc (.int .i64 0), .sc (.int .i64 0), .sc (.int .i64 0)]
theorem nilC_sub : ASub nilC zeroC.d := by
  refine ASub.agg rfl fun j d d' h h' => ?_
  match j with
  | 0 => exact .inr ⟨(Option.some.inj h).symm, (Option.some.inj h').symm⟩
  | 1 => exact .inr ⟨(Option.some.inj h).symm, (Option.some.inj h').symm⟩
  | 2 | 3 | 4 | 5 => exact .inl ((Option.some.inj h').symm.trans (Option.some.inj h))
  | n + 6 => cases h
theorem same_nil : Spec Tryz.prog 34 [zeroC.d, nilC] (fun d => d = .sc (.bool true)) := by
  have h := spec_SameCluster_D zeroC zeroC zero_fine
  rw [clSame_self] at h
  refine Spec.argsA h rfl fun j d d' h1 h2 => ?_
  match j with
  | 0 => rw [← Option.some.inj h1, ← Option.some.inj h2]; exact fun _ _ _ h => h
  | 1 => rw [← Option.some.inj h1, ← Option.some.inj h2]; exact nilC_sub
  | n + 2 => cases h1
theorem spec_DrawPlaces_D (bs : List Int) (hb : bs.length ≤ 1048576) : Spec Tryz.prog 36 [.sl bs.length (u8D bs)] (fun d => ∃ o, o.length = 12 ∧ RowW PlcN 12 o ∧ d = .sl 12 (intsD o)) := by
  have ex0 := @ints_put; have ex1 := @ints_app
  refine spG_ (rs := [.tmp 2]) (nt := 19) Tryz.func36 rfl fun X hX => ?_
  refine nm_ ?_
  repeat' ((first | contradiction | (with_reducible exact tt_) | ((with_reducible show Wk (AwStepF _ _ _ _ _ _ _)); first | (refine app_ rfl ?_) | (refine awH_ rfl (spec_l01New_D bs hb) [] ?_; rintro _ _ _ ⟨g, rfl, rfl, rfl⟩ _) | (refine awH_ rfl (spec_l01Below_D bs _ _ (by assumption) 10000 (by decide)) [0] ?_; rintro _ _ _ ⟨i1, g1, x, hc1, hx, rfl, rfl, rfl⟩ _; (have hx0 := hx.lo; have hx1 := hx.hi (by decide)))) | ((with_reducible show Wk (AwStep _ _ _ _ _)); first | (refine pln_ ?_)) | ((with_reducible show Wk (AwCode _ _ _ _ _)); first | (refine lpK_ (ι := Nat × Int × Int × List Int) [] [0, 1] 0x38 (fun ⟨i, p, q, o⟩ => [(5, .sc (.int .i64 (i : Int))), (4, .own 1 0 o.length)]) (fun ⟨i, p, q, o⟩ => [(0, ⟨189, 3, 1, [.sl bs.length (u8D bs), .sc (.int .i64 p), .sc (.int .i64 q)]⟩), (1, ⟨3, 1, (o).length, intsD (o)⟩)]) (fun ⟨i, p, q, o⟩ => CurOk bs p ∧ i ≤ 12 ∧ o.length = i ∧ RowW PlcN i o) (fun ⟨i, p, q, o⟩ => 12 - i) (0, 0, g, []) ?_ ?_; (focus (exact ⟨⟨hb, by decide, by omega⟩, Nat.zero_le _, rfl, .nil⟩)); rintro _ hN0 ⟨i, p, q, o⟩ hinv; (try dsimp only at hinv); obtain ⟨hcp, hi, hol, hW⟩ := hinv; replace hW := Lib.hid hW; skip)) | ((with_reducible show Wk (boolK _ _ _ _)); first | (refine bk_ (fun h h' => ?_) (fun h h' => ?_))) | ((with_reducible show Wk (_ ∧ _)); first | (refine and_ ?_ ?_)) | ((with_reducible show Wk (retOkG _ _ _ _)); first | (refine rgg_ [.frz 1] ?_)) | (refine hN0.run ((i + 1, i1, g1, o ++ [x])) [] [0, 3] ?_ ?_; (focus (exact ⟨by assumption, by show i + 1 ≤ 12; omega, by rw [List.length_append]; show o.length + 1 = i + 1; omega, hW.out.snoc ⟨hx0, hx1⟩ (Nat.le_refl _)⟩)); (focus (show 12 - (i + 1) < 12 - i; omega))) | fail) <;> (try refine nm_ ?_))
  all_goals clear ex0 ex1
  all_goals (refine ⟨?_⟩)
  all_goals first | contradiction | (exfalso; omega) | (have ei : i = 12 := (by omega); subst ei; exact ⟨o, hol, hW.out, by rw [hol]⟩) | (have ei : i = 12 := (by omega); subst ei; exact ⟨o, hol, hW.out, rfl⟩) | trace_state
theorem spec_Flipped_D (s : ByteArray) (p b : Int) (hs : s.size ≤ 1048576) (hp : 0 ≤ p ∧ p < 8 * (s.size : Int)) (hb : 0 ≤ b ∧ b ≤ 4294967295) : Spec Tryz.prog 38 [.sc (.string s), .sc (.int .i64 p), .sc (.int .i64 b)] (fun d => ∃ t, Bent s t p.toNat b.toNat ∧ d = .sc (.string t)) := by
  have ex0 := @not_str; have ex1 := @intk_uint; have ex2 := @stb_str; have ex3 := @u64i; have ex4 := @k8; have ex5 := @m8; have ex6 := @qm_u; have ex7 := @qk_n; have ex8 := @qk_i; have ex9 := @qk_1; have ex10 := @u8D_q; have ex11 := @u8D_set; have ex12 := @u8D_len
  refine spG_ (rs := [.tmp 6]) (nt := 66) Tryz.func38 rfl fun X hX => ?_
  refine nm_ ?_
  repeat' ((first | contradiction | (with_reducible exact tt_) | ((with_reducible show Wk (AwStepF _ _ _ _ _ _ _)); first | (refine stb_ (src := 9) (dst := 53) rfl ?_) | (refine cl_ rfl _ _ (l01In_D _ _ _) rfl rfl ?_; rintro _ rfl) | (refine byt_ rfl ?_)) | ((with_reducible show Wk (AwStep _ _ _ _ _)); first | (refine pln_ ?_)) | ((with_reducible show Wk (AwCode _ _ _ _ _)); first | (refine lpK_ (ι := Nat × List Int) [] [0] 0x186 (fun ⟨i, ns⟩ => [(8, .sc (.int .i64 (i : Int)))]) (fun ⟨i, ns⟩ => [(0, ⟨1000000, 1, s.size, u8D ns⟩)]) (fun ⟨i, ns⟩ => i ≤ 32 ∧ Flp s p.toNat b.toNat i ns) (fun ⟨i, ns⟩ => 32 - i) (0, strB s) ?_ ?_; (focus (exact ⟨Nat.zero_le _, flp_0 s _ _⟩)); rintro _ hN0 ⟨i, ns⟩ hinv; (try dsimp only at hinv); obtain ⟨hi, hF⟩ := hinv; have hnl : ns.length = s.size := hF.len; replace hF := Lib.hid hF; skip)) | ((with_reducible show Wk (boolK _ _ _ _)); first | (refine bk_ (fun h h' => ?_) (fun h h' => ?_))) | ((with_reducible show Wk (_ ∧ _)); first | (refine and_ ?_ ?_)) | ((with_reducible show Wk (retOkG _ _ _ _)); first | (refine rgg_ [] ?_)) | (refine hN0.run ((i + 1, ns)) [] [0] ?_ ?_; (focus (exact ⟨by show i + 1 ≤ 32; omega, flp_no hF.out (bit_no hb (by assumption) (by assumption))⟩)); (focus (show 32 - (i + 1) < 32 - i; omega))) | (refine hN0.run ((i + 1, ns.set (qk p.toNat i) (bitI .xor .u8 (ns.getD (qk p.toNat i) 0) (bitI .shl .u8 1 (qm p.toNat i : Int))))) [] [0] ?_ ?_; (focus (exact ⟨by show i + 1 ≤ 32; omega, flp_yesQ hF.out hp.1 hb (by assumption) (by assumption) (by assumption)⟩)); (focus (show 32 - (i + 1) < 32 - i; omega))) | fail) <;> (try refine nm_ ?_))
  all_goals clear ex0 ex1 ex2 ex3 ex4 ex5 ex6 ex7 ex8 ex9 ex10 ex11 ex12
  all_goals (refine ⟨?_⟩)
  all_goals first | contradiction | (exfalso; omega) | (exact ⟨_, flp_end hF.out hi (by omega), rfl⟩) | trace_state
theorem laws_FnStoredBursts_D (bs : List Int) (hb : bs.length ≤ 9223372036854775807) : Spec Tryz.prog 7 [.sl bs.length (u8D bs)] (fun d => d = .sc (.bool true)) := by
  refine sp_ (rs := [.tmp 2]) (nt := 73) Tryz.func7 rfl fun X hX => ?_
  refine nm_ ?_
  repeat' ((first | contradiction | (with_reducible exact tt_) | ((with_reducible show Wk (AwStepF _ _ _ _ _ _ _)); first | (refine cl_ rfl _ _ (laws_big_D bs hb) rfl rfl ?_; rintro _ rfl) | (refine cl_ rfl _ _ (spec_DrawPlaces_D bs (by omega)) rfl rfl ?_; rintro _ ⟨o, hol, hoW, rfl⟩; (have q0 := plc_at hoW hol (k := 0) (by decide); have q1 := plc_at hoW hol (k := 1) (by decide); have q2 := plc_at hoW hol (k := 2) (by decide); have q3 := plc_at hoW hol (k := 3) (by decide); have hB := plB_in q0 q1; have hodd := plB_odd q0 q1; clear hoW)) | (refine cl_ rfl _ _ (spec_DrawOld_D bs (by omega)) rfl rfl ?_; rintro _ ⟨c, hc, hcb, rfl⟩; (have hcs := clSame_self zeroC; have hk3 := exp_3 hcb; have h14 := st_14 hc hk3; have hn3 := storedN_0 hk3; have hQ := plQ_in q2 q3 (n := (storedT c 3).size) (by omega); have hsz := storedT_size c 3; unfold ClusterD.d)) | (refine cl_ rfl _ _ (impl_StoredText_D c 3 hc) rfl rfl ?_; rintro _ ⟨rfl, hts⟩; (rw [hn3]; clear hn3; generalize hE : storedT c 3 = s at *; replace hE := Lib.hid hE; replace hodd := Lib.hid hodd)) | (refine cl_ rfl _ _ (spec_Flipped_D s (plQ o s.size) (plB o) (by omega) hQ hB) rfl rfl ?_; rintro _ ⟨t, hT, rfl⟩; (have htz := hT.sz; replace hT := Lib.hid hT)) | (refine cl_ rfl _ _ (impl_StoredOk_D t (by omega)) rfl rfl ?_; rintro _ ⟨q, code, hS, rfl⟩; (obtain ⟨e1, e2⟩ := bent_s hE hc hk3 hT.out (by omega) hodd.out hS; subst e1)) | (refine cl_ rfl _ _ (impl_StoredOk_D s (by omega)) rfl rfl ?_; rintro _ ⟨q, code, hS, rfl⟩; (obtain ⟨e1, e2⟩ := read_s hE hc hk3 hS; subst e1; subst e2)) | (refine awH_ rfl (impl_ReadStored_D t (by omega)) [] ?_; rintro _ _ _ ⟨q, code, hS, hQ2, rfl, rfl, rfl⟩ _; (obtain ⟨e1, e2⟩ := bent_s hE hc hk3 hT.out (by omega) hodd.out hS; subst e1)) | (refine bo_ rfl [.cool 1, .frz 1, .cool 2, .frz 2] (same_nil) ?_; rintro _ rfl; refine ⟨rfl, ?_⟩)) | ((with_reducible show Wk (AwStep _ _ _ _ _)); first | (refine pln_ ?_)) | ((with_reducible show Wk (AwCode _ _ _ _ _)); first | (refine wo_ (id := 8) [] [(0, true), (1, true), (2, true), (3, true), (4, true), (5, true), (6, true), (7, true), (8, true), (9, true), (10, true), (11, true), (12, true), (13, true), (14, true), (15, true), (16, true), (17, true), (18, true), (19, true), (20, true), (21, true), (22, true), (23, false), (24, true)] ?_)) | ((with_reducible show Wk (boolK _ _ _ _)); first | (refine bk_ (fun h h' => ?_) (fun h h' => ?_))) | ((with_reducible show Wk (_ ∧ _)); first | (refine and_ ?_ ?_)) | fail) <;> (try refine nm_ ?_))
  all_goals (refine ⟨?_⟩)
  all_goals first | contradiction | (exfalso; omega) | trace_state
end Go.Proofs.YtnicgfeajdjimaaGreat
