/- Crc (what is wanted of them). -/
import Derived.Test.YtnicgfeajdjimaaGreatBRdf
namespace Go.Proofs.YtnicgfeajdjimaaGreat
open Go.RowKit
set_option linter.unusedVariables false
set_option maxRecDepth 100000
def polyV : BitVec 32 := 3988292384#32
def stV (x : BitVec 32) : BitVec 32 := if x.getLsbD 0 = true then (x >>> 1) ^^^ polyV else x >>> 1
def stsV : Nat → BitVec 32 → BitVec 32
  | 0, x => x
  | n + 1, x => stsV n (stV x)
def bitV (b : Bool) : BitVec 32 := if b = true then 1#32 else 0#32
def serV (x : BitVec 32) : List Bool → BitVec 32
  | [] => x
  | b :: r => serV (stV (x ^^^ bitV b)) r
theorem stV_xor (x y : BitVec 32) : stV (x ^^^ y) = stV x ^^^ stV y := by
  unfold stV
  rw [BitVec.getLsbD_xor]
  have e : (x ^^^ y) >>> 1 = (x >>> 1) ^^^ (y >>> 1) := BitVec.ushiftRight_xor_distrib x y 1
  have hx : ∀ a b c : BitVec 32, a ^^^ c ^^^ (b ^^^ c) = a ^^^ b := fun a b c => by
    rw [BitVec.xor_assoc, ← BitVec.xor_assoc c b c, BitVec.xor_comm c b, BitVec.xor_assoc b c c, BitVec.xor_self, BitVec.xor_zero]
  cases h1 : x.getLsbD 0 <;> cases h2 : y.getLsbD 0 <;> simp only [Bool.xor_false, Bool.xor_true, Bool.false_eq_true, Bool.not_false, Bool.not_true, if_true, if_false, e]
  · rw [BitVec.xor_assoc]
  · rw [BitVec.xor_assoc, BitVec.xor_comm (y >>> 1), ← BitVec.xor_assoc]
  · rw [hx]
theorem stV_zero : stV 0#32 = 0#32 := by decide
theorem stsV_xor : ∀ (n : Nat) (x y : BitVec 32), stsV n (x ^^^ y) = stsV n x ^^^ stsV n y
  | 0, _, _ => rfl
  | n + 1, x, y => by rw [stsV, stV_xor, stsV_xor n]; rfl
theorem stsV_zero : ∀ n : Nat, stsV n 0#32 = 0#32
  | 0 => rfl
  | n + 1 => by rw [stsV, stV_zero, stsV_zero n]
theorem stV_inj {x : BitVec 32} (h : stV x = 0#32) : x = 0#32 := by
  unfold stV at h
  split at h
  · exfalso
    have h1 := congrArg (fun v : BitVec 32 => v.getLsbD 31) h
    simp only [BitVec.getLsbD_xor, BitVec.getLsbD_ushiftRight] at h1
    have h2 : x.getLsbD (1 + 31) = false := BitVec.getLsbD_of_ge x _ (by decide)
    rw [h2] at h1
    revert h1
    decide
  · rename_i h0
    refine BitVec.eq_of_getLsbD_eq fun i hi => ?_
    rw [BitVec.getLsbD_zero]
    cases i with
    | zero => simpa using h0
    | succ i =>
      have h1 := congrArg (fun v : BitVec 32 => v.getLsbD i) h
      simp only [BitVec.getLsbD_ushiftRight, BitVec.getLsbD_zero] at h1
      rw [Nat.add_comm 1 i] at h1
      exact h1
theorem stsV_inj : ∀ {n : Nat} {x : BitVec 32}, stsV n x = 0#32 → x = 0#32
  | 0, _, h => h
  | n + 1, _, h => stV_inj (stsV_inj (n := n) h)
theorem serV_app (x : BitVec 32) : ∀ (a b : List Bool), serV x (a ++ b) = serV (serV x a) b
  | [], _ => rfl
  | c :: a, b => by show serV _ (a ++ b) = serV (serV _ a) b; rw [serV_app]
theorem serV_none (x : BitVec 32) : ∀ (a : List Bool), (∀ b ∈ a, b = false) → serV x a = stsV a.length x
  | [], _ => rfl
  | c :: a, h => by
    rw [h c (by simp)]
    show serV (stV (x ^^^ 0#32)) a = stsV (a.length + 1) x
    rw [BitVec.xor_zero, serV_none _ a fun b hb => h b (List.mem_cons_of_mem _ hb)]
    rfl
/-- The bits as a number, the first one lowest. -/
def wordV : List Bool → BitVec 32
  | [] => 0#32
  | b :: r => bitV b ^^^ (wordV r <<< 1)
theorem wordV_lt : ∀ (a : List Bool) (i : Nat), a.length ≤ i → (wordV a).getLsbD i = false
  | [], _, _ => by simp [wordV]
  | b :: r, i, h => by
    simp only [List.length_cons] at h
    unfold wordV
    rw [BitVec.getLsbD_xor, BitVec.getLsbD_shiftLeft]
    have h1 := wordV_lt r (i - 1) (by omega)
    rw [h1]
    have h2 : (bitV b).getLsbD i = false := by
      obtain ⟨j, rfl⟩ : ∃ j, i = j + 1 := ⟨i - 1, by omega⟩
      unfold bitV
      split
      · rw [show (1#32 : BitVec 32) = BitVec.ofNat 32 1 from rfl, BitVec.getLsbD_ofNat]
        simp [Nat.testBit_succ]
      · simp
    rw [h2]
    simp
theorem wordV_bit : ∀ (a : List Bool) (i : Nat) (_h : a.length ≤ 32) (hi : i < a.length), (wordV a).getLsbD i = a[i]
  | b :: r, 0, _, _ => by
    unfold wordV
    rw [BitVec.getLsbD_xor, BitVec.getLsbD_shiftLeft]
    unfold bitV
    cases b <;> simp
  | b :: r, i + 1, h, hi => by
    simp only [List.length_cons] at h hi
    unfold wordV
    rw [BitVec.getLsbD_xor, BitVec.getLsbD_shiftLeft]
    have h1 := wordV_bit r i (by omega) (by omega)
    have h2 : (bitV b).getLsbD (i + 1) = false := by
      unfold bitV
      split
      · rw [show (1#32 : BitVec 32) = BitVec.ofNat 32 1 from rfl, BitVec.getLsbD_ofNat]
        simp [Nat.testBit_succ]
      · simp
    rw [h2, Nat.add_sub_cancel, h1]
    simp only [List.getElem_cons_succ, Bool.false_xor]
    have h3 : decide (i + 1 < 32) = true := by simpa using (by omega : i + 1 < 32)
    rw [h3]
    simp
theorem stV_shl {w : BitVec 32} (h : w.getLsbD 31 = false) : stV (w <<< 1) = w := by
  unfold stV
  rw [if_neg (by rw [BitVec.getLsbD_shiftLeft]; simp)]
  refine BitVec.eq_of_getLsbD_eq fun i hi => ?_
  rw [BitVec.getLsbD_ushiftRight, BitVec.getLsbD_shiftLeft]
  by_cases h1 : i = 31
  · subst h1; rw [h]; simp
  · have h3 : decide (1 + i < 32) = true := by simpa using (by omega : 1 + i < 32)
    rw [h3, Nat.add_sub_cancel_left]
    simp
theorem serV_word : ∀ (a : List Bool) (x : BitVec 32), a.length ≤ 32 → serV x a = stsV a.length (x ^^^ wordV a)
  | [], x, _ => by show x = x ^^^ 0#32; rw [BitVec.xor_zero]
  | b :: r, x, h => by
    simp only [List.length_cons] at h
    show serV (stV (x ^^^ bitV b)) r = stsV r.length (stV (x ^^^ (bitV b ^^^ (wordV r <<< 1))))
    rw [serV_word r _ (by omega), ← BitVec.xor_assoc, stV_xor (x ^^^ bitV b), stV_shl (wordV_lt r 31 (by omega))]
/-- A burst: zeros, up to 32 bits of which one is set, zeros. -/
theorem serV_burst {a b c : List Bool} (ha : ∀ x ∈ a, x = false) (hb : b.length ≤ 32) (h1 : true ∈ b) (hc : ∀ x ∈ c, x = false) : serV 0#32 (a ++ (b ++ c)) ≠ 0#32 := by
  intro h
  rw [serV_app, serV_app, serV_none _ a ha, stsV_zero, serV_none _ c hc] at h
  have h2 := stsV_inj h
  rw [serV_word b _ hb] at h2
  have h3 := stsV_inj h2
  rw [BitVec.zero_xor] at h3
  obtain ⟨i, hi, e⟩ := List.getElem_of_mem h1
  have h4 := wordV_bit b i hb hi
  rw [h3, e] at h4
  simp at h4
def regV (s : ByteArray) (x : BitVec 32) : Nat → BitVec 32
  | 0 => x
  | k + 1 => stsV 8 (regV s x k ^^^ BitVec.ofNat 32 (bytB s k).toNat)
theorem xorN {a b : Nat} (ha : a < 2 ^ 32) (hb : b < 2 ^ 32) : bitI .xor .i64 (a : Int) (b : Int) = ((a ^^^ b : Nat) : Int) := by
  delta bitI
  have h1 : a ^^^ b < 2 ^ 32 := Nat.xor_lt_two_pow ha hb
  show IntKind.i64.wrap (((BitVec.ofInt 64 (a : Int) ^^^ BitVec.ofInt 64 (b : Int)).toNat : Nat) : Int) = _
  rw [BitVec.ofInt_natCast, BitVec.ofInt_natCast, BitVec.toNat_xor, BitVec.toNat_ofNat, BitVec.toNat_ofNat, Nat.mod_eq_of_lt (by omega), Nat.mod_eq_of_lt (by omega)]
  exact wrap_in _ (by omega)
theorem poly_nat : ((polyV.toNat : Nat) : Int) = 3988292384 := by decide
theorem stV_nat (x : BitVec 32) : sumStep (x.toNat : Int) = ((stV x).toNat : Int) := by
  have hx := x.isLt
  have hp := polyV.isLt
  have hl : x.getLsbD 0 = decide (x.toNat % 2 = 1) := by rw [BitVec.getLsbD, Nat.testBit_zero]
  have hs : (x >>> 1).toNat = x.toNat / 2 := by rw [BitVec.toNat_ushiftRight, Nat.shiftRight_eq_div_pow]
  unfold sumStep stV
  rw [hl]
  by_cases h : x.toNat % 2 = 1
  · rw [if_pos (by omega), if_pos (by simpa using h), BitVec.toNat_xor, hs, ← poly_nat, show ((x.toNat : Int) / 2) = ((x.toNat / 2 : Nat) : Int) by omega]
    exact xorN (by omega) hp
  · rw [if_neg (by omega), if_neg (by simpa using h), hs]
    omega
theorem stsV_nat : ∀ (n : Nat) (x : BitVec 32), sumBits n (x.toNat : Int) = ((stsV n x).toNat : Int)
  | 0, _ => rfl
  | n + 1, x => by rw [sumBits, stV_nat, stsV_nat n]; rfl
theorem regV_nat (s : ByteArray) (n : Nat) (x : BitVec 32) : ∀ k : Nat, sumFrom s n (x.toNat : Int) k = ((regV s x k).toNat : Int)
  | 0 => rfl
  | k + 1 => by
    have hb := bytB_rng s k
    rw [sumFrom, regV_nat s n x k, regV, ← stsV_nat, sumByte, BitVec.toNat_xor, BitVec.toNat_ofNat, Nat.mod_eq_of_lt (by omega)]
    congr 1
    have := xorN (a := (regV s x k).toNat) (b := (bytB s k).toNat) (regV s x k).isLt (by omega)
    rw [Int.toNat_of_nonneg hb.1] at this
    exact this
/-- Bit j of a text. -/
def bitAt (s : ByteArray) (j : Nat) : Bool := (bytB s (j / 8)).toNat.testBit (j % 8)
def difs (s t : ByteArray) (n : Nat) : List Bool := (List.range n).map fun j => bitAt s j ^^ bitAt t j
theorem difs_add (s t : ByteArray) (n m : Nat) : difs s t (n + m) = difs s t n ++ (List.range m).map fun j => bitAt s (n + j) ^^ bitAt t (n + j) := by
  unfold difs
  rw [List.range_add, List.map_append, List.map_map]
  rfl
theorem byte_word (a b : Nat) (ha : a < 256) (hb : b < 256) : wordV ((List.range 8).map fun j => a.testBit j ^^ b.testBit j) = BitVec.ofNat 32 a ^^^ BitVec.ofNat 32 b := by
  refine BitVec.eq_of_getLsbD_eq fun i hi => ?_
  rw [BitVec.getLsbD_xor, BitVec.getLsbD_ofNat, BitVec.getLsbD_ofNat]
  by_cases h : i < 8
  · rw [wordV_bit _ i (by simp) (by simpa using h)]
    simp [hi]
  · rw [wordV_lt _ i (by simp; omega), Nat.testBit_lt_two_pow (show a < 2 ^ i from Nat.lt_of_lt_of_le (show a < 2 ^ 8 from ha) (Nat.pow_le_pow_right (by decide) (by omega))), Nat.testBit_lt_two_pow (show b < 2 ^ i from Nat.lt_of_lt_of_le (show b < 2 ^ 8 from hb) (Nat.pow_le_pow_right (by decide) (by omega)))]
    simp
theorem reg_dif (s t : ByteArray) (x : BitVec 32) : ∀ k : Nat, regV s x k ^^^ regV t x k = serV 0#32 (difs s t (8 * k))
  | 0 => by show x ^^^ x = 0#32; rw [BitVec.xor_self]
  | k + 1 => by
    have hs := bytB_rng s k
    have ht := bytB_rng t k
    rw [Nat.mul_succ, difs_add, serV_app, ← reg_dif s t x k]
    have e : ((List.range 8).map fun j => bitAt s (8 * k + j) ^^ bitAt t (8 * k + j)) = (List.range 8).map fun j => (bytB s k).toNat.testBit j ^^ (bytB t k).toNat.testBit j := by
      refine List.map_congr_left fun j hj => ?_
      have hj' := List.mem_range.1 hj
      unfold bitAt
      rw [show (8 * k + j) / 8 = k by omega, show (8 * k + j) % 8 = j by omega]
    rw [e, serV_word _ _ (by simp), byte_word _ _ (by omega) (by omega), List.length_map, List.length_range]
    show stsV 8 _ ^^^ stsV 8 _ = _
    rw [← stsV_xor]
    congr 1
    simp only [BitVec.xor_assoc]
    congr 1
    rw [← BitVec.xor_assoc, BitVec.xor_comm (BitVec.ofNat 32 (bytB s k).toNat), BitVec.xor_assoc]
/-- The last four bytes as a word. -/
theorem le4_word (s t : ByteArray) (n : Nat) : wordV ((List.range 32).map fun j => bitAt s (8 * n + j) ^^ bitAt t (8 * n + j)) = BitVec.ofNat 32 (le4 s n).toNat ^^^ BitVec.ofNat 32 (le4 t n).toNat := by
  have key : ∀ (u : ByteArray) (i : Nat), i < 32 → (le4 u n).toNat.testBit i = bitAt u (8 * n + i) := by
    intro u i hi
    have h0 := bytB_rng u n
    have h1 := bytB_rng u (n + 1)
    have h2 := bytB_rng u (n + 2)
    have h3 := bytB_rng u (n + 3)
    have e : (le4 u n).toNat = (bytB u n).toNat + 256 * ((bytB u (n + 1)).toNat + 256 * ((bytB u (n + 2)).toNat + 256 * (bytB u (n + 3)).toNat)) := by unfold le4; omega
    have low : ∀ (a b j : Nat), a < 256 → j < 8 → (a + 256 * b).testBit j = a.testBit j := by
      intro a b j ha hj
      have := Nat.testBit_two_pow_mul_add (i := 8) b (b := a) (by simpa using ha) j
      rw [Nat.add_comm, show (256 : Nat) = 2 ^ 8 by decide, this, if_pos hj]
    have high : ∀ (a b j : Nat), a < 256 → 8 ≤ j → (a + 256 * b).testBit j = b.testBit (j - 8) := by
      intro a b j ha hj
      have := Nat.testBit_two_pow_mul_add (i := 8) b (b := a) (by simpa using ha) j
      rw [Nat.add_comm, show (256 : Nat) = 2 ^ 8 by decide, this, if_neg (by omega)]
    rw [e]
    unfold bitAt
    by_cases c1 : i < 8
    · rw [low _ _ _ (by omega) c1, show (8 * n + i) / 8 = n by omega, show (8 * n + i) % 8 = i by omega]
    · rw [high _ _ _ (by omega) (by omega)]
      by_cases c2 : i < 16
      · rw [low _ _ _ (by omega) (by omega), show (8 * n + i) / 8 = n + 1 by omega, show (8 * n + i) % 8 = i - 8 by omega]
      · rw [high _ _ _ (by omega) (by omega)]
        by_cases c3 : i < 24
        · rw [low _ _ _ (by omega) (by omega), show (8 * n + i) / 8 = n + 2 by omega, show (8 * n + i) % 8 = i - 8 - 8 by omega]
        · rw [high _ _ _ (by omega) (by omega), show (8 * n + i) / 8 = n + 3 by omega, show (8 * n + i) % 8 = i - 8 - 8 - 8 by omega]
  refine BitVec.eq_of_getLsbD_eq fun i hi => ?_
  rw [BitVec.getLsbD_xor, BitVec.getLsbD_ofNat, BitVec.getLsbD_ofNat, wordV_bit _ i (by simp) (by simpa using hi), key s i hi, key t i hi]
  simp [hi]
theorem reg_ext (s : ByteArray) (x : BitVec 32) (m : Nat) (hm : m ≤ s.size) : ∀ k, k ≤ m → regV (s.extract 0 m) x k = regV s x k
  | 0, _ => rfl
  | k + 1, hk => by
    have e : bytB (s.extract 0 m) k = bytB s k := by
      unfold bytB
      rw [ByteArray.data_extract, Array.getD_eq_getD_getElem?, Array.getD_eq_getD_getElem?, Array.getElem?_extract]
      have hs : s.data.size = s.size := rfl
      rw [if_pos (by omega), Nat.zero_add]
    rw [regV, reg_ext s x m hm k (by omega), e]
    rfl
theorem sum_reg (s : ByteArray) : sumB s = (((regV s 4294967295#32 s.size) ^^^ 4294967295#32).toNat : Int) := by
  unfold sumB
  have h := regV_nat s 0 4294967295#32 s.size
  have e : ((4294967295#32 : BitVec 32).toNat : Int) = 4294967295 := by decide
  rw [e] at h
  rw [h, BitVec.toNat_xor]
  have := xorN (a := (regV s 4294967295#32 s.size).toNat) (b := (4294967295#32 : BitVec 32).toNat) (regV _ _ _).isLt (4294967295#32 : BitVec 32).isLt
  rw [e] at this
  exact this
/-- Of two texts of a length that differ in a burst, not both bear their sum. -/
theorem burst_sum {s t : ByteArray} (hz : t.size = s.size) (h4 : 4 ≤ s.size) {a b c : List Bool} (hd : difs s t (8 * s.size) = a ++ (b ++ c)) (ha : ∀ x ∈ a, x = false) (hb : b.length ≤ 32) (h1 : true ∈ b) (hc : ∀ x ∈ c, x = false)
    (hs : le4 s (s.size - 4) = sumB (s.extract 0 (s.size - 4))) : ¬ le4 t (t.size - 4) = sumB (t.extract 0 (t.size - 4)) := by
  intro ht
  refine serV_burst ha hb h1 hc ?_
  rw [← hd]
  rw [hz] at ht
  obtain ⟨m, hm⟩ : ∃ m, s.size = m + 4 := ⟨s.size - 4, by omega⟩
  have hx : (s.extract 0 m).size = m := by rw [ByteArray.size_extract]; omega
  have hy : (t.extract 0 m).size = m := by rw [ByteArray.size_extract]; omega
  rw [hm, Nat.add_sub_cancel] at hs ht
  rw [sum_reg, hx, reg_ext s _ m (by omega) m (Nat.le_refl _)] at hs
  rw [sum_reg, hy, reg_ext t _ m (by omega) m (Nat.le_refl _)] at ht
  rw [hm, Nat.mul_add, difs_add, serV_app, ← reg_dif s t 4294967295#32 m, serV_word _ _ (by simp)]
  have e : (List.range (8 * 4)).map (fun j => bitAt s (8 * m + j) ^^ bitAt t (8 * m + j)) = (List.range 32).map fun j => bitAt s (8 * m + j) ^^ bitAt t (8 * m + j) := rfl
  rw [e, le4_word, hs, ht, Int.toNat_natCast, Int.toNat_natCast, BitVec.ofNat_toNat, BitVec.ofNat_toNat, BitVec.setWidth_eq, BitVec.setWidth_eq]
  have hxor : ∀ p q r : BitVec 32, p ^^^ q ^^^ (p ^^^ r ^^^ (q ^^^ r)) = 0#32 := fun p q r => by
    have h2 : p ^^^ r ^^^ (q ^^^ r) = p ^^^ q := by
      rw [BitVec.xor_assoc, ← BitVec.xor_assoc r q r, BitVec.xor_comm r q, BitVec.xor_assoc q r r, BitVec.xor_self, BitVec.xor_zero]
    rw [h2, BitVec.xor_self]
  rw [hxor, stsV_zero]
end Go.Proofs.YtnicgfeajdjimaaGreat
