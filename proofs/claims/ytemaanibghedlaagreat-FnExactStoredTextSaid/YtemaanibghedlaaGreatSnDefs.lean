/- What texts the encodings are: plain Lean. -/
import Derived.Test.YtemaanibghedlaaGreatCl1
namespace Go.Proofs.YtemaanibghedlaaGreat
open Go.RowKit

theorem u8D_takeS (ns : List Int) (x : Int) : (u8D (ns ++ [x])).take (ns.length + 1) = u8D (ns ++ [x]) := u8D_takeN _ _ (by simp)
theorem tdivE (m : Int) (h : 0 ≤ m) : m.tdiv 128 = m / 128 := Int.tdiv_eq_ediv_of_nonneg h
theorem tmodE (m : Int) (h : 0 ≤ m) : m.tmod 128 = m % 128 := Int.tmod_eq_emod_of_nonneg h
theorem wrapU_m (m : Int) (_h : 0 ≤ m) : IntKind.u8.wrap m = m % 256 := by simp [IntKind.wrap, IntKind.signed, IntKind.bits]
theorem wrapU (m : Int) (h : 0 ≤ m ∧ m ≤ 255) : IntKind.u8.wrap m = m := by rw [wrapU_m m h.1]; omega
theorem or8 (x : Int) (h : 0 ≤ x ∧ x ≤ 255) : bitI .or .u8 x 128 = 128 + x % 128 := by
  have key : ∀ n : Fin 256, bitI .or .u8 (n.val : Int) 128 = 128 + (n.val : Int) % 128 := by
    delta bitI
    decide +kernel
  have := key ⟨x.toNat, by omega⟩
  simp only [Int.toNat_of_nonneg h.1] at this
  exact this
theorem shr7 (m : Int) : bitI .shr .i64 m 7 = m / 128 := by
  delta bitI
  show m.fdiv (2 ^ (min (7 : Int).toNat 64)) = m / 128
  rw [show (2 : Int) ^ (min (7 : Int).toNat 64) = 128 by decide]
  exact Int.fdiv_eq_ediv_of_nonneg m (by decide)

def varL (n : Nat) : List Int := if n < 128 then [(n : Int)] else ((128 + n % 128 : Nat) : Int) :: varL (n / 128)
termination_by n
decreasing_by omega
theorem varL_small {n : Nat} (h : n < 128) : varL n = [(n : Int)] := by rw [varL, if_pos h]
theorem varL_big {n : Nat} (h : 128 ≤ n) : varL n = ((128 + n % 128 : Nat) : Int) :: varL (n / 128) := by rw [varL, if_neg (by omega)]
theorem varL_len : ∀ (k n : Nat), n < 128 ^ (k + 1) → (varL n).length ≤ k + 1
  | 0, n, h => by rw [varL_small (by simpa using h)]; simp
  | k + 1, n, h => by
    by_cases h1 : n < 128
    · rw [varL_small h1]; simp
    · rw [varL_big (by omega), List.length_cons]
      have := varL_len k (n / 128) (Nat.div_lt_of_lt_mul (by rw [Nat.pow_succ, Nat.mul_comm] at h; exact h))
      omega
def varI (n : Int) : List Int := varL n.toNat
theorem varI_small {n : Int} (h0 : 0 ≤ n) (h : n < 128) : varI n = [n] := by
  unfold varI
  rw [varL_small (by omega), Int.toNat_of_nonneg h0]
theorem varI_big {n : Int} (h : 128 ≤ n) : varI n = (128 + n % 128) :: varI (n / 128) := by
  unfold varI
  rw [varL_big (by omega), show (n / 128).toNat = n.toNat / 128 by omega]
  congr 1
  omega
theorem varI_len {n : Int} (h : n ≤ 9223372036854775807) : (varI n).length ≤ 9 := varL_len 8 _ (by omega)
/-- The text of a number, seven bits a byte, the low ones first; empty below 0. -/
def varB (n : Int) : ByteArray := if n < 0 then ⟨#[]⟩ else strOf (varI n)
theorem varB_le {n : Int} (h : n ≤ 9223372036854775807) : (varB n).size ≤ 9 := by
  unfold varB
  split
  · exact Nat.zero_le _
  · rw [strOf_size]; exact varI_len h
theorem var_step {n m : Int} {out : List Int} (hm : 128 ≤ m) (h : out ++ varI m = varI n) : (out ++ [128 + m % 128]) ++ varI (m / 128) = varI n := by
  rw [← h, varI_big hm, List.append_assoc]
  rfl
theorem var_end {n m : Int} {out : List Int} (h0 : 0 ≤ m) (hm : m < 128) (hn : 0 ≤ n) (h : out ++ varI m = varI n) : strOf (out ++ [m]) = varB n := by
  unfold varB
  rw [if_neg (by omega), ← h, varI_small h0 hm]
theorem var_out {n m : Int} {out : List Int} (hn : n ≤ 9223372036854775807) (h : out ++ varI m = varI n) : out.length ≤ 9 := by
  have h1 := varI_len hn
  have h2 := congrArg List.length h
  rw [List.length_append] at h2
  omega
theorem baAssoc (a b c : ByteArray) : a ++ b ++ c = a ++ (b ++ c) := ByteArray.ext (by simp [ByteArray.data_append, Array.append_assoc])
/-- Texts one behind the other. -/
def catN (f : Nat → ByteArray) : Nat → ByteArray
  | 0 => ⟨#[]⟩
  | n + 1 => catN f n ++ f n
theorem cat_nil (a : ByteArray) : a ++ (⟨#[]⟩ : ByteArray) = a := ByteArray.ext (by simp [ByteArray.data_append])
theorem cat_zero (f : Nat → ByteArray) (a : ByteArray) : a ++ catN f 0 = a := cat_nil a
theorem cat_step {f : Nat → ByteArray} {k : Nat} {p s : ByteArray} (h : s = p ++ catN f k) : s ++ f k = p ++ catN f (k + 1) := by
  subst h
  exact baAssoc _ _ _
def shortB (s : ByteArray) : ByteArray := varB s.size ++ s
end Go.Proofs.YtemaanibghedlaaGreat
