/- Rdf (what is wanted of them). -/
import Derived.Test.YtnicgfeajdjimaaGreatBRds
import Derived.Test.YtnicgfeajdjimaaGreatBSn3
import Derived.Test.YtnicgfeajdjimaaGreatBSn4
namespace Go.Proofs.YtnicgfeajdjimaaGreat
open Go.RowKit
set_option maxRecDepth 100000
def berth : ByteArray := ⟨#[66, 69, 82, 84, 72]⟩
/-- Four bytes as a number. -/
def le4 (s : ByteArray) (p : Nat) : Int := bytB s p + 256 * bytB s (p + 1) + 65536 * bytB s (p + 2) + 16777216 * bytB s (p + 3)
theorem le4_rng (s : ByteArray) (p : Nat) : 0 ≤ le4 s p ∧ le4 s p ≤ 4294967295 := by
  have h0 := bytB_rng s p
  have h1 := bytB_rng s (p + 1)
  have h2 := bytB_rng s (p + 2)
  have h3 := bytB_rng s (p + 3)
  unfold le4
  omega
/-- The low k of them. -/
def leN (s : ByteArray) (p : Nat) : Nat → Int
  | 0 => 0
  | k + 1 => leN s p k + bytB s (p + k) * 256 ^ k
theorem leN_rng (s : ByteArray) (p : Nat) : ∀ k, 0 ≤ leN s p k ∧ leN s p k < 256 ^ k
  | 0 => ⟨Int.le_refl 0, (by decide : (0 : Int) < 256 ^ 0)⟩
  | k + 1 => by
    have h := leN_rng s p k
    have hb := bytB_rng s (p + k)
    have h5 : (0 : Int) ≤ 256 ^ k := Int.pow_nonneg (by decide)
    have h6 : bytB s (p + k) * 256 ^ k ≤ 255 * 256 ^ k := Int.mul_le_mul_of_nonneg_right hb.2 h5
    have h7 := Int.mul_nonneg hb.1 h5
    have h8 : (256 : Int) ^ (k + 1) = 256 * 256 ^ k := by rw [Int.pow_succ, Int.mul_comm]
    rw [leN]
    omega
theorem leN_4 (s : ByteArray) (p : Nat) : leN s p 4 = le4 s p := by
  simp only [leN, le4, Nat.add_zero]
  omega
theorem shl8 (x : Int) (k : Nat) (hx : 0 ≤ x) (h2 : x ≤ 255) (hk : k ≤ 3) : bitI .shl .i64 x (8 * (k : Int)) = x * 256 ^ k := by
  delta bitI
  show IntKind.i64.wrap (x * 2 ^ (min (8 * (k : Int)).toNat IntKind.i64.bits)) = _
  have : k = 0 ∨ k = 1 ∨ k = 2 ∨ k = 3 := by omega
  rcases this with rfl | rfl | rfl | rfl
  · rw [show (2 : Int) ^ (min (8 * ((0 : Nat) : Int)).toNat IntKind.i64.bits) = 256 ^ 0 by decide]; exact wrap_in _ (by omega)
  · rw [show (2 : Int) ^ (min (8 * ((1 : Nat) : Int)).toNat IntKind.i64.bits) = 256 ^ 1 by decide]; exact wrap_in _ (by omega)
  · rw [show (2 : Int) ^ (min (8 * ((2 : Nat) : Int)).toNat IntKind.i64.bits) = 256 ^ 2 by decide]; exact wrap_in _ (by omega)
  · rw [show (2 : Int) ^ (min (8 * ((3 : Nat) : Int)).toNat IntKind.i64.bits) = 256 ^ 3 by decide]; exact wrap_in _ (by omega)
theorem orF8 (n m : Int) (k : Nat) (hn : 0 ≤ n) (hn2 : n < 256 ^ k) (hm : 0 ≤ m) (hm2 : m ≤ 255) (hk : k ≤ 3) : bitI .or .i64 n (m * 256 ^ k) = n + m * 256 ^ k := by
  obtain ⟨a, rfl⟩ := Int.eq_ofNat_of_zero_le hn
  obtain ⟨b, rfl⟩ := Int.eq_ofNat_of_zero_le hm
  have e : ((b : Int) * 256 ^ k) = ((b * 256 ^ k : Nat) : Int) := by rw [Int.natCast_mul, Int.natCast_pow]; rfl
  have h1 : a < 256 ^ k := by exact_mod_cast hn2
  have h2 : b ≤ 255 := by omega
  have h3 : b * 256 ^ k ≤ 255 * 256 ^ k := Nat.mul_le_mul_right _ h2
  have h4 : 256 ^ k ≤ 256 ^ 3 := Nat.pow_le_pow_right (by decide) hk
  have h5 : (256 : Nat) ^ 3 = 16777216 := by decide
  have h6 : (256 : Nat) ^ k = 2 ^ (8 * k) := by rw [Nat.pow_mul]
  have h7 : a ||| (b * 256 ^ k) = b * 256 ^ k + a := by
    rw [h6, ← Nat.shiftLeft_eq, Nat.shiftLeft_add_eq_or_of_lt (by rw [← h6]; exact h1), Nat.or_comm]
  rw [e]
  delta bitI
  show IntKind.i64.wrap (((BitVec.ofInt 64 (a : Int) ||| BitVec.ofInt 64 ((b * 256 ^ k : Nat) : Int)).toNat : Nat) : Int) = _
  rw [BitVec.ofInt_natCast, BitVec.ofInt_natCast, BitVec.toNat_or, BitVec.toNat_ofNat, BitVec.toNat_ofNat, Nat.mod_eq_of_lt (by omega), Nat.mod_eq_of_lt (by omega), h7]
  rw [wrap_in _ (by omega)]
  push_cast
  omega
/-- A frame: its version and its payload; or why there is none. -/
def frR (s : ByteArray) : (Int × ByteArray) × Int :=
  if s.size < 14 then ((0, ⟨#[]⟩), 1)
  else if eqB (s.extract 0 5) berth = false then ((0, ⟨#[]⟩), 2)
  else if inB (bytB s 5) 1 9 = false then ((0, ⟨#[]⟩), 3)
  else if ¬ (le4 s 6 = (s.size : Int) - 14 ∧ (s.size : Int) - 14 ≤ 19980) then ((0, ⟨#[]⟩), 4)
  else if ¬ le4 s (s.size - 4) = sumB (s.extract 0 (s.size - 4)) then ((0, ⟨#[]⟩), 5)
  else ((bytB s 5, s.extract 10 (s.size - 4)), 0)
structure Frm (s : ByteArray) (v : Int) (t : ByteArray) (code : Int) : Prop where
  eq : frR s = ((v, t), code)
theorem Frm.same {s t t' : ByteArray} {v v' c c' : Int} (h : Frm s v t c) (h' : Frm s v' t' c') : v' = v ∧ t' = t ∧ c' = c := by
  have := h.eq.symm.trans h'.eq
  injection this with e1 e2
  injection e1 with e3 e4
  exact ⟨e3.symm, e4.symm, e2.symm⟩
theorem fr1 {s : ByteArray} (h : s.size < 14) : Frm s 0 ⟨#[]⟩ 1 := ⟨by rw [frR, if_pos h]⟩
theorem fr2 {s : ByteArray} (h : 14 ≤ s.size) (h2 : eqB (s.extract 0 5) berth = false) : Frm s 0 ⟨#[]⟩ 2 := ⟨by rw [frR, if_neg (by omega), if_pos h2]⟩
theorem fr3 {s : ByteArray} (h : 14 ≤ s.size) (h2 : eqB (s.extract 0 5) berth = true) (h3 : inB (bytB s 5) 1 9 = false) : Frm s 0 ⟨#[]⟩ 3 := ⟨by rw [frR, if_neg (by omega), if_neg (by rw [h2]; decide), if_pos h3]⟩
theorem fr4 {s : ByteArray} (h : 14 ≤ s.size) (h2 : eqB (s.extract 0 5) berth = true) (h3 : inB (bytB s 5) 1 9 = true) (h4 : ¬ (le4 s 6 = (s.size : Int) - 14 ∧ (s.size : Int) - 14 ≤ 19980)) : Frm s 0 ⟨#[]⟩ 4 := ⟨by rw [frR, if_neg (by omega), if_neg (by rw [h2]; decide), if_neg (by rw [h3]; decide), if_pos h4]⟩
theorem fr5 {s : ByteArray} (h : 14 ≤ s.size) (h2 : eqB (s.extract 0 5) berth = true) (h3 : inB (bytB s 5) 1 9 = true) (h4 : le4 s 6 = (s.size : Int) - 14 ∧ (s.size : Int) - 14 ≤ 19980) (h5 : ¬ le4 s (s.size - 4) = sumB (s.extract 0 (s.size - 4))) : Frm s 0 ⟨#[]⟩ 5 := ⟨by rw [frR, if_neg (by omega), if_neg (by rw [h2]; decide), if_neg (by rw [h3]; decide), if_neg (fun h => h h4), if_pos h5]⟩
theorem fr0 {s : ByteArray} (h : 14 ≤ s.size) (h2 : eqB (s.extract 0 5) berth = true) (h3 : inB (bytB s 5) 1 9 = true) (h4 : le4 s 6 = (s.size : Int) - 14 ∧ (s.size : Int) - 14 ≤ 19980) (h5 : le4 s (s.size - 4) = sumB (s.extract 0 (s.size - 4))) : Frm s (bytB s 5) (s.extract 10 (s.size - 4)) 0 := ⟨by rw [frR, if_neg (by omega), if_neg (by rw [h2]; decide), if_neg (by rw [h3]; decide), if_neg (fun h => h h4), if_neg (fun h => h h5)]⟩
end Go.Proofs.YtnicgfeajdjimaaGreat
namespace Go.Proofs.YtnicgfeajdjimaaGreat
open Go.RowKit
def at2 (s : ByteArray) : ClusterD × Bool := cond (up23 s).2 (rdC (up23 s).1) (zeroC, false)
def at1 (s : ByteArray) : ClusterD × Bool := cond (up12 s).2 (at2 (up12 s).1) (zeroC, false)
def rdAt (s : ByteArray) (k : Int) : ClusterD × Bool := if k = 1 then at1 s else if k = 2 then at2 s else if k = 3 then rdC s else (zeroC, false)
theorem at_no {s : ByteArray} {k : Int} (h : ¬ (1 ≤ k ∧ k ≤ 3)) : Fin (rdAt s k) zeroC false := ⟨by rw [rdAt, if_neg (by omega), if_neg (by omega), if_neg (by omega)]⟩
theorem at_3 {s : ByteArray} {k : Int} {c : ClusterD} {ok : Bool} (hk : k = 3) (h : Fin (rdC s) c ok) : Fin (rdAt s k) c ok := ⟨by rw [rdAt, if_neg (by omega), if_neg (by omega), if_pos hk, h.eq]⟩
theorem at2_n {s t : ByteArray} {ok : Bool} (h : Txt (up23 s) t ok) (hk : ok = false) : at2 s = (zeroC, false) := by rw [at2, h.eq, hk]; rfl
theorem at2_y {s t : ByteArray} {ok : Bool} (h : Txt (up23 s) t ok) (hk : ok = true) : at2 s = rdC t := by rw [at2, h.eq, hk]; rfl
theorem at1_n {s t : ByteArray} {ok : Bool} (h : Txt (up12 s) t ok) (hk : ok = false) : at1 s = (zeroC, false) := by rw [at1, h.eq, hk]; rfl
theorem at1_y {s t : ByteArray} {ok : Bool} (h : Txt (up12 s) t ok) (hk : ok = true) : at1 s = at2 t := by rw [at1, h.eq, hk]; rfl
theorem at_1 {s : ByteArray} {k : Int} (hk : k = 1) : rdAt s k = at1 s := by rw [rdAt, if_pos hk]
theorem at_2 {s : ByteArray} {k : Int} (hk : k = 2) : rdAt s k = at2 s := by rw [rdAt, if_neg (by omega), if_pos hk]
theorem at2_no {s t : ByteArray} {k : Int} {ok : Bool} (hk : k = 2) (h : Txt (up23 s) t ok) (ho : ok = false) : Fin (rdAt s k) zeroC false := ⟨by rw [at_2 hk, at2_n h ho]⟩
theorem at2_yes {s t : ByteArray} {k : Int} {ok b : Bool} {c : ClusterD} (hk : k = 2) (h : Txt (up23 s) t ok) (ho : ok = true) (hf : Fin (rdC t) c b) : Fin (rdAt s k) c b := ⟨by rw [at_2 hk, at2_y h ho, hf.eq]⟩
theorem at1_no {s t : ByteArray} {k : Int} {ok : Bool} (hk : k = 1) (h : Txt (up12 s) t ok) (ho : ok = false) : Fin (rdAt s k) zeroC false := ⟨by rw [at_1 hk, at1_n h ho]⟩
theorem at1_no2 {s t u : ByteArray} {k : Int} {ok ok2 : Bool} (hk : k = 1) (h : Txt (up12 s) t ok) (ho : ok = true) (h2 : Txt (up23 t) u ok2) (ho2 : ok2 = false) : Fin (rdAt s k) zeroC false := ⟨by rw [at_1 hk, at1_y h ho, at2_n h2 ho2]⟩
theorem at1_yes {s t u : ByteArray} {k : Int} {ok ok2 b : Bool} {c : ClusterD} (hk : k = 1) (h : Txt (up12 s) t ok) (ho : ok = true) (h2 : Txt (up23 t) u ok2) (ho2 : ok2 = true) (hf : Fin (rdC u) c b) : Fin (rdAt s k) c b := ⟨by rw [at_1 hk, at1_y h ho, at2_y h2 ho2, hf.eq]⟩
def rdSt (s : ByteArray) : ClusterD × Int :=
  if ¬ (frR s).2 = 0 then (zeroC, (frR s).2)
  else if 3 < (frR s).1.1 then (zeroC, 6)
  else cond (rdAt (frR s).1.2 (frR s).1.1).2 ((rdAt (frR s).1.2 (frR s).1.1).1, 0) (zeroC, 7)
structure St8 (s : ByteArray) (c : ClusterD) (code : Int) : Prop where
  eq : rdSt s = (c, code)
theorem St8.same {s : ByteArray} {c c' : ClusterD} {k k' : Int} (h : St8 s c k) (h' : St8 s c' k') : c' = c ∧ k' = k := by
  have := h.eq.symm.trans h'.eq
  injection this with e1 e2
  exact ⟨e1.symm, e2.symm⟩
theorem st_frame {s t : ByteArray} {v c : Int} (h : Frm s v t c) (hc : ¬ c = 0) : St8 s zeroC c := ⟨by rw [rdSt, h.eq, if_pos hc]⟩
theorem st_version {s t : ByteArray} {v c : Int} (h : Frm s v t c) (hc : c = 0) (hv : 3 < v) : St8 s zeroC 6 := ⟨by rw [rdSt, h.eq, if_neg (fun h => h hc), if_pos hv]⟩
theorem st_no {s t : ByteArray} {v c : Int} {x : ClusterD} {ok : Bool} (h : Frm s v t c) (hc : c = 0) (hv : v ≤ 3) (hf : Fin (rdAt t v) x ok) (ho : ok = false) : St8 s zeroC 7 := ⟨by rw [rdSt, h.eq, if_neg (fun h => h hc), if_neg (by show ¬ 3 < v; omega)]; show cond (rdAt t v).2 _ _ = _; rw [hf.eq, ho]; rfl⟩
theorem st_yes {s t : ByteArray} {v c : Int} {x : ClusterD} {ok : Bool} (h : Frm s v t c) (hc : c = 0) (hv : v ≤ 3) (hf : Fin (rdAt t v) x ok) (ho : ok = true) : St8 s x 0 := ⟨by rw [rdSt, h.eq, if_neg (fun h => h hc), if_neg (by show ¬ 3 < v; omega)]; show cond (rdAt t v).2 ((rdAt t v).1, 0) _ = _; rw [hf.eq, ho]; rfl⟩
end Go.Proofs.YtnicgfeajdjimaaGreat
