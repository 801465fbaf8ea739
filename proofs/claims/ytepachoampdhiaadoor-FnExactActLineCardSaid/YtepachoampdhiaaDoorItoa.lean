/- strconv.Itoa as a contract over data, under the table that it reads. -/
import Derived.Test.YtepachoampdhiaaDoorAwP
import Derived.Test.YtepachoampdhiaaDoorShelf
import Derived.Lib.LaidTab
import Derived.Lib.ItoaLen
import Derived.Lib.ItoaMem
namespace Go.Proofs.YtepachoampdhiaaDoor
open Go.RowKit

theorem gTab : Tryd.prog.globalNamed "internal/strconv.uint64pow10" = some 1 := by kernel_rfl
/-- The library's table of powers of ten lies among what is only read. -/
def tabT (ro : Nat → Prop) (w : World) : Prop := ro 1 ∧ Lib.TabIs Tryd.prog w "internal/strconv.uint64pow10" .u64 Lib.pow10Tab
theorem tab_stays : Stays tabT := by
  intro ro ro' w w' h h1 h2
  refine ⟨h1 _ h.1, ?_⟩
  have h3 := h.2
  unfold Lib.TabIs World.var? at h3 ⊢
  rw [gTab] at h3 ⊢
  simp only [Option.bind_some] at h3 ⊢
  rw [h2 _ h.1]
  exact h3
def numeral (n : Int) : ByteArray := ⟨(Lib.itoa n).toArray⟩
theorem itoa_D (n : Int) (h0 : -9223372036854775808 ≤ n) (h1 : n ≤ 9223372036854775807) : SpecT Tryd.prog tabT 41 [.sc (.int .i64 n)] (fun d => d = .sc (.string (numeral n))) := by
  refine ⟨callable Tryd.func41 rfl (by kernel_rfl), fun ro w args hT hro hsz hrep => ?_⟩
  obtain ⟨v, rfl⟩ : ∃ v, args = #[v] := by
    obtain ⟨l⟩ := args
    obtain ⟨v, rfl⟩ : ∃ v, l = [v] := List.length_eq_one_iff.1 (by simpa using hsz)
    exact ⟨v, rfl⟩
  have h2 : v = .int .i64 n := (hrep 0 _ rfl).1
  subst h2
  refine (Tryd.strconv_Itoa n h0 h1 w hT.2).mono ?_
  rintro e w' ⟨rfl, k, os, rfl⟩
  refine ⟨_, _, rfl, rfl, ⟨rfl, rfl⟩, ⟨rfl, rfl, rfl, by simp [Sort.grow, World.drewN], fun b hb => ?_⟩⟩
  show (w.heap ++ os)[b]? = _
  rw [Array.getElem?_append_left hb]

/-! The digits, one at a time. -/
def digs (u : Nat) : List UInt8 := if u = 0 then [] else Lib.decDigits u
theorem digs_step (u : Nat) (h : u ≠ 0) : digs u = digs (u / 10) ++ [UInt8.ofNat (48 + u % 10)] := by
  unfold digs
  rw [if_neg h]
  by_cases h10 : u < 10
  · have h1 : u / 10 = 0 := by omega
    have h2 : u % 10 = u := by omega
    rw [Lib.decDigits_one h10, if_pos h1, h2]
    rfl
  · rw [if_neg (by omega : ¬ u / 10 = 0)]
    rw [Lib.decDigits, dif_neg h10]
theorem digs_le (u : Nat) (h : u ≤ 9223372036854775808) : (digs u).length ≤ 21 := by
  unfold digs
  split
  · simp
  · by_cases h1 : u ≤ 9223372036854775807
    · have := Lib.itoa_length_le u (by omega) (by omega)
      rwa [Lib.itoa_nonneg] at this
    · obtain rfl : u = 9223372036854775808 := by omega
      have := Lib.itoa_length_le (-9223372036854775808) (by omega) (by omega)
      rw [show (-9223372036854775808 : Int) = -((9223372036854775808 : Nat) : Int) by rfl, Lib.itoa_neg _ (by omega)] at this
      simp at this
      omega
theorem numeral_of (n : Int) (h : n ≠ 0) : (numeral n).data.toList = (if n < 0 then [45] else []) ++ digs n.natAbs := by
  unfold numeral digs
  show (Lib.itoa n).toArray.toList = _
  have hz : n.natAbs ≠ 0 := by omega
  simp only [hz, if_false]
  unfold Lib.itoa
  split
  · simp
  · rw [show n.toNat = n.natAbs by omega]; simp
theorem numeral_size (n : Int) (h0 : -9223372036854775808 ≤ n) (h1 : n ≤ 9223372036854775807) : (numeral n).size ≤ 21 := by
  have := Lib.itoa_length_le n h0 h1
  simpa [numeral, ByteArray.size] using this
end Go.Proofs.YtepachoampdhiaaDoor
