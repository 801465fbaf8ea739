/- The laws' own helpers on a slice of integers. -/
import Derived.Test.YtepachoampdhiaaFallenI
import Derived.Test.YtepachoampdhiaaOpenDisk
namespace Go.Proofs.Ytepachoampdhiaa
open Go.RowKit

theorem infoInt : (Try.prog.info? 3).map (fun i => (i.zero, i.size, i.bytes)) = some (some (.int .i64 0), 1, 8) := by kernel_rfl
theorem intCells_len (n : Int) : (intCells n).length = 1 := rfl
theorem ilen (is : List Int) : (is.flatMap intCells).length = is.length * 1 := flatMap_len _ 1 intCells_len is

set_option maxHeartbeats 1000000 in
theorem toIntS_any (v : Value) (is : List Int) (w : World) (h : IntsR w w.heap.size v is) (hn : is.length ≤ 1048576) :
    Calls Try.prog 39 #[v] w fun e w' => (∃ u, e = .returned u ∧ w'.ownsRow w.heap.size 3 1 u is.length (is.flatMap intCells)) ∧ Below w.heap.size w w' := by
  obtain ⟨A, c, rfl, hc, hm, h⟩ := h
  unfold maxLen at hm
  have H := Lib.hid h
  have hmk := make_rows (P := Try.prog) 35 3 _ 1 8 Try.underlying35 infoInt is.length (by omega) (by omega)
  clear h hn
  go_enter Try.func39, Try.ntmps39
  have HC : Hid ((w.alloc (.cells (madeCells (#[.int .i64 0] : Array Value) (is.length * 1)) 3)).ownsRow w.heap.size 3 1 (.slice (some ⟨w.heap.size, 0, none⟩) is.length is.length) is.length (madeCells (#[.int .i64 0] : Array Value) (is.length * 1)).toList) :=
    World.ownsRow_lit w _ is.length (Nat.le_refl _) (by unfold maxLen; omega) (size_madeCells _ _)
  rw [Nat.mul_one] at HC
  simp only [Nat.mul_one] at hmk
  go_wp2
  go_loopw [4] (fun i wr => ∃ (k : Nat) (xs : List Value), k ≤ is.length ∧ i = .int .i64 k ∧ wr.ownsRow w.heap.size 3 1 (.slice (some ⟨w.heap.size, 0, none⟩) is.length is.length) is.length xs ∧ xs.take (k * 1) = (is.take k).flatMap intCells ∧ Below w.heap.size w wr) (fun i _ => is.length - (intOf i).toNat)
  case atStart => exact ⟨0, _, by omega, rfl, HC.out, by simp, box (bel0 w) _⟩
  case round =>
    obtain ⟨k, xs, hk, rfl, hown, hxs, hb⟩ := hrel
    by_cases hlt : k < is.length
    · obtain ⟨b, o, cs, rfl, hbb, hl, hcs, rfl, hok⟩ := H.out k hlt
      have g0 := (hcs.keep (hb.block b hbb)).c0
      rw [Nat.mul_one] at g0
      have f0 := hown.frozenAt k
      obtain ⟨u0, d0⟩ := own_cell hown k (by omega)
      have HX := Lib.hid hxs
      clear hcs hxs
      go_wp2
      go_roundw
      case rel =>
        refine ⟨k + 1, setRun xs (k * 1) (intCells is[k]), by omega, by go_num, ?_, setRun_next _ 1 intCells_len xs is k hlt hown.1 HX.out, put hb (Nat.le_refl _) _⟩
        rw [Nat.mul_one]
        exact (hown.stored k _).1
      case measure => simp [intOf]; omega
    · have HX := Lib.hid hxs
      have HK : Hid (k = is.length) := by unfold Hid; omega
      clear hxs
      go_wp2
      go_ret
      have hxs := HX.out
      rw [HK.out, List.take_length, List.take_of_length_le (by rw [hown.1]; exact Nat.le_refl _)] at hxs
      subst hxs
      exact ⟨⟨_, rfl, hown⟩, hb⟩

set_option maxHeartbeats 1000000 in
theorem eqIntS_same (u v : Value) (is : List Int) (w : World) (h : IntsR w w.heap.size u is) (h' : IntsR w w.heap.size v is) :
    Calls Try.prog 41 #[u, v] w fun e w' => e = .returned (.bool true) ∧ Below w.heap.size w w' := by
  obtain ⟨A, c, rfl, hc, hm, h⟩ := h
  obtain ⟨A', c', rfl, hc', hm', h'⟩ := h'
  unfold maxLen at hm hm'
  have H := Lib.hid h
  have H' := Lib.hid h'
  clear h h'
  go_enter Try.func41, Try.ntmps41
  go_wp2
  go_loopw [5] (fun i wr => ∃ k : Nat, k ≤ is.length ∧ i = .int .i64 k ∧ Below w.heap.size w wr) (fun i _ => is.length - (intOf i).toNat)
  case atStart => exact ⟨0, by omega, rfl, bel0 w⟩
  case round =>
    obtain ⟨k, hk, rfl, hb⟩ := hrel
    by_cases hlt : k < is.length
    · obtain ⟨b, o, cs, rfl, hbb, hl, hcs, rfl, hok⟩ := H.out k hlt
      obtain ⟨b', o', cs', rfl, hbb', hl', hcs', rfl, hok'⟩ := H'.out k hlt
      have g0 := (hcs.keep (hb.block b hbb)).c0
      have d0 := (hcs'.keep (hb.block b' hbb')).c0
      rw [Nat.mul_one] at g0 d0
      have k0 : (0 : Int) ≤ (k : Int) := Int.natCast_nonneg _
      have k1 : (k : Int) < (is.length : Int) := by omega
      clear hcs hcs' hl hl'
      go_wp2
      go_quiet (fail)
      go_wp2
      go_roundw
      case rel => exact ⟨k + 1, by omega, by go_num, drwN hb _⟩
      case measure => simp [intOf]; omega
    · go_wp2
      go_ret
      exact ⟨rfl, hb⟩

set_option maxHeartbeats 1000000 in
theorem markIntS_any (v : Value) (n base : Nat) (xs : List Value) (k : Int) (w : World) (h : w.ownsRow base 3 1 v n xs) (h0 : 0 < k) (h1 : k + n ≤ 100000000000) :
    Calls Try.prog 42 #[v, .int .i64 k] w fun e w' => e = .returned (.int .i64 (k + n)) ∧ (∃ ys, w'.ownsRow base 3 1 v n ys) ∧ w.grownBy w' v.ownBlock := by
  obtain ⟨A, c, rfl⟩ := own_form h
  go_enter Try.func42, Try.ntmps42
  go_wp2
  go_loopw [1, 5] (fun q i wr => ∃ (m : Nat) (ys : List Value), m ≤ n ∧ i = .int .i64 m ∧ q = .int .i64 (k + m) ∧ wr.ownsRow base 3 1 (.slice A n c) n ys ∧ w.grownBy wr (Value.slice A n c).ownBlock) (fun _ i _ => n - (intOf i).toNat)
  case atStart => exact ⟨0, xs, by omega, rfl, by simp, h, World.grownBy.refl w _⟩
  case round =>
    obtain ⟨m, ys, hm, rfl, rfl, hown, hg⟩ := hrel
    by_cases hlt : m < n
    · obtain ⟨g, rfl, hgb, hgl⟩ := own_some hown (by omega)
      have f0 := hown.frozenAt m
      obtain ⟨u0, d0⟩ := own_cell hown m (by omega)
      go_wp2
      go_roundw
      case rel => exact ⟨m + 1, _, by omega, by go_num, int_i64 (by omega), (hown.stored m _).1, grown_set hg _ _⟩
      case measure => simp [intOf]; omega
    · have HK : Hid (m = n) := by unfold Hid; omega
      go_wp2
      go_ret
      exact ⟨ret_i64 (by rw [HK.out]), ⟨_, hown⟩, hg⟩

open Go.ChangeShapes Go.WideShapes in
set_option maxRecDepth 100000 in
theorem open_Ints {H : Type} {enc : TypeId × Value → H} {w : World} {v : Value} {d : DataW H} {p : List MemPlace} {base : Nat} (hv : Value.okWide Try.prog w .any base 35 v) (h : DataW.Trod enc Try.prog w 0 (fun _ => true) true 35 v d p) :
    ∃ (u : Value) (is : List Int), v = u ∧ IntsR w w.heap.size u is := by
  obtain ⟨a, n, c, rfl⟩ := okWide_slice Try.underlying35 hv
  obtain ⟨u, is, hc, hr⟩ := rdb_slice (α := Int) (R := Flat intCells IntOk) Try.underlying35 cellsOfInt (by omega) (fun cs' h' => by
    obtain ⟨n, e, h1, h2⟩ := rdb_int Try.underlying3 h'
    exact ⟨n, e, h1, h2⟩) (rdb_of_trod h)
  refine ⟨u, is, ?_, hr⟩
  simpa [Value.cells] using hc

theorem ints_ok {w : World} {B : Nat} {v : Value} {is : List Int} (h : IntsR w B v is) : ∀ i ∈ is, IntOk i := by
  obtain ⟨A, c, _, _, _, h⟩ := h
  intro f hf
  obtain ⟨i, hi, rfl⟩ := List.getElem_of_mem hf
  obtain ⟨b, o, cs, _, _, _, _, h⟩ := h i hi
  exact h.2
theorem fallenR_len (fs : List FileD) (ks : List Int) (hn : fs.length ≤ 1048576) : (fallenR fs ks).length ≤ 1048577 := by
  unfold fallenR
  split
  · rw [fallTo_length]; omega
  · omega
theorem fallF_ok {f : FileD} (q : Int) (h : f.ok) (h0 : 0 ≤ f.synced) (h1 : f.synced ≤ f.text.size) : (fallF f q).ok := by
  obtain ⟨a, b, c, d⟩ := h
  obtain ⟨x, y, z⟩ := fallN_range q h0 h1
  have hm : maxLen ≤ 9223372036854775807 := by unfold maxLen; decide
  refine ⟨a, ?_, ?_, ?_⟩ <;> simp only [fallF]
  · rw [ByteArray.size_extract]; omega
  all_goals omega
theorem fallenR_ok (fs : List FileD) (ks : List Int) (h : ∀ f ∈ fs, f.ok) : ∀ f ∈ fallenR fs ks, f.ok := by
  unfold fallenR
  split
  case isTrue hd =>
    intro f hf
    obtain ⟨i, hi, rfl⟩ := List.getElem_of_mem hf
    rw [fallTo_length] at hi
    obtain ⟨_, _, _, x, y⟩ := hd.2 i hi
    have e : (fallTo fs ks fs.length)[i]'(by rw [fallTo_length]; exact hi) = fallF fs[i] (ks.getD i 0) := by simp [fallTo, hi]
    have g := h _ (List.getElem_mem hi)
    rw [e]
    exact fallF_ok _ g x y
  case isFalse => exact h
end Go.Proofs.Ytepachoampdhiaa
