/- The marks that a law lays into a disk's files, and reads again. -/
import Derived.Test.YtepachoampdhiaaMark
import Derived.Test.YtepachoampdhiaaDiskA
namespace Go.Proofs.Ytepachoampdhiaa
open Go.RowKit

/-- Files that bear the marks k, k+1, .. -/
def marksF : Nat → Int → List Value
  | 0, _ => []
  | n + 1, k => marksF n k ++ [.string (markT (k + 3 * n).toNat), .string (markT (k + 3 * n + 1).toNat), .int .i64 (k + 3 * n + 1 + 1)]
theorem marksF_len : ∀ (n : Nat) (k : Int), (marksF n k).length = n * 3
  | 0, _ => rfl
  | n + 1, k => by simp only [marksF, List.length_append, marksF_len n k, List.length_cons, List.length_nil]; omega

theorem marksF_at : ∀ (n : Nat) (k : Int) (m j : Nat), m < n → j < 3 → (marksF n k)[m * 3 + j]? = [Value.string (markT (k + 3 * m).toNat), .string (markT (k + 3 * m + 1).toNat), .int .i64 (k + 3 * m + 1 + 1)][j]?
  | 0, _, _, _, h, _ => by omega
  | n + 1, k, m, j, h, hj => by
    rw [marksF]
    by_cases hm : m < n
    · rw [List.getElem?_append_left (by rw [marksF_len]; omega), marksF_at n k m j hm hj]
    · obtain rfl : m = n := by omega
      rw [List.getElem?_append_right (by rw [marksF_len]; omega), marksF_len, show m * 3 + j - m * 3 = j by omega]

set_option maxRecDepth 100000 in
set_option maxHeartbeats 1000000 in
theorem markFileS_any (v : Value) (n base : Nat) (xs : List Value) (k : Int) (w : World) (h : w.ownsRow base 66 3 v n xs) (h0 : 0 < k) (h1 : k + 3 * n ≤ 100000000000) :
    Calls Try.prog 76 #[v, .int .i64 k] w fun e w' => e = .returned (.int .i64 (k + 3 * n)) ∧ w'.ownsRow base 66 3 v n (marksF n k) ∧ w.grownBy w' v.ownBlock := by
  obtain ⟨A, c, rfl⟩ := own_form h
  go_enter Try.func76, Try.ntmps76
  go_wp2
  go_loopw [1, 5] (fun q i wr => ∃ (m : Nat) (ys : List Value), m ≤ n ∧ i = .int .i64 m ∧ q = .int .i64 (k + 3 * m) ∧ wr.ownsRow base 66 3 (.slice A n c) n ys ∧ ys.take (m * 3) = marksF m k ∧ w.grownBy wr (Value.slice A n c).ownBlock) (fun _ i _ => n - (intOf i).toNat)
  case atStart => exact ⟨0, xs, by omega, rfl, by simp, h, by simp [marksF], World.grownBy.refl w _⟩
  case round =>
    obtain ⟨m, ys, hm, rfl, rfl, hown, hys, hg⟩ := hrel
    by_cases hlt : m < n
    · obtain ⟨g, rfl, hgb, hgl⟩ := own_some hown (by omega)
      have HY := Lib.hid hys
      clear hys
      go_wp2_with fail
      refine (markText_any _ _ (by omega) (by omega)).mono ?_
      rintro e w1 ⟨rfl, hb1⟩
      have hown1 := ownsRow_below hown hb1 (Nat.le_refl _)
      have f0 := hown1.frozenAt (m * 3)
      obtain ⟨u0, d0⟩ := own_cell hown1 (m * 3) (by omega)
      have o1 := (hown1.stored (m * 3) (.string (markT (k + 3 * m).toNat))).1
      go_wp2_with fail
      refine (markText_any _ _ (by omega) (by omega)).mono ?_
      rintro e w2 ⟨rfl, hb2⟩
      have hown2 := ownsRow_below o1 hb2 (Nat.le_refl _)
      have f1 := hown2.frozenAt (m * 3 + 1)
      have f2 := hown2.frozenAt (m * 3 + 2)
      obtain ⟨u1, d1⟩ := own_cell hown2 (m * 3 + 1) (by omega)
      obtain ⟨u2, d2⟩ := own_cell hown2 (m * 3 + 2) (by omega)
      go_wp2
      go_roundw
      case rel =>
        refine ⟨m + 1, setRun ys (m * 3) [.string (markT (k + 3 * m).toNat), .string (markT (k + 3 * m + 1).toNat), .int .i64 (k + 3 * m + 1 + 1)], by omega, by go_num, ?_, ?_, ?_, ?_⟩
        · congr 1; omega
        · exact ((hown2.stored (m * 3 + 1) _).1.stored (m * 3 + 2) _).1
        · rw [show (m + 1) * 3 = m * 3 + 3 by omega, marksF, ← HY.out]
          exact setRun_take [_, _, _] ys (m * 3) (by rw [hown.1]; simp only [List.length_cons, List.length_nil]; omega)
        · exact grown_set (grown_set (grown_trans (grown_set (grown_trans hg (grown_of_below hb1 _)) _ _) (grown_of_below hb2 _)) _ _) _ _
      case measure => simp [intOf]; omega
    · have HY := Lib.hid hys
      have HK : Hid (m = n) := by unfold Hid; omega
      clear hys
      go_wp2
      go_ret
      have hys := HY.out
      rw [HK.out, List.take_of_length_le (by rw [hown.1]; exact Nat.le_refl _)] at hys
      subst hys
      exact ⟨ret_i64 (by rw [HK.out]), hown, hg⟩

set_option maxRecDepth 100000 in
set_option maxHeartbeats 1000000 in
theorem heldFileS_any (v : Value) (n base : Nat) (k : Int) (w : World) (h : w.ownsRow base 66 3 v n (marksF n k)) (h0 : 0 < k) (h1 : k + 3 * n ≤ 100000000000) :
    Calls Try.prog 77 #[v, .int .i64 k] w fun e w' => e = .returned (.int .i64 (k + 3 * n)) ∧ Below w.heap.size w w' := by
  obtain ⟨A, c, rfl⟩ := own_form h
  go_enter Try.func77, Try.ntmps77
  go_wp2
  go_loopw [1, 5] (fun q i wr => ∃ (m : Nat), m ≤ n ∧ i = .int .i64 m ∧ q = .int .i64 (k + 3 * m) ∧ Below w.heap.size w wr) (fun _ i _ => n - (intOf i).toNat)
  case atStart => exact ⟨0, by omega, rfl, by simp, bel0 w⟩
  case round =>
    obtain ⟨m, hm, rfl, rfl, hb⟩ := hrel
    by_cases hlt : m < n
    · obtain ⟨g, rfl, hgb, hgl⟩ := own_some h (by omega)
      have hown := ownsRow_below h hb (Nat.le_refl _)
      have g0 : wr.cell? ⟨g, m * 3, none⟩ = some (.string (markT (k + 3 * m).toNat)) := by rw [hown.cellAt _ (by omega)]; exact marksF_at n k m 0 hlt (by omega)
      have g1 : wr.cell? ⟨g, m * 3 + 1, none⟩ = some (.string (markT (k + 3 * m + 1).toNat)) := by rw [hown.cellAt _ (by omega)]; exact marksF_at n k m 1 hlt (by omega)
      have g2 : wr.cell? ⟨g, m * 3 + 2, none⟩ = some (.int .i64 (k + 3 * m + 1 + 1)) := by rw [hown.cellAt _ (by omega)]; exact marksF_at n k m 2 hlt (by omega)
      have q1 : g < wr.heap.size := Nat.lt_of_lt_of_le hgl hb.size
      go_wp2
      go_region_held3 (fun W => W.cell? ⟨g, m * 3, none⟩ = some (.string (markT (k + 3 * m).toNat)) ∧ W.cell? ⟨g, m * 3 + 1, none⟩ = some (.string (markT (k + 3 * m + 1).toNat)) ∧ W.cell? ⟨g, m * 3 + 2, none⟩ = some (.int .i64 (k + 3 * m + 1 + 1))) (go_keep)
        (first | (go_at_call 105; refine (markText_any _ _ (by omega) (by omega)).mono ?_; rintro e w1 ⟨rfl, hb1⟩; obtain ⟨hc, hf, hz⟩ := seen hb1; simp at hc hf hz))
      go_wp2
      have e1 : w1.cell? ⟨g, m * 3 + 1, none⟩ = some (.string (markT (k + 3 * m + 1).toNat)) := (hb1.cell (p := ⟨g, m * 3 + 1, none⟩) q1).trans g1
      have e2 : w1.cell? ⟨g, m * 3 + 2, none⟩ = some (.int .i64 (k + 3 * m + 1 + 1)) := (hb1.cell (p := ⟨g, m * 3 + 2, none⟩) q1).trans g2
      have q2 : g < w1.heap.size := Nat.lt_of_lt_of_le q1 hb1.size
      clear hc hf
      go_region_held3 (fun W => W.cell? ⟨g, m * 3 + 1, none⟩ = some (.string (markT (k + 3 * m + 1).toNat)) ∧ W.cell? ⟨g, m * 3 + 2, none⟩ = some (.int .i64 (k + 3 * m + 1 + 1))) (go_keep)
        (first | (go_at_call 105; refine (markText_any _ _ (by omega) (by omega)).mono ?_; rintro e w2 ⟨rfl, hb2⟩; obtain ⟨hc, hf, hz2⟩ := seen hb2; simp at hc hf hz2))
      go_wp2
      have e3 : w2.cell? ⟨g, m * 3 + 2, none⟩ = some (.int .i64 (k + 3 * m + 1 + 1)) := (hb2.cell (p := ⟨g, m * 3 + 2, none⟩) q2).trans e2
      clear hc hf
      go_wp2
      go_roundw
      case rel => exact ⟨m + 1, by omega, by go_num, int_i64 (by omega), stp (drw (stp (drw hb) hb1)) hb2⟩
      case measure => simp [intOf]; omega
    · have HK : Hid (m = n) := by unfold Hid; omega
      go_wp2
      go_ret
      exact ⟨ret_i64 (by rw [HK.out]), hb⟩

theorem markDisk_any (v : Value) (n base : Nat) (xs : List Value) (k : Int) (w : World) (h : w.ownsRow base 66 3 v n xs) (h0 : 0 < k) (h1 : k + 3 * n ≤ 100000000000) :
    Calls Try.prog 34 #[.agg #[v], .int .i64 k] w fun e w' => e = .returned (.int .i64 (k + 3 * n)) ∧ w'.ownsRow base 66 3 v n (marksF n k) ∧ w.grownBy w' v.ownBlock := by
  have H1 := Lib.hid h1
  clear h1
  go_enter Try.func34, Try.ntmps34
  go_wp2_with (go_at_call 76; refine (markFileS_any _ _ _ _ _ _ (h.alloc _) h0 H1.out).mono ?_; rintro e w' ⟨rfl, ho, hg⟩)
  go_ret
  exact ⟨rfl, ho, grown_trans (World.grownBy_alloc w _ _) hg⟩

theorem heldDisk_any (v : Value) (n base : Nat) (k : Int) (w : World) (h : w.ownsRow base 66 3 v n (marksF n k)) (h0 : 0 < k) (h1 : k + 3 * n ≤ 100000000000) :
    Calls Try.prog 35 #[.agg #[v], .int .i64 k] w fun e w' => e = .returned (.int .i64 (k + 3 * n)) ∧ Below w.heap.size w w' := by
  have H1 := Lib.hid h1
  have h2 : (0 : Int) ≤ k + 3 * n := by omega
  clear h1
  go_enter Try.func35, Try.ntmps35
  go_wp2_with (go_at_call 77; refine (heldFileS_any _ _ _ _ _ (h.alloc _) h0 H1.out).mono ?_; rintro e w' ⟨rfl, hb'⟩)
  go_ret
  exact ⟨rfl, stp (box (bel0 w) _) hb'⟩
end Go.Proofs.Ytepachoampdhiaa
