/- The law FnExactDiskOk: its walk. -/
import Derived.Test.YtepachoampdhiaaDiskOk
namespace Go.Proofs.Ytepachoampdhiaa
open Go.RowKit

set_option maxRecDepth 100000 in
set_option maxHeartbeats 1000000 in
theorem lawDiskOk_any (v : Value) (fs : List FileD) (w : World) (h : FilesR w w.heap.size v fs) (hok : ∀ f ∈ fs, f.ok) :
    Calls Try.prog 6 #[.agg #[v]] w fun e w' => e = .returned (.bool true) ∧ Below w.heap.size w w' := by
  obtain ⟨b, hb⟩ : ∃ b : Bool, b = true ↔ DiskP fs := bool_of _
  have HB := Lib.hid hb
  clear hb
  · go_enter Try.func6, Try.ntmps6
    go_wp2_with fail
    refine (szDisk_any _ fs _ _ (h.go (box (bel0 w) _)) (by omega) (by omega)).mono ?_
    rintro e w1 ⟨⟨r, rfl, hr1, hr2⟩, hb'⟩
    have hb1 := stp (box (bel0 w) _) hb'
    have c1 : w1.cell? ⟨w.heap.size, 0, none⟩ = some v := keepc hb' (World.cell?_alloc_new w _ _ 0)
    clear hb'
    rcases hr2 with rfl | ⟨hr0, hr2⟩
    · go_wp2
      go_ret
      exact ⟨rfl, hb1⟩
    · have hn : fs.length ≤ 1048576 := by omega
      have HN := Lib.hid hn
      clear hn hr2
      go_wp2_with fail
      refine (toDisk_any _ fs _ (h.go hb1) HN.out).mono ?_
      rintro e w2 ⟨⟨u1, rfl, ho1⟩, hb'⟩
      have hb2 := stp hb1 hb'
      have c2 : w2.cell? ⟨w.heap.size, 0, none⟩ = some v := keepc hb' c1
      clear hb'
      go_wp2_with fail
      refine (specDiskOk_any _ fs b HB.out _ (own_reads FileD.len ho1 (Nat.le_refl _) hok)).mono ?_
      rintro e w3 ⟨rfl, hb'⟩
      have hb3 := stp hb2 hb'
      have c3 := keepc hb' c2
      clear hb' c2 c1
      go_wp2_with fail
      refine (toDisk_any _ fs _ (h.go hb3) HN.out).mono ?_
      rintro e w4 ⟨⟨u2, rfl, ho2⟩, hb'⟩
      have hb4 := stp hb3 hb'
      have c4 := keepc hb' c3
      have l4 := lt_of_cell c4
      clear hb' c3
      obtain ⟨A2, k2, rfl⟩ := own_form ho2
      go_wp2_with fail
      refine (implDiskOk_any _ fs b HB.out _ (own_reads FileD.len (ho2.alloc _) (Nat.le_refl _) hok)).mono ?_
      rintro e w5 ⟨rfl, hb'⟩
      have hb5 := stp (box hb4 _) hb'
      have c5 := keepc hb' ((World.cell?_alloc_lt w4 _ _ l4).trans c4)
      have d5 := keepc hb' (World.cell?_alloc_new w4 _ _ 0)
      have ho5 := ownsRow_below (ho2.alloc _) hb' (Nat.le_refl _)
      clear hb' c4 l4
      go_wp2
      have fr5 := h.go (drw hb5)
      have e5 := own_reads FileD.len ho5.drew (Nat.le_refl _) hok
      go_region_held3 (fun W => W.cell? ⟨w.heap.size, 0, none⟩ = some v ∧ W.cell? ⟨w4.heap.size, 0, none⟩ = some (.slice A2 fs.length k2)) (first | exact ⟨keepc ‹_› c5, keepc ‹_› d5⟩ | exact ⟨keepc ‹_› c6, keepc ‹_› d6⟩ | go_keep)
        (first | (go_at_call 20; refine (toDisk_any _ fs _ fr5 HN.out).mono ?_; rintro e w6 ⟨⟨u3, rfl, ho6⟩, hb6⟩; have c6 := keepc hb6 c5; have d6 := keepc hb6 d5) | (go_at_call 22; refine (eqDisk_same _ _ fs _ (e5.go hb6) (own_reads FileD.len ho6 (Nat.le_refl _) hok)).mono ?_; rintro e w7 ⟨rfl, hb7⟩))
      go_wp2
      go_ret
      exact ⟨rfl, stp (stp (drw hb5) hb6) hb7⟩
end Go.Proofs.Ytepachoampdhiaa
