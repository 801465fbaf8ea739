/- WriteFile: of the program and of the reference. -/
import Derived.Test.YtepachoampdhiaaWith
namespace Go.Proofs.Ytepachoampdhiaa
open Go.RowKit

open Classical in
noncomputable def writeR (fs : List FileD) (nm tx : ByteArray) : List FileD × Int :=
  if DiskP fs ∧ NameP nm ∧ tx.size ≤ 20000 then (if fileAt fs nm < 0 ∧ 4 ≤ fs.length then (fs, 3) else (layR fs ⟨nm, tx, 0⟩, 0)) else (fs, 1)
theorem writeR_bad {fs : List FileD} {nm tx : ByteArray} (h : ¬ (DiskP fs ∧ NameP nm ∧ tx.size ≤ 20000)) : writeR fs nm tx = (fs, 1) := by unfold writeR; rw [if_neg h]
theorem writeR_full {fs : List FileD} {nm tx : ByteArray} (h : DiskP fs ∧ NameP nm ∧ tx.size ≤ 20000) (h1 : fileAt fs nm < 0 ∧ 4 ≤ fs.length) : writeR fs nm tx = (fs, 3) := by unfold writeR; rw [if_pos h, if_pos h1]
theorem writeR_good {fs : List FileD} {nm tx : ByteArray} (h : DiskP fs ∧ NameP nm ∧ tx.size ≤ 20000) (h1 : ¬ (fileAt fs nm < 0 ∧ 4 ≤ fs.length)) : writeR fs nm tx = (layR fs ⟨nm, tx, 0⟩, 0) := by unfold writeR; rw [if_pos h, if_neg h1]
theorem writeR_len (fs : List FileD) (nm tx : ByteArray) (h : fs.length ≤ 1048576) : (writeR fs nm tx).1.length ≤ 1048577 := by
  unfold writeR
  split
  · split
    · exact Nat.le_succ_of_le h
    · exact Nat.le_trans (layR_len fs _) (by omega)
  · exact Nat.le_succ_of_le h
theorem writeR_ok (fs : List FileD) (nm tx : ByteArray) (hnm : nm.size ≤ maxLen) (htx : tx.size ≤ maxLen) (h : ∀ f ∈ fs, f.ok) : ∀ f ∈ (writeR fs nm tx).1, f.ok := by
  unfold writeR
  split
  · split
    · exact h
    · exact layR_ok fs _ h ⟨hnm, htx, by show (-9223372036854775808 : Int) ≤ 0; omega, by show (0 : Int) ≤ 9223372036854775807; omega⟩
  · exact h

theorem less_trans : ∀ (a b c : List UInt8), Op.bytesLess a b = true → Op.bytesLess b c = true → Op.bytesLess a c = true
  | [], [], _, h, _ => by simp [Op.bytesLess] at h
  | _ :: _, [], _, h, _ => by simp [Op.bytesLess] at h
  | _, _ :: _, [], _, h => by simp [Op.bytesLess] at h
  | [], _ :: _, _ :: _, _, _ => by simp [Op.bytesLess]
  | a :: xs, b :: ys, c :: zs, h1, h2 => by
    simp only [Op.bytesLess, Bool.or_eq_true, Bool.and_eq_true, decide_eq_true_eq, beq_iff_eq] at h1 h2 ⊢
    have ih := less_trans xs ys zs
    rcases h1 with h1 | ⟨rfl, h1⟩ <;> rcases h2 with h2 | ⟨rfl, h2⟩
    · exact .inl (UInt8.lt_trans h1 h2)
    · exact .inl h1
    · exact .inl h2
    · exact .inr ⟨rfl, ih h1 h2⟩
theorem asc_lt {fs : List FileD} (h : DiskP fs) : ∀ (j i : Nat) (_ : i < j) (hj : j < fs.length), Op.bytesLess (fs[i]'(by omega)).name.toList fs[j].name.toList = true := by
  intro j
  induction j with
  | zero => intro i hi; omega
  | succ j ih =>
    intro i hi hj
    have h1 : Op.bytesLess (fs[j]'(by omega)).name.toList fs[j + 1].name.toList = true := (h.2 (j + 1) hj).2.1 (by omega)
    rcases Nat.lt_or_eq_of_le (Nat.lt_succ_iff.1 hi) with h2 | rfl
    · exact less_trans _ _ _ (ih i h2 (by omega)) h1
    · exact h1
theorem asc_ne {fs : List FileD} (h : DiskP fs) (nm : ByteArray) : ∀ j, layAt fs nm < j → ∀ hj : j < fs.length, fs[j].name ≠ nm := by
  intro j hlt hj e
  have h1 := asc_lt h j (layAt fs nm) hlt hj
  rw [e, layAt_at (by omega)] at h1
  cases h1

-- the walks
set_option maxRecDepth 100000 in
set_option maxHeartbeats 4000000 in
theorem specWrite_any (v : Value) (fs : List FileD) (nm tx : ByteArray) (w : World) (h : FilesR w w.heap.size v fs) (hn : fs.length ≤ 1048576) (hnm : nm.size ≤ maxLen) (htx : tx.size ≤ maxLen) :
    Calls Try.prog 45 #[.agg #[v], .string nm, .string tx] w fun e w' => (∃ u, e = .returned (.tuple #[.agg #[u], .int .i64 (writeR fs nm tx).2]) ∧ GivesD w (writeR fs nm tx).1 u w') ∧ Below w.heap.size w w' := by
  have HN := Lib.hid hn
  have hs_nm := Lib.hid hnm
  clear hn hnm
  obtain ⟨Av, cv, rfl⟩ := sl_form h
  unfold maxLen at htx
  by_cases hd : DiskP fs
  rotate_left
  · rw [writeR_bad (fun h => hd h.1)]
    have HD : Hid (¬ DiskP fs) := hd
    clear hd
    go_enter Try.func45, Try.ntmps45
    have kv0 := (Kc.new rfl rfl : Kc (w.alloc (.cells #[.slice Av fs.length cv] 29)) ⟨w.heap.size, 0, none⟩ (.slice Av fs.length cv)).bx (.cells #[.slice none 0 0] 29)
    have kr0 : Kc ((w.alloc (.cells #[.slice Av fs.length cv] 29)).alloc (.cells #[.slice none 0 0] 29)) ⟨w.heap.size + 1, 0, none⟩ (.slice none 0 0) := Kc.new (by simp) rfl
    go_wp2_with fail
    refine (specDiskOk_any _ fs false (by simpa using HD.out) _ (h.go (box (box (bel0 w) _) _))).mono ?_
    rintro e w1 ⟨rfl, hb'⟩
    have hb1 := stp (box (box (bel0 w) _) _) hb'
    have kv1 := kv0.go hb'
    have kr1 := kr0.go hb'
    clear hb' kv0 kr0
    have c1 := kv1.1
    go_wp2_with fail
    refine (l29Copy_any _ fs _ (h.go hb1) HN.out).mono ?_
    rintro e w3 ⟨⟨u, rfl, hown⟩, hb'⟩
    try unfold GivesD at hown
    obtain ⟨A, c, rfl⟩ := own_form hown
    have hb3 := stp hb1 hb'
    have kr3 := kr1.go hb'
    have lr := Kc.lt kr1
    clear hb'
    have c3 := kr3.1
    have f3 := kr3.2
    go_wp2
    refine bodyPost_ret (v := .tuple #[.agg #[.slice A fs.length c], .int .i64 1]) (by simp [results, Try.results45, go_sem, c3]) rfl ⟨⟨_, rfl, ?_⟩, put hb3 (by simp) _⟩
    exact ownsRow_base (ownsRow_setCell_below hown lr _) hb1.size
  have HD : Hid (DiskP fs) := hd
  by_cases hm : NameP nm
  rotate_left
  · rw [writeR_bad (fun h => hm h.2.1)]
    have HM := Lib.hid hm
    clear hm hd
    go_enter Try.func45, Try.ntmps45
    have kv0 := (Kc.new rfl rfl : Kc (w.alloc (.cells #[.slice Av fs.length cv] 29)) ⟨w.heap.size, 0, none⟩ (.slice Av fs.length cv)).bx (.cells #[.slice none 0 0] 29)
    have kr0 : Kc ((w.alloc (.cells #[.slice Av fs.length cv] 29)).alloc (.cells #[.slice none 0 0] 29)) ⟨w.heap.size + 1, 0, none⟩ (.slice none 0 0) := Kc.new (by simp) rfl
    go_wp2_with fail
    refine (specDiskOk_any _ fs true (by simpa using HD.out) _ (h.go (box (box (bel0 w) _) _))).mono ?_
    rintro e w1 ⟨rfl, hb'⟩
    have hb1 := stp (box (box (bel0 w) _) _) hb'
    have kv1 := kv0.go hb'
    have kr1 := kr0.go hb'
    clear hb' kv0 kr0
    have c1 := kv1.1
    go_wp2_with fail
    refine (specNameOk_f nm hs_nm.out HM.out _).mono ?_
    rintro e w2 ⟨rfl, rfl⟩
    go_wp2_with fail
    refine (l29Copy_any _ fs _ (h.go hb1) HN.out).mono ?_
    rintro e w3 ⟨⟨u, rfl, hown⟩, hb'⟩
    try unfold GivesD at hown
    obtain ⟨A, c, rfl⟩ := own_form hown
    have hb3 := stp hb1 hb'
    have kr3 := kr1.go hb'
    have lr := Kc.lt kr1
    clear hb'
    have c3 := kr3.1
    have f3 := kr3.2
    go_wp2
    refine bodyPost_ret (v := .tuple #[.agg #[.slice A fs.length c], .int .i64 1]) (by simp [results, Try.results45, go_sem, c3]) rfl ⟨⟨_, rfl, ?_⟩, put hb3 (by simp) _⟩
    exact ownsRow_base (ownsRow_setCell_below hown lr _) hb1.size
  have HM := Lib.hid hm
  by_cases ht : tx.size ≤ 20000
  rotate_left
  · rw [writeR_bad (fun h => ht h.2.2)]
    have ht2 : (20000 : Int) < (tx.size : Int) := by omega
    clear hm hd ht
    go_enter Try.func45, Try.ntmps45
    have kv0 := (Kc.new rfl rfl : Kc (w.alloc (.cells #[.slice Av fs.length cv] 29)) ⟨w.heap.size, 0, none⟩ (.slice Av fs.length cv)).bx (.cells #[.slice none 0 0] 29)
    have kr0 : Kc ((w.alloc (.cells #[.slice Av fs.length cv] 29)).alloc (.cells #[.slice none 0 0] 29)) ⟨w.heap.size + 1, 0, none⟩ (.slice none 0 0) := Kc.new (by simp) rfl
    go_wp2_with fail
    refine (specDiskOk_any _ fs true (by simpa using HD.out) _ (h.go (box (box (bel0 w) _) _))).mono ?_
    rintro e w1 ⟨rfl, hb'⟩
    have hb1 := stp (box (box (bel0 w) _) _) hb'
    have kv1 := kv0.go hb'
    have kr1 := kr0.go hb'
    clear hb' kv0 kr0
    have c1 := kv1.1
    go_wp2_with fail
    refine (specNameOk_t nm hs_nm.out HM.out _).mono ?_
    rintro e w2 ⟨rfl, rfl⟩
    go_wp2_with fail
    refine (l29Copy_any _ fs _ (h.go hb1) HN.out).mono ?_
    rintro e w3 ⟨⟨u, rfl, hown⟩, hb'⟩
    try unfold GivesD at hown
    obtain ⟨A, c, rfl⟩ := own_form hown
    have hb3 := stp hb1 hb'
    have kr3 := kr1.go hb'
    have lr := Kc.lt kr1
    clear hb'
    have c3 := kr3.1
    have f3 := kr3.2
    go_wp2
    refine bodyPost_ret (v := .tuple #[.agg #[.slice A fs.length c], .int .i64 1]) (by simp [results, Try.results45, go_sem, c3]) rfl ⟨⟨_, rfl, ?_⟩, put hb3 (by simp) _⟩
    exact ownsRow_base (ownsRow_setCell_below hown lr _) hb1.size
  have ht2 : ¬ (20000 : Int) < (tx.size : Int) := by omega
  have hall : DiskP fs ∧ NameP nm ∧ tx.size ≤ 20000 := ⟨hd, hm, ht⟩
  rcases fileAt_cases fs nm with ⟨hfa, _⟩ | ⟨k, hk, hfa, _⟩
  · by_cases hl4 : 4 ≤ fs.length
    · rw [writeR_full hall ⟨by rw [hfa]; omega, hl4⟩]
      have HF := Lib.hid hfa
      clear hfa hd hm hall
      go_enter Try.func45, Try.ntmps45
      have kv0 := (Kc.new rfl rfl : Kc (w.alloc (.cells #[.slice Av fs.length cv] 29)) ⟨w.heap.size, 0, none⟩ (.slice Av fs.length cv)).bx (.cells #[.slice none 0 0] 29)
      have kr0 : Kc ((w.alloc (.cells #[.slice Av fs.length cv] 29)).alloc (.cells #[.slice none 0 0] 29)) ⟨w.heap.size + 1, 0, none⟩ (.slice none 0 0) := Kc.new (by simp) rfl
      go_wp2_with fail
      refine (specDiskOk_any _ fs true (by simpa using HD.out) _ (h.go (box (box (bel0 w) _) _))).mono ?_
      rintro e w1 ⟨rfl, hb'⟩
      have hb1 := stp (box (box (bel0 w) _) _) hb'
      have kv1 := kv0.go hb'
      have kr1 := kr0.go hb'
      clear hb' kv0 kr0
      have c1 := kv1.1
      go_wp2_with fail
      refine (specNameOk_t nm hs_nm.out HM.out _).mono ?_
      rintro e w2 ⟨rfl, rfl⟩
      go_wp2_with fail
      refine (specFileAt_any _ fs nm _ (h.go hb1)).mono ?_
      rintro e w2 ⟨rfl, hb'⟩
      have hb2 := stp hb1 hb'
      have kv2 := kv1.go hb'
      have kr2 := kr1.go hb'
      clear hb' kv1 kr1 c1
      rw [HF.out]
      have c1 := kv2.1
      have HL4 := Lib.hid hl4; have hl5 : (4 : Int) ≤ (fs.length : Int) := by have := HL4.out; omega
      go_wp2_with fail
      refine (l29Copy_any _ fs _ (h.go hb2) HN.out).mono ?_
      rintro e w3 ⟨⟨u, rfl, hown⟩, hb'⟩
      try unfold GivesD at hown
      obtain ⟨A, c, rfl⟩ := own_form hown
      have hb3 := stp hb2 hb'
      have kr3 := kr2.go hb'
      have lr := Kc.lt kr2
      clear hb'
      have c3 := kr3.1
      have f3 := kr3.2
      go_wp2
      refine bodyPost_ret (v := .tuple #[.agg #[.slice A fs.length c], .int .i64 3]) (by simp [results, Try.results45, go_sem, c3]) rfl ⟨⟨_, rfl, ?_⟩, put hb3 (by simp) _⟩
      exact ownsRow_base (ownsRow_setCell_below hown lr _) hb2.size
    · rw [writeR_good hall (fun h => hl4 h.2)]
      have HF := Lib.hid hfa
      clear hfa hd hm hall
      go_enter Try.func45, Try.ntmps45
      have kv0 := (Kc.new rfl rfl : Kc (w.alloc (.cells #[.slice Av fs.length cv] 29)) ⟨w.heap.size, 0, none⟩ (.slice Av fs.length cv)).bx (.cells #[.slice none 0 0] 29)
      have kr0 : Kc ((w.alloc (.cells #[.slice Av fs.length cv] 29)).alloc (.cells #[.slice none 0 0] 29)) ⟨w.heap.size + 1, 0, none⟩ (.slice none 0 0) := Kc.new (by simp) rfl
      go_wp2_with fail
      refine (specDiskOk_any _ fs true (by simpa using HD.out) _ (h.go (box (box (bel0 w) _) _))).mono ?_
      rintro e w1 ⟨rfl, hb'⟩
      have hb1 := stp (box (box (bel0 w) _) _) hb'
      have kv1 := kv0.go hb'
      have kr1 := kr0.go hb'
      clear hb' kv0 kr0
      have c1 := kv1.1
      go_wp2_with fail
      refine (specNameOk_t nm hs_nm.out HM.out _).mono ?_
      rintro e w2 ⟨rfl, rfl⟩
      go_wp2_with fail
      refine (specFileAt_any _ fs nm _ (h.go hb1)).mono ?_
      rintro e w2 ⟨rfl, hb'⟩
      have hb2 := stp hb1 hb'
      have kv2 := kv1.go hb'
      have kr2 := kr1.go hb'
      clear hb' kv1 kr1 c1
      rw [HF.out]
      have c1 := kv2.1
      have HL4 := Lib.hid hl4; have hl5 : ¬ (4 : Int) ≤ (fs.length : Int) := by have := HL4.out; omega
      go_wp2_with fail
      refine (l29Lay_any _ fs nm tx 0 _ (h.go hb2) HN.out).mono ?_
      rintro e w3 ⟨⟨u, rfl, hown⟩, hb'⟩
      try unfold GivesD at hown
      obtain ⟨A, c, rfl⟩ := own_form hown
      have hb3 := stp hb2 hb'
      have kr3 := kr2.go hb'
      have lr := Kc.lt kr2
      clear hb'
      have c3 := kr3.1
      have f3 := kr3.2
      go_wp2
      refine bodyPost_ret (v := .tuple #[.agg #[.slice A (layR fs ⟨nm, tx, 0⟩).length c], .int .i64 0]) (by simp [results, Try.results45, go_sem, c3]) rfl ⟨⟨_, rfl, ?_⟩, put hb3 (by simp) _⟩
      exact ownsRow_base (ownsRow_setCell_below hown lr _) hb2.size
  · rw [writeR_good hall (fun h => by rw [hfa] at h; omega)]
    have hk4 : k < 4 := by have := hd.1; omega
    have HF := Lib.hid hfa
    clear hfa hd hm hall
    go_enter Try.func45, Try.ntmps45
    have kv0 := (Kc.new rfl rfl : Kc (w.alloc (.cells #[.slice Av fs.length cv] 29)) ⟨w.heap.size, 0, none⟩ (.slice Av fs.length cv)).bx (.cells #[.slice none 0 0] 29)
    have kr0 : Kc ((w.alloc (.cells #[.slice Av fs.length cv] 29)).alloc (.cells #[.slice none 0 0] 29)) ⟨w.heap.size + 1, 0, none⟩ (.slice none 0 0) := Kc.new (by simp) rfl
    go_wp2_with fail
    refine (specDiskOk_any _ fs true (by simpa using HD.out) _ (h.go (box (box (bel0 w) _) _))).mono ?_
    rintro e w1 ⟨rfl, hb'⟩
    have hb1 := stp (box (box (bel0 w) _) _) hb'
    have kv1 := kv0.go hb'
    have kr1 := kr0.go hb'
    clear hb' kv0 kr0
    have c1 := kv1.1
    go_wp2_with fail
    refine (specNameOk_t nm hs_nm.out HM.out _).mono ?_
    rintro e w2 ⟨rfl, rfl⟩
    go_wp2_with fail
    refine (specFileAt_any _ fs nm _ (h.go hb1)).mono ?_
    rintro e w2 ⟨rfl, hb'⟩
    have hb2 := stp hb1 hb'
    have kv2 := kv1.go hb'
    have kr2 := kr1.go hb'
    clear hb' kv1 kr1 c1
    rw [HF.out]
    have c1 := kv2.1
    go_wp2_with fail
    refine (l29Lay_any _ fs nm tx 0 _ (h.go hb2) HN.out).mono ?_
    rintro e w3 ⟨⟨u, rfl, hown⟩, hb'⟩
    try unfold GivesD at hown
    obtain ⟨A, c, rfl⟩ := own_form hown
    have hb3 := stp hb2 hb'
    have kr3 := kr2.go hb'
    have lr := Kc.lt kr2
    clear hb'
    have c3 := kr3.1
    have f3 := kr3.2
    go_wp2
    refine bodyPost_ret (v := .tuple #[.agg #[.slice A (layR fs ⟨nm, tx, 0⟩).length c], .int .i64 0]) (by simp [results, Try.results45, go_sem, c3]) rfl ⟨⟨_, rfl, ?_⟩, put hb3 (by simp) _⟩
    exact ownsRow_base (ownsRow_setCell_below hown lr _) hb2.size

set_option maxRecDepth 100000 in
set_option maxHeartbeats 4000000 in
theorem implWrite_any (v : Value) (fs : List FileD) (nm tx : ByteArray) (w : World) (h : FilesR w w.heap.size v fs) (hn : fs.length ≤ 1048576) (hnm : nm.size ≤ maxLen) (htx : tx.size ≤ maxLen) :
    Calls Try.prog 46 #[.agg #[v], .string nm, .string tx] w fun e w' => (∃ u, e = .returned (.tuple #[.agg #[u], .int .i64 (writeR fs nm tx).2]) ∧ GivesD w (writeR fs nm tx).1 u w') ∧ Below w.heap.size w w' := by
  have HN := Lib.hid hn
  have hs_nm := Lib.hid hnm
  clear hn hnm
  obtain ⟨Av, cv, rfl⟩ := sl_form h
  unfold maxLen at htx
  by_cases hd : DiskP fs
  rotate_left
  · rw [writeR_bad (fun h => hd h.1)]
    have HD : Hid (¬ DiskP fs) := hd
    clear hd
    go_enter Try.func46, Try.ntmps46
    have kv0 := (Kc.new rfl rfl : Kc (w.alloc (.cells #[.slice Av fs.length cv] 29)) ⟨w.heap.size, 0, none⟩ (.slice Av fs.length cv)).bx (.cells #[.slice none 0 0] 29)
    have kr0 : Kc ((w.alloc (.cells #[.slice Av fs.length cv] 29)).alloc (.cells #[.slice none 0 0] 29)) ⟨w.heap.size + 1, 0, none⟩ (.slice none 0 0) := Kc.new (by simp) rfl
    go_wp2_with fail
    refine (implDiskOk_any _ fs false (by simpa using HD.out) _ (h.go (box (box (bel0 w) _) _))).mono ?_
    rintro e w1 ⟨rfl, hb'⟩
    have hb1 := stp (box (box (bel0 w) _) _) hb'
    have kv1 := kv0.go hb'
    have kr1 := kr0.go hb'
    clear hb' kv0 kr0
    have c1 := kv1.1
    go_wp2_with fail
    refine (copyDisk_any _ fs _ (h.go hb1) HN.out).mono ?_
    rintro e w3 ⟨⟨u, rfl, hown⟩, hb'⟩
    try unfold GivesD at hown
    obtain ⟨A, c, rfl⟩ := own_form hown
    have hb3 := stp hb1 hb'
    have kr3 := kr1.go hb'
    have lr := Kc.lt kr1
    clear hb'
    have c3 := kr3.1
    have f3 := kr3.2
    go_wp2
    refine bodyPost_ret (v := .tuple #[.agg #[.slice A fs.length c], .int .i64 1]) (by simp [results, Try.results46, go_sem, c3]) rfl ⟨⟨_, rfl, ?_⟩, put hb3 (by simp) _⟩
    exact ownsRow_base (ownsRow_setCell_below hown lr _) hb1.size
  have HD : Hid (DiskP fs) := hd
  by_cases hm : NameP nm
  rotate_left
  · rw [writeR_bad (fun h => hm h.2.1)]
    have HM := Lib.hid hm
    clear hm hd
    go_enter Try.func46, Try.ntmps46
    have kv0 := (Kc.new rfl rfl : Kc (w.alloc (.cells #[.slice Av fs.length cv] 29)) ⟨w.heap.size, 0, none⟩ (.slice Av fs.length cv)).bx (.cells #[.slice none 0 0] 29)
    have kr0 : Kc ((w.alloc (.cells #[.slice Av fs.length cv] 29)).alloc (.cells #[.slice none 0 0] 29)) ⟨w.heap.size + 1, 0, none⟩ (.slice none 0 0) := Kc.new (by simp) rfl
    go_wp2_with fail
    refine (implDiskOk_any _ fs true (by simpa using HD.out) _ (h.go (box (box (bel0 w) _) _))).mono ?_
    rintro e w1 ⟨rfl, hb'⟩
    have hb1 := stp (box (box (bel0 w) _) _) hb'
    have kv1 := kv0.go hb'
    have kr1 := kr0.go hb'
    clear hb' kv0 kr0
    have c1 := kv1.1
    go_wp2_with fail
    refine (implNameOk_f nm hs_nm.out HM.out _).mono ?_
    rintro e w2 ⟨rfl, rfl⟩
    go_wp2_with fail
    refine (copyDisk_any _ fs _ (h.go hb1) HN.out).mono ?_
    rintro e w3 ⟨⟨u, rfl, hown⟩, hb'⟩
    try unfold GivesD at hown
    obtain ⟨A, c, rfl⟩ := own_form hown
    have hb3 := stp hb1 hb'
    have kr3 := kr1.go hb'
    have lr := Kc.lt kr1
    clear hb'
    have c3 := kr3.1
    have f3 := kr3.2
    go_wp2
    refine bodyPost_ret (v := .tuple #[.agg #[.slice A fs.length c], .int .i64 1]) (by simp [results, Try.results46, go_sem, c3]) rfl ⟨⟨_, rfl, ?_⟩, put hb3 (by simp) _⟩
    exact ownsRow_base (ownsRow_setCell_below hown lr _) hb1.size
  have HM := Lib.hid hm
  by_cases ht : tx.size ≤ 20000
  rotate_left
  · rw [writeR_bad (fun h => ht h.2.2)]
    have ht2 : (20000 : Int) < (tx.size : Int) := by omega
    clear hm hd ht
    go_enter Try.func46, Try.ntmps46
    have kv0 := (Kc.new rfl rfl : Kc (w.alloc (.cells #[.slice Av fs.length cv] 29)) ⟨w.heap.size, 0, none⟩ (.slice Av fs.length cv)).bx (.cells #[.slice none 0 0] 29)
    have kr0 : Kc ((w.alloc (.cells #[.slice Av fs.length cv] 29)).alloc (.cells #[.slice none 0 0] 29)) ⟨w.heap.size + 1, 0, none⟩ (.slice none 0 0) := Kc.new (by simp) rfl
    go_wp2_with fail
    refine (implDiskOk_any _ fs true (by simpa using HD.out) _ (h.go (box (box (bel0 w) _) _))).mono ?_
    rintro e w1 ⟨rfl, hb'⟩
    have hb1 := stp (box (box (bel0 w) _) _) hb'
    have kv1 := kv0.go hb'
    have kr1 := kr0.go hb'
    clear hb' kv0 kr0
    have c1 := kv1.1
    go_wp2_with fail
    refine (implNameOk_t nm hs_nm.out HM.out _).mono ?_
    rintro e w2 ⟨rfl, rfl⟩
    go_wp2_with fail
    refine (copyDisk_any _ fs _ (h.go hb1) HN.out).mono ?_
    rintro e w3 ⟨⟨u, rfl, hown⟩, hb'⟩
    try unfold GivesD at hown
    obtain ⟨A, c, rfl⟩ := own_form hown
    have hb3 := stp hb1 hb'
    have kr3 := kr1.go hb'
    have lr := Kc.lt kr1
    clear hb'
    have c3 := kr3.1
    have f3 := kr3.2
    go_wp2
    refine bodyPost_ret (v := .tuple #[.agg #[.slice A fs.length c], .int .i64 1]) (by simp [results, Try.results46, go_sem, c3]) rfl ⟨⟨_, rfl, ?_⟩, put hb3 (by simp) _⟩
    exact ownsRow_base (ownsRow_setCell_below hown lr _) hb1.size
  have ht2 : ¬ (20000 : Int) < (tx.size : Int) := by omega
  have hall : DiskP fs ∧ NameP nm ∧ tx.size ≤ 20000 := ⟨hd, hm, ht⟩
  rcases fileAt_cases fs nm with ⟨hfa, _⟩ | ⟨k, hk, hfa, _⟩
  · by_cases hl4 : 4 ≤ fs.length
    · rw [writeR_full hall ⟨by rw [hfa]; omega, hl4⟩]
      have HF := Lib.hid hfa
      clear hfa hd hm hall
      go_enter Try.func46, Try.ntmps46
      have kv0 := (Kc.new rfl rfl : Kc (w.alloc (.cells #[.slice Av fs.length cv] 29)) ⟨w.heap.size, 0, none⟩ (.slice Av fs.length cv)).bx (.cells #[.slice none 0 0] 29)
      have kr0 : Kc ((w.alloc (.cells #[.slice Av fs.length cv] 29)).alloc (.cells #[.slice none 0 0] 29)) ⟨w.heap.size + 1, 0, none⟩ (.slice none 0 0) := Kc.new (by simp) rfl
      go_wp2_with fail
      refine (implDiskOk_any _ fs true (by simpa using HD.out) _ (h.go (box (box (bel0 w) _) _))).mono ?_
      rintro e w1 ⟨rfl, hb'⟩
      have hb1 := stp (box (box (bel0 w) _) _) hb'
      have kv1 := kv0.go hb'
      have kr1 := kr0.go hb'
      clear hb' kv0 kr0
      have c1 := kv1.1
      go_wp2_with fail
      refine (implNameOk_t nm hs_nm.out HM.out _).mono ?_
      rintro e w2 ⟨rfl, rfl⟩
      go_wp2_with fail
      refine (implFileAt_any _ fs nm _ (h.go hb1)).mono ?_
      rintro e w2 ⟨rfl, hb'⟩
      have hb2 := stp hb1 hb'
      have kv2 := kv1.go hb'
      have kr2 := kr1.go hb'
      clear hb' kv1 kr1 c1
      rw [HF.out]
      have c1 := kv2.1
      have HL4 := Lib.hid hl4; have hl5 : (4 : Int) ≤ (fs.length : Int) := by have := HL4.out; omega
      go_wp2_with fail
      refine (copyDisk_any _ fs _ (h.go hb2) HN.out).mono ?_
      rintro e w3 ⟨⟨u, rfl, hown⟩, hb'⟩
      try unfold GivesD at hown
      obtain ⟨A, c, rfl⟩ := own_form hown
      have hb3 := stp hb2 hb'
      have kr3 := kr2.go hb'
      have lr := Kc.lt kr2
      clear hb'
      have c3 := kr3.1
      have f3 := kr3.2
      go_wp2
      refine bodyPost_ret (v := .tuple #[.agg #[.slice A fs.length c], .int .i64 3]) (by simp [results, Try.results46, go_sem, c3]) rfl ⟨⟨_, rfl, ?_⟩, put hb3 (by simp) _⟩
      exact ownsRow_base (ownsRow_setCell_below hown lr _) hb2.size
    · rw [writeR_good hall (fun h => hl4 h.2)]
      have HF := Lib.hid hfa
      clear hfa hd hm hall
      go_enter Try.func46, Try.ntmps46
      have kv0 := (Kc.new rfl rfl : Kc (w.alloc (.cells #[.slice Av fs.length cv] 29)) ⟨w.heap.size, 0, none⟩ (.slice Av fs.length cv)).bx (.cells #[.slice none 0 0] 29)
      have kr0 : Kc ((w.alloc (.cells #[.slice Av fs.length cv] 29)).alloc (.cells #[.slice none 0 0] 29)) ⟨w.heap.size + 1, 0, none⟩ (.slice none 0 0) := Kc.new (by simp) rfl
      go_wp2_with fail
      refine (implDiskOk_any _ fs true (by simpa using HD.out) _ (h.go (box (box (bel0 w) _) _))).mono ?_
      rintro e w1 ⟨rfl, hb'⟩
      have hb1 := stp (box (box (bel0 w) _) _) hb'
      have kv1 := kv0.go hb'
      have kr1 := kr0.go hb'
      clear hb' kv0 kr0
      have c1 := kv1.1
      go_wp2_with fail
      refine (implNameOk_t nm hs_nm.out HM.out _).mono ?_
      rintro e w2 ⟨rfl, rfl⟩
      go_wp2_with fail
      refine (implFileAt_any _ fs nm _ (h.go hb1)).mono ?_
      rintro e w2 ⟨rfl, hb'⟩
      have hb2 := stp hb1 hb'
      have kv2 := kv1.go hb'
      have kr2 := kr1.go hb'
      clear hb' kv1 kr1 c1
      rw [HF.out]
      have c1 := kv2.1
      have HL4 := Lib.hid hl4; have hl5 : ¬ (4 : Int) ≤ (fs.length : Int) := by have := HL4.out; omega
      go_wp2_with fail
      refine (withFile_any _ fs nm tx 0 _ (h.go hb2) HN.out (asc_ne HD.out nm)).mono ?_
      rintro e w3 ⟨⟨u, rfl, hown⟩, hb'⟩
      try unfold GivesD at hown
      obtain ⟨A, c, rfl⟩ := own_form hown
      have hb3 := stp hb2 hb'
      have kr3 := kr2.go hb'
      have lr := Kc.lt kr2
      clear hb'
      have c3 := kr3.1
      have f3 := kr3.2
      go_wp2
      refine bodyPost_ret (v := .tuple #[.agg #[.slice A (layR fs ⟨nm, tx, 0⟩).length c], .int .i64 0]) (by simp [results, Try.results46, go_sem, c3]) rfl ⟨⟨_, rfl, ?_⟩, put hb3 (by simp) _⟩
      exact ownsRow_base (ownsRow_setCell_below hown lr _) hb2.size
  · rw [writeR_good hall (fun h => by rw [hfa] at h; omega)]
    have hk4 : k < 4 := by have := hd.1; omega
    have HF := Lib.hid hfa
    clear hfa hd hm hall
    go_enter Try.func46, Try.ntmps46
    have kv0 := (Kc.new rfl rfl : Kc (w.alloc (.cells #[.slice Av fs.length cv] 29)) ⟨w.heap.size, 0, none⟩ (.slice Av fs.length cv)).bx (.cells #[.slice none 0 0] 29)
    have kr0 : Kc ((w.alloc (.cells #[.slice Av fs.length cv] 29)).alloc (.cells #[.slice none 0 0] 29)) ⟨w.heap.size + 1, 0, none⟩ (.slice none 0 0) := Kc.new (by simp) rfl
    go_wp2_with fail
    refine (implDiskOk_any _ fs true (by simpa using HD.out) _ (h.go (box (box (bel0 w) _) _))).mono ?_
    rintro e w1 ⟨rfl, hb'⟩
    have hb1 := stp (box (box (bel0 w) _) _) hb'
    have kv1 := kv0.go hb'
    have kr1 := kr0.go hb'
    clear hb' kv0 kr0
    have c1 := kv1.1
    go_wp2_with fail
    refine (implNameOk_t nm hs_nm.out HM.out _).mono ?_
    rintro e w2 ⟨rfl, rfl⟩
    go_wp2_with fail
    refine (implFileAt_any _ fs nm _ (h.go hb1)).mono ?_
    rintro e w2 ⟨rfl, hb'⟩
    have hb2 := stp hb1 hb'
    have kv2 := kv1.go hb'
    have kr2 := kr1.go hb'
    clear hb' kv1 kr1 c1
    rw [HF.out]
    have c1 := kv2.1
    go_wp2_with fail
    refine (withFile_any _ fs nm tx 0 _ (h.go hb2) HN.out (asc_ne HD.out nm)).mono ?_
    rintro e w3 ⟨⟨u, rfl, hown⟩, hb'⟩
    try unfold GivesD at hown
    obtain ⟨A, c, rfl⟩ := own_form hown
    have hb3 := stp hb2 hb'
    have kr3 := kr2.go hb'
    have lr := Kc.lt kr2
    clear hb'
    have c3 := kr3.1
    have f3 := kr3.2
    go_wp2
    refine bodyPost_ret (v := .tuple #[.agg #[.slice A (layR fs ⟨nm, tx, 0⟩).length c], .int .i64 0]) (by simp [results, Try.results46, go_sem, c3]) rfl ⟨⟨_, rfl, ?_⟩, put hb3 (by simp) _⟩
    exact ownsRow_base (ownsRow_setCell_below hown lr _) hb2.size

end Go.Proofs.Ytepachoampdhiaa
