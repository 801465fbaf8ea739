/- DiskOk: of the program and of the reference. -/
import Derived.Test.YtepachoampdhiaaDiskC
import Derived.Test.YtepachoampdhiaaNames
namespace Go.Proofs.Ytepachoampdhiaa
open Go.RowKit Go.PlainAid

/-- a is before b. -/
def Lt (a b : ByteArray) : Prop := Op.bytesLess a.toList b.toList = true
def FileP (fs : List FileD) (i : Nat) (h : i < fs.length) : Prop :=
  NameP fs[i].name ∧ (0 < i → Lt (fs[i - 1]'(by omega)).name fs[i].name) ∧ fs[i].text.size ≤ 20000 ∧ 0 ≤ fs[i].synced ∧ fs[i].synced ≤ fs[i].text.size
/-- A valid disk. -/
def DiskP (fs : List FileD) : Prop := fs.length ≤ 4 ∧ ∀ i h, FileP fs i h

set_option maxHeartbeats 4000000 in
theorem specDiskOk_any (v : Value) (fs : List FileD) (b : Bool) (hb : b = true ↔ DiskP fs) (w : World) (h : FilesR w w.heap.size v fs) :
    Calls Try.prog 30 #[.agg #[v]] w fun e w' => e = .returned (.bool b) ∧ Below w.heap.size w w' := by
  obtain ⟨A, c, rfl, hc, hm, h⟩ := h
  unfold maxLen at hm
  have HB := Lib.hid hb
  have H := Lib.hid h
  clear h hb
  by_cases hl : fs.length ≤ 4
  · go_enter Try.func30, Try.ntmps30
    go_wp2
    go_loopw [3] (fun i wr => ∃ k : Nat, k ≤ fs.length ∧ i = .int .i64 k ∧ Hid (∀ i, i < k → ∀ h : i < fs.length, FileP fs i h) ∧ wr.cell? ⟨w.heap.size, 0, none⟩ = some (.slice A fs.length c) ∧ Below w.heap.size w wr) (fun i _ => fs.length - (intOf i).toNat)
    case atStart => exact ⟨0, by omega, rfl, fun j hj => by omega, World.cell?_alloc_new w _ _ 0, box (bel0 w) _⟩
    case round =>
      obtain ⟨k, hk, rfl, HN, hcell, hbel⟩ := hrel
      by_cases hlt : k < fs.length
      · obtain ⟨bb, o, cs, rfl, hbb, hcl, hcs, rfl, hok⟩ := H.out k hlt
        have hcs' := hcs.keep (hbel.block bb hbb)
        have g0 := hcs'.c0
        have g1 := hcs'.c1
        have g2 := hcs'.c2
        have q1 : bb < wr.heap.size := Nat.lt_of_lt_of_le hbb hbel.size
        have q2 := lt_of_cell hcell
        have hok' := hok
        obtain ⟨z1, z2, z3, z4⟩ := hok
        unfold maxLen at z1 z2
        clear hcs hcs' hcl
        by_cases hall : FileP fs k hlt
        · have HN' : Hid (∀ i, i < k + 1 → ∀ h : i < fs.length, FileP fs i h) := fun i hi h => by
            rcases Nat.lt_or_eq_of_le (Nat.lt_succ_iff.1 hi) with h' | rfl
            · exact HN i h' h
            · exact hall
          obtain ⟨hname, hless, ht, hs1, hs2⟩ := hall
          have HNm := Lib.hid hname
          have HW := Lib.hid (And.intro hs1 hs2)
          have td : decide ((20000 : Int) < (fs[k].text.size : Int)) = false := by simp; omega
          rcases Nat.eq_zero_or_pos k with rfl | hpos
          · simp only [Nat.zero_mul, Nat.add_zero] at g0 g1 g2
            clear hname hs1 hs2 hless
            go_wp2
            go_quiet (first | (go_at_call 72; exact quiet_left (specNameOk_t _ hok'.1 HNm.out _)) | (go_at_call 68; exact quiet_left (l01In_t _ _ _ HW.out _)))
            go_wp2
            go_roundw
            case rel => exact ⟨0 + 1, by omega, by go_num, HN', (World.cell?_alloc_lt wr _ _ q2).trans hcell, drwN (box hbel _) _⟩
            case measure => simp [intOf]; omega
          · obtain ⟨m, rfl⟩ : ∃ m, k = m + 1 := ⟨k - 1, by omega⟩
            obtain ⟨bb', o', cs', e', hbb', hcl', hcs', rfl, hok2⟩ := H.out m (by omega)
            obtain ⟨rfl, rfl⟩ : bb = bb' ∧ o = o' := by simpa using e'
            have f0 := (hcs'.keep (hbel.block bb hbb)).c0
            have hl2 : Op.bytesLess fs[m].name.toList fs[m + 1].name.toList = true := hless (by omega)
            clear e' hcs' hcl' hok2 hbb' hname hs1 hs2 hless
            go_wp2
            go_quiet (first | (go_at_call 72; exact quiet_left (specNameOk_t _ hok'.1 HNm.out _)) | (go_at_call 68; exact quiet_left (l01In_t _ _ _ HW.out _)))
            go_wp2
            go_roundw
            case rel => exact ⟨m + 1 + 1, by omega, by go_num, HN', (World.cell?_alloc_lt wr _ _ q2).trans hcell, drwN (box hbel _) _⟩
            case measure => simp [intOf]; omega
        · have hf : Hid (b = false) := by
            have hb := HB.out
            cases b
            · rfl
            · exact absurd ((hb.1 rfl).2 k hlt) hall
          by_cases hname : NameP fs[k].name
          · have HNm := Lib.hid hname
            by_cases hless : 0 < k → Lt (fs[k - 1]'(by omega)).name fs[k].name
            · by_cases ht : fs[k].text.size ≤ 20000
              · have HW : Hid (¬ (0 ≤ fs[k].synced ∧ fs[k].synced ≤ fs[k].text.size)) := fun h => hall ⟨hname, hless, ht, h.1, h.2⟩
                have td : decide ((20000 : Int) < (fs[k].text.size : Int)) = false := by simp; omega
                clear hname hall
                rcases Nat.eq_zero_or_pos k with rfl | hpos
                · simp only [Nat.zero_mul, Nat.add_zero] at g0 g1 g2
                  clear hless
                  go_wp2
                  go_quiet (first | (go_at_call 72; exact quiet_left (specNameOk_t _ hok'.1 HNm.out _)) | (go_at_call 68; exact quiet_left (l01In_f _ _ _ HW.out _)))
                  go_wp2
                  go_ret
                  exact ⟨ret_b hf.out.symm, drwN (box hbel _) _⟩
                · obtain ⟨m, rfl⟩ : ∃ m, k = m + 1 := ⟨k - 1, by omega⟩
                  obtain ⟨bb', o', cs', e', hbb', hcl', hcs', rfl, hok2⟩ := H.out m (by omega)
                  obtain ⟨rfl, rfl⟩ : bb = bb' ∧ o = o' := by simpa using e'
                  have f0 := (hcs'.keep (hbel.block bb hbb)).c0
                  have hl2 : Op.bytesLess fs[m].name.toList fs[m + 1].name.toList = true := hless (by omega)
                  clear e' hcs' hcl' hok2 hbb' hless
                  go_wp2
                  go_quiet (first | (go_at_call 72; exact quiet_left (specNameOk_t _ hok'.1 HNm.out _)) | (go_at_call 68; exact quiet_left (l01In_f _ _ _ HW.out _)))
                  go_wp2
                  go_ret
                  exact ⟨ret_b hf.out.symm, drwN (box hbel _) _⟩
              · have td : decide ((20000 : Int) < (fs[k].text.size : Int)) = true := by simp; omega
                clear hname hall
                rcases Nat.eq_zero_or_pos k with rfl | hpos
                · simp only [Nat.zero_mul, Nat.add_zero] at g0 g1 g2
                  clear hless
                  go_wp2
                  go_quiet ((go_at_call 72; exact quiet_left (specNameOk_t _ hok'.1 HNm.out _)))
                  go_wp2
                  go_ret
                  exact ⟨ret_b hf.out.symm, drwN (box hbel _) _⟩
                · obtain ⟨m, rfl⟩ : ∃ m, k = m + 1 := ⟨k - 1, by omega⟩
                  obtain ⟨bb', o', cs', e', hbb', hcl', hcs', rfl, hok2⟩ := H.out m (by omega)
                  obtain ⟨rfl, rfl⟩ : bb = bb' ∧ o = o' := by simpa using e'
                  have f0 := (hcs'.keep (hbel.block bb hbb)).c0
                  have hl2 : Op.bytesLess fs[m].name.toList fs[m + 1].name.toList = true := hless (by omega)
                  clear e' hcs' hcl' hok2 hbb' hless
                  go_wp2
                  go_quiet ((go_at_call 72; exact quiet_left (specNameOk_t _ hok'.1 HNm.out _)))
                  go_wp2
                  go_ret
                  exact ⟨ret_b hf.out.symm, drwN (box hbel _) _⟩
            · obtain ⟨hpos, hless⟩ := Classical.not_imp.1 hless
              clear hname hall
              obtain ⟨m, rfl⟩ : ∃ m, k = m + 1 := ⟨k - 1, by omega⟩
              obtain ⟨bb', o', cs', e', hbb', hcl', hcs', rfl, hok2⟩ := H.out m (by omega)
              obtain ⟨rfl, rfl⟩ : bb = bb' ∧ o = o' := by simpa using e'
              have f0 := (hcs'.keep (hbel.block bb hbb)).c0
              have hl2 : Op.bytesLess fs[m].name.toList fs[m + 1].name.toList = false := by
                have : ¬ Op.bytesLess fs[m].name.toList fs[m + 1].name.toList = true := hless
                simpa using this
              clear e' hcs' hcl' hok2 hbb' hless
              go_wp2
              go_quiet ((go_at_call 72; exact quiet_left (specNameOk_t _ hok'.1 HNm.out _)))
              go_wp2
              go_ret
              exact ⟨ret_b hf.out.symm, drwN (box hbel _) _⟩
          · have HNm := Lib.hid hname
            clear hname hall
            go_wp2
            go_quiet ((go_at_call 72; exact quiet_left (specNameOk_f _ hok'.1 HNm.out _)))
            go_wp2
            go_ret
            exact ⟨ret_b hf.out.symm, drwN (box hbel _) _⟩
      · have hf : Hid (b = true) := HB.out.2 ⟨hl, fun i h => HN i (by omega) h⟩
        go_wp2
        go_ret
        exact ⟨ret_b hf.out.symm, hbel⟩
  · have hf : Hid (b = false) := by
      have hb := HB.out
      cases b
      · rfl
      · exact absurd (hb.1 rfl).1 hl
    go_enter Try.func30, Try.ntmps30
    go_wp2
    go_ret
    exact ⟨ret_b hf.out.symm, box (bel0 w) _⟩

set_option maxHeartbeats 4000000 in
theorem implDiskOk_any (v : Value) (fs : List FileD) (b : Bool) (hb : b = true ↔ DiskP fs) (w : World) (h : FilesR w w.heap.size v fs) :
    Calls Try.prog 31 #[.agg #[v]] w fun e w' => e = .returned (.bool b) ∧ Below w.heap.size w w' := by
  obtain ⟨A, c, rfl, hc, hm, h⟩ := h
  unfold maxLen at hm
  have HB := Lib.hid hb
  have H := Lib.hid h
  clear h hb
  go_enter Try.func31, Try.ntmps31
  go_wp2
  go_loopw [8] (fun i wr => ∃ k : Nat, k ≤ fs.length ∧ i = .int .i64 k ∧ Hid (∀ i, i < k → ∀ h : i < fs.length, FileP fs i h) ∧ wr.cell? ⟨w.heap.size, 0, none⟩ = some (.slice A fs.length c) ∧ Below w.heap.size w wr) (fun i _ => fs.length - (intOf i).toNat)
  case atStart => exact ⟨0, by omega, rfl, fun j hj => by omega, World.cell?_alloc_new w _ _ 0, box (bel0 w) _⟩
  case round =>
    obtain ⟨k, hk, rfl, HN, hcell, hbel⟩ := hrel
    by_cases hlt : k < fs.length
    · obtain ⟨bb, o, cs, rfl, hbb, hcl, hcs, rfl, hok⟩ := H.out k hlt
      have hcs' := hcs.keep (hbel.block bb hbb)
      have g0 := hcs'.c0
      have g1 := hcs'.c1
      have g2 := hcs'.c2
      have q1 : bb < wr.heap.size := Nat.lt_of_lt_of_le hbb hbel.size
      have q2 := lt_of_cell hcell
      have hok' := hok
      obtain ⟨z1, z2, z3, z4⟩ := hok
      unfold maxLen at z1 z2
      clear hcs hcs' hcl
      by_cases hall : FileP fs k hlt
      · have HN' : Hid (∀ i, i < k + 1 → ∀ h : i < fs.length, FileP fs i h) := fun i hi h => by
          rcases Nat.lt_or_eq_of_le (Nat.lt_succ_iff.1 hi) with h' | rfl
          · exact HN i h' h
          · exact hall
        obtain ⟨hname, hless, ht, hs1, hs2⟩ := hall
        have HNm := Lib.hid hname
        have HW := Lib.hid (And.intro hs1 hs2)
        have td : decide ((20000 : Int) < (fs[k].text.size : Int)) = false := by simp; omega
        rcases Nat.eq_zero_or_pos k with rfl | hpos
        · simp only [Nat.zero_mul, Nat.add_zero] at g0 g1 g2
          clear hname hs1 hs2 hless
          go_wp2
          go_quiet (first | (go_at_call 73; exact quiet_left (implNameOk_t _ hok'.1 HNm.out _)) | (go_at_call 70; exact quiet_left (within_t _ _ _ HW.out _)))
          go_wp2
          go_roundw
          case rel => exact ⟨0 + 1, by omega, by go_num, HN', (World.cell?_alloc_lt wr _ _ q2).trans hcell, drwN (box hbel _) _⟩
          case measure => simp [intOf]; omega
        · obtain ⟨m, rfl⟩ : ∃ m, k = m + 1 := ⟨k - 1, by omega⟩
          obtain ⟨bb', o', cs', e', hbb', hcl', hcs', rfl, hok2⟩ := H.out m (by omega)
          obtain ⟨rfl, rfl⟩ : bb = bb' ∧ o = o' := by simpa using e'
          have f0 := (hcs'.keep (hbel.block bb hbb)).c0
          have hl2 : Op.bytesLess fs[m].name.toList fs[m + 1].name.toList = true := hless (by omega)
          clear e' hcs' hcl' hok2 hbb' hname hs1 hs2 hless
          go_wp2
          go_quiet (first | (go_at_call 73; exact quiet_left (implNameOk_t _ hok'.1 HNm.out _)) | (go_at_call 70; exact quiet_left (within_t _ _ _ HW.out _)))
          go_wp2
          go_roundw
          case rel => exact ⟨m + 1 + 1, by omega, by go_num, HN', (World.cell?_alloc_lt wr _ _ q2).trans hcell, drwN (box hbel _) _⟩
          case measure => simp [intOf]; omega
      · have hf : Hid (b = false) := by
          have hb := HB.out
          cases b
          · rfl
          · exact absurd ((hb.1 rfl).2 k hlt) hall
        by_cases hname : NameP fs[k].name
        · have HNm := Lib.hid hname
          by_cases hless : 0 < k → Lt (fs[k - 1]'(by omega)).name fs[k].name
          · by_cases ht : fs[k].text.size ≤ 20000
            · have HW : Hid (¬ (0 ≤ fs[k].synced ∧ fs[k].synced ≤ fs[k].text.size)) := fun h => hall ⟨hname, hless, ht, h.1, h.2⟩
              have td : decide ((20000 : Int) < (fs[k].text.size : Int)) = false := by simp; omega
              clear hname hall
              rcases Nat.eq_zero_or_pos k with rfl | hpos
              · simp only [Nat.zero_mul, Nat.add_zero] at g0 g1 g2
                clear hless
                go_wp2
                go_quiet (first | (go_at_call 73; exact quiet_left (implNameOk_t _ hok'.1 HNm.out _)) | (go_at_call 70; exact quiet_left (within_f _ _ _ HW.out _)))
                go_wp2
                go_ret
                exact ⟨ret_b hf.out.symm, drwN (box hbel _) _⟩
              · obtain ⟨m, rfl⟩ : ∃ m, k = m + 1 := ⟨k - 1, by omega⟩
                obtain ⟨bb', o', cs', e', hbb', hcl', hcs', rfl, hok2⟩ := H.out m (by omega)
                obtain ⟨rfl, rfl⟩ : bb = bb' ∧ o = o' := by simpa using e'
                have f0 := (hcs'.keep (hbel.block bb hbb)).c0
                have hl2 : Op.bytesLess fs[m].name.toList fs[m + 1].name.toList = true := hless (by omega)
                clear e' hcs' hcl' hok2 hbb' hless
                go_wp2
                go_quiet (first | (go_at_call 73; exact quiet_left (implNameOk_t _ hok'.1 HNm.out _)) | (go_at_call 70; exact quiet_left (within_f _ _ _ HW.out _)))
                go_wp2
                go_ret
                exact ⟨ret_b hf.out.symm, drwN (box hbel _) _⟩
            · have td : decide ((20000 : Int) < (fs[k].text.size : Int)) = true := by simp; omega
              clear hname hall
              rcases Nat.eq_zero_or_pos k with rfl | hpos
              · simp only [Nat.zero_mul, Nat.add_zero] at g0 g1 g2
                clear hless
                go_wp2
                go_quiet ((go_at_call 73; exact quiet_left (implNameOk_t _ hok'.1 HNm.out _)))
                go_wp2
                go_ret
                exact ⟨ret_b hf.out.symm, drwN (box hbel _) _⟩
              · obtain ⟨m, rfl⟩ : ∃ m, k = m + 1 := ⟨k - 1, by omega⟩
                obtain ⟨bb', o', cs', e', hbb', hcl', hcs', rfl, hok2⟩ := H.out m (by omega)
                obtain ⟨rfl, rfl⟩ : bb = bb' ∧ o = o' := by simpa using e'
                have f0 := (hcs'.keep (hbel.block bb hbb)).c0
                have hl2 : Op.bytesLess fs[m].name.toList fs[m + 1].name.toList = true := hless (by omega)
                clear e' hcs' hcl' hok2 hbb' hless
                go_wp2
                go_quiet ((go_at_call 73; exact quiet_left (implNameOk_t _ hok'.1 HNm.out _)))
                go_wp2
                go_ret
                exact ⟨ret_b hf.out.symm, drwN (box hbel _) _⟩
          · obtain ⟨hpos, hless⟩ := Classical.not_imp.1 hless
            clear hname hall
            obtain ⟨m, rfl⟩ : ∃ m, k = m + 1 := ⟨k - 1, by omega⟩
            obtain ⟨bb', o', cs', e', hbb', hcl', hcs', rfl, hok2⟩ := H.out m (by omega)
            obtain ⟨rfl, rfl⟩ : bb = bb' ∧ o = o' := by simpa using e'
            have f0 := (hcs'.keep (hbel.block bb hbb)).c0
            have hl2 : Op.bytesLess fs[m].name.toList fs[m + 1].name.toList = false := by
              have : ¬ Op.bytesLess fs[m].name.toList fs[m + 1].name.toList = true := hless
              simpa using this
            clear e' hcs' hcl' hok2 hbb' hless
            go_wp2
            go_quiet ((go_at_call 73; exact quiet_left (implNameOk_t _ hok'.1 HNm.out _)))
            go_wp2
            go_ret
            exact ⟨ret_b hf.out.symm, drwN (box hbel _) _⟩
        · have HNm := Lib.hid hname
          clear hname hall
          go_wp2
          go_quiet ((go_at_call 73; exact quiet_left (implNameOk_f _ hok'.1 HNm.out _)))
          go_wp2
          go_ret
          exact ⟨ret_b hf.out.symm, drwN (box hbel _) _⟩
    · have hf : Hid (b = decide (fs.length ≤ 4)) := by
        have hb := HB.out
        unfold Hid
        cases b
        · simp only [Bool.false_eq, decide_eq_false_iff_not]
          exact fun h => by have := hb.2 ⟨h, fun i h => HN i (by omega) h⟩; cases this
        · simpa using (hb.1 rfl).1
      go_wp2
      go_ret
      exact ⟨ret_b (hf.out.trans (by simp; try omega)).symm, hbel⟩
end Go.Proofs.Ytepachoampdhiaa
