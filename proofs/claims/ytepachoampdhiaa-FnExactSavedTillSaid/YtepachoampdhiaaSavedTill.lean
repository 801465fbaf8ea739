/- SavedTill: of the program and of the reference. -/
import Derived.Test.YtepachoampdhiaaSaveStep
namespace Go.Proofs.Ytepachoampdhiaa
open Go.RowKit

noncomputable def savedTo (fs : List FileD) (tx : ByteArray) : Nat → List FileD × Int
  | 0 => (fs, 0)
  | k + 1 => if (savedTo fs tx k).2 = 0 then saveStepR (savedTo fs tx k).1 tx k else savedTo fs tx k
noncomputable def savedR (fs : List FileD) (tx : ByteArray) (st : Int) : List FileD × Int := savedTo fs tx (min st 3).toNat
theorem savedTo_go {fs : List FileD} {tx : ByteArray} {k : Nat} {gs : List FileD} (h : savedTo fs tx k = (gs, 0)) : savedTo fs tx (k + 1) = saveStepR gs tx k := by
  rw [savedTo, h, if_pos rfl]
theorem savedTo_stop {fs : List FileD} {tx : ByteArray} {k : Nat} (h : (savedTo fs tx k).2 ≠ 0) : ∀ j, savedTo fs tx (k + j) = savedTo fs tx k
  | 0 => rfl
  | j + 1 => by
    have ih := savedTo_stop h j
    rw [← Nat.add_assoc, savedTo, ih, if_neg h]
theorem savedTo_stop' {fs : List FileD} {tx : ByteArray} {k m : Nat} {gs : List FileD} {c : Int} (h : savedTo fs tx k = (gs, c)) (hc : c ≠ 0) (hm : k ≤ m) : savedTo fs tx m = (gs, c) := by
  obtain ⟨j, rfl⟩ := Nat.le.dest hm
  rw [savedTo_stop (by rw [h]; exact hc), h]
theorem syncR_keeps (fs : List FileD) (nm : ByteArray) : (syncR fs nm).1.length = fs.length := by
  unfold syncR
  split
  · split
    · rfl
    · simp
  · rfl
theorem saveStepR_small {fs : List FileD} {tx : ByteArray} {st : Int} (h : fs.length ≤ 1048576) (hc : (saveStepR fs tx st).2 = 0) : (saveStepR fs tx st).1.length ≤ 1048576 := by
  unfold saveStepR at hc ⊢
  split at hc <;> rename_i h0
  · rw [if_pos h0]
    unfold writeR at hc ⊢
    split at hc <;> rename_i h1
    · rw [if_pos h1]
      split
      · exact h
      · have := layR_len fs ⟨newName, tx, 0⟩
        have := h1.1.1
        show (layR fs _).length ≤ _
        omega
    · simp at hc
  · rw [if_neg h0]
    split at hc <;> rename_i h1
    · rw [if_pos h1, syncR_keeps]
      exact h
    · rw [if_neg h1]
      split at hc <;> rename_i h2
      · rw [if_pos h2]
        unfold renameR at hc ⊢
        split at hc <;> rename_i h3
        · rw [if_pos h3]
          split
          · exact h
          · have := movedR_len fs (fileAt fs newName).toNat stateName
            have := h3.1.1
            show (movedR fs _ _).length ≤ _
            omega
        · simp at hc
      · simp at hc
theorem savedTo_len (fs : List FileD) (tx : ByteArray) (h : fs.length ≤ 1048576) : ∀ k, (savedTo fs tx k).1.length ≤ 1048577 ∧ ((savedTo fs tx k).2 = 0 → (savedTo fs tx k).1.length ≤ 1048576)
  | 0 => ⟨Nat.le_succ_of_le h, fun _ => h⟩
  | k + 1 => by
    obtain ⟨h1, h2⟩ := savedTo_len fs tx h k
    rw [savedTo]
    split
    · rename_i hc
      exact ⟨saveStepR_len _ _ _ (h2 hc), fun hz => saveStepR_small (h2 hc) hz⟩
    · exact ⟨h1, h2⟩
theorem savedTo_ok (fs : List FileD) (tx : ByteArray) (htx : tx.size ≤ maxLen) (h : ∀ f ∈ fs, f.ok) : ∀ k, ∀ f ∈ (savedTo fs tx k).1, f.ok
  | 0 => h
  | k + 1 => by
    rw [savedTo]
    split
    · exact saveStepR_ok _ _ _ htx (savedTo_ok fs tx htx h k)
    · exact savedTo_ok fs tx htx h k
theorem savedR_len (fs : List FileD) (tx : ByteArray) (st : Int) (h : fs.length ≤ 1048576) : (savedR fs tx st).1.length ≤ 1048577 := (savedTo_len fs tx h _).1
theorem savedR_ok (fs : List FileD) (tx : ByteArray) (st : Int) (htx : tx.size ≤ maxLen) (h : ∀ f ∈ fs, f.ok) : ∀ f ∈ (savedR fs tx st).1, f.ok := savedTo_ok fs tx htx h _


set_option maxRecDepth 100000 in
set_option maxHeartbeats 4000000 in
theorem specSavedTill_any (v : Value) (fs : List FileD) (tx : ByteArray) (st : Int) (w : World) (h : FilesR w w.heap.size v fs) (hn : fs.length ≤ 1048576) (htx : tx.size ≤ maxLen) :
    Calls Try.prog 55 #[.agg #[v], .string tx, .int .i64 st] w fun e w' => (∃ u, e = .returned (.tuple #[.agg #[u], .int .i64 (savedR fs tx st).2]) ∧ GivesD w (savedR fs tx st).1 u w') ∧ Below w.heap.size w w' := by
  have HN := Lib.hid hn
  have HT := Lib.hid htx
  have HK := Lib.hid (sl_ok h)
  clear hn htx
  obtain ⟨Av, cv, rfl⟩ := sl_form h
  go_enter Try.func55, Try.ntmps55
  have kr0 : Kc ((w.alloc (.cells #[.slice Av fs.length cv] 29)).alloc (.cells #[.slice none 0 0] 29)) ⟨w.heap.size + 1, 0, none⟩ (.slice none 0 0) := Kc.new (by simp) rfl
  go_wp2_with fail
  refine (l29Copy_any _ fs _ (h.go (box (box (bel0 w) _) _)) HN.out).mono ?_
  rintro e w1 ⟨⟨u, rfl, hown⟩, hb'⟩
  try unfold GivesD at hown
  obtain ⟨A, c, rfl⟩ := own_form hown
  have hb1 := stp (box (box (bel0 w) _) _) hb'
  have kr1 := kr0.go hb'
  have lr1 : w.heap.size + 1 < w1.heap.size := kr1.lt
  have HB := Lib.hid (World.ownsRow.lt hown)
  clear hb' kr0
  go_wp2
  go_loopw [9] (fun i wr => ∃ (k : Nat) (gs : List FileD) (A : Option Addr) (c : Nat), k ≤ (min st 3).toNat ∧ i = .int .i64 k ∧ Hid (savedTo fs tx k = (gs, 0)) ∧ Kc wr ⟨w1.heap.size, 0, none⟩ (.slice A gs.length c) ∧ Kc wr ⟨w.heap.size + 1, 0, none⟩ (.slice none 0 0) ∧ wr.ownsRow (w.heap.size + 1 + 1) 66 3 (.slice A gs.length c) gs.length (gs.flatMap FileD.cells) ∧ Hid (∀ k, (Value.slice A gs.length c).ownBlock = some k → k ≠ w1.heap.size ∧ k ≠ w.heap.size + 1) ∧ Below w.heap.size w wr) (fun i _ => (min st 3).toNat - (intOf i).toNat)
  case atStart =>
    refine ⟨0, fs, A, c, by omega, rfl, rfl, ?_, ?_, ?_, ?_, ?_⟩
    · exact Kc.new rfl rfl
    · exact kr1.bx _
    · have := hown.alloc (.cells #[.slice A fs.length c] 29)
      exact ownsRow_base this (by simp)
    · intro k hk; have := HB.out k hk; simp at this; omega
    · exact box hb1 _
  case round =>
    obtain ⟨k, gs, A2, c2, hk, rfl, HS, ko, kr, ho, hlow, hb⟩ := hrel
    clear hown HB kr1 hb1
    have lr := kr.lt
    have lo := ko.lt
    have c0 := ko.1
    have c1 := kr.1
    have f0 := ko.2
    have f1 := kr.2
    have hne : ¬ (w1.heap.size = w.heap.size + 1) := by omega
    have hne2 : ¬ (w.heap.size + 1 = w1.heap.size) := by omega
    by_cases hlt : k < (min st 3).toNat
    · have q1 : (k : Int) < st := by omega
      have q2 : (k : Int) < 3 := by omega
      have q0 : (0 : Int) ≤ (k : Int) := by omega
      have HL : Hid (gs.length ≤ 1048576) := by have := (savedTo_len fs tx HN.out k).2 (by rw [HS.out]); rw [HS.out] at this; exact this
      have HO : Hid (∀ f ∈ gs, f.ok) := by have := savedTo_ok fs tx HT.out HK.out k; rw [HS.out] at this; exact this
      have HS1 : Hid (savedTo fs tx (k + 1) = saveStepR gs tx k) := savedTo_go HS.out
      go_wp2_with fail
      refine (specSaveStep_any _ gs tx k _ (own_reads FileD.len ho (Nat.le_refl _) HO.out) HL.out HT.out).mono ?_
      rintro e w2 ⟨⟨u2, rfl, ho2⟩, hb'⟩
      unfold GivesD at ho2
      obtain ⟨A3, c3, rfl⟩ := own_form ho2
      have hb2 := stp hb hb'
      have ko2 := ko.go hb'
      have kr2 := kr.go hb'
      have hz2 := hb'.size
      clear hb' c0 c1 f0 f1
      have ko3 := (ko2.same (.slice A3 (saveStepR gs tx k).1.length c3)).bx (.cells #[.slice A3 (saveStepR gs tx k).1.length c3] 29)
      have kr3 := (kr2.other (b := ⟨w1.heap.size, 0, none⟩) (by simp; omega) (.slice A3 (saveStepR gs tx k).1.length c3)).bx (.cells #[.slice A3 (saveStepR gs tx k).1.length c3] 29)
      have ho3i := own_set_far ho2 (g := w1.heap.size) (o := 0) (fun j hj => by have := World.ownsRow.lt ho2 j hj; omega) (.slice A3 (saveStepR gs tx k).1.length c3)
      have ho3 := ho3i.alloc (.cells #[.slice A3 (saveStepR gs tx k).1.length c3] 29)
      have hlow3 : Hid (∀ k', (Value.slice A3 (saveStepR gs tx k).1.length c3).ownBlock = some k' → k' ≠ w1.heap.size ∧ k' ≠ w.heap.size + 1) := fun j hj => by have := World.ownsRow.lt ho2 j hj; omega
      have hb3i := put hb2 (p := ⟨w1.heap.size, 0, none⟩) (by simp; omega) (.slice A3 (saveStepR gs tx k).1.length c3)
      have hb3 := box hb3i (.cells #[.slice A3 (saveStepR gs tx k).1.length c3] 29)
      have e0 := ko2.1
      have e1 := ko2.2
      have e2 := ko3.1
      have e3 := kr3.1
      have e4 := kr3.2
      have e5 := ko2.lt
      have e6 : w.heap.size + 1 < w2.heap.size := kr2.lt
      have e7 := (kr2.other (b := ⟨w1.heap.size, 0, none⟩) (by simp; omega) (.slice A3 (saveStepR gs tx k).1.length c3)).1
      have ne3 : ¬ (w2.heap.size = w1.heap.size) := by omega
      have ne4 : ¬ (w1.heap.size = w2.heap.size) := by omega
      clear kr2 ko2 hb2 ho2
      by_cases hc : (saveStepR gs tx k).2 = 0
      · have b1 : ((saveStepR gs tx k).2 != 0) = false := by rw [hc]; rfl
        have HC := Lib.hid hc
        clear hc
        go_wp2
        go_roundw
        case rel =>
          refine ⟨k + 1, (saveStepR gs tx k).1, A3, c3, by omega, by go_num, ?_, ko3, kr3, ownsRow_base ho3 (by omega), hlow3, hb3⟩
          show savedTo fs tx (k + 1) = _
          rw [HS1.out, ← HC.out]
        case measure => simp [intOf]; omega
      · have b1 : ((saveStepR gs tx k).2 != 0) = true := by simpa using hc
        have HE : Hid (savedTo fs tx (min st 3).toNat = saveStepR gs tx k) := by
          have := savedTo_stop' (fs := fs) (tx := tx) (k := k + 1) (m := (min st 3).toNat) (gs := (saveStepR gs tx k).1) (c := (saveStepR gs tx k).2) HS1.out hc (by omega)
          exact this
        clear hc
        go_wp2
        refine bodyPost_ret (v := .tuple #[.agg #[.slice A3 (saveStepR gs tx k).1.length c3], .int .i64 (saveStepR gs tx k).2]) (by simp [results, Try.results55, go_sem, e7, e6]) rfl ?_
        unfold savedR
        rw [HE.out]
        exact ⟨⟨_, rfl, ownsRow_base ((own_set_far ho3i (fun j hj => (hlow3.out j hj).2.symm) _).alloc _) (by omega)⟩, box (put hb3i (by simp) _) _⟩
    · obtain rfl : k = (min st 3).toNat := by omega
      have HE := HS
      clear hlt hk HS
      generalize hm : (min st 3).toNat = m at *
      have q0 : (0 : Int) ≤ (m : Int) := by omega
      by_cases hkm : (m : Int) < st
      · have q2 : (3 : Int) ≤ (m : Int) := by omega
        have q3 : ¬ (m : Int) < 3 := by omega
        have HM := Lib.hid hm
        clear hm
        go_wp2
        refine bodyPost_ret (v := .tuple #[.agg #[.slice A2 gs.length c2], .int .i64 0]) (by simp [results, Try.results55, go_sem, c1]) rfl ?_
        unfold savedR
        rw [HM.out, HE.out]
        exact ⟨⟨_, rfl, ownsRow_base (own_set_far ho (fun j hj => (hlow.out j hj).2.symm) _) (by omega)⟩, put hb (by simp) _⟩
      · have HM := Lib.hid hm
        clear hm
        go_wp2
        refine bodyPost_ret (v := .tuple #[.agg #[.slice A2 gs.length c2], .int .i64 0]) (by simp [results, Try.results55, go_sem, c1]) rfl ?_
        unfold savedR
        rw [HM.out, HE.out]
        exact ⟨⟨_, rfl, ownsRow_base (own_set_far ho (fun j hj => (hlow.out j hj).2.symm) _) (by omega)⟩, put hb (by simp) _⟩

set_option maxRecDepth 100000 in
set_option maxHeartbeats 4000000 in
theorem implSavedTill_any (v : Value) (fs : List FileD) (tx : ByteArray) (st : Int) (w : World) (h : FilesR w w.heap.size v fs) (hn : fs.length ≤ 1048576) (htx : tx.size ≤ maxLen) :
    Calls Try.prog 56 #[.agg #[v], .string tx, .int .i64 st] w fun e w' => (∃ u, e = .returned (.tuple #[.agg #[u], .int .i64 (savedR fs tx st).2]) ∧ GivesD w (savedR fs tx st).1 u w') ∧ Below w.heap.size w w' := by
  have HN := Lib.hid hn
  have HT := Lib.hid htx
  have HK := Lib.hid (sl_ok h)
  clear hn htx
  obtain ⟨Av, cv, rfl⟩ := sl_form h
  go_enter Try.func56, Try.ntmps56
  have kr0 : Kc ((w.alloc (.cells #[.slice Av fs.length cv] 29)).alloc (.cells #[.slice none 0 0] 29)) ⟨w.heap.size + 1, 0, none⟩ (.slice none 0 0) := Kc.new (by simp) rfl
  go_wp2_with fail
  refine (copyDisk_any _ fs _ (h.go (box (box (bel0 w) _) _)) HN.out).mono ?_
  rintro e w1 ⟨⟨u, rfl, hown⟩, hb'⟩
  try unfold GivesD at hown
  obtain ⟨A, c, rfl⟩ := own_form hown
  have hb1 := stp (box (box (bel0 w) _) _) hb'
  have kr1 := kr0.go hb'
  have lr1 : w.heap.size + 1 < w1.heap.size := kr1.lt
  have HB := Lib.hid (World.ownsRow.lt hown)
  clear hb' kr0
  go_wp2
  go_loopw [9, 10] (fun cd i wr => ∃ (k : Nat) (gs : List FileD) (A : Option Addr) (c : Nat) (cc : Int), k ≤ (min st 3).toNat ∧ i = .int .i64 k ∧ cd = .int .i64 cc ∧ Hid (savedTo fs tx k = (gs, cc)) ∧ Kc wr ⟨w1.heap.size, 0, none⟩ (.slice A gs.length c) ∧ Kc wr ⟨w.heap.size + 1, 0, none⟩ (.slice none 0 0) ∧ wr.ownsRow (w.heap.size + 1 + 1) 66 3 (.slice A gs.length c) gs.length (gs.flatMap FileD.cells) ∧ Hid (∀ k, (Value.slice A gs.length c).ownBlock = some k → k ≠ w1.heap.size ∧ k ≠ w.heap.size + 1) ∧ Below w.heap.size w wr) (fun _ i _ => (min st 3).toNat - (intOf i).toNat)
  case atStart =>
    refine ⟨0, fs, A, c, 0, by omega, rfl, rfl, rfl, ?_, ?_, ?_, ?_, ?_⟩
    · exact Kc.new rfl rfl
    · exact kr1.bx _
    · have := hown.alloc (.cells #[.slice A fs.length c] 29)
      exact ownsRow_base this (by simp)
    · intro k hk; have := HB.out k hk; simp at this; omega
    · exact box hb1 _
  case round =>
    obtain ⟨k, gs, A2, c2, cc, hk, rfl, rfl, HS, ko, kr, ho, hlow, hb⟩ := hrel
    clear hown HB kr1 hb1
    have lr := kr.lt
    have lo := ko.lt
    have c0 := ko.1
    have c1 := kr.1
    have f0 := ko.2
    have f1 := kr.2
    have hne : ¬ (w1.heap.size = w.heap.size + 1) := by omega
    have hne2 : ¬ (w.heap.size + 1 = w1.heap.size) := by omega
    by_cases hcc : cc = 0
    rotate_left
    · have q3 : (cc == 0) = false := beq_eq_false_iff_ne.2 hcc
      have HE : Hid (savedTo fs tx (min st 3).toNat = (gs, cc)) := savedTo_stop' HS.out hcc hk
      clear hcc
      by_cases hlt : k < (min st 3).toNat
      · have q1 : (k : Int) < st := by omega
        have q2 : (k : Int) < 3 := by omega
        have q0 : (0 : Int) ≤ (k : Int) := by omega
        clear hlt hk
        by_cases h3 : st ≤ 3
        all_goals
          go_wp2
          refine bodyPost_ret (v := .tuple #[.agg #[.slice A2 gs.length c2], .int .i64 cc]) (by simp [results, Try.results56, go_sem, c1]) rfl ?_
          unfold savedR
          rw [HE.out]
          exact ⟨⟨_, rfl, ownsRow_base (own_set_far ho (fun j hj => (hlow.out j hj).2.symm) _) (by omega)⟩, put hb (by simp) _⟩
      · by_cases h3 : st ≤ 3
        · have q1 : ¬ (k : Int) < st := by omega
          clear hlt hk
          go_wp2
          refine bodyPost_ret (v := .tuple #[.agg #[.slice A2 gs.length c2], .int .i64 cc]) (by simp [results, Try.results56, go_sem, c1]) rfl ?_
          unfold savedR
          rw [HE.out]
          exact ⟨⟨_, rfl, ownsRow_base (own_set_far ho (fun j hj => (hlow.out j hj).2.symm) _) (by omega)⟩, put hb (by simp) _⟩
        · have q1 : ¬ (k : Int) < 3 := by omega
          clear hlt hk
          go_wp2
          refine bodyPost_ret (v := .tuple #[.agg #[.slice A2 gs.length c2], .int .i64 cc]) (by simp [results, Try.results56, go_sem, c1]) rfl ?_
          unfold savedR
          rw [HE.out]
          exact ⟨⟨_, rfl, ownsRow_base (own_set_far ho (fun j hj => (hlow.out j hj).2.symm) _) (by omega)⟩, put hb (by simp) _⟩
    subst hcc
    by_cases hlt : k < (min st 3).toNat
    · have q1 : (k : Int) < st := by omega
      have q2 : (k : Int) < 3 := by omega
      have q0 : (0 : Int) ≤ (k : Int) := by omega
      have HL : Hid (gs.length ≤ 1048576) := by have := (savedTo_len fs tx HN.out k).2 (by rw [HS.out]); rw [HS.out] at this; exact this
      have HO : Hid (∀ f ∈ gs, f.ok) := by have := savedTo_ok fs tx HT.out HK.out k; rw [HS.out] at this; exact this
      have HS1 : Hid (savedTo fs tx (k + 1) = saveStepR gs tx k) := savedTo_go HS.out
      by_cases h3 : st ≤ 3
      all_goals
        go_wp2_with fail
        refine (implSaveStep_any _ gs tx k _ (own_reads FileD.len ho (Nat.le_refl _) HO.out) HL.out HT.out).mono ?_
        rintro e w2 ⟨⟨u2, rfl, ho2⟩, hb'⟩
        unfold GivesD at ho2
        obtain ⟨A3, c3, rfl⟩ := own_form ho2
        have hb2 := stp hb hb'
        have ko2 := ko.go hb'
        have kr2 := kr.go hb'
        have hz2 := hb'.size
        clear hb' c0 c1 f0 f1
        have ko3 := ko2.same (.slice A3 (saveStepR gs tx k).1.length c3)
        have kr3 := kr2.other (b := ⟨w1.heap.size, 0, none⟩) (by simp; omega) (.slice A3 (saveStepR gs tx k).1.length c3)
        have ho3 := own_set_far ho2 (g := w1.heap.size) (o := 0) (fun j hj => by have := World.ownsRow.lt ho2 j hj; omega) (.slice A3 (saveStepR gs tx k).1.length c3)
        have hlow3 : Hid (∀ k', (Value.slice A3 (saveStepR gs tx k).1.length c3).ownBlock = some k' → k' ≠ w1.heap.size ∧ k' ≠ w.heap.size + 1) := fun j hj => by have := World.ownsRow.lt ho2 j hj; omega
        have hb3 := put hb2 (p := ⟨w1.heap.size, 0, none⟩) (by simp; omega) (.slice A3 (saveStepR gs tx k).1.length c3)
        have e0 := ko2.1
        have e1 := ko2.2
        have e5 := ko2.lt
        clear hb2 ho2
        go_wp2
        go_roundw
        case rel =>
          refine ⟨k + 1, (saveStepR gs tx k).1, A3, c3, (saveStepR gs tx k).2, by omega, by go_num, rfl, ?_, ko3, kr3, ownsRow_base ho3 (by omega), hlow3, hb3⟩
          exact HS1.out
        case measure => simp [intOf]; omega
    · obtain rfl : k = (min st 3).toNat := by omega
      have HE := HS
      clear hlt hk HS
      generalize hm : (min st 3).toNat = m at *
      have q0 : (0 : Int) ≤ (m : Int) := by omega
      by_cases h3 : st ≤ 3
      · have q2 : ¬ (m : Int) < st := by omega
        have HM := Lib.hid hm
        clear hm
        go_wp2
        refine bodyPost_ret (v := .tuple #[.agg #[.slice A2 gs.length c2], .int .i64 0]) (by simp [results, Try.results56, go_sem, c1]) rfl ?_
        unfold savedR
        rw [HM.out, HE.out]
        exact ⟨⟨_, rfl, ownsRow_base (own_set_far ho (fun j hj => (hlow.out j hj).2.symm) _) (by omega)⟩, put hb (by simp) _⟩
      · have q2 : ¬ (m : Int) < 3 := by omega
        have HM := Lib.hid hm
        clear hm
        go_wp2
        refine bodyPost_ret (v := .tuple #[.agg #[.slice A2 gs.length c2], .int .i64 0]) (by simp [results, Try.results56, go_sem, c1]) rfl ?_
        unfold savedR
        rw [HM.out, HE.out]
        exact ⟨⟨_, rfl, ownsRow_base (own_set_far ho (fun j hj => (hlow.out j hj).2.symm) _) (by omega)⟩, put hb (by simp) _⟩

end Go.Proofs.Ytepachoampdhiaa
