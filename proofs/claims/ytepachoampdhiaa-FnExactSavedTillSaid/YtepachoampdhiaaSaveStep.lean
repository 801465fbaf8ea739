/- SaveStep: of the program and of the reference. -/
import Derived.Test.YtepachoampdhiaaRename
import Derived.Test.YtepachoampdhiaaSync
import Derived.Test.YtepachoampdhiaaCleared
namespace Go.Proofs.Ytepachoampdhiaa
open Go.RowKit

def stateName : ByteArray := ⟨#[115, 116, 97, 116, 101]⟩
noncomputable def saveStepR (fs : List FileD) (tx : ByteArray) (st : Int) : List FileD × Int :=
  if st = 0 then writeR fs newName tx else if st = 1 then syncR fs newName else if st = 2 then renameR fs newName stateName else (fs, 12)
theorem saveStepR_0 (fs : List FileD) (tx : ByteArray) : saveStepR fs tx 0 = writeR fs newName tx := rfl
theorem saveStepR_1 (fs : List FileD) (tx : ByteArray) : saveStepR fs tx 1 = syncR fs newName := rfl
theorem saveStepR_2 (fs : List FileD) (tx : ByteArray) : saveStepR fs tx 2 = renameR fs newName stateName := rfl
theorem saveStepR_x (fs : List FileD) (tx : ByteArray) {st : Int} (h0 : st ≠ 0) (h1 : st ≠ 1) (h2 : st ≠ 2) : saveStepR fs tx st = (fs, 12) := by
  unfold saveStepR
  rw [if_neg h0, if_neg h1, if_neg h2]
theorem newName_le : newName.size ≤ maxLen := by show (9 : Nat) ≤ maxLen; unfold maxLen; omega
theorem stateName_le : stateName.size ≤ maxLen := by show (5 : Nat) ≤ maxLen; unfold maxLen; omega
theorem saveStepR_len (fs : List FileD) (tx : ByteArray) (st : Int) (h : fs.length ≤ 1048576) : (saveStepR fs tx st).1.length ≤ 1048577 := by
  unfold saveStepR
  split
  · exact writeR_len _ _ _ h
  · split
    · exact syncR_len _ _ h
    · split
      · exact renameR_len _ _ _ h
      · exact Nat.le_succ_of_le h
theorem saveStepR_ok (fs : List FileD) (tx : ByteArray) (st : Int) (htx : tx.size ≤ maxLen) (h : ∀ f ∈ fs, f.ok) : ∀ f ∈ (saveStepR fs tx st).1, f.ok := by
  unfold saveStepR
  split
  · exact writeR_ok _ _ _ newName_le htx h
  · split
    · exact syncR_ok _ _ h
    · split
      · exact renameR_ok _ _ _ stateName_le h
      · exact h


set_option maxRecDepth 100000 in
set_option maxHeartbeats 4000000 in
theorem specSaveStep_any (v : Value) (fs : List FileD) (tx : ByteArray) (st : Int) (w : World) (h : FilesR w w.heap.size v fs) (hn : fs.length ≤ 1048576) (htx : tx.size ≤ maxLen) :
    Calls Try.prog 53 #[.agg #[v], .string tx, .int .i64 st] w fun e w' => (∃ u, e = .returned (.tuple #[.agg #[u], .int .i64 (saveStepR fs tx st).2]) ∧ GivesD w (saveStepR fs tx st).1 u w') ∧ Below w.heap.size w w' := by
  have HN := Lib.hid hn
  have HT := Lib.hid htx
  clear hn htx
  obtain ⟨Av, cv, rfl⟩ := sl_form h
  by_cases h0 : st = 0
  · subst h0
    rw [saveStepR_0]
    go_enter Try.func53, Try.ntmps53
    have kr0 : Kc ((w.alloc (.cells #[.slice Av fs.length cv] 29)).alloc (.cells #[.slice none 0 0] 29)) ⟨w.heap.size + 1, 0, none⟩ (.slice none 0 0) := Kc.new (by simp) rfl
    go_wp2_with fail
    refine (specWrite_any _ fs newName tx _ (h.go (box (box (bel0 w) _) _)) HN.out newName_le HT.out).mono ?_
    rintro e w1 ⟨⟨u, rfl, hown⟩, hb'⟩
    try unfold GivesD at hown
    obtain ⟨A, c, rfl⟩ := own_form hown
    have hb1 := stp (box (box (bel0 w) _) _) hb'
    have kr1 := kr0.go hb'
    have lr := kr0.lt
    clear hb'
    have c1 := kr1.1
    have f1 := kr1.2
    go_wp2
    refine bodyPost_ret (v := .tuple #[.agg #[.slice A (writeR fs newName tx).1.length c], .int .i64 (writeR fs newName tx).2]) (by simp [results, Try.results53, go_sem, c1]) rfl ⟨⟨_, rfl, ?_⟩, put hb1 (by simp) _⟩
    exact ownsRow_base (ownsRow_setCell_below hown lr _) (by simp; omega)
  by_cases h1 : st = 1
  · subst h1
    rw [saveStepR_1]
    go_enter Try.func53, Try.ntmps53
    have kr0 : Kc ((w.alloc (.cells #[.slice Av fs.length cv] 29)).alloc (.cells #[.slice none 0 0] 29)) ⟨w.heap.size + 1, 0, none⟩ (.slice none 0 0) := Kc.new (by simp) rfl
    go_wp2_with fail
    refine (specSync_any _ fs newName _ (h.go (box (box (bel0 w) _) _)) HN.out).mono ?_
    rintro e w1 ⟨⟨u, rfl, hown⟩, hb'⟩
    try unfold GivesD at hown
    obtain ⟨A, c, rfl⟩ := own_form hown
    have hb1 := stp (box (box (bel0 w) _) _) hb'
    have kr1 := kr0.go hb'
    have lr := kr0.lt
    clear hb'
    have c1 := kr1.1
    have f1 := kr1.2
    go_wp2
    refine bodyPost_ret (v := .tuple #[.agg #[.slice A (syncR fs newName).1.length c], .int .i64 (syncR fs newName).2]) (by simp [results, Try.results53, go_sem, c1]) rfl ⟨⟨_, rfl, ?_⟩, put hb1 (by simp) _⟩
    exact ownsRow_base (ownsRow_setCell_below hown lr _) (by simp; omega)
  by_cases h2 : st = 2
  · subst h2
    rw [saveStepR_2]
    go_enter Try.func53, Try.ntmps53
    have kr0 : Kc ((w.alloc (.cells #[.slice Av fs.length cv] 29)).alloc (.cells #[.slice none 0 0] 29)) ⟨w.heap.size + 1, 0, none⟩ (.slice none 0 0) := Kc.new (by simp) rfl
    go_wp2_with fail
    refine (specRename_any _ fs newName stateName _ (h.go (box (box (bel0 w) _) _)) HN.out stateName_le).mono ?_
    rintro e w1 ⟨⟨u, rfl, hown⟩, hb'⟩
    try unfold GivesD at hown
    obtain ⟨A, c, rfl⟩ := own_form hown
    have hb1 := stp (box (box (bel0 w) _) _) hb'
    have kr1 := kr0.go hb'
    have lr := kr0.lt
    clear hb'
    have c1 := kr1.1
    have f1 := kr1.2
    go_wp2
    refine bodyPost_ret (v := .tuple #[.agg #[.slice A (renameR fs newName stateName).1.length c], .int .i64 (renameR fs newName stateName).2]) (by simp [results, Try.results53, go_sem, c1]) rfl ⟨⟨_, rfl, ?_⟩, put hb1 (by simp) _⟩
    exact ownsRow_base (ownsRow_setCell_below hown lr _) (by simp; omega)
  rw [saveStepR_x fs tx h0 h1 h2]
  have b0 : (st == 0) = false := beq_eq_false_iff_ne.2 h0
  have b1 : (st == 1) = false := beq_eq_false_iff_ne.2 h1
  have b2 : (st == 2) = false := beq_eq_false_iff_ne.2 h2
  clear h0 h1 h2
  go_enter Try.func53, Try.ntmps53
  have kr0 : Kc ((w.alloc (.cells #[.slice Av fs.length cv] 29)).alloc (.cells #[.slice none 0 0] 29)) ⟨w.heap.size + 1, 0, none⟩ (.slice none 0 0) := Kc.new (by simp) rfl
  go_wp2_with fail
  refine (l29Copy_any _ fs _ (h.go (box (box (bel0 w) _) _)) HN.out).mono ?_
  rintro e w1 ⟨⟨u, rfl, hown⟩, hb'⟩
  try unfold GivesD at hown
  obtain ⟨A, c, rfl⟩ := own_form hown
  have hb1 := stp (box (box (bel0 w) _) _) hb'
  have kr1 := kr0.go hb'
  have lr := kr0.lt
  clear hb'
  have c1 := kr1.1
  have f1 := kr1.2
  go_wp2
  refine bodyPost_ret (v := .tuple #[.agg #[.slice A fs.length c], .int .i64 12]) (by simp [results, Try.results53, go_sem, c1]) rfl ⟨⟨_, rfl, ?_⟩, put hb1 (by simp) _⟩
  exact ownsRow_base (ownsRow_setCell_below hown lr _) (by simp; omega)

set_option maxRecDepth 100000 in
set_option maxHeartbeats 4000000 in
theorem implSaveStep_any (v : Value) (fs : List FileD) (tx : ByteArray) (st : Int) (w : World) (h : FilesR w w.heap.size v fs) (hn : fs.length ≤ 1048576) (htx : tx.size ≤ maxLen) :
    Calls Try.prog 54 #[.agg #[v], .string tx, .int .i64 st] w fun e w' => (∃ u, e = .returned (.tuple #[.agg #[u], .int .i64 (saveStepR fs tx st).2]) ∧ GivesD w (saveStepR fs tx st).1 u w') ∧ Below w.heap.size w w' := by
  have HN := Lib.hid hn
  have HT := Lib.hid htx
  clear hn htx
  obtain ⟨Av, cv, rfl⟩ := sl_form h
  by_cases h0 : st = 0
  · subst h0
    rw [saveStepR_0]
    go_enter Try.func54, Try.ntmps54
    have kr0 : Kc ((w.alloc (.cells #[.slice Av fs.length cv] 29)).alloc (.cells #[.slice none 0 0] 29)) ⟨w.heap.size + 1, 0, none⟩ (.slice none 0 0) := Kc.new (by simp) rfl
    go_wp2_with fail
    refine (implWrite_any _ fs newName tx _ (h.go (box (box (bel0 w) _) _)) HN.out newName_le HT.out).mono ?_
    rintro e w1 ⟨⟨u, rfl, hown⟩, hb'⟩
    try unfold GivesD at hown
    obtain ⟨A, c, rfl⟩ := own_form hown
    have hb1 := stp (box (box (bel0 w) _) _) hb'
    have kr1 := kr0.go hb'
    have lr := kr0.lt
    clear hb'
    have c1 := kr1.1
    have f1 := kr1.2
    go_wp2
    refine bodyPost_ret (v := .tuple #[.agg #[.slice A (writeR fs newName tx).1.length c], .int .i64 (writeR fs newName tx).2]) (by simp [results, Try.results54, go_sem, c1]) rfl ⟨⟨_, rfl, ?_⟩, put hb1 (by simp) _⟩
    exact ownsRow_base (ownsRow_setCell_below hown lr _) (by simp; omega)
  by_cases h1 : st = 1
  · subst h1
    rw [saveStepR_1]
    go_enter Try.func54, Try.ntmps54
    have kr0 : Kc ((w.alloc (.cells #[.slice Av fs.length cv] 29)).alloc (.cells #[.slice none 0 0] 29)) ⟨w.heap.size + 1, 0, none⟩ (.slice none 0 0) := Kc.new (by simp) rfl
    go_wp2_with fail
    refine (implSync_any _ fs newName _ (h.go (box (box (bel0 w) _) _)) HN.out).mono ?_
    rintro e w1 ⟨⟨u, rfl, hown⟩, hb'⟩
    try unfold GivesD at hown
    obtain ⟨A, c, rfl⟩ := own_form hown
    have hb1 := stp (box (box (bel0 w) _) _) hb'
    have kr1 := kr0.go hb'
    have lr := kr0.lt
    clear hb'
    have c1 := kr1.1
    have f1 := kr1.2
    go_wp2
    refine bodyPost_ret (v := .tuple #[.agg #[.slice A (syncR fs newName).1.length c], .int .i64 (syncR fs newName).2]) (by simp [results, Try.results54, go_sem, c1]) rfl ⟨⟨_, rfl, ?_⟩, put hb1 (by simp) _⟩
    exact ownsRow_base (ownsRow_setCell_below hown lr _) (by simp; omega)
  by_cases h2 : st = 2
  · subst h2
    rw [saveStepR_2]
    go_enter Try.func54, Try.ntmps54
    have kr0 : Kc ((w.alloc (.cells #[.slice Av fs.length cv] 29)).alloc (.cells #[.slice none 0 0] 29)) ⟨w.heap.size + 1, 0, none⟩ (.slice none 0 0) := Kc.new (by simp) rfl
    go_wp2_with fail
    refine (implRename_any _ fs newName stateName _ (h.go (box (box (bel0 w) _) _)) HN.out stateName_le).mono ?_
    rintro e w1 ⟨⟨u, rfl, hown⟩, hb'⟩
    try unfold GivesD at hown
    obtain ⟨A, c, rfl⟩ := own_form hown
    have hb1 := stp (box (box (bel0 w) _) _) hb'
    have kr1 := kr0.go hb'
    have lr := kr0.lt
    clear hb'
    have c1 := kr1.1
    have f1 := kr1.2
    go_wp2
    refine bodyPost_ret (v := .tuple #[.agg #[.slice A (renameR fs newName stateName).1.length c], .int .i64 (renameR fs newName stateName).2]) (by simp [results, Try.results54, go_sem, c1]) rfl ⟨⟨_, rfl, ?_⟩, put hb1 (by simp) _⟩
    exact ownsRow_base (ownsRow_setCell_below hown lr _) (by simp; omega)
  rw [saveStepR_x fs tx h0 h1 h2]
  have b0 : (st == 0) = false := beq_eq_false_iff_ne.2 h0
  have b1 : (st == 1) = false := beq_eq_false_iff_ne.2 h1
  have b2 : (st == 2) = false := beq_eq_false_iff_ne.2 h2
  clear h0 h1 h2
  go_enter Try.func54, Try.ntmps54
  have kr0 : Kc ((w.alloc (.cells #[.slice Av fs.length cv] 29)).alloc (.cells #[.slice none 0 0] 29)) ⟨w.heap.size + 1, 0, none⟩ (.slice none 0 0) := Kc.new (by simp) rfl
  go_wp2_with fail
  refine (copyDisk_any _ fs _ (h.go (box (box (bel0 w) _) _)) HN.out).mono ?_
  rintro e w1 ⟨⟨u, rfl, hown⟩, hb'⟩
  try unfold GivesD at hown
  obtain ⟨A, c, rfl⟩ := own_form hown
  have hb1 := stp (box (box (bel0 w) _) _) hb'
  have kr1 := kr0.go hb'
  have lr := kr0.lt
  clear hb'
  have c1 := kr1.1
  have f1 := kr1.2
  go_wp2
  refine bodyPost_ret (v := .tuple #[.agg #[.slice A fs.length c], .int .i64 12]) (by simp [results, Try.results54, go_sem, c1]) rfl ⟨⟨_, rfl, ?_⟩, put hb1 (by simp) _⟩
  exact ownsRow_base (ownsRow_setCell_below hown lr _) (by simp; omega)

end Go.Proofs.Ytepachoampdhiaa
