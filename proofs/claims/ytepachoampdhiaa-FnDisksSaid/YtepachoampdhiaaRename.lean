/- RenameFile: of the program and of the reference. -/
import Derived.Test.YtepachoampdhiaaWrite
namespace Go.Proofs.Ytepachoampdhiaa
open Go.RowKit

theorem sl_at {α : Type} {size : Nat} {cells : α → List Value} {ok : α → Prop} {w : World} {B n c : Nat} {A : Option Addr} {xs : List α} (h : SlR size (Flat cells ok) w B (.slice A n c) xs) {i : Nat} (hi : i < xs.length) :
    ∃ b o, A = some ⟨b, o, none⟩ ∧ b < B ∧ CellsAt w b (o + i * size) (cells xs[i]) ∧ ok xs[i] := by
  obtain ⟨A', c', hv, _, _, h⟩ := h
  obtain ⟨b, o, cs, hA, hb, _, hc, rfl, ho⟩ := h i hi
  simp only [Value.slice.injEq] at hv
  exact ⟨b, o, hv.1.trans hA, hb, hc, ho⟩
theorem sl_ok {α : Type} {size : Nat} {cells : α → List Value} {ok : α → Prop} {w : World} {B : Nat} {v : Value} {xs : List α} (h : SlR size (Flat cells ok) w B v xs) : ∀ x ∈ xs, ok x := by
  obtain ⟨_, _, _, _, _, h⟩ := h
  intro x hx
  obtain ⟨i, hi, rfl⟩ := List.getElem_of_mem hx
  obtain ⟨_, _, _, _, _, _, _, _, ho⟩ := h i hi
  exact ho

/-- The disk with file k laid anew under another name. -/
def movedR (fs : List FileD) (k : Nat) (nm : ByteArray) : List FileD := match fs[k]? with | some f => layR (fs.eraseIdx k) ⟨nm, f.text, f.synced⟩ | none => fs
theorem movedR_at {fs : List FileD} {k : Nat} (hk : k < fs.length) (nm : ByteArray) : movedR fs k nm = layR (fs.eraseIdx k) ⟨nm, fs[k].text, fs[k].synced⟩ := by
  unfold movedR
  rw [List.getElem?_eq_getElem hk]
open Classical in
noncomputable def renameR (fs : List FileD) (fr nm : ByteArray) : List FileD × Int :=
  if DiskP fs ∧ NameP nm then (if fileAt fs fr < 0 then (fs, 2) else (movedR fs (fileAt fs fr).toNat nm, 0)) else (fs, 1)
theorem renameR_bad {fs : List FileD} {fr nm : ByteArray} (h : ¬ (DiskP fs ∧ NameP nm)) : renameR fs fr nm = (fs, 1) := by unfold renameR; rw [if_neg h]
theorem renameR_none {fs : List FileD} {fr nm : ByteArray} (h : DiskP fs ∧ NameP nm) (h1 : fileAt fs fr = -1) : renameR fs fr nm = (fs, 2) := by unfold renameR; rw [if_pos h, h1]; rfl
theorem renameR_some {fs : List FileD} {fr nm : ByteArray} (h : DiskP fs ∧ NameP nm) {k : Nat} (hk : k < fs.length) (h1 : fileAt fs fr = k) : renameR fs fr nm = (layR (fs.eraseIdx k) ⟨nm, fs[k].text, fs[k].synced⟩, 0) := by
  unfold renameR
  rw [if_pos h, h1, if_neg (by omega), Int.toNat_natCast, movedR_at hk]
theorem movedR_len (fs : List FileD) (k : Nat) (nm : ByteArray) : (movedR fs k nm).length ≤ fs.length + 1 := by
  unfold movedR
  split
  · have := List.length_eraseIdx_le fs k
    exact Nat.le_trans (layR_len _ _) (by omega)
  · omega
theorem movedR_ok (fs : List FileD) (k : Nat) (nm : ByteArray) (hnm : nm.size ≤ maxLen) (h : ∀ f ∈ fs, f.ok) : ∀ f ∈ movedR fs k nm, f.ok := by
  unfold movedR
  split
  · rename_i f hf
    have hm := h f (List.mem_of_getElem? hf)
    exact layR_ok _ _ (fun x hx => h x (List.mem_of_mem_eraseIdx hx)) ⟨hnm, hm.2⟩
  · exact h
theorem renameR_len (fs : List FileD) (fr nm : ByteArray) (h : fs.length ≤ 1048576) : (renameR fs fr nm).1.length ≤ 1048577 := by
  unfold renameR
  split
  · split
    · exact Nat.le_succ_of_le h
    · exact Nat.le_trans (movedR_len _ _ _) (by omega)
  · exact Nat.le_succ_of_le h
theorem renameR_ok (fs : List FileD) (fr nm : ByteArray) (hnm : nm.size ≤ maxLen) (h : ∀ f ∈ fs, f.ok) : ∀ f ∈ (renameR fs fr nm).1, f.ok := by
  unfold renameR
  split
  · split
    · exact h
    · exact movedR_ok _ _ _ hnm h
  · exact h

theorem erase_at {fs : List FileD} (k j : Nat) (hj : j < (fs.eraseIdx k).length) : ∃ i, ∃ hi : i < fs.length, (fs.eraseIdx k)[j] = fs[i] ∧ ((j < k ∧ i = j) ∨ (k ≤ j ∧ i = j + 1)) := by
  rw [List.length_eraseIdx] at hj
  by_cases h : j < k
  · refine ⟨j, by split at hj <;> omega, ?_, .inl ⟨h, rfl⟩⟩
    rw [List.getElem_eraseIdx_of_lt _ h]
  · have hjl : j + 1 < fs.length := by split at hj <;> omega
    refine ⟨j + 1, hjl, ?_, .inr ⟨by omega, rfl⟩⟩
    rw [List.getElem_eraseIdx_of_ge _ (by omega)]
theorem asc_erase {fs : List FileD} (h : DiskP fs) (k : Nat) (nm : ByteArray) : ∀ j, layAt (fs.eraseIdx k) nm < j → ∀ hj : j < (fs.eraseIdx k).length, (fs.eraseIdx k)[j].name ≠ nm := by
  intro j hlt hj e
  have hL : layAt (fs.eraseIdx k) nm < (fs.eraseIdx k).length := by omega
  obtain ⟨i, hi, ei, ci⟩ := erase_at k j hj
  obtain ⟨i', hi', ei', ci'⟩ := erase_at k _ hL
  have h1 := asc_lt h i i' (by omega) hi
  rw [← ei, e, ← ei', layAt_at hL] at h1
  cases h1

-- the walks
set_option maxRecDepth 100000 in
set_option maxHeartbeats 4000000 in
theorem specRename_any (v : Value) (fs : List FileD) (fr nm : ByteArray) (w : World) (h : FilesR w w.heap.size v fs) (hn : fs.length ≤ 1048576) (hnm : nm.size ≤ maxLen) :
    Calls Try.prog 50 #[.agg #[v], .string fr, .string nm] w fun e w' => (∃ u, e = .returned (.tuple #[.agg #[u], .int .i64 (renameR fs fr nm).2]) ∧ GivesD w (renameR fs fr nm).1 u w') ∧ Below w.heap.size w w' := by
  have HN := Lib.hid hn
  have hs_nm := Lib.hid hnm
  clear hn hnm
  obtain ⟨Av, cv, rfl⟩ := sl_form h
  have okA := sl_ok h
  by_cases hd : DiskP fs
  rotate_left
  · rw [renameR_bad (fun h => hd h.1)]
    have HD : Hid (¬ DiskP fs) := hd
    clear hd okA
    go_enter Try.func50, Try.ntmps50
    have kv0 := (Kc.new rfl rfl : Kc (w.alloc (.cells #[.slice Av fs.length cv] 29)) ⟨w.heap.size, 0, none⟩ (.slice Av fs.length cv)).bx (.cells #[.slice none 0 0] 29)
    have kr0 : Kc ((w.alloc (.cells #[.slice Av fs.length cv] 29)).alloc (.cells #[.slice none 0 0] 29)) ⟨w.heap.size + 1, 0, none⟩ (.slice none 0 0) := Kc.new (by simp) rfl
    go_wp2_with fail
    refine (specDiskOk_any _ fs false (by simpa using HD.out) _ (h.go (box (box (bel0 w) _) _))).mono ?_
    rintro e w1 ⟨rfl, hb'⟩
    have hb1 := stp (box (box (bel0 w) _) _) hb'
    have kv1 := kv0.go hb'
    have kr1 := kr0.go hb'
    clear hb' kv0 kr0
    have c1 := kv1.1
    clear c1
    have c1 := kv1.1
    go_wp2_with fail
    refine (l29Copy_any _ fs _ (h.go hb1) HN.out).mono ?_
    rintro e w2 ⟨⟨u, rfl, hown⟩, hb'⟩
    try unfold GivesD at hown
    have lr := kr1.lt
    have hb2 := stp hb1 hb'
    have kv2 := kv1.go hb'
    have kr2 := kr1.go hb'
    clear hb'
    obtain ⟨A, c, rfl⟩ := own_form hown
    have c3 := kr2.1
    have f3 := kr2.2
    go_wp2
    refine bodyPost_ret (v := .tuple #[.agg #[.slice A fs.length c], .int .i64 1]) (by simp [results, Try.results50, go_sem, c3]) rfl ⟨⟨_, rfl, ?_⟩, put hb2 (by simp) _⟩
    exact ownsRow_base (ownsRow_setCell_below hown lr _) hb1.size
  have HD : Hid (DiskP fs) := hd
  by_cases hm : NameP nm
  rotate_left
  · rw [renameR_bad (fun h => hm h.2)]
    have HM := Lib.hid hm
    clear hm hd okA
    go_enter Try.func50, Try.ntmps50
    have kv0 := (Kc.new rfl rfl : Kc (w.alloc (.cells #[.slice Av fs.length cv] 29)) ⟨w.heap.size, 0, none⟩ (.slice Av fs.length cv)).bx (.cells #[.slice none 0 0] 29)
    have kr0 : Kc ((w.alloc (.cells #[.slice Av fs.length cv] 29)).alloc (.cells #[.slice none 0 0] 29)) ⟨w.heap.size + 1, 0, none⟩ (.slice none 0 0) := Kc.new (by simp) rfl
    go_wp2_with fail
    refine (specDiskOk_any _ fs true (by simpa using HD.out) _ (h.go (box (box (bel0 w) _) _))).mono ?_
    rintro e w1 ⟨rfl, hb'⟩
    have hb1 := stp (box (box (bel0 w) _) _) hb'
    have kv1 := kv0.go hb'
    have kr1 := kr0.go hb'
    clear hb' kv0 kr0
    have c1 := kv1.1
    go_wp2_with fail
    refine (specNameOk_f nm hs_nm.out HM.out _).mono ?_
    rintro e w2 ⟨rfl, rfl⟩
    clear c1
    have c1 := kv1.1
    go_wp2_with fail
    refine (l29Copy_any _ fs _ (h.go hb1) HN.out).mono ?_
    rintro e w2 ⟨⟨u, rfl, hown⟩, hb'⟩
    try unfold GivesD at hown
    have lr := kr1.lt
    have hb2 := stp hb1 hb'
    have kv2 := kv1.go hb'
    have kr2 := kr1.go hb'
    clear hb'
    obtain ⟨A, c, rfl⟩ := own_form hown
    have c3 := kr2.1
    have f3 := kr2.2
    go_wp2
    refine bodyPost_ret (v := .tuple #[.agg #[.slice A fs.length c], .int .i64 1]) (by simp [results, Try.results50, go_sem, c3]) rfl ⟨⟨_, rfl, ?_⟩, put hb2 (by simp) _⟩
    exact ownsRow_base (ownsRow_setCell_below hown lr _) hb1.size
  have HM := Lib.hid hm
  have hall : DiskP fs ∧ NameP nm := ⟨hd, hm⟩
  rcases fileAt_cases fs fr with ⟨hfa, _⟩ | ⟨k, hk, hfa, _⟩
  · rw [renameR_none hall hfa]
    have HF := Lib.hid hfa
    clear hfa hd hm hall okA
    go_enter Try.func50, Try.ntmps50
    have kv0 := (Kc.new rfl rfl : Kc (w.alloc (.cells #[.slice Av fs.length cv] 29)) ⟨w.heap.size, 0, none⟩ (.slice Av fs.length cv)).bx (.cells #[.slice none 0 0] 29)
    have kr0 : Kc ((w.alloc (.cells #[.slice Av fs.length cv] 29)).alloc (.cells #[.slice none 0 0] 29)) ⟨w.heap.size + 1, 0, none⟩ (.slice none 0 0) := Kc.new (by simp) rfl
    go_wp2_with fail
    refine (specDiskOk_any _ fs true (by simpa using HD.out) _ (h.go (box (box (bel0 w) _) _))).mono ?_
    rintro e w1 ⟨rfl, hb'⟩
    have hb1 := stp (box (box (bel0 w) _) _) hb'
    have kv1 := kv0.go hb'
    have kr1 := kr0.go hb'
    clear hb' kv0 kr0
    have c1 := kv1.1
    go_wp2_with fail
    refine (specNameOk_t nm hs_nm.out HM.out _).mono ?_
    rintro e w2 ⟨rfl, rfl⟩
    go_wp2_with fail
    refine (specFileAt_any _ fs fr _ (h.go hb1)).mono ?_
    rintro e w2 ⟨rfl, hb'⟩
    clear c1
    have hb2 := stp hb1 hb'
    have kv2 := kv1.go hb'
    have kr2 := kr1.go hb'
    clear hb' kv1 kr1
    rw [HF.out]
    have c1 := kv2.1
    go_wp2_with fail
    refine (l29Copy_any _ fs _ (h.go hb2) HN.out).mono ?_
    rintro e w3 ⟨⟨u, rfl, hown⟩, hb'⟩
    try unfold GivesD at hown
    have lr := kr2.lt
    have hb3 := stp hb2 hb'
    have kv3 := kv2.go hb'
    have kr3 := kr2.go hb'
    clear hb'
    obtain ⟨A, c, rfl⟩ := own_form hown
    have c3 := kr3.1
    have f3 := kr3.2
    go_wp2
    refine bodyPost_ret (v := .tuple #[.agg #[.slice A fs.length c], .int .i64 2]) (by simp [results, Try.results50, go_sem, c3]) rfl ⟨⟨_, rfl, ?_⟩, put hb3 (by simp) _⟩
    exact ownsRow_base (ownsRow_setCell_below hown lr _) hb2.size
  · rw [renameR_some hall hk hfa]
    have hk4 : k < 4 := by have := hd.1; omega
    have HF := Lib.hid hfa
    have HL : Hid ((fs.eraseIdx k).length ≤ 1048576) := by have := HN.out; have := List.length_eraseIdx_le fs k; unfold Hid; omega
    have okE : ∀ f ∈ fs.eraseIdx k, f.ok := fun f hf => okA f (List.mem_of_mem_eraseIdx hf)
    clear hfa hd hm hall okA
    go_enter Try.func50, Try.ntmps50
    have kv0 := (Kc.new rfl rfl : Kc (w.alloc (.cells #[.slice Av fs.length cv] 29)) ⟨w.heap.size, 0, none⟩ (.slice Av fs.length cv)).bx (.cells #[.slice none 0 0] 29)
    have kr0 : Kc ((w.alloc (.cells #[.slice Av fs.length cv] 29)).alloc (.cells #[.slice none 0 0] 29)) ⟨w.heap.size + 1, 0, none⟩ (.slice none 0 0) := Kc.new (by simp) rfl
    go_wp2_with fail
    refine (specDiskOk_any _ fs true (by simpa using HD.out) _ (h.go (box (box (bel0 w) _) _))).mono ?_
    rintro e w1 ⟨rfl, hb'⟩
    have hb1 := stp (box (box (bel0 w) _) _) hb'
    have kv1 := kv0.go hb'
    have kr1 := kr0.go hb'
    clear hb' kv0 kr0
    have c1 := kv1.1
    go_wp2_with fail
    refine (specNameOk_t nm hs_nm.out HM.out _).mono ?_
    rintro e w2 ⟨rfl, rfl⟩
    go_wp2_with fail
    refine (specFileAt_any _ fs fr _ (h.go hb1)).mono ?_
    rintro e w2 ⟨rfl, hb'⟩
    clear c1
    have hb2 := stp hb1 hb'
    have kv2 := kv1.go hb'
    have kr2 := kr1.go hb'
    clear hb' kv1 kr1
    rw [HF.out]
    obtain ⟨b, o, rfl, hbb, hcs, hokk⟩ := sl_at h hk
    have hcs2 := hcs.keep (hb2.block b hbb)
    have g0 := hcs2.c0
    have g1 := hcs2.c1
    have g2 := hcs2.c2
    clear hcs hcs2
    have c1 := kv2.1
    have l1 := kv2.lt
    have q1 : (k : Int) < (fs.length : Int) := by omega
    have q2 : (0 : Int) ≤ (k : Int) := by omega
    have hbx := box hb2 (.cells #[.string nm, .string fs[k].text, .int .i64 fs[k].synced] 66)
    have fr2 := h.go (drw hbx)
    have kf0 := (Kc.new rfl rfl : Kc (w2.alloc (.cells #[.string nm, .string fs[k].text, .int .i64 fs[k].synced] 66)) ⟨w2.heap.size, 0, none⟩ (.string nm)).1
    have kf1 := (Kc.new rfl rfl : Kc (w2.alloc (.cells #[.string nm, .string fs[k].text, .int .i64 fs[k].synced] 66)) ⟨w2.heap.size, 1, none⟩ (.string fs[k].text)).1
    have kf2 := (Kc.new rfl rfl : Kc (w2.alloc (.cells #[.string nm, .string fs[k].text, .int .i64 fs[k].synced] 66)) ⟨w2.heap.size, 2, none⟩ (.int .i64 fs[k].synced)).1
    have kd := (kv2.bx (.cells #[.string nm, .string fs[k].text, .int .i64 fs[k].synced] 66)).1
    have krs := kr2.bx (.cells #[.string nm, .string fs[k].text, .int .i64 fs[k].synced] 66)
    have krr : Kc (w2.alloc (.cells #[.string nm, .string fs[k].text, .int .i64 fs[k].synced] 66)).drew ⟨w.heap.size + 1, 0, none⟩ (.slice none 0 0) := ⟨krs.1, krs.2⟩
    clear krs
    have hz9 : w.heap.size + 1 < w2.heap.size := kr2.lt
    have hne : ¬ (w2.heap.size = w.heap.size + 1) := by omega
    have hne2 : ¬ (w.heap.size + 1 = w2.heap.size) := by omega
    have HE := Lib.hid okE
    clear okE
    go_wp2
    clear g0 g1 g2
    go_region_held3 (fun W => W.cell? ⟨w.heap.size, 0, none⟩ = some (.slice (some ⟨b, o, none⟩) fs.length cv) ∧ W.cell? ⟨w2.heap.size, 0, none⟩ = some (.string nm) ∧ W.cell? ⟨w2.heap.size, 1, none⟩ = some (.string fs[k].text) ∧ W.cell? ⟨w2.heap.size, 2, none⟩ = some (.int .i64 fs[k].synced)) (first | exact ⟨d0, d1, d2, d3⟩ | exact ⟨e0, e1, e2, e3⟩ | go_keep)
      (first | (go_at_call 78; refine (l29Without_any _ fs k hk _ fr2 HN.out).mono ?_; rintro e w3 ⟨⟨u3, rfl, ho3⟩, hb3⟩; have d0 := keepc hb3 kd; have d1 := keepc hb3 kf0; have d2 := keepc hb3 kf1; have d3 := keepc hb3 kf2; unfold GivesD at ho3) | (go_at_call 81; refine (l29Lay_any _ _ nm fs[k].text fs[k].synced _ (own_reads FileD.len ho3 (Nat.le_refl _) HE.out) HL.out).mono ?_; rintro e w4 ⟨⟨u4, rfl, ho4⟩, hb4⟩; have e0 := keepc hb4 d0; have e1 := keepc hb4 d1; have e2 := keepc hb4 d2; have e3 := keepc hb4 d3; have e4 := (krr.go hb3).go hb4; have c4 := e4.1; have f4 := e4.2; have l4 := (krr.go hb3).lt; have hb9 := stp (stp (drw hbx) hb3) hb4; have hz3 := hb3.size; unfold GivesD at ho4; obtain ⟨A, c, rfl⟩ := own_form ho4))
    go_wp2
    refine bodyPost_ret (v := .tuple #[.agg #[.slice A (layR (fs.eraseIdx k) ⟨nm, fs[k].text, fs[k].synced⟩).length c], .int .i64 0]) (by simp [results, Try.results50, go_sem, c4]) rfl ⟨⟨_, rfl, ?_⟩, put hb9 (by simp) _⟩
    exact ownsRow_base (ownsRow_setCell_below ho4 l4 _) (by have := (stp (drw hbx) hb3).size; simpa using this)

set_option maxRecDepth 100000 in
set_option maxHeartbeats 4000000 in
theorem implRename_any (v : Value) (fs : List FileD) (fr nm : ByteArray) (w : World) (h : FilesR w w.heap.size v fs) (hn : fs.length ≤ 1048576) (hnm : nm.size ≤ maxLen) :
    Calls Try.prog 51 #[.agg #[v], .string fr, .string nm] w fun e w' => (∃ u, e = .returned (.tuple #[.agg #[u], .int .i64 (renameR fs fr nm).2]) ∧ GivesD w (renameR fs fr nm).1 u w') ∧ Below w.heap.size w w' := by
  have HN := Lib.hid hn
  have hs_nm := Lib.hid hnm
  clear hn hnm
  obtain ⟨Av, cv, rfl⟩ := sl_form h
  have okA := sl_ok h
  by_cases hd : DiskP fs
  rotate_left
  · rw [renameR_bad (fun h => hd h.1)]
    have HD : Hid (¬ DiskP fs) := hd
    clear hd okA
    go_enter Try.func51, Try.ntmps51
    have kv0 := (Kc.new rfl rfl : Kc (w.alloc (.cells #[.slice Av fs.length cv] 29)) ⟨w.heap.size, 0, none⟩ (.slice Av fs.length cv)).bx (.cells #[.slice none 0 0] 29)
    have kr0 : Kc ((w.alloc (.cells #[.slice Av fs.length cv] 29)).alloc (.cells #[.slice none 0 0] 29)) ⟨w.heap.size + 1, 0, none⟩ (.slice none 0 0) := Kc.new (by simp) rfl
    go_wp2_with fail
    refine (implFileAt_any _ fs fr _ (h.go (box (box (bel0 w) _) _))).mono ?_
    rintro e w1 ⟨rfl, hb'⟩
    have hb1 := stp (box (box (bel0 w) _) _) hb'
    have kv1 := kv0.go hb'
    have kr1 := kr0.go hb'
    clear hb' kv0 kr0
    have c1 := kv1.1
    go_wp2_with fail
    refine (implDiskOk_any _ fs false (by simpa using HD.out) _ (h.go hb1)).mono ?_
    rintro e w2 ⟨rfl, hb'⟩
    clear c1
    have hb2 := stp hb1 hb'
    have kv2 := kv1.go hb'
    have kr2 := kr1.go hb'
    clear hb' kv1 kr1
    have c1 := kv2.1
    go_wp2_with fail
    refine (copyDisk_any _ fs _ (h.go hb2) HN.out).mono ?_
    rintro e w3 ⟨⟨u, rfl, hown⟩, hb'⟩
    try unfold GivesD at hown
    have lr := kr2.lt
    have hb3 := stp hb2 hb'
    have kv3 := kv2.go hb'
    have kr3 := kr2.go hb'
    clear hb'
    obtain ⟨A, c, rfl⟩ := own_form hown
    have c3 := kr3.1
    have f3 := kr3.2
    go_wp2
    refine bodyPost_ret (v := .tuple #[.agg #[.slice A fs.length c], .int .i64 1]) (by simp [results, Try.results51, go_sem, c3]) rfl ⟨⟨_, rfl, ?_⟩, put hb3 (by simp) _⟩
    exact ownsRow_base (ownsRow_setCell_below hown lr _) hb2.size
  have HD : Hid (DiskP fs) := hd
  by_cases hm : NameP nm
  rotate_left
  · rw [renameR_bad (fun h => hm h.2)]
    have HM := Lib.hid hm
    clear hm hd okA
    go_enter Try.func51, Try.ntmps51
    have kv0 := (Kc.new rfl rfl : Kc (w.alloc (.cells #[.slice Av fs.length cv] 29)) ⟨w.heap.size, 0, none⟩ (.slice Av fs.length cv)).bx (.cells #[.slice none 0 0] 29)
    have kr0 : Kc ((w.alloc (.cells #[.slice Av fs.length cv] 29)).alloc (.cells #[.slice none 0 0] 29)) ⟨w.heap.size + 1, 0, none⟩ (.slice none 0 0) := Kc.new (by simp) rfl
    go_wp2_with fail
    refine (implFileAt_any _ fs fr _ (h.go (box (box (bel0 w) _) _))).mono ?_
    rintro e w1 ⟨rfl, hb'⟩
    have hb1 := stp (box (box (bel0 w) _) _) hb'
    have kv1 := kv0.go hb'
    have kr1 := kr0.go hb'
    clear hb' kv0 kr0
    have c1 := kv1.1
    go_wp2_with fail
    refine (implDiskOk_any _ fs true (by simpa using HD.out) _ (h.go hb1)).mono ?_
    rintro e w2 ⟨rfl, hb'⟩
    clear c1
    have hb2 := stp hb1 hb'
    have kv2 := kv1.go hb'
    have kr2 := kr1.go hb'
    clear hb' kv1 kr1
    have c1 := kv2.1
    go_wp2_with fail
    refine (implNameOk_f nm hs_nm.out HM.out _).mono ?_
    rintro e w3 ⟨rfl, rfl⟩
    clear c1
    have c1 := kv2.1
    go_wp2_with fail
    refine (copyDisk_any _ fs _ (h.go hb2) HN.out).mono ?_
    rintro e w3 ⟨⟨u, rfl, hown⟩, hb'⟩
    try unfold GivesD at hown
    have lr := kr2.lt
    have hb3 := stp hb2 hb'
    have kv3 := kv2.go hb'
    have kr3 := kr2.go hb'
    clear hb'
    obtain ⟨A, c, rfl⟩ := own_form hown
    have c3 := kr3.1
    have f3 := kr3.2
    go_wp2
    refine bodyPost_ret (v := .tuple #[.agg #[.slice A fs.length c], .int .i64 1]) (by simp [results, Try.results51, go_sem, c3]) rfl ⟨⟨_, rfl, ?_⟩, put hb3 (by simp) _⟩
    exact ownsRow_base (ownsRow_setCell_below hown lr _) hb2.size
  have HM := Lib.hid hm
  have hall : DiskP fs ∧ NameP nm := ⟨hd, hm⟩
  rcases fileAt_cases fs fr with ⟨hfa, _⟩ | ⟨k, hk, hfa, _⟩
  · rw [renameR_none hall hfa]
    have HF := Lib.hid hfa
    clear hfa hd hm hall okA
    go_enter Try.func51, Try.ntmps51
    have kv0 := (Kc.new rfl rfl : Kc (w.alloc (.cells #[.slice Av fs.length cv] 29)) ⟨w.heap.size, 0, none⟩ (.slice Av fs.length cv)).bx (.cells #[.slice none 0 0] 29)
    have kr0 : Kc ((w.alloc (.cells #[.slice Av fs.length cv] 29)).alloc (.cells #[.slice none 0 0] 29)) ⟨w.heap.size + 1, 0, none⟩ (.slice none 0 0) := Kc.new (by simp) rfl
    go_wp2_with fail
    refine (implFileAt_any _ fs fr _ (h.go (box (box (bel0 w) _) _))).mono ?_
    rintro e w1 ⟨rfl, hb'⟩
    have hb1 := stp (box (box (bel0 w) _) _) hb'
    have kv1 := kv0.go hb'
    have kr1 := kr0.go hb'
    clear hb' kv0 kr0
    rw [HF.out]
    have c1 := kv1.1
    go_wp2_with fail
    refine (implDiskOk_any _ fs true (by simpa using HD.out) _ (h.go hb1)).mono ?_
    rintro e w2 ⟨rfl, hb'⟩
    clear c1
    have hb2 := stp hb1 hb'
    have kv2 := kv1.go hb'
    have kr2 := kr1.go hb'
    clear hb' kv1 kr1
    have c1 := kv2.1
    go_wp2_with fail
    refine (implNameOk_t nm hs_nm.out HM.out _).mono ?_
    rintro e w3 ⟨rfl, rfl⟩
    clear c1
    have c1 := kv2.1
    go_wp2_with fail
    refine (copyDisk_any _ fs _ (h.go hb2) HN.out).mono ?_
    rintro e w3 ⟨⟨u, rfl, hown⟩, hb'⟩
    try unfold GivesD at hown
    have lr := kr2.lt
    have hb3 := stp hb2 hb'
    have kv3 := kv2.go hb'
    have kr3 := kr2.go hb'
    clear hb'
    obtain ⟨A, c, rfl⟩ := own_form hown
    have c3 := kr3.1
    have f3 := kr3.2
    go_wp2
    refine bodyPost_ret (v := .tuple #[.agg #[.slice A fs.length c], .int .i64 2]) (by simp [results, Try.results51, go_sem, c3]) rfl ⟨⟨_, rfl, ?_⟩, put hb3 (by simp) _⟩
    exact ownsRow_base (ownsRow_setCell_below hown lr _) hb2.size
  · rw [renameR_some hall hk hfa]
    have hk4 : k < 4 := by have := hd.1; omega
    have HF := Lib.hid hfa
    have HL : Hid ((fs.eraseIdx k).length ≤ 1048576) := by have := HN.out; have := List.length_eraseIdx_le fs k; unfold Hid; omega
    have okE : ∀ f ∈ fs.eraseIdx k, f.ok := fun f hf => okA f (List.mem_of_mem_eraseIdx hf)
    clear hfa hd hm hall okA
    go_enter Try.func51, Try.ntmps51
    have kv0 := (Kc.new rfl rfl : Kc (w.alloc (.cells #[.slice Av fs.length cv] 29)) ⟨w.heap.size, 0, none⟩ (.slice Av fs.length cv)).bx (.cells #[.slice none 0 0] 29)
    have kr0 : Kc ((w.alloc (.cells #[.slice Av fs.length cv] 29)).alloc (.cells #[.slice none 0 0] 29)) ⟨w.heap.size + 1, 0, none⟩ (.slice none 0 0) := Kc.new (by simp) rfl
    go_wp2_with fail
    refine (implFileAt_any _ fs fr _ (h.go (box (box (bel0 w) _) _))).mono ?_
    rintro e w1 ⟨rfl, hb'⟩
    have hb1 := stp (box (box (bel0 w) _) _) hb'
    have kv1 := kv0.go hb'
    have kr1 := kr0.go hb'
    clear hb' kv0 kr0
    rw [HF.out]
    have c1 := kv1.1
    go_wp2_with fail
    refine (implDiskOk_any _ fs true (by simpa using HD.out) _ (h.go hb1)).mono ?_
    rintro e w2 ⟨rfl, hb'⟩
    clear c1
    have hb2 := stp hb1 hb'
    have kv2 := kv1.go hb'
    have kr2 := kr1.go hb'
    clear hb' kv1 kr1
    have c1 := kv2.1
    go_wp2_with fail
    refine (implNameOk_t nm hs_nm.out HM.out _).mono ?_
    rintro e w3 ⟨rfl, rfl⟩
    clear c1
    obtain ⟨b, o, rfl, hbb, hcs, hokk⟩ := sl_at h hk
    have hcs2 := hcs.keep (hb2.block b hbb)
    have g0 := hcs2.c0
    have g1 := hcs2.c1
    have g2 := hcs2.c2
    clear hcs hcs2
    have c1 := kv2.1
    have l1 := kv2.lt
    have q1 : (k : Int) < (fs.length : Int) := by omega
    have q2 : (0 : Int) ≤ (k : Int) := by omega
    have HE := Lib.hid okE
    clear okE
    go_wp2_with fail
    refine (copyDisk_any _ fs _ (h.go (box hb2 _)) HN.out).mono ?_
    rintro e w3 ⟨⟨u, rfl, hown⟩, hb'⟩
    obtain ⟨A, c, rfl⟩ := own_form hown
    have hlow : Hid (∀ k, (Value.slice A fs.length c).ownBlock = some k → w2.heap.size + 1 ≤ k ∧ k < w3.heap.size) := fun k hk => by have := World.ownsRow.lt hown k hk; simp at this; omega
    have hb3 := stp (box hb2 _) hb'
    have kr3 := (kr2.bx (.cells #[.string nm, .string fs[k].text, .int .i64 fs[k].synced] 66)).go hb'
    have kf0 := (Kc.new rfl rfl : Kc (w2.alloc (.cells #[.string nm, .string fs[k].text, .int .i64 fs[k].synced] 66)) ⟨w2.heap.size, 0, none⟩ (.string nm)).go hb'
    have kf1 := (Kc.new rfl rfl : Kc (w2.alloc (.cells #[.string nm, .string fs[k].text, .int .i64 fs[k].synced] 66)) ⟨w2.heap.size, 1, none⟩ (.string fs[k].text)).go hb'
    have kf2 := (Kc.new rfl rfl : Kc (w2.alloc (.cells #[.string nm, .string fs[k].text, .int .i64 fs[k].synced] 66)) ⟨w2.heap.size, 2, none⟩ (.int .i64 fs[k].synced)).go hb'
    have hz2 : w.heap.size + 1 < w2.heap.size := kr2.lt
    have hz3 := hb'.size
    rw [World.size_alloc] at hz3
    clear hb' g0 g1 g2 c1 l1 kv2 kr2
    go_wp2_with fail
    refine (deleteFile_any _ fs k _ hk _ (hown.alloc (.cells #[.slice A fs.length c] 29)) HN.out).mono ?_
    rintro e w4 ⟨⟨u, rfl, hloc, ho4⟩, hg⟩
    obtain ⟨A4, p4, rfl⟩ := own_form ho4
    have hb4 := bel_grown (box hb3 _) hg (fun k hk => by have := hlow.out k hk; omega)
    have kr4 := Kc.grown (kr3.bx (.cells #[.slice A fs.length c] 29)) hg (fun k hk => by have := hlow.out k hk; omega)
    have kf04 := Kc.grown (kf0.bx (.cells #[.slice A fs.length c] 29)) hg (fun k hk => by have := hlow.out k hk; omega)
    have kf14 := Kc.grown (kf1.bx (.cells #[.slice A fs.length c] 29)) hg (fun k hk => by have := hlow.out k hk; omega)
    have kf24 := Kc.grown (kf2.bx (.cells #[.slice A fs.length c] 29)) hg (fun k hk => by have := hlow.out k hk; omega)
    have ko4 := Kc.grown (Kc.new rfl rfl : Kc (w3.alloc (.cells #[.slice A fs.length c] 29)) ⟨w3.heap.size, 0, none⟩ (.slice A fs.length c)) hg (fun k hk => by have := hlow.out k hk; omega)
    have hz4 := hg.size
    rw [World.size_alloc] at hz4
    have HL2 := Lib.hid hloc
    have hlow4 : Hid (∀ j, (Value.slice A4 (fs.eraseIdx k).length p4).ownBlock = some j → w2.heap.size + 1 ≤ j ∧ j < w3.heap.size) := fun j hj => hlow.out j (hloc ▸ hj)
    clear hg kr3 kf0 kf1 kf2 hloc
    have c4 := ko4.1
    have f4 := ko4.2
    have c5 := kf04.1
    have c6 := kf14.1
    have c7 := kf24.1
    have l5 := kf04.lt
    have l4 := ko4.lt
    have hne : w3.heap.size ≠ w2.heap.size := by omega
    have hne2 : w2.heap.size ≠ w3.heap.size := by omega
    have ho5 := own_set_far ho4 (g := w3.heap.size) (o := 0) (fun j hj => by have := hlow4.out j hj; omega) (.slice A4 (fs.eraseIdx k).length p4)
    go_wp2_with fail
    refine (withFile_any _ _ nm fs[k].text fs[k].synced _ (own_reads FileD.len ho5 (Nat.le_refl _) HE.out) HL.out (asc_erase HD.out k nm)).mono ?_
    rintro e w5 ⟨⟨u, rfl, ho6⟩, hb'⟩
    unfold GivesD at ho6
    obtain ⟨A6, p6, rfl⟩ := own_form ho6
    have hb5 := stp (put hb4 (by simp; omega) _) hb'
    have kr5 := (kr4.other (b := ⟨w3.heap.size, 0, none⟩) (by simp; omega) (.slice A4 (fs.eraseIdx k).length p4)).go hb'
    have lr5 := (kr4.other (b := ⟨w3.heap.size, 0, none⟩) (by simp; omega) (.slice A4 (fs.eraseIdx k).length p4)).lt
    have c8 := kr5.1
    have f8 := kr5.2
    clear hb' c4 c5 c6 c7 l4 l5
    go_wp2
    refine bodyPost_ret (v := .tuple #[.agg #[.slice A6 (layR (fs.eraseIdx k) ⟨nm, fs[k].text, fs[k].synced⟩).length p6], .int .i64 0]) (by simp [results, Try.results51, go_sem, c8]) rfl ⟨⟨_, rfl, ?_⟩, put hb5 (by simp) _⟩
    exact ownsRow_base (ownsRow_setCell_below ho6 lr5 _) (by have := (put hb4 (p := ⟨w3.heap.size, 0, none⟩) (by simp; omega) (.slice A4 (fs.eraseIdx k).length p4)).size; simpa using this)

end Go.Proofs.Ytepachoampdhiaa
