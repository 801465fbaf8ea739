/- SyncFile: of the program and of the reference. -/
import Derived.Test.YtepachoampdhiaaDiskD
namespace Go.Proofs.Ytepachoampdhiaa
open Go.RowKit

def FileD.sync (f : FileD) : FileD := ⟨f.name, f.text, f.text.size⟩
open Classical in
noncomputable def syncR (fs : List FileD) (nm : ByteArray) : List FileD × Int :=
  if DiskP fs then (if fileAt fs nm < 0 then (fs, 2) else (fs.modify (fileAt fs nm).toNat FileD.sync, 0)) else (fs, 1)
theorem syncR_bad {fs : List FileD} {nm : ByteArray} (h : ¬ DiskP fs) : syncR fs nm = (fs, 1) := by unfold syncR; rw [if_neg h]
theorem syncR_none {fs : List FileD} {nm : ByteArray} (h : DiskP fs) (h1 : fileAt fs nm = -1) : syncR fs nm = (fs, 2) := by unfold syncR; rw [if_pos h, h1]; rfl
theorem syncR_some {fs : List FileD} {nm : ByteArray} (h : DiskP fs) {k : Nat} (h1 : fileAt fs nm = k) : syncR fs nm = (fs.modify k FileD.sync, 0) := by
  unfold syncR
  rw [if_pos h, h1, if_neg (by omega), Int.toNat_natCast]

theorem sync_len (fs : List FileD) (k : Nat) : (fs.modify k FileD.sync).length = fs.length := List.length_modify ..
theorem syncR_len (fs : List FileD) (nm : ByteArray) (h : fs.length ≤ 1048576) : (syncR fs nm).1.length ≤ 1048577 := by
  unfold syncR
  split
  · split
    · exact Nat.le_succ_of_le h
    · show (fs.modify _ _).length ≤ _
      rw [List.length_modify]; omega
  · exact Nat.le_succ_of_le h
theorem FileD.sync_ok {f : FileD} (h : f.ok) : f.sync.ok := by
  obtain ⟨h1, h2, h3, h4⟩ := h
  refine ⟨h1, h2, ?_, ?_⟩ <;> unfold maxLen at h2 <;> simp only [FileD.sync] <;> omega
theorem syncR_ok (fs : List FileD) (nm : ByteArray) (h : ∀ f ∈ fs, f.ok) : ∀ f ∈ (syncR fs nm).1, f.ok := by
  unfold syncR
  split
  · split
    · exact h
    · intro f hf
      obtain ⟨i, hi, rfl⟩ := List.getElem_of_mem hf
      rw [List.getElem_modify]
      split
      · exact FileD.sync_ok (h _ (List.getElem_mem _))
      · exact h _ (List.getElem_mem _)
  · exact h

/-- The cells of a row behind a file's synced mark. -/
theorem cells_sync : ∀ (fs : List FileD) (k : Nat) (hk : k < fs.length), (fs.flatMap FileD.cells).set (k * 3 + 2) (.int .i64 fs[k].text.size) = (fs.modify k FileD.sync).flatMap FileD.cells
  | [], k, hk => by simp at hk
  | f :: fs, 0, _ => by simp [FileD.cells, FileD.sync]
  | f :: fs, k + 1, hk => by
    have ih := cells_sync fs k (by simpa using hk)
    rw [List.modify_succ_cons, List.flatMap_cons, List.flatMap_cons, List.getElem_cons_succ, ← ih, List.set_append_right _ _ (by rw [FileD.len]; omega), FileD.len]
    congr 2
    omega

-- the walks
set_option maxHeartbeats 2000000 in
theorem specSync_any (v : Value) (fs : List FileD) (nm : ByteArray) (w : World) (h : FilesR w w.heap.size v fs) (hn : fs.length ≤ 1048576) :
    Calls Try.prog 32 #[.agg #[v], .string nm] w fun e w' => (∃ u, e = .returned (.tuple #[.agg #[u], .int .i64 (syncR fs nm).2]) ∧ GivesD w (syncR fs nm).1 u w') ∧ Below w.heap.size w w' := by
  have HN := Lib.hid hn
  clear hn
  by_cases hd : DiskP fs
  · have HD : Hid (DiskP fs) := hd
    rcases fileAt_cases fs nm with ⟨hfa, _⟩ | ⟨k, hk, hfa, _⟩
    · rw [syncR_none hd hfa]
      have HF := Lib.hid hfa
      clear hfa hd
      go_enter Try.func32, Try.ntmps32
      go_wp2_with fail
      refine (l29Copy_any _ fs _ (h.go (box (box (bel0 w) _) _)) HN.out).mono ?_
      rintro e w1 ⟨⟨u, rfl, hown⟩, hb'⟩
      obtain ⟨A, c, rfl⟩ := own_form hown
      have hb1 := stp (box (box (bel0 w) _) _) hb'
      have kv1 := ((Kc.new rfl rfl : Kc (w.alloc (.cells #[v] 29)) ⟨w.heap.size, 0, none⟩ v).bx (.cells #[.slice none 0 0] 29)).go hb'
      have kr1 := (Kc.new (by simp) rfl : Kc ((w.alloc (.cells #[v] 29)).alloc (.cells #[.slice none 0 0] 29)) ⟨w.heap.size + 1, 0, none⟩ (.slice none 0 0)).go hb'
      clear hb'
      have c1 := kv1.1
      have l1 := Kc.lt kv1
      go_wp2_with fail
      refine (specDiskOk_any _ fs true (by simpa using HD.out) _ (h.go (box hb1 _))).mono ?_
      rintro e w2 ⟨rfl, hb'⟩
      have hb2 := stp (box hb1 _) hb'
      have kv2 := (kv1.bx (.cells #[.slice A fs.length c] 29)).go hb'
      have kr2 := (kr1.bx (.cells #[.slice A fs.length c] 29)).go hb'
      have ko2 := (Kc.new rfl rfl : Kc (w1.alloc (.cells #[.slice A fs.length c] 29)) ⟨w1.heap.size, 0, none⟩ (.slice A fs.length c)).go hb'
      have ho2 := ownsRow_below (hown.alloc (.cells #[.slice A fs.length c] 29)) hb' (Nat.le_refl _)
      clear hb' c1 l1 kr1 hown kv1
      have c2 := kv2.1
      go_wp2_with fail
      refine (specFileAt_any _ fs nm _ (h.go (hb2))).mono ?_
      rintro e w3 ⟨rfl, hb'⟩
      have hb3 := stp (hb2) hb'
      have kv3 := kv2.go hb'
      have kr3 := kr2.go hb'
      have ko3 := ko2.go hb'
      have ho3 := ownsRow_below ho2 hb' (Nat.le_refl _)
      clear hb' c2 kv2 kr2 ko2 ho2
      rw [HF.out]
      have c2 := ko3.1
      have c3 := kr3.1
      have f3 := kr3.2
      go_wp2
      refine bodyPost_ret (v := .tuple #[.agg #[.slice A fs.length c], .int .i64 2]) (by simp [results, Try.results32, go_sem, c3]) rfl ⟨⟨_, rfl, ?_⟩, put hb3 (by simp) _⟩
      exact ownsRow_base (ownsRow_setCell_below ho3 (by simp) _) (by simp; omega)
    · rw [syncR_some hd hfa]
      have HF := Lib.hid hfa
      clear hfa hd
      go_enter Try.func32, Try.ntmps32
      go_wp2_with fail
      refine (l29Copy_any _ fs _ (h.go (box (box (bel0 w) _) _)) HN.out).mono ?_
      rintro e w1 ⟨⟨u, rfl, hown⟩, hb'⟩
      obtain ⟨A, c, rfl⟩ := own_form hown
      obtain ⟨g, rfl, hgb, hgl⟩ := own_some hown (by omega)
      simp at hgb
      have hb1 := stp (box (box (bel0 w) _) _) hb'
      have kv1 := ((Kc.new rfl rfl : Kc (w.alloc (.cells #[v] 29)) ⟨w.heap.size, 0, none⟩ v).bx (.cells #[.slice none 0 0] 29)).go hb'
      have kr1 := (Kc.new (by simp) rfl : Kc ((w.alloc (.cells #[v] 29)).alloc (.cells #[.slice none 0 0] 29)) ⟨w.heap.size + 1, 0, none⟩ (.slice none 0 0)).go hb'
      clear hb'
      have c1 := kv1.1
      have l1 := Kc.lt kv1
      go_wp2_with fail
      refine (specDiskOk_any _ fs true (by simpa using HD.out) _ (h.go (box hb1 _))).mono ?_
      rintro e w2 ⟨rfl, hb'⟩
      have hb2 := stp (box hb1 _) hb'
      have kv2 := (kv1.bx (.cells #[.slice (some ⟨g, 0, none⟩) fs.length c] 29)).go hb'
      have kr2 := (kr1.bx (.cells #[.slice (some ⟨g, 0, none⟩) fs.length c] 29)).go hb'
      have ko2 := (Kc.new rfl rfl : Kc (w1.alloc (.cells #[.slice (some ⟨g, 0, none⟩) fs.length c] 29)) ⟨w1.heap.size, 0, none⟩ (.slice (some ⟨g, 0, none⟩) fs.length c)).go hb'
      have ho2 := ownsRow_below (hown.alloc (.cells #[.slice (some ⟨g, 0, none⟩) fs.length c] 29)) hb' (Nat.le_refl _)
      clear hb' c1 l1 kr1 hown kv1
      have c2 := kv2.1
      go_wp2_with fail
      refine (specFileAt_any _ fs nm _ (h.go (hb2))).mono ?_
      rintro e w3 ⟨rfl, hb'⟩
      have hb3 := stp (hb2) hb'
      have kv3 := kv2.go hb'
      have kr3 := kr2.go hb'
      have ko3 := ko2.go hb'
      have ho3 := ownsRow_below ho2 hb' (Nat.le_refl _)
      clear hb' c2 kv2 kr2 ko2 ho2
      rw [HF.out]
      have c1 := kv3.1
      have c2 := ko3.1
      have c3 := kr3.1
      have f3 := kr3.2
      obtain ⟨Av, cv, rfl, hcv, hmv, hv⟩ := h
      unfold maxLen at hmv
      obtain ⟨b, o, cs, rfl, hbb, hl, hcs, rfl, hok⟩ := hv k hk
      have g1 := (hcs.keep (hb3.block b hbb)).c1
      clear hv hcs hl
      have f0 := ho3.frozenAt (k * 3 + 2)
      obtain ⟨u2, d2⟩ := own_cell ho3 (k * 3 + 2) (by omega)
      have d1 : w3.cell? ⟨g, k * 3 + 1, none⟩ = some (.string fs[k].text) := by rw [ho3.cellAt _ (by omega)]; exact flatMap_at FileD.cells 3 FileD.len fs k 1 hk (by omega)
      go_wp2
      go_region
      go_wp2
      refine bodyPost_ret (v := .tuple #[.agg #[.slice (some ⟨g, 0, none⟩) fs.length c], .int .i64 0]) (by simp [results, Try.results32, go_sem, c3]) rfl ⟨⟨_, rfl, ?_⟩, drw (put (put hb3 (by simp; omega) _) (by simp) _)⟩
      unfold GivesD
      rw [List.length_modify, ← cells_sync fs k hk]
      exact (ownsRow_base (ownsRow_setCell_below (ho3.stored (k * 3 + 2) _).1 (by simp) _) (by simp; omega)).drew
  · have HD : Hid (¬ DiskP fs) := hd
    rw [syncR_bad hd]
    clear hd
    go_enter Try.func32, Try.ntmps32
    go_wp2_with fail
    refine (l29Copy_any _ fs _ (h.go (box (box (bel0 w) _) _)) HN.out).mono ?_
    rintro e w1 ⟨⟨u, rfl, hown⟩, hb'⟩
    obtain ⟨A, c, rfl⟩ := own_form hown
    have hb1 := stp (box (box (bel0 w) _) _) hb'
    have kv1 := ((Kc.new rfl rfl : Kc (w.alloc (.cells #[v] 29)) ⟨w.heap.size, 0, none⟩ v).bx (.cells #[.slice none 0 0] 29)).go hb'
    have kr1 := (Kc.new (by simp) rfl : Kc ((w.alloc (.cells #[v] 29)).alloc (.cells #[.slice none 0 0] 29)) ⟨w.heap.size + 1, 0, none⟩ (.slice none 0 0)).go hb'
    clear hb'
    have c1 := kv1.1
    have l1 := Kc.lt kv1
    go_wp2_with fail
    refine (specDiskOk_any _ fs false (by simpa using HD.out) _ (h.go (box hb1 _))).mono ?_
    rintro e w2 ⟨rfl, hb'⟩
    have hb2 := stp (box hb1 _) hb'
    have kv2 := (kv1.bx (.cells #[.slice A fs.length c] 29)).go hb'
    have kr2 := (kr1.bx (.cells #[.slice A fs.length c] 29)).go hb'
    have ko2 := (Kc.new rfl rfl : Kc (w1.alloc (.cells #[.slice A fs.length c] 29)) ⟨w1.heap.size, 0, none⟩ (.slice A fs.length c)).go hb'
    have ho2 := ownsRow_below (hown.alloc (.cells #[.slice A fs.length c] 29)) hb' (Nat.le_refl _)
    clear hb' c1 l1 kr1 hown kv1
    have c2 := ko2.1
    have c3 := kr2.1
    have f3 := kr2.2
    go_wp2
    refine bodyPost_ret (v := .tuple #[.agg #[.slice A fs.length c], .int .i64 1]) (by simp [results, Try.results32, go_sem, c3]) rfl ⟨⟨_, rfl, ?_⟩, put hb2 (by simp) _⟩
    exact ownsRow_base (ownsRow_setCell_below ho2 (by simp) _) (by simp; omega)

set_option maxHeartbeats 2000000 in
theorem implSync_any (v : Value) (fs : List FileD) (nm : ByteArray) (w : World) (h : FilesR w w.heap.size v fs) (hn : fs.length ≤ 1048576) :
    Calls Try.prog 33 #[.agg #[v], .string nm] w fun e w' => (∃ u, e = .returned (.tuple #[.agg #[u], .int .i64 (syncR fs nm).2]) ∧ GivesD w (syncR fs nm).1 u w') ∧ Below w.heap.size w w' := by
  have HN := Lib.hid hn
  clear hn
  by_cases hd : DiskP fs
  · have HD : Hid (DiskP fs) := hd
    rcases fileAt_cases fs nm with ⟨hfa, _⟩ | ⟨k, hk, hfa, _⟩
    · rw [syncR_none hd hfa]
      have HF := Lib.hid hfa
      clear hfa hd
      go_enter Try.func33, Try.ntmps33
      go_wp2_with fail
      refine (copyDisk_any _ fs _ (h.go (box (box (bel0 w) _) _)) HN.out).mono ?_
      rintro e w1 ⟨⟨u, rfl, hown⟩, hb'⟩
      obtain ⟨A, c, rfl⟩ := own_form hown
      have hb1 := stp (box (box (bel0 w) _) _) hb'
      have kv1 := ((Kc.new rfl rfl : Kc (w.alloc (.cells #[v] 29)) ⟨w.heap.size, 0, none⟩ v).bx (.cells #[.slice none 0 0] 29)).go hb'
      have kr1 := (Kc.new (by simp) rfl : Kc ((w.alloc (.cells #[v] 29)).alloc (.cells #[.slice none 0 0] 29)) ⟨w.heap.size + 1, 0, none⟩ (.slice none 0 0)).go hb'
      clear hb'
      have c1 := kv1.1
      have l1 := Kc.lt kv1
      go_wp2_with fail
      refine (implFileAt_any _ fs nm _ (h.go (box hb1 _))).mono ?_
      rintro e w2 ⟨rfl, hb'⟩
      have hb2 := stp (box hb1 _) hb'
      have kv2 := (kv1.bx (.cells #[.slice A fs.length c] 29)).go hb'
      have kr2 := (kr1.bx (.cells #[.slice A fs.length c] 29)).go hb'
      have ko2 := (Kc.new rfl rfl : Kc (w1.alloc (.cells #[.slice A fs.length c] 29)) ⟨w1.heap.size, 0, none⟩ (.slice A fs.length c)).go hb'
      have ho2 := ownsRow_below (hown.alloc (.cells #[.slice A fs.length c] 29)) hb' (Nat.le_refl _)
      clear hb' c1 l1 kr1 hown kv1
      rw [HF.out]
      have c2 := kv2.1
      go_wp2_with fail
      refine (implDiskOk_any _ fs true (by simpa using HD.out) _ (h.go (hb2))).mono ?_
      rintro e w3 ⟨rfl, hb'⟩
      have hb3 := stp (hb2) hb'
      have kv3 := kv2.go hb'
      have kr3 := kr2.go hb'
      have ko3 := ko2.go hb'
      have ho3 := ownsRow_below ho2 hb' (Nat.le_refl _)
      clear hb' c2 kv2 kr2 ko2 ho2
      have c2 := ko3.1
      have c3 := kr3.1
      have f3 := kr3.2
      go_wp2
      refine bodyPost_ret (v := .tuple #[.agg #[.slice A fs.length c], .int .i64 2]) (by simp [results, Try.results33, go_sem, c3]) rfl ⟨⟨_, rfl, ?_⟩, put hb3 (by simp) _⟩
      exact ownsRow_base (ownsRow_setCell_below ho3 (by simp) _) (by simp; omega)
    · rw [syncR_some hd hfa]
      have HF := Lib.hid hfa
      clear hfa hd
      go_enter Try.func33, Try.ntmps33
      go_wp2_with fail
      refine (copyDisk_any _ fs _ (h.go (box (box (bel0 w) _) _)) HN.out).mono ?_
      rintro e w1 ⟨⟨u, rfl, hown⟩, hb'⟩
      obtain ⟨A, c, rfl⟩ := own_form hown
      obtain ⟨g, rfl, hgb, hgl⟩ := own_some hown (by omega)
      simp at hgb
      have hb1 := stp (box (box (bel0 w) _) _) hb'
      have kv1 := ((Kc.new rfl rfl : Kc (w.alloc (.cells #[v] 29)) ⟨w.heap.size, 0, none⟩ v).bx (.cells #[.slice none 0 0] 29)).go hb'
      have kr1 := (Kc.new (by simp) rfl : Kc ((w.alloc (.cells #[v] 29)).alloc (.cells #[.slice none 0 0] 29)) ⟨w.heap.size + 1, 0, none⟩ (.slice none 0 0)).go hb'
      clear hb'
      have c1 := kv1.1
      have l1 := Kc.lt kv1
      go_wp2_with fail
      refine (implFileAt_any _ fs nm _ (h.go (box hb1 _))).mono ?_
      rintro e w2 ⟨rfl, hb'⟩
      have hb2 := stp (box hb1 _) hb'
      have kv2 := (kv1.bx (.cells #[.slice (some ⟨g, 0, none⟩) fs.length c] 29)).go hb'
      have kr2 := (kr1.bx (.cells #[.slice (some ⟨g, 0, none⟩) fs.length c] 29)).go hb'
      have ko2 := (Kc.new rfl rfl : Kc (w1.alloc (.cells #[.slice (some ⟨g, 0, none⟩) fs.length c] 29)) ⟨w1.heap.size, 0, none⟩ (.slice (some ⟨g, 0, none⟩) fs.length c)).go hb'
      have ho2 := ownsRow_below (hown.alloc (.cells #[.slice (some ⟨g, 0, none⟩) fs.length c] 29)) hb' (Nat.le_refl _)
      clear hb' c1 l1 kr1 hown kv1
      rw [HF.out]
      have c2 := kv2.1
      go_wp2_with fail
      refine (implDiskOk_any _ fs true (by simpa using HD.out) _ (h.go (hb2))).mono ?_
      rintro e w3 ⟨rfl, hb'⟩
      have hb3 := stp (hb2) hb'
      have kv3 := kv2.go hb'
      have kr3 := kr2.go hb'
      have ko3 := ko2.go hb'
      have ho3 := ownsRow_below ho2 hb' (Nat.le_refl _)
      clear hb' c2 kv2 kr2 ko2 ho2
      have c1 := kv3.1
      have c2 := ko3.1
      have c3 := kr3.1
      have f3 := kr3.2
      obtain ⟨Av, cv, rfl, hcv, hmv, hv⟩ := h
      unfold maxLen at hmv
      obtain ⟨b, o, cs, rfl, hbb, hl, hcs, rfl, hok⟩ := hv k hk
      clear hv hcs hl
      have f0 := ho3.frozenAt (k * 3 + 2)
      obtain ⟨u2, d2⟩ := own_cell ho3 (k * 3 + 2) (by omega)
      have d1 : w3.cell? ⟨g, k * 3 + 1, none⟩ = some (.string fs[k].text) := by rw [ho3.cellAt _ (by omega)]; exact flatMap_at FileD.cells 3 FileD.len fs k 1 hk (by omega)
      go_wp2
      go_region
      go_wp2
      refine bodyPost_ret (v := .tuple #[.agg #[.slice (some ⟨g, 0, none⟩) fs.length c], .int .i64 0]) (by simp [results, Try.results33, go_sem, c3]) rfl ⟨⟨_, rfl, ?_⟩, drw (put (put hb3 (by simp; omega) _) (by simp) _)⟩
      unfold GivesD
      rw [List.length_modify, ← cells_sync fs k hk]
      exact (ownsRow_base (ownsRow_setCell_below (ho3.stored (k * 3 + 2) _).1 (by simp) _) (by simp; omega)).drew
  · have HD : Hid (¬ DiskP fs) := hd
    rw [syncR_bad hd]
    clear hd
    go_enter Try.func33, Try.ntmps33
    go_wp2_with fail
    refine (copyDisk_any _ fs _ (h.go (box (box (bel0 w) _) _)) HN.out).mono ?_
    rintro e w1 ⟨⟨u, rfl, hown⟩, hb'⟩
    obtain ⟨A, c, rfl⟩ := own_form hown
    have hb1 := stp (box (box (bel0 w) _) _) hb'
    have kv1 := ((Kc.new rfl rfl : Kc (w.alloc (.cells #[v] 29)) ⟨w.heap.size, 0, none⟩ v).bx (.cells #[.slice none 0 0] 29)).go hb'
    have kr1 := (Kc.new (by simp) rfl : Kc ((w.alloc (.cells #[v] 29)).alloc (.cells #[.slice none 0 0] 29)) ⟨w.heap.size + 1, 0, none⟩ (.slice none 0 0)).go hb'
    clear hb'
    have c1 := kv1.1
    have l1 := Kc.lt kv1
    go_wp2_with fail
    refine (implFileAt_any _ fs nm _ (h.go (box hb1 _))).mono ?_
    rintro e w2 ⟨rfl, hb'⟩
    have hb2 := stp (box hb1 _) hb'
    have kv2 := (kv1.bx (.cells #[.slice A fs.length c] 29)).go hb'
    have kr2 := (kr1.bx (.cells #[.slice A fs.length c] 29)).go hb'
    have ko2 := (Kc.new rfl rfl : Kc (w1.alloc (.cells #[.slice A fs.length c] 29)) ⟨w1.heap.size, 0, none⟩ (.slice A fs.length c)).go hb'
    have ho2 := ownsRow_below (hown.alloc (.cells #[.slice A fs.length c] 29)) hb' (Nat.le_refl _)
    clear hb' c1 l1 kr1 hown kv1
    have c2 := kv2.1
    go_wp2_with fail
    refine (implDiskOk_any _ fs false (by simpa using HD.out) _ (h.go (hb2))).mono ?_
    rintro e w3 ⟨rfl, hb'⟩
    have hb3 := stp (hb2) hb'
    have kv3 := kv2.go hb'
    have kr3 := kr2.go hb'
    have ko3 := ko2.go hb'
    have ho3 := ownsRow_below ho2 hb' (Nat.le_refl _)
    clear hb' c2 kv2 kr2 ko2 ho2
    have c2 := ko3.1
    have c3 := kr3.1
    have f3 := kr3.2
    go_wp2
    refine bodyPost_ret (v := .tuple #[.agg #[.slice A fs.length c], .int .i64 1]) (by simp [results, Try.results33, go_sem, c3]) rfl ⟨⟨_, rfl, ?_⟩, put hb3 (by simp) _⟩
    exact ownsRow_base (ownsRow_setCell_below ho3 (by simp) _) (by simp; omega)

end Go.Proofs.Ytepachoampdhiaa
