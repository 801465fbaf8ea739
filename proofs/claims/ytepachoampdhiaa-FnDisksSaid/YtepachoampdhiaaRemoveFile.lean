/- RemoveFile: of the program and of the reference. -/
import Derived.Test.YtepachoampdhiaaRemove
import Derived.Test.YtepachoampdhiaaDelete
namespace Go.Proofs.Ytepachoampdhiaa
open Go.RowKit

theorem own_set_far {w : World} {base n size : Nat} {e : TypeId} {v : Value} {xs : List Value} (h : w.ownsRow base e size v n xs) {g o : Nat} (hne : ∀ j, v.ownBlock = some j → g ≠ j) (u : Value) : (w.setCell ⟨g, o, none⟩ u).ownsRow base e size v n xs :=
  own_far h (grown_set (World.grownBy.refl w (some g)) o u) (fun k j hk hj => by injection hk with hk; subst hk; exact hne j hj)

open Classical in
noncomputable def removeR (fs : List FileD) (nm : ByteArray) : List FileD × Int :=
  if DiskP fs then (if fileAt fs nm < 0 then (fs, 2) else (fs.eraseIdx (fileAt fs nm).toNat, 0)) else (fs, 1)
theorem removeR_bad {fs : List FileD} {nm : ByteArray} (h : ¬ DiskP fs) : removeR fs nm = (fs, 1) := by unfold removeR; rw [if_neg h]
theorem removeR_none {fs : List FileD} {nm : ByteArray} (h : DiskP fs) (h1 : fileAt fs nm = -1) : removeR fs nm = (fs, 2) := by unfold removeR; rw [if_pos h, h1]; rfl
theorem removeR_some {fs : List FileD} {nm : ByteArray} (h : DiskP fs) {k : Nat} (h1 : fileAt fs nm = k) : removeR fs nm = (fs.eraseIdx k, 0) := by
  unfold removeR
  rw [if_pos h, h1, if_neg (by omega), Int.toNat_natCast]
theorem removeR_len (fs : List FileD) (nm : ByteArray) (h : fs.length ≤ 1048576) : (removeR fs nm).1.length ≤ 1048577 := by
  unfold removeR
  split
  · split
    · exact Nat.le_succ_of_le h
    · show (fs.eraseIdx _).length ≤ _
      have := List.length_eraseIdx_le fs (fileAt fs nm).toNat
      omega
  · exact Nat.le_succ_of_le h
theorem removeR_ok (fs : List FileD) (nm : ByteArray) (h : ∀ f ∈ fs, f.ok) : ∀ f ∈ (removeR fs nm).1, f.ok := by
  unfold removeR
  split
  · split
    · exact h
    · intro f hf
      exact h f (List.mem_of_mem_eraseIdx hf)
  · exact h

-- the walks
set_option maxHeartbeats 2000000 in
theorem specRemove_any (v : Value) (fs : List FileD) (nm : ByteArray) (w : World) (h : FilesR w w.heap.size v fs) (hn : fs.length ≤ 1048576) :
    Calls Try.prog 36 #[.agg #[v], .string nm] w fun e w' => (∃ u, e = .returned (.tuple #[.agg #[u], .int .i64 (removeR fs nm).2]) ∧ GivesD w (removeR fs nm).1 u w') ∧ Below w.heap.size w w' := by
  have HN := Lib.hid hn
  clear hn
  by_cases hd : DiskP fs
  · have HD : Hid (DiskP fs) := hd
    rcases fileAt_cases fs nm with ⟨hfa, _⟩ | ⟨k, hk, hfa, _⟩
    · rw [removeR_none hd hfa]
      have HF := Lib.hid hfa
      clear hfa hd
      go_enter Try.func36, Try.ntmps36
      have kv0 := (Kc.new rfl rfl : Kc (w.alloc (.cells #[v] 29)) ⟨w.heap.size, 0, none⟩ v).bx (.cells #[.slice none 0 0] 29)
      have kr0 : Kc ((w.alloc (.cells #[v] 29)).alloc (.cells #[.slice none 0 0] 29)) ⟨w.heap.size + 1, 0, none⟩ (.slice none 0 0) := Kc.new (by simp) rfl
      go_wp2_with fail
      refine (specDiskOk_any _ fs true (by simpa using HD.out) _ (h.go (box (box (bel0 w) _) _))).mono ?_
      rintro e w1 ⟨rfl, hb'⟩
      have hb1 := stp (box (box (bel0 w) _) _) hb'
      have kv1 := kv0.go hb'
      have kr1 := kr0.go hb'
      clear hb' kv0 kr0
      have c1 := kv1.1
      go_wp2_with fail
      refine (specFileAt_any _ fs nm _ (h.go hb1)).mono ?_
      rintro e w2 ⟨rfl, hb'⟩
      have hb2 := stp hb1 hb'
      have kv2 := kv1.go hb'
      have kr2 := kr1.go hb'
      clear hb' kv1 kr1 c1
      rw [HF.out]
      have c1 := kv2.1
      go_wp2_with fail
      refine (l29Copy_any _ fs _ (h.go hb2) HN.out).mono ?_
      rintro e w3 ⟨⟨u, rfl, hown⟩, hb'⟩
      unfold GivesD at hown
      obtain ⟨A, c, rfl⟩ := own_form hown
      have hb3 := stp hb2 hb'
      have kr3 := kr2.go hb'
      have lr := Kc.lt kr2
      clear hb'
      have c3 := kr3.1
      have f3 := kr3.2
      go_wp2
      refine bodyPost_ret (v := .tuple #[.agg #[.slice A fs.length c], .int .i64 2]) (by simp [results, Try.results36, go_sem, c3]) rfl ⟨⟨_, rfl, ?_⟩, put hb3 (by simp) _⟩
      exact ownsRow_base (ownsRow_setCell_below hown lr _) hb2.size
    · rw [removeR_some hd hfa]
      have hk4 : k < 4 := by have := hd.1; omega
      have HF := Lib.hid hfa
      clear hfa hd
      go_enter Try.func36, Try.ntmps36
      have kv0 := (Kc.new rfl rfl : Kc (w.alloc (.cells #[v] 29)) ⟨w.heap.size, 0, none⟩ v).bx (.cells #[.slice none 0 0] 29)
      have kr0 : Kc ((w.alloc (.cells #[v] 29)).alloc (.cells #[.slice none 0 0] 29)) ⟨w.heap.size + 1, 0, none⟩ (.slice none 0 0) := Kc.new (by simp) rfl
      go_wp2_with fail
      refine (specDiskOk_any _ fs true (by simpa using HD.out) _ (h.go (box (box (bel0 w) _) _))).mono ?_
      rintro e w1 ⟨rfl, hb'⟩
      have hb1 := stp (box (box (bel0 w) _) _) hb'
      have kv1 := kv0.go hb'
      have kr1 := kr0.go hb'
      clear hb' kv0 kr0
      have c1 := kv1.1
      go_wp2_with fail
      refine (specFileAt_any _ fs nm _ (h.go hb1)).mono ?_
      rintro e w2 ⟨rfl, hb'⟩
      have hb2 := stp hb1 hb'
      have kv2 := kv1.go hb'
      have kr2 := kr1.go hb'
      clear hb' kv1 kr1 c1
      rw [HF.out]
      have c1 := kv2.1
      go_wp2_with fail
      refine (l29Without_any _ fs k hk _ (h.go hb2) HN.out).mono ?_
      rintro e w3 ⟨⟨u, rfl, hown⟩, hb'⟩
      unfold GivesD at hown
      obtain ⟨A, c, rfl⟩ := own_form hown
      have hb3 := stp hb2 hb'
      have kr3 := kr2.go hb'
      have lr := Kc.lt kr2
      clear hb'
      have c3 := kr3.1
      have f3 := kr3.2
      go_wp2
      refine bodyPost_ret (v := .tuple #[.agg #[.slice A (fs.eraseIdx k).length c], .int .i64 0]) (by simp [results, Try.results36, go_sem, c3]) rfl ⟨⟨_, rfl, ?_⟩, put hb3 (by simp) _⟩
      exact ownsRow_base (ownsRow_setCell_below hown lr _) hb2.size
  · have HD : Hid (¬ DiskP fs) := hd
    rw [removeR_bad hd]
    clear hd
    go_enter Try.func36, Try.ntmps36
    have kv0 := (Kc.new rfl rfl : Kc (w.alloc (.cells #[v] 29)) ⟨w.heap.size, 0, none⟩ v).bx (.cells #[.slice none 0 0] 29)
    have kr0 : Kc ((w.alloc (.cells #[v] 29)).alloc (.cells #[.slice none 0 0] 29)) ⟨w.heap.size + 1, 0, none⟩ (.slice none 0 0) := Kc.new (by simp) rfl
    go_wp2_with fail
    refine (specDiskOk_any _ fs false (by simpa using HD.out) _ (h.go (box (box (bel0 w) _) _))).mono ?_
    rintro e w1 ⟨rfl, hb'⟩
    have hb1 := stp (box (box (bel0 w) _) _) hb'
    have kv1 := kv0.go hb'
    have kr1 := kr0.go hb'
    clear hb' kv0 kr0
    have c1 := kv1.1
    go_wp2_with fail
    refine (l29Copy_any _ fs _ (h.go hb1) HN.out).mono ?_
    rintro e w3 ⟨⟨u, rfl, hown⟩, hb'⟩
    unfold GivesD at hown
    obtain ⟨A, c, rfl⟩ := own_form hown
    have hb3 := stp hb1 hb'
    have kr3 := kr1.go hb'
    have lr := Kc.lt kr1
    clear hb'
    have c3 := kr3.1
    have f3 := kr3.2
    go_wp2
    refine bodyPost_ret (v := .tuple #[.agg #[.slice A fs.length c], .int .i64 1]) (by simp [results, Try.results36, go_sem, c3]) rfl ⟨⟨_, rfl, ?_⟩, put hb3 (by simp) _⟩
    exact ownsRow_base (ownsRow_setCell_below hown lr _) hb1.size

set_option maxHeartbeats 2000000 in
theorem implRemove_any (v : Value) (fs : List FileD) (nm : ByteArray) (w : World) (h : FilesR w w.heap.size v fs) (hn : fs.length ≤ 1048576) :
    Calls Try.prog 37 #[.agg #[v], .string nm] w fun e w' => (∃ u, e = .returned (.tuple #[.agg #[u], .int .i64 (removeR fs nm).2]) ∧ GivesD w (removeR fs nm).1 u w') ∧ Below w.heap.size w w' := by
  have HN := Lib.hid hn
  clear hn
  by_cases hd : DiskP fs
  · have HD : Hid (DiskP fs) := hd
    rcases fileAt_cases fs nm with ⟨hfa, _⟩ | ⟨k, hk, hfa, _⟩
    · rw [removeR_none hd hfa]
      have HF := Lib.hid hfa
      clear hfa hd
      go_enter Try.func37, Try.ntmps37
      go_wp2_with fail
      refine (copyDisk_any _ fs _ (h.go (box (box (bel0 w) _) _)) HN.out).mono ?_
      rintro e w1 ⟨⟨u, rfl, hown⟩, hb'⟩
      obtain ⟨A, c, rfl⟩ := own_form hown
      have hlow : Hid (∀ k, (Value.slice A fs.length c).ownBlock = some k → w.heap.size + 1 + 1 ≤ k ∧ k < w1.heap.size) := fun k hk => by have := World.ownsRow.lt hown k hk; simp at this; omega
      have hb1 := stp (box (box (bel0 w) _) _) hb'
      have kv1 := ((Kc.new rfl rfl : Kc (w.alloc (.cells #[v] 29)) ⟨w.heap.size, 0, none⟩ v).bx (.cells #[.slice none 0 0] 29)).go hb'
      have kr1 := (Kc.new (by simp) rfl : Kc ((w.alloc (.cells #[v] 29)).alloc (.cells #[.slice none 0 0] 29)) ⟨w.heap.size + 1, 0, none⟩ (.slice none 0 0)).go hb'
      clear hb'
      have c1 := kv1.1
      have l1 := Kc.lt kv1
      have l0 : w.heap.size + 1 < w1.heap.size := Kc.lt kr1
      go_wp2_with fail
      refine (implFileAt_any _ fs nm _ (h.go (box hb1 _))).mono ?_
      rintro e w2 ⟨rfl, hb'⟩
      have hb2 := stp (box hb1 _) hb'
      have kv2 := (kv1.bx (.cells #[.slice A fs.length c] 29)).go hb'
      have kr2 := (kr1.bx (.cells #[.slice A fs.length c] 29)).go hb'
      have ko2 := (Kc.new rfl rfl : Kc (w1.alloc (.cells #[.slice A fs.length c] 29)) ⟨w1.heap.size, 0, none⟩ (.slice A fs.length c)).go hb'
      have ho2 := ownsRow_below (hown.alloc (.cells #[.slice A fs.length c] 29)) hb' (Nat.le_refl _)
      have hz2 := hb'.size
      rw [World.size_alloc] at hz2
      clear hb' c1 l1 kr1 hown kv1
      rw [HF.out]
      have c2 := kv2.1
      go_wp2_with fail
      refine (implDiskOk_any _ fs true (by simpa using HD.out) _ (h.go hb2)).mono ?_
      rintro e w3 ⟨rfl, hb'⟩
      have hb3 := stp hb2 hb'
      have kv3 := kv2.go hb'
      have kr3 := kr2.go hb'
      have ko3 := ko2.go hb'
      have ho3 := ownsRow_below ho2 hb' (Nat.le_refl _)
      have hz3 := hb'.size
      clear hb' c2 kv2 kr2 ko2 ho2
      have c2 := ko3.1
      have c3 := kr3.1
      have f3 := kr3.2
      go_wp2
      refine bodyPost_ret (v := .tuple #[.agg #[.slice A fs.length c], .int .i64 2]) (by simp [results, Try.results37, go_sem, c3]) rfl ⟨⟨_, rfl, ?_⟩, put hb3 (by simp) _⟩
      exact ownsRow_base (ownsRow_setCell_below ho3 (by simp) _) (by simp; omega)
    · rw [removeR_some hd hfa]
      have hk4 : k < 4 := by have := hd.1; omega
      have HF := Lib.hid hfa
      clear hfa hd
      go_enter Try.func37, Try.ntmps37
      go_wp2_with fail
      refine (copyDisk_any _ fs _ (h.go (box (box (bel0 w) _) _)) HN.out).mono ?_
      rintro e w1 ⟨⟨u, rfl, hown⟩, hb'⟩
      obtain ⟨A, c, rfl⟩ := own_form hown
      have hlow : Hid (∀ k, (Value.slice A fs.length c).ownBlock = some k → w.heap.size + 1 + 1 ≤ k ∧ k < w1.heap.size) := fun k hk => by have := World.ownsRow.lt hown k hk; simp at this; omega
      have hb1 := stp (box (box (bel0 w) _) _) hb'
      have kv1 := ((Kc.new rfl rfl : Kc (w.alloc (.cells #[v] 29)) ⟨w.heap.size, 0, none⟩ v).bx (.cells #[.slice none 0 0] 29)).go hb'
      have kr1 := (Kc.new (by simp) rfl : Kc ((w.alloc (.cells #[v] 29)).alloc (.cells #[.slice none 0 0] 29)) ⟨w.heap.size + 1, 0, none⟩ (.slice none 0 0)).go hb'
      clear hb'
      have c1 := kv1.1
      have l1 := Kc.lt kv1
      have l0 : w.heap.size + 1 < w1.heap.size := Kc.lt kr1
      go_wp2_with fail
      refine (implFileAt_any _ fs nm _ (h.go (box hb1 _))).mono ?_
      rintro e w2 ⟨rfl, hb'⟩
      have hb2 := stp (box hb1 _) hb'
      have kv2 := (kv1.bx (.cells #[.slice A fs.length c] 29)).go hb'
      have kr2 := (kr1.bx (.cells #[.slice A fs.length c] 29)).go hb'
      have ko2 := (Kc.new rfl rfl : Kc (w1.alloc (.cells #[.slice A fs.length c] 29)) ⟨w1.heap.size, 0, none⟩ (.slice A fs.length c)).go hb'
      have ho2 := ownsRow_below (hown.alloc (.cells #[.slice A fs.length c] 29)) hb' (Nat.le_refl _)
      have hz2 := hb'.size
      rw [World.size_alloc] at hz2
      clear hb' c1 l1 kr1 hown kv1
      rw [HF.out]
      have c2 := kv2.1
      go_wp2_with fail
      refine (implDiskOk_any _ fs true (by simpa using HD.out) _ (h.go hb2)).mono ?_
      rintro e w3 ⟨rfl, hb'⟩
      have hb3 := stp hb2 hb'
      have kv3 := kv2.go hb'
      have kr3 := kr2.go hb'
      have ko3 := ko2.go hb'
      have ho3 := ownsRow_below ho2 hb' (Nat.le_refl _)
      have hz3 := hb'.size
      clear hb' c2 kv2 kr2 ko2 ho2
      have c2 := ko3.1
      go_wp2_with fail
      refine (deleteFile_any _ fs k _ hk _ ho3 HN.out).mono ?_
      rintro e w4 ⟨⟨u, rfl, hloc, ho4⟩, hg⟩
      obtain ⟨A4, p4, rfl⟩ := own_form ho4
      have hb4 := bel_grown hb3 hg (fun k hk => by have := hlow.out k hk; omega)
      have kr4 := Kc.grown kr3 hg (fun k hk => by have := hlow.out k hk; omega)
      have ko4 := Kc.grown ko3 hg (fun k hk => by have := hlow.out k hk; omega)
      have hz4 := hg.size
      clear hg c2 kr3 ko3 kv3
      have HL := Lib.hid hloc
      clear hloc
      have c3 := kr4.1
      have f3 := kr4.2
      have c4 := ko4.1
      have f4 := ko4.2
      go_wp2
      refine bodyPost_ret (v := .tuple #[.agg #[.slice A4 (fs.eraseIdx k).length p4], .int .i64 0]) (by simp [results, Try.results37, go_sem, c3]) rfl ⟨⟨_, rfl, ?_⟩, put (put hb4 (by simp; omega) _) (by simp) _⟩
      exact ownsRow_base (own_set_far (own_set_far ho4 (fun j hj => by have := hlow.out j (HL.out ▸ hj); omega) _) (fun j hj => by have := hlow.out j (HL.out ▸ hj); omega) _) (by simp; omega)
  · have HD : Hid (¬ DiskP fs) := hd
    rw [removeR_bad hd]
    clear hd
    go_enter Try.func37, Try.ntmps37
    go_wp2_with fail
    refine (copyDisk_any _ fs _ (h.go (box (box (bel0 w) _) _)) HN.out).mono ?_
    rintro e w1 ⟨⟨u, rfl, hown⟩, hb'⟩
    obtain ⟨A, c, rfl⟩ := own_form hown
    have hlow : Hid (∀ k, (Value.slice A fs.length c).ownBlock = some k → w.heap.size + 1 + 1 ≤ k ∧ k < w1.heap.size) := fun k hk => by have := World.ownsRow.lt hown k hk; simp at this; omega
    have hb1 := stp (box (box (bel0 w) _) _) hb'
    have kv1 := ((Kc.new rfl rfl : Kc (w.alloc (.cells #[v] 29)) ⟨w.heap.size, 0, none⟩ v).bx (.cells #[.slice none 0 0] 29)).go hb'
    have kr1 := (Kc.new (by simp) rfl : Kc ((w.alloc (.cells #[v] 29)).alloc (.cells #[.slice none 0 0] 29)) ⟨w.heap.size + 1, 0, none⟩ (.slice none 0 0)).go hb'
    clear hb'
    have c1 := kv1.1
    have l1 := Kc.lt kv1
    have l0 : w.heap.size + 1 < w1.heap.size := Kc.lt kr1
    go_wp2_with fail
    refine (implFileAt_any _ fs nm _ (h.go (box hb1 _))).mono ?_
    rintro e w2 ⟨rfl, hb'⟩
    have hb2 := stp (box hb1 _) hb'
    have kv2 := (kv1.bx (.cells #[.slice A fs.length c] 29)).go hb'
    have kr2 := (kr1.bx (.cells #[.slice A fs.length c] 29)).go hb'
    have ko2 := (Kc.new rfl rfl : Kc (w1.alloc (.cells #[.slice A fs.length c] 29)) ⟨w1.heap.size, 0, none⟩ (.slice A fs.length c)).go hb'
    have ho2 := ownsRow_below (hown.alloc (.cells #[.slice A fs.length c] 29)) hb' (Nat.le_refl _)
    have hz2 := hb'.size
    rw [World.size_alloc] at hz2
    clear hb' c1 l1 kr1 hown kv1
    have c2 := kv2.1
    go_wp2_with fail
    refine (implDiskOk_any _ fs false (by simpa using HD.out) _ (h.go hb2)).mono ?_
    rintro e w3 ⟨rfl, hb'⟩
    have hb3 := stp hb2 hb'
    have kv3 := kv2.go hb'
    have kr3 := kr2.go hb'
    have ko3 := ko2.go hb'
    have ho3 := ownsRow_below ho2 hb' (Nat.le_refl _)
    have hz3 := hb'.size
    clear hb' c2 kv2 kr2 ko2 ho2
    have c2 := ko3.1
    have c3 := kr3.1
    have f3 := kr3.2
    go_wp2
    refine bodyPost_ret (v := .tuple #[.agg #[.slice A fs.length c], .int .i64 1]) (by simp [results, Try.results37, go_sem, c3]) rfl ⟨⟨_, rfl, ?_⟩, put hb3 (by simp) _⟩
    exact ownsRow_base (ownsRow_setCell_below ho3 (by simp) _) (by simp; omega)

end Go.Proofs.Ytepachoampdhiaa
