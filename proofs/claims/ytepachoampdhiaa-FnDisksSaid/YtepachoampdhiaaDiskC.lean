/- FileAt, TextOf: of the program and of the reference. -/
import Derived.Test.YtepachoampdhiaaDiskA
namespace Go.Proofs.Ytepachoampdhiaa
open Go.RowKit

/-- The index of the first file with this name, or -1. -/
def fileAt (fs : List FileD) (nm : ByteArray) : Int := match fs.findIdx? (fun f => decide (f.name = nm)) with | some k => (k : Int) | none => -1
theorem fileAt_some (fs : List FileD) (nm : ByteArray) (k : Nat) (h : k < fs.length) (hk : fs[k].name = nm) (hj : ∀ j, j < k → ∀ h : j < fs.length, fs[j].name ≠ nm) : fileAt fs nm = k := by
  unfold fileAt
  rw [List.findIdx?_eq_some_iff_getElem.2 ⟨h, by simpa using hk, fun j hjk => by simpa using hj j hjk (by omega)⟩]
theorem fileAt_none (fs : List FileD) (nm : ByteArray) (hj : ∀ j, ∀ h : j < fs.length, fs[j].name ≠ nm) : fileAt fs nm = -1 := by
  unfold fileAt
  rw [List.findIdx?_eq_none_iff.2 (fun x hx => by
    obtain ⟨j, h, rfl⟩ := List.getElem_of_mem hx
    simpa using hj j h)]

theorem below_succ {fs : List FileD} {nm : ByteArray} {k : Nat} (h : ∀ j, j < k → ∀ h : j < fs.length, fs[j].name ≠ nm) {hk : k < fs.length} (hn : fs[k].name ≠ nm) : ∀ j, j < k + 1 → ∀ h : j < fs.length, fs[j].name ≠ nm := by
  intro j hj hl
  rcases Nat.lt_or_eq_of_le (Nat.lt_succ_iff.1 hj) with h' | rfl
  · exact h j h' hl
  · exact hn

set_option maxHeartbeats 1000000 in
theorem specFileAt_any (v : Value) (fs : List FileD) (nm : ByteArray) (w : World) (h : FilesR w w.heap.size v fs) :
    Calls Try.prog 19 #[.agg #[v], .string nm] w fun e w' => e = .returned (.int .i64 (fileAt fs nm)) ∧ Below w.heap.size w w' := by
  obtain ⟨A, c, rfl, hc, hm, h⟩ := h
  unfold maxLen at hm
  have H := Lib.hid h
  clear h
  go_enter Try.func19, Try.ntmps19
  go_wp2
  go_loopw [5] (fun i wr => ∃ k : Nat, k ≤ fs.length ∧ i = .int .i64 k ∧ Hid (∀ j, j < k → ∀ h : j < fs.length, fs[j].name ≠ nm) ∧ wr.cell? ⟨w.heap.size, 0, none⟩ = some (.slice A fs.length c) ∧ Below w.heap.size w wr) (fun i _ => fs.length - (intOf i).toNat)
  case atStart => exact ⟨0, by omega, rfl, fun j hj => by omega, World.cell?_alloc_new w _ _ 0, box (bel0 w) _⟩
  case round =>
    obtain ⟨k, hk, rfl, HN, hcell, hb⟩ := hrel
    by_cases hlt : k < fs.length
    · obtain ⟨b, o, cs, rfl, hbb, hl, hcs, rfl, hok⟩ := H.out k hlt
      have hcs' := hcs.keep (hb.block b hbb)
      have g0 := hcs'.c0
      clear hcs hcs'
      go_wp2
      · go_ret
        have e := str_eq.1 ‹_›
        exact ⟨ret_i64 (fileAt_some fs nm k hlt e HN).symm, hb⟩
      · have e := Lib.hid (str_ne.1 ‹(_ == _) = false›)
        go_roundw
        case rel => exact ⟨k + 1, by omega, by go_num, below_succ HN.out e.out, hcell, hb⟩
        case measure => simp [intOf]; omega
    · go_wp2
      go_ret
      exact ⟨ret_i64 (fileAt_none fs nm fun j h => HN j (by omega) h).symm, hb⟩

/-- What the closure of FileAt says of a file. -/
theorem implFileAtF_any (f : FileD) (nm : ByteArray) (g : Nat) (w : World) (hg : w.cell? ⟨g, 0, none⟩ = some (.string nm)) (hlt : g < w.heap.size) :
    Calls Try.prog 65 #[.agg #[.string f.name, .string f.text, .int .i64 f.synced], .pointer (some ⟨g, 0, none⟩)] w fun e w' => e = .returned (.bool (f.name.toList == nm.toList)) ∧ Below w.heap.size w w' := by
  go_enter Try.func65, Try.ntmps65
  go_wp2
  go_ret
  exact ⟨rfl, box (bel0 w) _⟩

set_option maxHeartbeats 1000000 in
theorem indexFile_any (v : Value) (fs : List FileD) (nm : ByteArray) (g : Nat) (w : World) (h : FilesR w w.heap.size v fs) (hg : w.cell? ⟨g, 0, none⟩ = some (.string nm)) (hlt : g < w.heap.size) :
    Calls Try.prog 64 #[v, .func (.func 65) #[] #[.pointer (some ⟨g, 0, none⟩)]] w fun e w' => e = .returned (.int .i64 (fileAt fs nm)) ∧ Below w.heap.size w w' := by
  obtain ⟨A, c, rfl, hc, hm, h⟩ := h
  unfold maxLen at hm
  have H := Lib.hid h
  clear h
  go_enter Try.func64, Try.ntmps64
  go_wp2
  go_loopw [8] (fun i wr => ∃ k : Nat, k ≤ fs.length ∧ i = .int .i64 k ∧ Hid (∀ j, j < k → ∀ h : j < fs.length, fs[j].name ≠ nm) ∧ Below w.heap.size w wr) (fun i _ => fs.length - (intOf i).toNat)
  case atStart => exact ⟨0, by omega, rfl, fun j hj => by omega, bel0 w⟩
  case round =>
    obtain ⟨k, hk, rfl, HN, hb⟩ := hrel
    by_cases hlt' : k < fs.length
    · obtain ⟨b, o, cs, rfl, hbb, hl, hcs, rfl, hok⟩ := H.out k hlt'
      have hcs' := hcs.keep (hb.block b hbb)
      have g0 := hcs'.c0
      have g1 := hcs'.c1
      have g2 := hcs'.c2
      clear hcs hcs'
      have q1 : wr.cell? ⟨g, 0, none⟩ = some (.string nm) := (hb.cell (p := ⟨g, 0, none⟩) hlt).trans hg
      have q2 : g < wr.heap.size := Nat.lt_of_lt_of_le hlt hb.size
      go_wp2_with (go_at_call 65; refine (implFileAtF_any _ nm g _ q1 q2).mono ?_; rintro e w' ⟨rfl, hb'⟩)
      · go_ret
        have e := str_eq.1 ‹_›
        exact ⟨ret_i64 (fileAt_some fs nm k hlt' e HN).symm, stp hb hb'⟩
      · have e := Lib.hid (str_ne.1 ‹(_ == _) = false›)
        go_roundw
        case rel => exact ⟨k + 1, by omega, by go_num, below_succ HN.out e.out, stp hb hb'⟩
        case measure => simp [intOf]; omega
    · go_wp2
      go_ret
      exact ⟨ret_i64 (fileAt_none fs nm fun j h => HN j (by omega) h).symm, hb⟩

theorem implFileAt_any (v : Value) (fs : List FileD) (nm : ByteArray) (w : World) (h : FilesR w w.heap.size v fs) :
    Calls Try.prog 21 #[.agg #[v], .string nm] w fun e w' => e = .returned (.int .i64 (fileAt fs nm)) ∧ Below w.heap.size w w' := by
  go_enter Try.func21, Try.ntmps21
  go_wp2_with (go_at_call 64; refine (indexFile_any _ fs nm _ _ (h.go (box (box (bel0 w) _) _)) (by simp) (by simp)).mono ?_; rintro e w' ⟨rfl, hb'⟩)
  go_ret
  exact ⟨rfl, stp (box (box (bel0 w) _) _) hb'⟩

def textD (fs : List FileD) (nm : ByteArray) : ByteArray := match fs.find? (fun f => decide (f.name = nm)) with | some f => f.text | none => ⟨#[]⟩
def hasD (fs : List FileD) (nm : ByteArray) : Bool := (fs.find? (fun f => decide (f.name = nm))).isSome
theorem fileAt_cases (fs : List FileD) (nm : ByteArray) : (fileAt fs nm = -1 ∧ (∀ f ∈ fs, f.name ≠ nm) ∧ textD fs nm = ⟨#[]⟩ ∧ hasD fs nm = false) ∨
    ∃ k : Nat, ∃ h : k < fs.length, fileAt fs nm = k ∧ fs[k].name = nm ∧ (∀ j, j < k → ∀ h : j < fs.length, fs[j].name ≠ nm) ∧ textD fs nm = fs[k].text ∧ hasD fs nm = true := by
  rcases h : fs.findIdx? (fun f => decide (f.name = nm)) with _ | k
  · left
    have h2 := List.findIdx?_eq_none_iff.1 h
    have h3 : fs.find? (fun f => decide (f.name = nm)) = none := List.find?_eq_none.2 fun x hx => by simp [h2 x hx]
    refine ⟨by unfold fileAt; rw [h], fun f hf => ?_, by unfold textD; rw [h3], by unfold hasD; rw [h3]; rfl⟩
    simpa using h2 f hf
  · right
    obtain ⟨h1, h2, h3⟩ := List.findIdx?_eq_some_iff_getElem.1 h
    have h4 : fs.find? (fun f => decide (f.name = nm)) = some fs[k] := by
      rw [List.find?_eq_some_iff_getElem]
      exact ⟨h2, k, h1, rfl, fun j hj => by simpa using h3 j hj⟩
    exact ⟨k, h1, by unfold fileAt; rw [h], by simpa using h2, fun j hj hl => by simpa using h3 j hj, by unfold textD; rw [h4], by unfold hasD; rw [h4]; rfl⟩

set_option maxHeartbeats 1000000 in
theorem specTextOf_any (v : Value) (fs : List FileD) (nm : ByteArray) (w : World) (h : FilesR w w.heap.size v fs) :
    Calls Try.prog 28 #[.agg #[v], .string nm] w fun e w' => e = .returned (.tuple #[.string (textD fs nm), .bool (hasD fs nm)]) ∧ Below w.heap.size w w' := by
  rcases fileAt_cases fs nm with ⟨h1, _, h4, h5⟩ | ⟨k, hk, h1, _, _, h4, h5⟩
  · rw [h4, h5]
    have H1 := Lib.hid h1
    clear h1 h4 h5
    go_enter Try.func28, Try.ntmps28
    go_wp2_with (go_at_call 19; refine (specFileAt_any _ fs nm _ (h.go (box (bel0 w) _))).mono ?_; rintro e w' ⟨rfl, hb'⟩; rw [H1.out])
    go_ret2
    exact ⟨rfl, stp (box (bel0 w) _) hb'⟩
  · rw [h4, h5]
    have H1 := Lib.hid h1
    clear h1 h4 h5
    have h0 := h
    obtain ⟨A, c, rfl, hc, hm, h⟩ := h
    unfold maxLen at hm
    obtain ⟨b, o, cs, rfl, hbb, hl, hcs, rfl, hok⟩ := h k hk
    have hcs' := hcs.keep (w' := w.alloc (.cells #[.slice (some ⟨b, o, none⟩) fs.length c] 29)) (Below.heap_alloc _ _ _ hbb)
    clear h
    go_enter Try.func28, Try.ntmps28
    go_wp2_with (go_at_call 19; refine (specFileAt_any _ fs nm _ (h0.go (box (bel0 w) _))).mono ?_; rintro e w' ⟨rfl, hb'⟩; rw [H1.out]; have g1 := (hcs'.keep (hb'.block b (by simp; omega))).c1; obtain ⟨hc, hf, hz⟩ := seen hb'; simp at hc hf hz)
    go_ret2
    exact ⟨rfl, stp (box (bel0 w) _) hb'⟩

set_option maxHeartbeats 1000000 in
theorem implTextOf_any (v : Value) (fs : List FileD) (nm : ByteArray) (w : World) (h : FilesR w w.heap.size v fs) :
    Calls Try.prog 29 #[.agg #[v], .string nm] w fun e w' => e = .returned (.tuple #[.string (textD fs nm), .bool (hasD fs nm)]) ∧ Below w.heap.size w w' := by
  rcases fileAt_cases fs nm with ⟨h1, _, h4, h5⟩ | ⟨k, hk, h1, _, _, h4, h5⟩
  · rw [h4, h5]
    have H1 := Lib.hid h1
    clear h1 h4 h5
    go_enter Try.func29, Try.ntmps29
    go_wp2_with (go_at_call 21; refine (implFileAt_any _ fs nm _ (h.go (box (bel0 w) _))).mono ?_; rintro e w' ⟨rfl, hb'⟩; rw [H1.out])
    go_ret2
    exact ⟨rfl, stp (box (bel0 w) _) hb'⟩
  · rw [h4, h5]
    have H1 := Lib.hid h1
    clear h1 h4 h5
    have h0 := h
    obtain ⟨A, c, rfl, hc, hm, h⟩ := h
    unfold maxLen at hm
    obtain ⟨b, o, cs, rfl, hbb, hl, hcs, rfl, hok⟩ := h k hk
    have hcs' := hcs.keep (w' := w.alloc (.cells #[.slice (some ⟨b, o, none⟩) fs.length c] 29)) (Below.heap_alloc _ _ _ hbb)
    clear h
    go_enter Try.func29, Try.ntmps29
    go_wp2_with (go_at_call 21; refine (implFileAt_any _ fs nm _ (h0.go (box (bel0 w) _))).mono ?_; rintro e w' ⟨rfl, hb'⟩; rw [H1.out]; have g1 := (hcs'.keep (hb'.block b (by simp; omega))).c1; obtain ⟨hc, hf, hz⟩ := seen hb'; simp at hc hf hz)
    go_ret2
    exact ⟨rfl, stp (box (bel0 w) _) hb'⟩

end Go.Proofs.Ytepachoampdhiaa
