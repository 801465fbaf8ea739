/- The laws' own helpers on a disk: its size is counted, it is copied, compared. -/
import Derived.Test.YtepachoampdhiaaRows
import Derived.Test.YtepachoampdhiaaMem
import Derived.Deep.RegionHeld3
namespace Go.Proofs.Ytepachoampdhiaa
open Go.RowKit

structure FileD where
  name : ByteArray
  text : ByteArray
  synced : Int

def FileD.cells (f : FileD) : List Value := [.string f.name, .string f.text, .int .i64 f.synced]
def FileD.ok (f : FileD) : Prop := f.name.size ≤ maxLen ∧ f.text.size ≤ maxLen ∧ -9223372036854775808 ≤ f.synced ∧ f.synced ≤ 9223372036854775807
theorem FileD.len (f : FileD) : f.cells.length = 3 := rfl

/-- The slice value reads as the files. -/
abbrev FilesR := SlR 3 (Flat FileD.cells FileD.ok)

def filesBulk (fs : List FileD) : Nat := (fs.map fun f => f.name.size + f.text.size).sum

set_option maxHeartbeats 400000 in
theorem szFile_any (n t : ByteArray) (s left : Int) (w : World) (h0 : 0 ≤ left) (h1 : left ≤ 1048576) (hn : n.size ≤ maxLen) (ht : t.size ≤ maxLen) :
    Calls Try.prog 98 #[.agg #[.string n, .string t, .int .i64 s], .int .i64 left] w fun e w' => (∃ r : Int, e = .returned (.int .i64 r) ∧ r ≤ left ∧ (r = -1 ∨ (0 ≤ r ∧ r + n.size + t.size = left))) ∧ Below w.heap.size w w' := by
  unfold maxLen at hn ht
  go_enter Try.func98, Try.ntmps98
  go_wp2
  all_goals go_ret
  all_goals exact ⟨⟨_, rfl, by omega, by omega⟩, (Below.refl _ _).alloc (Nat.le_refl _) _⟩

theorem toFile_any (n t : ByteArray) (s : Int) (w : World) :
    Calls Try.prog 99 #[.agg #[.string n, .string t, .int .i64 s]] w fun e w' => e = .returned (.agg #[.string n, .string t, .int .i64 s]) ∧ Below w.heap.size w w' := by
  go_enter Try.func99, Try.ntmps99
  go_wp2
  go_returns
  exact ⟨rfl, by go_grown⟩

theorem eqFile_same (n t : ByteArray) (s : Int) (w : World) :
    Calls Try.prog 100 #[.agg #[.string n, .string t, .int .i64 s], .agg #[.string n, .string t, .int .i64 s]] w fun e w' => e = .returned (.bool true) ∧ Below w.heap.size w w' := by
  go_enter Try.func100, Try.ntmps100
  go_wp2
  go_ret
  exact ⟨rfl, by go_grown⟩

theorem filesBulk_succ (fs : List FileD) (k : Nat) (h : k < fs.length) : filesBulk (fs.take (k + 1)) = filesBulk (fs.take k) + (fs[k].name.size + fs[k].text.size) := by
  unfold filesBulk
  rw [List.take_succ_eq_append_getElem h, List.map_append, List.sum_append]
  simp only [List.map_cons, List.map_nil, List.sum_cons, List.sum_nil, Nat.add_zero]

set_option maxHeartbeats 400000 in
theorem szFileS_any (v : Value) (fs : List FileD) (left : Int) (w : World) (h : FilesR w w.heap.size v fs) (h0 : 0 ≤ left) (h1 : left ≤ 1048576) :
    Calls Try.prog 62 #[v, .int .i64 left] w fun e w' => (∃ r : Int, e = .returned (.int .i64 r) ∧ r ≤ left ∧ (r = -1 ∨ (0 ≤ r ∧ r + fs.length + filesBulk fs = left))) ∧ Below w.heap.size w w' := by
  obtain ⟨A, c, rfl, hc, hm, h⟩ := h
  unfold maxLen at hm
  have H := Lib.hid h
  clear h
  go_enter Try.func62, Try.ntmps62
  go_wp2
  · go_ret
    exact ⟨⟨_, rfl, by omega, by omega⟩, by go_grown⟩
  · go_loopw [1, 5] (fun l i wr => ∃ k : Nat, ∃ r : Int, k ≤ fs.length ∧ i = .int .i64 k ∧ l = .int .i64 r ∧ 0 ≤ r ∧ r + fs.length + filesBulk (fs.take k) = left ∧ Below w.heap.size w wr) (fun _ i _ => fs.length - (intOf i).toNat)
    case atStart => exact ⟨0, _, by omega, rfl, rfl, by omega, by simp [filesBulk], Below.refl _ _⟩
    case round =>
      obtain ⟨k, r, hk, rfl, rfl, hr0, hr, hb⟩ := hrel
      by_cases hlt : k < fs.length
      · obtain ⟨b, o, cs, rfl, hbb, hl, hcs, rfl, hok⟩ := H.out k hlt
        have hcs' := hcs.keep (hb.block b hbb)
        have g0 := hcs'.c0
        have g1 := hcs'.c1
        have g2 := hcs'.c2
        obtain ⟨k1, k2, k3, k4⟩ := hok
        have HB : Hid (filesBulk (fs.take (k + 1)) = filesBulk (fs.take k) + (fs[k].name.size + fs[k].text.size)) := filesBulk_succ fs k hlt
        have HR := Lib.hid hr
        have hr1 : r ≤ 1048576 := by omega
        clear hcs hcs' hr
        go_wp2_with (go_at_call 98; refine (szFile_any _ _ _ _ _ (by omega) (by omega) k1 k2).mono ?_; rintro e w' ⟨⟨r', rfl, h1, h2⟩, hb'⟩)
        · go_ret
          have HR' := HR.out
          exact ⟨⟨_, rfl, by omega, by omega⟩, hb.trans (hb'.mono hb.size)⟩
        · have HR' := HR.out
          have HB' := HB.out
          go_roundw
          case rel => exact ⟨k + 1, _, by omega, by go_num, rfl, by omega, by omega, hb.trans (hb'.mono hb.size)⟩
          case measure => simp [intOf]; omega
      · have hk' : k = fs.length := by omega
        have HR := Lib.hid hr
        have HK := Lib.hid hk'
        clear hr hk'
        go_wp2
        go_ret
        have HR' := HR.out
        have HK' := HK.out
        rw [HK', List.take_length] at HR'
        exact ⟨⟨_, rfl, by omega, by omega⟩, hb⟩

theorem szDisk_any (v : Value) (fs : List FileD) (left : Int) (w : World) (h : FilesR w w.heap.size v fs) (h0 : 0 ≤ left) (h1 : left ≤ 1048576) :
    Calls Try.prog 18 #[.agg #[v], .int .i64 left] w fun e w' => (∃ r : Int, e = .returned (.int .i64 r) ∧ r ≤ left ∧ (r = -1 ∨ (0 ≤ r ∧ r + fs.length + filesBulk fs = left))) ∧ Below w.heap.size w w' := by
  go_enter Try.func18, Try.ntmps18
  go_wp2_with (go_at_call 62; refine (szFileS_any _ _ _ _ (h.go (box (bel0 w) _)) h0 h1).mono ?_; rintro e w' ⟨⟨r', rfl, h1, h2⟩, hb'⟩)
  all_goals go_ret
  all_goals exact ⟨⟨_, rfl, by omega, by omega⟩, stp (box (bel0 w) _) hb'⟩

theorem infoFile : (Try.prog.info? 66).map (fun i => (i.zero, i.size, i.bytes)) = some (some (.agg #[.string ⟨#[]⟩, .string ⟨#[]⟩, .int .i64 0]), 3, 40) := by kernel_rfl

set_option maxHeartbeats 400000 in
theorem toFileS_any (v : Value) (fs : List FileD) (w : World) (h : FilesR w w.heap.size v fs) (hn : fs.length ≤ 1048576) :
    Calls Try.prog 63 #[v] w fun e w' => (∃ u, e = .returned u ∧ w'.ownsRow w.heap.size 66 3 u fs.length (fs.flatMap FileD.cells)) ∧ Below w.heap.size w w' := by
  obtain ⟨A, c, rfl, hc, hm, h⟩ := h
  unfold maxLen at hm
  have H := Lib.hid h
  have hmk := make_rows (P := Try.prog) 27 66 _ 3 40 Try.underlying27 infoFile fs.length (by omega) (by omega)
  clear h hn
  go_enter Try.func63, Try.ntmps63
  have HC : Hid ((w.alloc (.cells (madeCells (#[.string ⟨#[]⟩, .string ⟨#[]⟩, .int .i64 0] : Array Value) (fs.length * 3)) 66)).ownsRow w.heap.size 66 3 (.slice (some ⟨w.heap.size, 0, none⟩) fs.length fs.length) fs.length (madeCells (#[.string ⟨#[]⟩, .string ⟨#[]⟩, .int .i64 0] : Array Value) (fs.length * 3)).toList) :=
    World.ownsRow_lit w _ fs.length (Nat.le_refl _) (by unfold maxLen; omega) (size_madeCells _ _)
  go_wp2
  go_loopw [4] (fun i wr => ∃ (k : Nat) (xs : List Value), k ≤ fs.length ∧ i = .int .i64 k ∧ wr.ownsRow w.heap.size 66 3 (.slice (some ⟨w.heap.size, 0, none⟩) fs.length fs.length) fs.length xs ∧ xs.take (k * 3) = (fs.take k).flatMap FileD.cells ∧ Below w.heap.size w wr) (fun i _ => fs.length - (intOf i).toNat)
  case atStart => exact ⟨0, _, by omega, rfl, HC.out, by simp, box (bel0 w) _⟩
  case round =>
    obtain ⟨k, xs, hk, rfl, hown, hxs, hb⟩ := hrel
    by_cases hlt : k < fs.length
    · obtain ⟨b, o, cs, rfl, hbb, hl, hcs, rfl, hok⟩ := H.out k hlt
      have hcs' := hcs.keep (hb.block b hbb)
      have g0 := hcs'.c0
      have g1 := hcs'.c1
      have g2 := hcs'.c2
      have HX := Lib.hid hxs
      clear hcs hcs' hxs
      go_wp2_with (go_at_call 99; refine (toFile_any _ _ _ _).mono ?_; rintro e w' ⟨rfl, hb'⟩; have hown' := ownsRow_below hown hb' (Nat.le_refl _); have f0 := hown'.frozenAt (k * 3); have f1 := hown'.frozenAt (k * 3 + 1); have f2 := hown'.frozenAt (k * 3 + 2); obtain ⟨u0, d0⟩ := own_cell hown' (k * 3) (by omega); obtain ⟨u1, d1⟩ := own_cell hown' (k * 3 + 1) (by omega); obtain ⟨u2, d2⟩ := own_cell hown' (k * 3 + 2) (by omega))
      go_roundw
      case rel =>
        refine ⟨k + 1, setRun xs (k * 3) fs[k].cells, by omega, by go_num, ?_, setRun_next _ 3 FileD.len xs fs k hlt hown.1 HX.out, ?_⟩
        · exact (((hown'.stored (k * 3) _).1.stored (k * 3 + 1) _).1.stored (k * 3 + 2) _).1
        · exact put (put (put (stp hb hb') (Nat.le_refl _) _) (Nat.le_refl _) _) (Nat.le_refl _) _
      case measure => simp [intOf]; omega
    · have HX := Lib.hid hxs
      have HK : Hid (k = fs.length) := by unfold Hid; omega
      clear hxs
      go_wp2
      go_ret
      have hxs := HX.out
      rw [HK.out, List.take_length, List.take_of_length_le (by rw [hown.1]; exact Nat.le_refl _)] at hxs
      subst hxs
      exact ⟨⟨_, rfl, hown⟩, hb⟩

theorem toDisk_any (v : Value) (fs : List FileD) (w : World) (h : FilesR w w.heap.size v fs) (hn : fs.length ≤ 1048576) :
    Calls Try.prog 20 #[.agg #[v]] w fun e w' => (∃ u, e = .returned (.agg #[u]) ∧ w'.ownsRow w.heap.size 66 3 u fs.length (fs.flatMap FileD.cells)) ∧ Below w.heap.size w w' := by
  have HN := Lib.hid hn
  clear hn
  go_enter Try.func20, Try.ntmps20
  go_wp2_with fail
  refine (toFileS_any _ _ _ (h.go (box (box (box (bel0 w) _) _) _)) HN.out).mono ?_
  rintro e w' ⟨⟨u, rfl, hown⟩, hb'⟩
  obtain ⟨A, c, rfl⟩ := own_form hown
  obtain ⟨hc, hf, hz⟩ := seen hb'
  simp at hc hf hz
  go_wp2
  refine bodyPost_ret (v := .agg #[.slice A fs.length c]) (by simp [results, Try.results20, go_sem, hc]) rfl ⟨⟨_, rfl, ?_⟩, put (put (stp (box (box (box (bel0 w) _) _) _) hb') (by simp; omega) _) (by simp) _⟩
  exact ownsRow_base (ownsRow_setCell_below (ownsRow_setCell_below hown (by simp) _) (by simp) _) (by simp; omega)

set_option maxHeartbeats 400000 in
theorem eqFileS_same (u v : Value) (fs : List FileD) (w : World) (h : FilesR w w.heap.size u fs) (h' : FilesR w w.heap.size v fs) :
    Calls Try.prog 66 #[u, v] w fun e w' => e = .returned (.bool true) ∧ Below w.heap.size w w' := by
  obtain ⟨A, c, rfl, hc, hm, h⟩ := h
  obtain ⟨A', c', rfl, hc', hm', h'⟩ := h'
  unfold maxLen at hm hm'
  have H := Lib.hid h
  have H' := Lib.hid h'
  clear h h'
  go_enter Try.func66, Try.ntmps66
  go_wp2
  go_loopw [5] (fun i wr => ∃ k : Nat, k ≤ fs.length ∧ i = .int .i64 k ∧ Below w.heap.size w wr) (fun i _ => fs.length - (intOf i).toNat)
  case atStart => exact ⟨0, by omega, rfl, bel0 w⟩
  case round =>
    obtain ⟨k, hk, rfl, hb⟩ := hrel
    by_cases hlt : k < fs.length
    · obtain ⟨b, o, cs, rfl, hbb, hl, hcs, rfl, hok⟩ := H.out k hlt
      obtain ⟨b', o', cs', rfl, hbb', hl', hcs', rfl, hok'⟩ := H'.out k hlt
      have hcs1 := hcs.keep (hb.block b hbb)
      have hcs2 := hcs'.keep (hb.block b' hbb')
      have g0 := hcs1.c0
      have g1 := hcs1.c1
      have g2 := hcs1.c2
      have d0 := hcs2.c0
      have d1 := hcs2.c1
      have d2 := hcs2.c2
      have q1 : b < wr.heap.size := Nat.lt_of_lt_of_le hbb hb.size
      have q2 : b' < wr.heap.size := Nat.lt_of_lt_of_le hbb' hb.size
      clear hcs hcs' hcs1 hcs2 hl hl'
      go_wp2
      go_region_held3 (fun W => W.cell? ⟨b, o + k * 3, none⟩ = some (.string fs[k].name) ∧ W.cell? ⟨b, o + k * 3 + 1, none⟩ = some (.string fs[k].text) ∧ W.cell? ⟨b, o + k * 3 + 2, none⟩ = some (.int .i64 fs[k].synced) ∧ W.cell? ⟨b', o' + k * 3, none⟩ = some (.string fs[k].name) ∧ W.cell? ⟨b', o' + k * 3 + 1, none⟩ = some (.string fs[k].text) ∧ W.cell? ⟨b', o' + k * 3 + 2, none⟩ = some (.int .i64 fs[k].synced)) (go_keep)
        (first | (go_at_call 100; refine (eqFile_same _ _ _ _).mono ?_; rintro e w' ⟨rfl, hb'⟩; obtain ⟨hc, hf, hz⟩ := seen hb'; simp at hc hf hz))
      go_wp2
      go_roundw
      case rel => exact ⟨k + 1, by omega, by go_num, stp (drw hb) hb'⟩
      case measure => simp [intOf]; omega
    · go_wp2
      go_ret
      exact ⟨rfl, hb⟩

theorem eqDisk_same (u v : Value) (fs : List FileD) (w : World) (h : FilesR w w.heap.size u fs) (h' : FilesR w w.heap.size v fs) :
    Calls Try.prog 22 #[.agg #[u], .agg #[v]] w fun e w' => e = .returned (.bool true) ∧ Below w.heap.size w w' := by
  go_enter Try.func22, Try.ntmps22
  go_wp2_with (go_at_call 66; refine (eqFileS_same _ _ fs _ (h.go (box (box (bel0 w) _) _)) (h'.go (box (box (bel0 w) _) _))).mono ?_; rintro e w' ⟨rfl, hb'⟩)
  go_ret
  exact ⟨rfl, stp (box (box (bel0 w) _) _) hb'⟩
end Go.Proofs.Ytepachoampdhiaa
