/- Cleared: of the program and of the reference. -/
import Derived.Test.YtepachoampdhiaaRemoveFile
namespace Go.Proofs.Ytepachoampdhiaa
open Go.RowKit

def newName : ByteArray := ⟨#[115, 116, 97, 116, 101, 45, 110, 101, 119]⟩
noncomputable def clearedR (fs : List FileD) : List FileD := (removeR fs newName).1

set_option maxHeartbeats 1000000 in
theorem specCleared_any (v : Value) (fs : List FileD) (w : World) (h : FilesR w w.heap.size v fs) (hn : fs.length ≤ 1048576) :
    Calls Try.prog 43 #[.agg #[v]] w fun e w' => (∃ u, e = .returned (.agg #[u]) ∧ GivesD w (clearedR fs) u w') ∧ Below w.heap.size w w' := by
  have HN := Lib.hid hn
  clear hn
  go_enter Try.func43, Try.ntmps43
  go_wp2_with fail
  refine (specRemove_any _ fs newName _ (h.go (box (box (bel0 w) _) _)) HN.out).mono ?_
  rintro e w1 ⟨⟨u, rfl, hown⟩, hb'⟩
  unfold GivesD at hown
  obtain ⟨A, c, rfl⟩ := own_form hown
  have hb1 := stp (box (box (bel0 w) _) _) hb'
  have kr1 := (Kc.new (by simp) rfl : Kc ((w.alloc (.cells #[v] 29)).alloc (.cells #[.slice none 0 0] 29)) ⟨w.heap.size + 1, 0, none⟩ (.slice none 0 0)).go hb'
  clear hb'
  have c1 := kr1.1
  have f1 := kr1.2
  have l1 : w.heap.size + 1 < w1.heap.size := Kc.lt kr1
  have c2 := ((kr1.same (.slice A (removeR fs newName).1.length c)).bx (.cells #[.slice A (removeR fs newName).1.length c] 29)).1
  go_wp2
  refine bodyPost_ret (v := .agg #[.slice A (removeR fs newName).1.length c]) (by simp [results, Try.results43, go_sem, c2]) rfl ⟨⟨_, rfl, ?_⟩, box (put hb1 (by simp) _) _⟩
  exact ownsRow_base ((ownsRow_setCell_below hown (by simp) _).alloc _) (by simp; omega)

set_option maxHeartbeats 1000000 in
theorem implCleared_any (v : Value) (fs : List FileD) (w : World) (h : FilesR w w.heap.size v fs) (hn : fs.length ≤ 1048576) :
    Calls Try.prog 44 #[.agg #[v]] w fun e w' => (∃ u, e = .returned (.agg #[u]) ∧ GivesD w (clearedR fs) u w') ∧ Below w.heap.size w w' := by
  have HN := Lib.hid hn
  clear hn
  go_enter Try.func44, Try.ntmps44
  go_wp2_with fail
  refine (implRemove_any _ fs newName _ (h.go (box (box (bel0 w) _) _)) HN.out).mono ?_
  rintro e w1 ⟨⟨u, rfl, hown⟩, hb'⟩
  unfold GivesD at hown
  obtain ⟨A, c, rfl⟩ := own_form hown
  have hb1 := stp (box (box (bel0 w) _) _) hb'
  have kr1 := (Kc.new (by simp) rfl : Kc ((w.alloc (.cells #[v] 29)).alloc (.cells #[.slice none 0 0] 29)) ⟨w.heap.size + 1, 0, none⟩ (.slice none 0 0)).go hb'
  clear hb'
  have c1 := kr1.1
  have f1 := kr1.2
  have l1 : w.heap.size + 1 < w1.heap.size := Kc.lt kr1
  have c2 := ((kr1.same (.slice A (removeR fs newName).1.length c)).bx (.cells #[.slice A (removeR fs newName).1.length c] 29)).1
  go_wp2
  refine bodyPost_ret (v := .agg #[.slice A (removeR fs newName).1.length c]) (by simp [results, Try.results44, go_sem, c2]) rfl ⟨⟨_, rfl, ?_⟩, box (put hb1 (by simp) _) _⟩
  exact ownsRow_base ((ownsRow_setCell_below hown (by simp) _).alloc _) (by simp; omega)
end Go.Proofs.Ytepachoampdhiaa
