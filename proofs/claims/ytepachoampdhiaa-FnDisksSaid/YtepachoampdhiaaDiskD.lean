/- Copies of a disk: of the program and of the reference. -/
import Derived.Test.YtepachoampdhiaaDiskOk
import Derived.Test.YtepachoampdhiaaApp
namespace Go.Proofs.Ytepachoampdhiaa
open Go.RowKit

theorem file_one : ∀ (fs : List FileD), ∀ u ∈ fs.flatMap FileD.cells, u.oneCell' = true := by
  intro fs u hu
  obtain ⟨f, _, hf⟩ := List.mem_flatMap.1 hu
  simp only [FileD.cells, List.mem_cons, List.not_mem_nil, or_false] at hf
  rcases hf with rfl | rfl | rfl <;> rfl
theorem sl_form {α : Type} {size : Nat} {R : World → Nat → List Value → α → Prop} {w : World} {B : Nat} {v : Value} {xs : List α} (h : SlR size R w B v xs) : ∃ A c, v = .slice A xs.length c := by
  obtain ⟨A, c, hv, _⟩ := h
  exact ⟨A, c, hv⟩
theorem flen (fs : List FileD) : (fs.flatMap FileD.cells).length = fs.length * 3 := flatMap_len _ 3 FileD.len fs

set_option maxRecDepth 100000 in
set_option maxHeartbeats 1000000 in
theorem cloneFiles_any (v : Value) (fs : List FileD) (w : World) (h : FilesR w w.heap.size v fs) (hn : fs.length ≤ 1048576) :
    Calls Try.prog 104 #[v] w fun e w' => (∃ u, e = .returned u ∧ w'.ownsRow w.heap.size 66 3 u fs.length (fs.flatMap FileD.cells)) ∧ Below w.heap.size w w' := by
  have hfl := h.flat FileD.len (by omega)
  obtain ⟨A, c, rfl, hc, hm, h⟩ := h
  unfold maxLen at hm
  have HN := Lib.hid hn
  rcases A with _ | ad
  · have hz : Hid (fs = []) := by
      cases fs with
      | nil => rfl
      | cons f fs =>
        obtain ⟨_, _, _, h, _⟩ := h 0 (by simp)
        cases h
    clear h hn
    have ez := fun W => Lib.run_eql_slice_nil (P := Try.prog) W 27 66 none fs.length c 0 0 Try.underlying27
    go_enter Try.func104, Try.ntmps104
    go_wp2
    go_ret
    rw [hz.out]
    exact ⟨⟨_, rfl, World.ownsRow_nil w _ _ _⟩, bel0 w⟩
  · have ez := fun W => Lib.run_eql_slice_nil (P := Try.prog) W 27 66 (some ad) fs.length c 0 0 Try.underlying27
    have HF := Lib.hid hfl
    clear h hn hfl
    go_enter Try.func104, Try.ntmps104
    have h1 := HN.out
    go_wp2_with (at_builtin; refine wpList_app _ rfl (.tmp 5) (.tmp 6) 27 rfl w.heap.size 66 _ 3 40 Try.underlying27 infoFile rfl (by omega) (.slice (some ⟨w.heap.size, 0, none⟩) 0 0) 0 [] rfl (own_empty rfl (Nat.le_refl _)) (.slice (some ad) fs.length c) fs.length (fs.flatMap FileD.cells) rfl (flen fs) (HF.out.go (box (bel0 w) _)) (file_one fs) (by unfold maxLen; omega) (by omega) (by simp) ?_; intro v' w' ho hg)
    go_ret
    refine ⟨⟨_, rfl, ?_⟩, (box (bel0 w) _).grown hg (by simp) (by simp [Value.ownBlock])⟩
    simpa using ho

/-- What a call hands back that gives a disk of its own: the files fs, in new memory. -/
def GivesD (w : World) (fs : List FileD) (u : Value) (w' : World) : Prop := w'.ownsRow w.heap.size 66 3 u fs.length (fs.flatMap FileD.cells)

set_option maxHeartbeats 1000000 in
theorem copyDisk_any (v : Value) (fs : List FileD) (w : World) (h : FilesR w w.heap.size v fs) (hn : fs.length ≤ 1048576) :
    Calls Try.prog 75 #[.agg #[v]] w fun e w' => (∃ u, e = .returned (.agg #[u]) ∧ GivesD w fs u w') ∧ Below w.heap.size w w' := by
  have HN := Lib.hid hn
  clear hn
  go_enter Try.func75, Try.ntmps75
  go_wp2_with fail
  refine (cloneFiles_any _ fs _ (h.go (box (box (bel0 w) _) _)) HN.out).mono ?_
  rintro e w' ⟨⟨u, rfl, hown⟩, hb'⟩
  obtain ⟨A, c, rfl⟩ := own_form hown
  obtain ⟨hc, hf, hz⟩ := seen hb'
  simp at hc hf hz
  go_wp2
  refine bodyPost_ret (v := .agg #[.slice A fs.length c]) (by simp [results, Try.results75, go_sem, hc]) rfl ⟨⟨_, rfl, ?_⟩, put (stp (box (box (bel0 w) _) _) hb') (by simp) _⟩
  exact ownsRow_base (ownsRow_setCell_below hown (by simp) _) (by simp; omega)

set_option maxRecDepth 100000 in
set_option maxHeartbeats 1000000 in
theorem l29Copy_any (v : Value) (fs : List FileD) (w : World) (h : FilesR w w.heap.size v fs) (hn : fs.length ≤ 1048576) :
    Calls Try.prog 74 #[.agg #[v]] w fun e w' => (∃ u, e = .returned (.agg #[u]) ∧ GivesD w fs u w') ∧ Below w.heap.size w w' := by
  have HN := Lib.hid hn
  have HF := Lib.hid (h.flat FileD.len (by omega))
  clear hn
  go_enter Try.func74, Try.ntmps74
  have h1 := HN.out
  obtain ⟨A, c, rfl⟩ := sl_form h
  go_wp2_with (at_builtin; refine wpList_app _ rfl (.tmp 3) (.tmp 5) 27 rfl (w.heap.size + 1 + 1) 66 _ 3 40 Try.underlying27 infoFile rfl (by omega) (.slice (some ⟨w.heap.size + 1 + 1, 0, none⟩) 0 0) 0 [] rfl (own_empty (by simp) (Nat.le_refl _)) (.slice A fs.length c) fs.length (fs.flatMap FileD.cells) rfl (flen fs) (HF.out.go (box (box (box (bel0 w) _) _) _)) (file_one fs) (by unfold maxLen; omega) (by omega) (by simp) ?_; intro v' w' ho hg; have hb' := (Below.refl (w.heap.size + 1 + 1) _).grown hg (by simp) (by intro k hk; simp [Value.ownBlock] at hk; omega); obtain ⟨A', c', rfl⟩ := own_form ho; have hc : ∀ (b o : Nat), b < w.heap.size + 1 + 1 → _ := fun b o h => hb'.cell (p := ⟨b, o, none⟩) h; have hf : ∀ (b o : Nat), b < w.heap.size + 1 + 1 → _ := fun b o h => hb'.frozen (p := ⟨b, o, none⟩) h; have hz := hb'.size; simp at hc hf hz)
  rw [Nat.zero_add, List.nil_append] at ho
  refine bodyPost_ret (v := .agg #[.slice A' fs.length c']) (by simp [results, Try.results74, go_sem, hc]) rfl ⟨⟨_, rfl, ownsRow_base (ownsRow_setCell_below ho (by simp) _) (by omega)⟩, put ((box (box (box (bel0 w) _) _) _).trans (hb'.mono (by omega))) (by simp) _⟩
end Go.Proofs.Ytepachoampdhiaa
