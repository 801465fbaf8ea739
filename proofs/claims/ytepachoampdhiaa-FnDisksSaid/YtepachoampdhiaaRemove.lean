/- RemoveFile, Cleared: of the program and of the reference. -/
import Derived.Test.YtepachoampdhiaaDiskD
import Derived.Test.YtepachoampdhiaaGrown
import Derived.Deep.RegionHeld3
import Derived.Deep.RegionLaw
namespace Go.Proofs.Ytepachoampdhiaa
open Go.RowKit

set_option maxRecDepth 100000 in
set_option maxHeartbeats 2000000 in
theorem l29Without_any (v : Value) (fs : List FileD) (k : Nat) (hk : k < fs.length) (w : World) (h : FilesR w w.heap.size v fs) (hn : fs.length ≤ 1048576) :
    Calls Try.prog 78 #[.agg #[v], .int .i64 k] w fun e w' => (∃ u, e = .returned (.agg #[u]) ∧ GivesD w (fs.eraseIdx k) u w') ∧ Below w.heap.size w w' := by
  obtain ⟨A, c, rfl, hc, hm, hx⟩ := h
  unfold maxLen at hm
  obtain ⟨b, o, cs, rfl, hbb, hl, hcs, rfl, hok⟩ := hx k hk
  have k0 : (0 : Int) ≤ (k : Int) := Int.natCast_nonneg _
  have k1 : (k : Int) < (fs.length : Int) := by omega
  have k2 : (k : Int) + 1 ≤ (fs.length : Int) := by omega
  have k3 : IntKind.i64.wrap ((k : Int) + 1) = (k : Int) + 1 := IntWalk.i64_in _ (by omega)
  have k4 : (k : Int) ≤ (c : Int) := by omega
  have k5 : (fs.length : Int) ≤ (c : Int) := by omega
  have k6 : (0 : Int) ≤ (k : Int) + 1 := by omega
  have k7 : ((k : Int) + 1).toNat = k + 1 := by omega
  have k8 : (0 : Int) ≤ (fs.length : Int) := by omega
  have hfl := SlR.flat FileD.len (by omega) (⟨_, c, rfl, hc, by unfold maxLen; omega, hx⟩ : FilesR w w.heap.size (.slice (some ⟨b, o, none⟩) fs.length c) fs)
  have q1 : FlatAt w (.slice (some ⟨b, o, none⟩) k c) k ((fs.take k).flatMap FileD.cells) := by
    have := flat_sub FileD.len hfl 0 k c (by omega)
    simpa using this
  have Q1 := Lib.hid q1
  have e1 : fs.eraseIdx k = fs.take k ++ fs.drop (k + 1) := List.eraseIdx_eq_take_drop_succ ..
  have L1 : Hid (((fs.take k).flatMap FileD.cells).length = k * 3) := by unfold Hid; rw [flen, List.length_take]; congr 1; omega
  have L2 : Hid (((fs.drop (k + 1)).flatMap FileD.cells).length = (fs.length - (k + 1)) * 3) := by unfold Hid; rw [flen, List.length_drop]
  rw [e1]
  by_cases hcap : c = k + 1
  · subst hcap
    have hlen : fs.length = k + 1 := by omega
    have k9 : (k : Int) ≤ (k : Int) + 1 := by omega
    have kA : (fs.length : Int) ≤ (k : Int) + 1 := by omega
    have q2 : FlatAt w (.slice (some ⟨b, o, none⟩) 0 0) 0 [] := ⟨_, 0, rfl, fun h => by omega⟩
    have e2 : Hid (fs.drop (k + 1) = []) := List.drop_of_length_le (by omega)
    have Q2 := Lib.hid q2
    clear q1 q2 hfl e1 hx hcs hl hlen
    go_enter Try.func78, Try.ntmps78
    go_wp2_with fail
    go_region_held3 (fun W => W.cell? ⟨w.heap.size, 0, none⟩ = some (.slice (some ⟨b, o, none⟩) fs.length (k + 1))) (go_keep)
      (first | (refine step_app _ rfl (.tmp 5) (.tmp 9) 27 rfl (w.heap.size + 1 + 1) 66 _ 3 40 Try.underlying27 infoFile rfl (by omega) (.slice (some ⟨w.heap.size + 1 + 1, 0, none⟩) 0 0) 0 [] rfl (own_empty (by simp) (Nat.le_refl _)).drew _ k _ rfl L1.out (Q1.out.go (drw (box (box (box (bel0 w) _) _) _))) (file_one _) (by unfold maxLen; omega) (by omega) (by simp) ?_; intro v1 w1 ho1 hg1; have hb1 := (Below.refl (w.heap.size + 1 + 1) _).grown hg1 (by simp) (by intro k hk; simp [Value.ownBlock] at hk; omega); have s1 := hb1.cell (p := ⟨w.heap.size, 0, none⟩) (by show w.heap.size < _; omega); simp at s1; have HB1 := Lib.hid hb1; clear hb1) | (refine step_app _ rfl (.tmp 10) (.tmp 15) 27 rfl (w.heap.size + 1 + 1) 66 _ 3 40 Try.underlying27 infoFile rfl (by omega) v1 _ _ rfl ho1 _ 0 [] rfl rfl (Q2.out.go ((drw (box (box (box (bel0 w) _) _) _)).trans (HB1.out.mono (by omega)))) (by intro u hu; cases hu) (by unfold maxLen; omega) (by omega) (by have := HB1.out.size; simp at this; omega) ?_; intro v2 w2 ho2 hg2; have hb2 := HB1.out.grown hg2 (by have := HB1.out.size; simp at this; omega) (fun k hk => (ho1.lt k hk).1); have s2 := hb2.cell (p := ⟨w.heap.size, 0, none⟩) (by show w.heap.size < _; omega); simp at s2; have t2 := hb2.cell (p := ⟨w.heap.size + 1, 0, none⟩) (by show w.heap.size + 1 < _; omega); have f2 := hb2.frozen (p := ⟨w.heap.size + 1, 0, none⟩) (by show w.heap.size + 1 < _; omega); simp at t2 f2; have HB2 := Lib.hid hb2; clear hb2; obtain ⟨A2, p2, e2⟩ := own_form ho2; subst e2))
    go_wp2
    have ho := ho2
    rw [Nat.zero_add, List.nil_append, List.append_nil, Nat.add_zero] at ho
    have ek : k = (fs.take k).length := by rw [List.length_take]; omega
    rw [e2.out, List.append_nil]
    refine bodyPost_ret (v := .agg #[.slice A2 k p2]) (by simp [results, Try.results78, go_sem, t2]) rfl ⟨⟨_, rfl, ?_⟩, ?_⟩
    · unfold GivesD
      rw [← ek]
      exact ownsRow_base (ownsRow_setCell_below ho (by simp) _) (by omega)
    · exact put ((drw (box (box (box (bel0 w) _) _) _)).trans (HB2.out.mono (by omega))) (by simp) _
  · have q2 : FlatAt w (.slice (some ⟨b, o + (k + 1) * 3, none⟩) (fs.length - (k + 1)) (c - (k + 1))) (fs.length - (k + 1)) ((fs.drop (k + 1)).flatMap FileD.cells) := by
      have := flat_sub FileD.len hfl (k + 1) (fs.length - (k + 1)) (c - (k + 1)) (by omega)
      rwa [List.take_of_length_le (by rw [List.length_drop]; exact Nat.le_refl _)] at this
    have Q2 := Lib.hid q2
    clear q1 q2 hfl e1 hx hcs hl
    go_enter Try.func78, Try.ntmps78
    go_wp2_with fail
    go_region_held3 (fun W => W.cell? ⟨w.heap.size, 0, none⟩ = some (.slice (some ⟨b, o, none⟩) fs.length c)) (go_keep)
      (first | (refine step_app _ rfl (.tmp 5) (.tmp 9) 27 rfl (w.heap.size + 1 + 1) 66 _ 3 40 Try.underlying27 infoFile rfl (by omega) (.slice (some ⟨w.heap.size + 1 + 1, 0, none⟩) 0 0) 0 [] rfl (own_empty (by simp) (Nat.le_refl _)).drew _ k _ rfl L1.out (Q1.out.go (drw (box (box (box (bel0 w) _) _) _))) (file_one _) (by unfold maxLen; omega) (by omega) (by simp) ?_; intro v1 w1 ho1 hg1; have hb1 := (Below.refl (w.heap.size + 1 + 1) _).grown hg1 (by simp) (by intro k hk; simp [Value.ownBlock] at hk; omega); have s1 := hb1.cell (p := ⟨w.heap.size, 0, none⟩) (by show w.heap.size < _; omega); simp at s1; have HB1 := Lib.hid hb1; clear hb1) | (refine step_app _ rfl (.tmp 10) (.tmp 15) 27 rfl (w.heap.size + 1 + 1) 66 _ 3 40 Try.underlying27 infoFile rfl (by omega) v1 _ _ rfl ho1 _ (fs.length - (k + 1)) _ rfl L2.out (Q2.out.go ((drw (box (box (box (bel0 w) _) _) _)).trans (HB1.out.mono (by omega)))) (file_one _) (by unfold maxLen; omega) (by omega) (by have := HB1.out.size; simp at this; omega) ?_; intro v2 w2 ho2 hg2; have hb2 := HB1.out.grown hg2 (by have := HB1.out.size; simp at this; omega) (fun k hk => (ho1.lt k hk).1); have s2 := hb2.cell (p := ⟨w.heap.size, 0, none⟩) (by show w.heap.size < _; omega); simp at s2; have t2 := hb2.cell (p := ⟨w.heap.size + 1, 0, none⟩) (by show w.heap.size + 1 < _; omega); have f2 := hb2.frozen (p := ⟨w.heap.size + 1, 0, none⟩) (by show w.heap.size + 1 < _; omega); simp at t2 f2; have HB2 := Lib.hid hb2; clear hb2; obtain ⟨A2, p2, e2⟩ := own_form ho2; subst e2))
    go_wp2
    have ho := ho2
    rw [Nat.zero_add, List.nil_append, ← List.flatMap_append, show k + (fs.length - (k + 1)) = (fs.take k ++ fs.drop (k + 1)).length by rw [List.length_append, List.length_take, List.length_drop]; omega] at ho
    refine bodyPost_ret (v := .agg #[.slice A2 (fs.take k ++ fs.drop (k + 1)).length p2]) (by simp [results, Try.results78, go_sem, t2]; omega) rfl ⟨⟨_, rfl, ?_⟩, ?_⟩
    · exact ownsRow_base (ownsRow_setCell_below ho (by simp) _) (by omega)
    · exact put ((drw (box (box (box (bel0 w) _) _) _)).trans (HB2.out.mono (by omega))) (by simp) _
end Go.Proofs.Ytepachoampdhiaa
