/- slices.Delete at files: one file taken out of a row of the call's own. -/
import Derived.Test.YtepachoampdhiaaDiskD
import Derived.Test.YtepachoampdhiaaGrown
import Derived.Deep.RegionHeld3
import Derived.Deep.RegionLaw
namespace Go.Proofs.Ytepachoampdhiaa
open Go.RowKit

theorem run_clear_own {P : Program} {w : World} (base : Nat) (t e : TypeId) (z : Value) (size : Nat) (ht : P.underlying t = some (.slice e)) (hv : ∀ w, (zeroValue e).run P w = .ok z w) (hz : z.cells.size = size) (h1 : ∀ u ∈ z.cells.toList, u.oneCell' = true) (h0 : 0 < size)
    (g m n cap c' : Nat) (xs : List Value) (hown : w.ownsRow base e size (.slice (some ⟨g, 0, none⟩) m cap) m xs) (hmn : m < n) (hn : n ≤ cap) :
    ∃ w', (∀ ty, (Builtin.clear_ #[t] ty #[.slice (some ⟨g, m * size, none⟩) (n - m) c']).run P w = .ok (.tuple #[]) w') ∧ w'.ownsRow base e size (.slice (some ⟨g, 0, none⟩) m cap) m xs ∧ w.grownBy w' (some g) := by
  rcases hown.2 with ⟨h', _⟩ | ⟨g', cap', cur, h', hb, hg, hnc, hcm, hcs, htake⟩
  · simp at h'
  · simp only [Value.slice.injEq, Option.some.injEq, Addr.mk.injEq, and_true, true_and] at h'
    obtain ⟨rfl, rfl⟩ := h'
    have hsz : (Builtin.zeroCells z.cells (n - m)).toList.length = (n - m) * size := by rw [Array.length_toList, size_zeroCells, hz]
    have hfit : m * size + (n - m) * size ≤ cur.size := by rw [hcs, ← Nat.add_mul]; exact Nat.mul_le_mul_right _ (by omega)
    have hone : ∀ v ∈ (Builtin.zeroCells z.cells (n - m)).toList, v.oneCell' = true := by
      intro v hv'
      have hv2 : v ∈ Builtin.zeroCells z.cells (n - m) := by simpa using hv'
      unfold Builtin.zeroCells at hv2
      obtain ⟨i, _, rfl⟩ := Array.mem_map.1 hv2
      have : i % z.cells.size < z.cells.size := Nat.mod_lt _ (by omega)
      exact h1 _ (by simp [getElem!_pos z.cells (i % z.cells.size) this])
    have hst := run_storeCells_at P g (m * size) e (Builtin.zeroCells z.cells (n - m)).toList 0 cur w hg (by rw [hsz]; omega) hone
    obtain ⟨q, hq⟩ : ∃ q, n - m = q + 1 := ⟨n - m - 1, by omega⟩
    simp only [Nat.add_zero] at hst
    refine ⟨w.setRow g (cur.toList.take (m * size) ++ (Builtin.zeroCells z.cells (n - m)).toList ++ cur.toList.drop (m * size + (Builtin.zeroCells z.cells (n - m)).toList.length)).toArray, fun ty => ?_, ⟨hown.1, .inr ⟨g, cap, _, rfl, hb, setRow_heap w g cur _ e _ hg, hnc, hcm, ?_, ?_⟩⟩, ⟨rfl, rfl, rfl, by simp, fun k _ hk => setRow_other w g k _ (fun e => hk (by simp [e]))⟩⟩
    · rw [hq] at hst ⊢
      simp [Builtin.clear_, run_underlying ht, hv, hst]
    · simp only [List.size_toArray, List.length_append, List.length_take, List.length_drop, Array.length_toList, hsz]
      omega
    · rw [← htake]
      rw [List.append_assoc, List.take_append, List.take_take, Nat.min_self]
      rw [List.length_take, Array.length_toList, Nat.min_eq_left (by omega), Nat.sub_self, List.take_zero, List.append_nil]

set_option maxRecDepth 100000 in
set_option maxHeartbeats 2000000 in
theorem deleteFile_any (v : Value) (fs : List FileD) (k base : Nat) (hk : k < fs.length) (w : World) (h : w.ownsRow base 66 3 v fs.length (fs.flatMap FileD.cells)) (hn : fs.length ≤ 1048576) :
    Calls Try.prog 79 #[v, .int .i64 k, .int .i64 (k + 1)] w fun e w' => (∃ u, e = .returned u ∧ u.ownBlock = v.ownBlock ∧ w'.ownsRow base 66 3 u (fs.eraseIdx k).length ((fs.eraseIdx k).flatMap FileD.cells)) ∧ w.grownBy w' v.ownBlock := by
  obtain ⟨A, c, rfl⟩ := own_form h
  obtain ⟨g, rfl, hgb, hgl⟩ := own_some h (by omega)
  obtain ⟨hc, hm⟩ := own_cap h
  unfold maxLen at hm
  have k0 : (0 : Int) ≤ (k : Int) := Int.natCast_nonneg _
  have k1 : (k : Int) < (fs.length : Int) := by omega
  have k2 : (k : Int) + 1 ≤ (fs.length : Int) := by omega
  have k4 : (k : Int) ≤ (c : Int) := by omega
  have k5 : (fs.length : Int) ≤ (c : Int) := by omega
  have k6 : (0 : Int) ≤ (k : Int) + 1 := by omega
  have k7 : ((k : Int) + 1).toNat = k + 1 := by omega
  have k8 : (0 : Int) ≤ (fs.length : Int) := by omega
  have kb : ((k : Int) == (k : Int) + 1) = false := by rw [beq_eq_false_iff_ne]; omega
  have P1 := Lib.hid (own_prefix h k (by omega))
  have e1 : fs.eraseIdx k = fs.take k ++ fs.drop (k + 1) := List.eraseIdx_eq_take_drop_succ ..
  have L2 : Hid (((fs.drop (k + 1)).flatMap FileD.cells).length = (fs.length - (k + 1)) * 3) := by unfold Hid; rw [flen, List.length_drop]
  have T1 : Hid ((fs.flatMap FileD.cells).take (k * 3) = (fs.take k).flatMap FileD.cells) := (flatMap_take FileD.cells 3 FileD.len fs k).symm
  rw [e1]
  by_cases hcap : c = k + 1
  · subst hcap
    have hlen : fs.length = k + 1 := by omega
    have k9 : (k : Int) ≤ (k : Int) + 1 := by omega
    have kA : (fs.length : Int) ≤ (k : Int) + 1 := by omega
    have e2 : Hid (fs.drop (k + 1) = []) := List.drop_of_length_le (by omega)
    clear hlen
    clear e1
    go_enter Try.func79, Try.ntmps79
    go_wp2
    go_region_held3 (fun W => W.os = w.os) (first | exact hg1.os | rfl | assumption | go_keep) (first | (refine step_fits _ rfl (.tmp 22) (.tmp 25) 27 rfl base 66 _ 3 40 Try.underlying27 infoFile g k (k + 1) _ rfl P1.out.drew ⟨g, 0, none⟩ 0 _ [] rfl rfl (fun j u hj => by cases hj) (by intro u hu; cases hu) (by omega) ?_; intro w1 ho1 hg1))
    rw [Nat.add_zero, List.append_nil] at ho1
    obtain ⟨w2, hclr, ho2, hg2⟩ := run_clear_own (P := Try.prog) base 27 66 _ 3 Try.underlying27 Try.zeroValue66 rfl (by intro u hu; simp [Value.cells] at hu; rcases hu with rfl | rfl | rfl <;> rfl) (by omega) g k fs.length (k + 1) 1 _ ho1 (by omega) hc
    go_wp2_with fail
    go_ret
    have ho := ho2
    rw [T1.out] at ho
    have el : (fs.take k).length = k := by rw [List.length_take]; omega
    rw [e2.out, List.append_nil, el]
    exact ⟨⟨_, rfl, rfl, ho⟩, grown_trans (b := w1) ⟨hg1.os, hg1.tape, hg1.output, hg1.size, hg1.block⟩ hg2⟩
  · have C2 : Hid (∀ j u, ((fs.drop (k + 1)).flatMap FileD.cells)[j]? = some u → w.drew.cell? ((⟨g, (k + 1) * 3, none⟩ : Addr).add j) = some u) := fun j u hj => by
      rw [flatMap_drop FileD.cells 3 FileD.len, List.getElem?_drop] at hj
      rw [Addr.add_lit]
      have hl := (List.getElem?_eq_some_iff.1 hj).1
      rw [flen] at hl
      exact (h.cellAt _ hl).trans hj
    clear e1
    go_enter Try.func79, Try.ntmps79
    go_wp2
    go_region_held3 (fun W => W.os = w.os) (first | exact hg1.os | rfl | assumption | go_keep) (first | (refine step_fits _ rfl (.tmp 22) (.tmp 25) 27 rfl base 66 _ 3 40 Try.underlying27 infoFile g k c _ rfl P1.out.drew ⟨g, (k + 1) * 3, none⟩ (fs.length - (k + 1)) _ ((fs.drop (k + 1)).flatMap FileD.cells) rfl L2.out C2.out (file_one _) (by omega) ?_; intro w1 ho1 hg1))
    have em : k + (fs.length - (k + 1)) + 1 = fs.length := by omega
    obtain ⟨w2, hclr, ho2, hg2⟩ := run_clear_own (P := Try.prog) base 27 66 _ 3 Try.underlying27 Try.zeroValue66 rfl (by intro u hu; simp [Value.cells] at hu; rcases hu with rfl | rfl | rfl <;> rfl) (by omega) g (k + (fs.length - (k + 1))) fs.length c (c - (k + (fs.length - (k + 1)))) _ ho1 (by omega) hc
    have EM := Lib.hid em
    clear em
    go_wp2_with fail
    go_ret
    have ho := ho2
    rw [T1.out, ← List.flatMap_append] at ho
    have el : (fs.take k ++ fs.drop (k + 1)).length = k + (fs.length - (k + 1)) := by rw [List.length_append, List.length_take, List.length_drop]; omega
    rw [el]
    exact ⟨⟨_, rfl, rfl, ho⟩, grown_trans (b := w1) ⟨hg1.os, hg1.tape, hg1.output, hg1.size, hg1.block⟩ hg2⟩
end Go.Proofs.Ytepachoampdhiaa
