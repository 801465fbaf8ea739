/- Which of two waiting pods comes first. -/
import Derived.Test.YtidjjfjhmlndjaaGreatDoorPx
import Derived.Test.YtidjjfjhmlndjaaGreatDoorCl5
import Derived.Test.YtidjjfjhmlndjaaGreatDoorNo
namespace Go.Proofs.YtidjjfjhmlndjaaGreatDoor
open Go.RowKit
set_option linter.unusedVariables false
set_option linter.unusedSimpArgs false
set_option maxRecDepth 100000
set_option maxHeartbeats 4000000

theorem or_lt (x y : Int) : decide (orN (fun k => [x, y].getD k default) 2 < 0) = (decide (x < 0) || ((x == 0) && decide (y < 0))) := by
  show decide ((if x == 0 then (if y == 0 then 0 else y) else x) < 0) = _
  by_cases h : x = 0
  · subst h
    by_cases h2 : y = 0
    · subst h2; rfl
    · rw [if_pos (show ((0 : Int) == 0) = true from rfl), if_neg (by simpa using h2)]; simp
  · rw [if_neg (by simpa using h)]
    rw [beq_false_of_ne h]; simp
theorem wt_cmp {a b : PlacedD} : decide (orN (fun k => [cmpI b.pod.rank a.pod.rank, cmpI a.seq b.seq].getD k default) 2 < 0) = wtLt a b := by
  rw [or_lt, cmpI_lt, cmpI_eq, cmpI_lt]
  unfold wtLt
  rw [show (b.pod.rank == a.pod.rank) = (a.pod.rank == b.pod.rank) from Bool.beq_comm]
theorem len_setS (xs : List ByteArray) (k : Nat) (v : ByteArray) : (xs.set k v).length = xs.length := List.length_set
theorem len_setP (xs : List PlacedD) (k : Nat) (v : PlacedD) : (xs.set k v).length = xs.length := List.length_set
theorem strs_set1 (xs : List ByteArray) (k : Nat) (v : ByteArray) : (strsD xs).set k (.sc (.string v)) = strsD (xs.set k v) := by simp [strsD, List.map_set]
theorem placeds_set9 (xs : List PlacedD) (k : Nat) (x : PlacedD) : (((((((((placedsD xs).set (k * 9) (.sc (.string x.pod.name))).set (k * 9 + 1) (.sl x.pod.labels.length (labelsD x.pod.labels))).set (k * 9 + 2) (.sc (.int .i64 x.pod.cpu))).set (k * 9 + 3) (.sc (.int .i64 x.pod.mem))).set (k * 9 + 4) (.sc (.int .i64 x.pod.rank))).set (k * 9 + 5) (.sl x.pod.needs.length (needsD x.pod.needs))).set (k * 9 + 6) (.sl x.pod.tolers.length (tolersD x.pod.tolers))).set (k * 9 + 7) (.sc (.string x.on))).set (k * 9 + 8) (.sc (.int .i64 x.seq)) = placedsD (xs.set k x) := by
  rcases Nat.lt_or_ge k xs.length with h | h
  rotate_left
  · have hl : (placedsD xs).length ≤ k * 9 := by rw [placedsD_len]; omega
    have h0 : ∀ d, (placedsD xs).set (k * 9) d = placedsD xs := fun d => List.set_eq_of_length_le hl
    have hn : ∀ (j : Nat) (d : D), (placedsD xs).set (k * 9 + j) d = placedsD xs := fun j d => List.set_eq_of_length_le (by omega)
    rw [h0, hn, hn, hn, hn, hn, hn, hn, hn, List.set_eq_of_length_le h]
  have e : placedsD xs = placedsD (xs.take k) ++ (placedCells (xs.getD k default) ++ placedsD (xs.drop (k + 1))) := by
    conv => lhs; rw [← List.take_append_drop k xs, getD_drop xs h]
    simp [placedsD, flatD]
  have e2 : xs.set k x = xs.take k ++ (x :: xs.drop (k + 1)) := by rw [List.set_eq_take_append_cons_drop, if_pos h]
  have hl : (placedsD (xs.take k)).length = k * 9 := by rw [placedsD_len, List.length_take, Nat.min_eq_left (by omega)]
  have st : ∀ (B : List D) (j : Nat) (d : D), (placedsD (xs.take k) ++ B).set (k * 9 + j) d = placedsD (xs.take k) ++ B.set j d := fun B j d => by
    rw [List.set_append_right _ _ (by omega), hl, Nat.add_sub_cancel_left]
  have st0 : ∀ (B : List D) (d : D), (placedsD (xs.take k) ++ B).set (k * 9) d = placedsD (xs.take k) ++ B.set 0 d := fun B d => st B 0 d
  rw [e, e2, st0, st, st, st, st, st, st, st, st]
  simp [placedsD, flatD, placedCells]

theorem wait1_X (x y : PlacedD) : Spec Tryz.prog 112 [.agg (placedCells x), .agg (placedCells y)] (fun d => ∃ k : Int, decide (k < 0) = wtLt x y ∧ d = .sc (.int .i64 k)) := by
  unfold placedCells
  refine sp_ (rs := [.tmp 4]) (nt := 19) Tryz.func112 rfl fun X hX => ?_
  refine nm_ ?_
  repeat' ((first | contradiction | (with_reducible exact tt_) | ((with_reducible show Wk (AwStepF _ _ _ _ _ _ _)); first | (refine cl_ rfl _ _ (cmp_Compare_int_D _ _) rfl rfl ?_; rintro _ rfl) | (refine afz_ [2] ?_; refine nm_ ?_; refine cl_ rfl _ _ (cmp_Or_int_D [_, _] (by simp)) rfl rfl ?_; rintro _ rfl)) | ((with_reducible show Wk (AwStep _ _ _ _ _)); first | (refine pln_ ?_)) | ((with_reducible show Wk (AwCode _ _ _ _ _)); first | (refine wo_ (id := 1) [] [(0, true), (1, true), (2, true), (3, true), (4, true), (5, true), (7, true), (8, true), (9, true), (10, true), (6, false), (11, false), (12, false), (13, false), (14, true)] ?_)) | ((with_reducible show Wk (boolK _ _ _ _)); first | (refine bk_ (fun h h' => ?_) (fun h h' => ?_))) | ((with_reducible show Wk (_ ∧ _)); first | (refine and_ ?_ ?_)) | fail) <;> (try refine nm_ ?_))
  all_goals (refine ⟨?_⟩)
  all_goals first | contradiction | (exfalso; omega) | (exact ⟨_, wt_cmp, rfl⟩) | trace_state

end Go.Proofs.YtidjjfjhmlndjaaGreatDoor
