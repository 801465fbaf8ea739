/- The law of reading needs. -/
import Derived.Test.YtidjjfjhmlndjaaGreatDoorNe7
import Derived.Test.YtidjjfjhmlndjaaGreatDoorNt1
import Derived.Test.YtidjjfjhmlndjaaGreatDoorMk3
namespace Go.Proofs.YtidjjfjhmlndjaaGreatDoor
open Go.RowKit
set_option linter.unusedVariables false
set_option linter.unusedSimpArgs false
set_option maxRecDepth 100000
set_option maxHeartbeats 40000000

theorem needB_small {n : NeedD} (h : needB n = true) : n.values.length ≤ 4 := by
  unfold needB at h
  rw [Bool.and_eq_true, Bool.and_eq_true] at h
  have h3 := h.2.2
  split at h3
  · have := eq_of_beq h3; omega
  · rw [Bool.and_eq_true] at h3
    have h4 := h3.1
    unfold inB at h4
    simp at h4
    omega
theorem needsB_small {ns : List NeedD} (h : needsB ns = true) : ns.length ≤ 4 ∧ ∀ x ∈ ns, x.values.length ≤ 4 := by
  unfold needsB at h
  rw [Bool.and_eq_true] at h
  refine ⟨of_decide_eq_true h.1, fun x hx => ?_⟩
  obtain ⟨j, hj, e⟩ := List.getElem_of_mem hx
  have h2 := List.all_eq_true.1 h.2 j (List.mem_range.2 hj)
  simp only [Bool.and_eq_true] at h2
  have h3 := needB_small h2.1
  rw [List.getD_eq_getElem?_getD, List.getElem?_eq_getElem hj, e] at h3
  exact h3
theorem srtNed_small {o : List NeedD} (h : (srtNed o).2 = true) : (srtNed o).1.length ≤ 4 ∧ ∀ x ∈ (srtNed o).1, x.values.length ≤ 4 := by
  unfold srtNed at h ⊢
  split at h
  · cases h
  · rename_i h1
    split at h
    · rename_i h2
      rw [if_neg h1, if_pos h2]
      exact needsB_small h2
    · cases h
theorem needsE_ok (p : ByteArray) : ∀ (r : List TreeD) (i : Nat), fltOk (needsE p i r).2
  | [], i => fltOk_no
  | x :: r, i => by
    rw [needsE]
    split
    · exact needsE_ok p r (i + 1)
    · rename_i h; exact .inr h
theorem needsR_or (l : List TreeD) (p : ByteArray) : (∃ r : List NeedD, needsR l p = (r, noF) ∧ r.length ≤ 4 ∧ ∀ x ∈ r, x.values.length ≤ 4) ∨ ∃ f : FaultD, needsR l p = ([], f) ∧ ¬ f.code = 0 := by
  unfold needsR
  split
  · split
    · rename_i h
      exact .inl ⟨_, rfl, srtNed_small h⟩
    · exact .inr ⟨_, rfl, nzF 16 p⟩
  · rename_i h
    exact .inr ⟨_, rfl, h⟩
theorem few_small {r : List NeedD} (h : ∀ x ∈ r, x.values.length ≤ 4) : Few needFew r := ⟨fun x hx => Nat.le_trans (h x hx) (by decide)⟩
theorem rl_small {r : List NeedD} (h : ∀ x ∈ r, x.values.length ≤ 4) (k : Nat) : (r.getD k default).rl := by
  rw [List.getD_eq_getElem?_getD]
  rcases Nat.lt_or_ge k r.length with hk | hk
  · rw [List.getElem?_eq_getElem hk]
    exact Nat.le_trans (h _ (List.getElem_mem hk)) (by decide)
  · rw [List.getElem?_eq_none hk]
    exact Nat.zero_le _

theorem SpecH.imp {P : Program} {f : FuncId} {ds : List D} {os : List (Nat × Ob)} {k : Nat} {Q Q' : D → List (Nat × Ob) → Nat → Prop} (h : SpecH P f ds os k Q) (hq : ∀ d os' nb', Q d os' nb' → Q' d os' nb') : SpecH P f ds os k Q' :=
  ⟨h.1, fun E M w args h1 h2 h3 => (h.2 E M w args h1 h2 h3).mono fun _ _ ⟨d, os', nb', E', u, h4, h5⟩ => ⟨d, os', nb', E', u, hq _ _ _ h4, h5⟩⟩
theorem impl_NeedsIn_A (l : List TreeD) (p : ByteArray) (hl : l.length ≤ 1048576) (hf : ∀ x ∈ l, TFine x) (hp : p.size ≤ 1048576) {r : List NeedD} (h : needsR l p = (r, noF)) : SpecH Tryz.prog 19 [.sl l.length (treesD l), .sc (.string p)] [] 0 (fun d os' nb' => d = .tup [.own 0 0 r.length, .agg [.sc (.int .i64 0), .sc (.int .i64 0), .sc (.string ⟨#[]⟩)]] ∧ os' = [(0, ⟨103, 3, r.length, needsT r⟩)] ∧ nb' = 1) := (impl_NeedsIn_X l p hl hf hp).imp fun d os' nb' hq => by
  rw [h] at hq
  rcases hq with ⟨_, h1, h2, h3⟩ | ⟨hc, _⟩
  · exact ⟨h1, h2, h3⟩
  · exact absurd noF_code hc
theorem impl_NeedsIn_B (l : List TreeD) (p : ByteArray) (hl : l.length ≤ 1048576) (hf : ∀ x ∈ l, TFine x) (hp : p.size ≤ 1048576) {f : FaultD} (hc : ¬ f.code = 0) (h : needsR l p = ([], f)) : SpecH Tryz.prog 19 [.sl l.length (treesD l), .sc (.string p)] [] 0 (fun d os' nb' => d = .tup [.sc (.slice none 0 0), .agg [.sc (.int .i64 (f).code), .sc (.int .i64 (f).at_), .sc (.string (f).path)]] ∧ os' = [] ∧ nb' = 0) := (impl_NeedsIn_X l p hl hf hp).imp fun d os' nb' hq => by
  rw [h] at hq
  rcases hq with ⟨h0, _⟩ | ⟨_, _, h1, h2, h3⟩
  · exact absurd (by show f.code = 0; rw [show f = noF from h0]; rfl) hc
  · exact ⟨h1, h2, h3⟩

theorem eqNeedS_nil  : Spec Tryz.prog 20 [.sc (.slice none 0 0), .sl 0 []] (fun d => d = .sc (.bool true)) := by
  have ex0 := @eqB_refl
  refine sp_ (rs := [.tmp 4]) (nt := 27) Tryz.func20 rfl fun X hX => ?_
  refine nm_ ?_
  repeat' ((first | contradiction | (with_reducible exact tt_) | ((with_reducible show Wk (AwStep _ _ _ _ _)); first | (refine pln_ ?_)) | ((with_reducible show Wk (AwCode _ _ _ _ _)); first | (refine wo_ (id := 6) [] [(0, true), (1, true), (2, true), (3, true), (4, true), (5, true), (6, true), (7, true), (8, false), (9, true)] ?_) | (refine lpU_ 0x23 (ι := Nat) (fun k => [(5, .sc (.int .i64 (k : Int)))]) (fun k => k ≤ 0) (fun k => 0 - k) 0 ?_ ?_; (focus (omega)); rintro _ hN0 k hinv; (try dsimp only at hinv); have hk : k ≤ 0 := hinv; skip)) | ((with_reducible show Wk (boolK _ _ _ _)); first | (refine bk_ (fun h h' => ?_) (fun h h' => ?_))) | ((with_reducible show Wk (_ ∧ _)); first | (refine and_ ?_ ?_)) | (refine hN0.go (k + 1) ?_ ?_; (focus (show k + 1 ≤ 0; omega)); (focus (show 0 - (k + 1) < 0 - k; omega))) | fail) <;> (try refine nm_ ?_))
  all_goals clear ex0
  all_goals (refine ⟨?_⟩)
  all_goals first | contradiction | rfl | (exfalso; omega) | trace_state

theorem markNeedS_nil  : Spec Tryz.prog 24 [.sc (.slice none 0 0), .sc (.int .i64 1)] (fun d => d = .sc (.int .i64 1)) := by
  refine sp_ (rs := [.tmp 4]) (nt := 35) Tryz.func24 rfl fun X hX => ?_
  refine nm_ ?_
  repeat' ((first | contradiction | (with_reducible exact tt_) | ((with_reducible show Wk (AwStep _ _ _ _ _)); first | (refine pln_ ?_)) | ((with_reducible show Wk (AwCode _ _ _ _ _)); first | (refine lpU_ 0x23 (ι := Nat) (fun k => [(1, .sc (.int .i64 1)), (5, .sc (.int .i64 (k : Int)))]) (fun k => k ≤ 0) (fun k => 0 - k) 0 ?_ ?_; (focus (omega)); rintro _ hN0 k hinv; (try dsimp only at hinv); have hk : k ≤ 0 := hinv; skip)) | ((with_reducible show Wk (boolK _ _ _ _)); first | (refine bk_ (fun h h' => ?_) (fun h h' => ?_))) | ((with_reducible show Wk (_ ∧ _)); first | (refine and_ ?_ ?_)) | (refine hN0.go (k + 1) ?_ ?_; (focus (show k + 1 ≤ 0; omega)); (focus (show 0 - (k + 1) < 0 - k; omega))) | fail) <;> (try refine nm_ ?_))
  all_goals (refine ⟨?_⟩)
  all_goals first | contradiction | rfl | (exfalso; omega) | trace_state

theorem heldNeedS_nil  : Spec Tryz.prog 25 [.sc (.slice none 0 0), .sc (.int .i64 1)] (fun d => d = .sc (.int .i64 1)) := by
  refine sp_ (rs := [.tmp 4]) (nt := 41) Tryz.func25 rfl fun X hX => ?_
  refine nm_ ?_
  repeat' ((first | contradiction | (with_reducible exact tt_) | ((with_reducible show Wk (AwStep _ _ _ _ _)); first | (refine pln_ ?_)) | ((with_reducible show Wk (AwCode _ _ _ _ _)); first | (refine wo_ (id := 4) [] [(0, true), (1, true), (2, true), (3, true), (4, true), (5, true), (6, false), (7, true)] ?_) | (refine lpU_ 0x23 (ι := Nat) (fun k => [(1, .sc (.int .i64 1)), (5, .sc (.int .i64 (k : Int)))]) (fun k => k ≤ 0) (fun k => 0 - k) 0 ?_ ?_; (focus (omega)); rintro _ hN0 k hinv; (try dsimp only at hinv); have hk : k ≤ 0 := hinv; skip)) | ((with_reducible show Wk (boolK _ _ _ _)); first | (refine bk_ (fun h h' => ?_) (fun h h' => ?_))) | ((with_reducible show Wk (_ ∧ _)); first | (refine and_ ?_ ?_)) | (refine hN0.go (k + 1) ?_ ?_; (focus (show k + 1 ≤ 0; omega)); (focus (show 0 - (k + 1) < 0 - k; omega))) | fail) <;> (try refine nm_ ?_))
  all_goals (refine ⟨?_⟩)
  all_goals first | contradiction | rfl | (exfalso; omega) | trace_state

set_option maxHeartbeats 20000000 in
theorem lawNeedsIn_A (l : List TreeD) (p : ByteArray) (hlr : l.length ≤ 9223372036854775807) (hr : ∀ x ∈ l, TRaw x) (hpr : strRaw p) : Spec Tryz.prog 4 [.sl l.length (treesD l), .sc (.string p)] (fun d => d = .sc (.bool true)) := by
  have hps : p.size ≤ 9223372036854775807 := hpr
  refine sp_ (rs := [.tmp 4]) (nt := 107) Tryz.func4 rfl fun X hX => ?_
  refine nm_ ?_
  repeat' ((first | contradiction | (with_reducible exact tt_) | ((with_reducible show Wk (AwStepF _ _ _ _ _ _ _)); first | (refine cl_ rfl _ _ eqNeedS_nil rfl rfl ?_; rintro _ rfl) | (refine cl_ rfl _ _ markNeedS_nil rfl rfl ?_; rintro _ rfl) | (refine cl_ rfl _ _ heldNeedS_nil rfl rfl ?_; rintro _ rfl) | (refine cl_ rfl _ _ (laws_eqFault_D noF) rfl rfl ?_; rintro _ rfl) | (refine cl_ rfl _ _ (laws_eqFault_D f) rfl rfl ?_; rintro _ rfl) | (refine cl_ rfl _ _ (laws_szTreeS_D l 1048576 (by decide) (by decide) hlr hr) rfl rfl ?_; rintro _ ⟨r2, rfl, ha2, hb2, hc2⟩; (by_cases hneg2 : r2 < 0; rotate_left; obtain ⟨hll, hlf, htn⟩ := hc2 (by omega); replace hlf := Lib.hid hlf; rotate_left)) | (refine awH_ rfl (toTreeS_H l hll hlf.out) [] ?_; rintro _ _ _ ⟨rfl, rfl, rfl⟩ _) | (refine awH_ rfl (laws_markTreeS_D l 1 (by decide) (by omega) hll hlf.out) [2] ?_; rintro _ _ _ ⟨k1, ys, ⟨hk1, hk2, hys⟩, rfl, rfl, rfl⟩ _) | (refine awH_ rfl (laws_markNeedS_D r 1 (by decide) (by decide) (by omega) (few_small hrs.out)) [3] ?_; rintro _ _ _ ⟨rfl, rfl, rfl⟩ _) | (refine bo_ rfl [.cool 3, .frz 3] (laws_eqNeedS_D r (by omega) (rl_small hrs.out)) ?_; rintro _ rfl; refine ⟨rfl, ?_⟩) | (refine bo_ rfl [.cool 7, .frz 7] (laws_eqNeedS_D r (by omega) (rl_small hrs.out)) ?_; rintro _ rfl; refine ⟨rfl, ?_⟩) | (refine bo_ rfl [.cool 2, .frz 2, .cool 5, .frz 5] (laws_eqTreeS_D l hll hlf.out) ?_; rintro _ rfl; refine ⟨rfl, ?_⟩) | (refine bo_ rfl [.cool 2, .frz 2, .cool 4, .frz 4] (laws_eqTreeS_D l hll hlf.out) ?_; rintro _ rfl; refine ⟨rfl, ?_⟩) | (refine bo_ rfl [.cool 3, .frz 3] (laws_heldNeedS_D r 1 (by decide) (by decide) (by omega) (few_small hrs.out)) ?_; rintro _ rfl; refine ⟨rfl, ?_⟩) | (refine boH_ rfl [.cool 2, .frz 2] (impl_NeedsIn_A l p hll hlf.out (by omega) hN.out) ?_; rintro _ _ _ ⟨rfl, rfl, rfl⟩; refine ⟨⟨rfl, dryO_⟩, ?_⟩) | (refine boH_ rfl [.cool 2, .frz 2] (impl_NeedsIn_B l p hll hlf.out (by omega) hc hN.out) ?_; rintro _ _ _ ⟨rfl, rfl, rfl⟩; refine ⟨⟨rfl, dryO_⟩, ?_⟩) | (refine boH_ rfl [.cool 6, .frz 6] (impl_NeedsIn_A l p hll hlf.out (by omega) hN.out) ?_; rintro _ _ _ ⟨rfl, rfl, rfl⟩; refine ⟨⟨rfl, dryO_⟩, ?_⟩) | (refine boH_ rfl [.cool 5, .frz 5] (impl_NeedsIn_B l p hll hlf.out (by omega) hc hN.out) ?_; rintro _ _ _ ⟨rfl, rfl, rfl⟩; refine ⟨⟨rfl, dryO_⟩, ?_⟩)) | ((with_reducible show Wk (AwStep _ _ _ _ _)); first | (refine gpp_ [.cool 0, .frz 0] ?_; refine pln_ ?_; refine nm_ ?_; refine cl_ rfl _ _ (spec_NeedsIn_X l p hll hlf.out (by omega)) rfl rfl ?_; rintro _ rfl; (rcases needsR_or l p with ⟨r, hN, hrl, hrs⟩ | ⟨f, hN, hc⟩ <;> simp only [hN] <;> replace hN := Lib.hid hN); rotate_left; skip; rotate_left; (have hnk := mkNk_rng r 1 (few_small hrs); replace hrs := Lib.hid hrs); rotate_left) | (refine pln_ ?_)) | ((with_reducible show Wk (boolK _ _ _ _)); first | (refine bk_ (fun h h' => ?_) (fun h h' => ?_))) | ((with_reducible show Wk (_ ∧ _)); first | (refine and_ ?_ ?_)) | fail) <;> (try refine nm_ ?_))
  all_goals (refine ⟨?_⟩)
  all_goals first | contradiction | rfl | (exfalso; omega) | trace_state

end Go.Proofs.YtidjjfjhmlndjaaGreatDoor
