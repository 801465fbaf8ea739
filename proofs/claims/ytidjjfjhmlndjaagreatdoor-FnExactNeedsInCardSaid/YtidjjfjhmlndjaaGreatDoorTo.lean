/- Copies of clusters, with their memory. -/
import Derived.Test.YtidjjfjhmlndjaaGreatDoorCl9
import Derived.Test.YtidjjfjhmlndjaaGreatDoorCl10
import Derived.Test.YtidjjfjhmlndjaaGreatDoorMk1
import Derived.Test.YtidjjfjhmlndjaaGreatDoorNo
namespace Go.Proofs.YtidjjfjhmlndjaaGreatDoor
open Go.RowKit
set_option linter.unusedVariables false
set_option linter.unusedSimpArgs false
set_option maxRecDepth 100000
set_option maxHeartbeats 4000000

def needsZ (m : Nat) : List D := rowD [.sc (.string ⟨#[]⟩), .sc (.int .i64 0), .sc (.slice none 0 0)] m
theorem needsZ_zero (m : Nat) : rowD [.sc (.string ⟨#[]⟩), .sc (.int .i64 0), .sc (.slice none 0 0)] m = needsZ m := rfl
theorem needsZ_cons (m : Nat) : needsZ (m + 1) = .sc (.string ⟨#[]⟩) :: .sc (.int .i64 0) :: .sc (.slice none 0 0) :: needsZ m := rfl
theorem needsZ_nil : needsZ 0 = [] := rfl
theorem needsZ_len (m : Nat) : (needsZ m).length = m * 3 := rowD_len _ m
theorem needsZ_tp (m : Nat) : (needsZ m).all D.tp = true := rowD_all rfl m
theorem needsZ_in (p : Nat → Bool) (m : Nat) : (needsZ m).all (D.in1 p) = true := tps_in (needsZ_tp m) p
theorem needsZ_ren (f : Nat → Nat) (m : Nat) : (needsZ m).map (D.ren1 f) = needsZ m := tps_ren (needsZ_tp m) f
theorem needsZ_frz (i : Nat) (x : Ob) (m : Nat) : (needsZ m).map (D.frz1 i x) = needsZ m := tps_frz (needsZ_tp m) i x
theorem needsZ_lt (q m : Nat) : (needsZ m).all (D.lt1 q) = true := tps_lt (needsZ_tp m) q
theorem needsZ_abs (i : Nat) (x : Ob) (m : Nat) : (needsZ m).map (D.abs1 i x) = needsZ m := tps_abs (needsZ_tp m) i x
theorem needsZ_own (i n k m : Nat) : own1 i n (needsZ m) k = (k == 1) := own1_all (needsZ_tp m) i n k

def hostsZ (m : Nat) : List D := rowD [.sc (.string ⟨#[]⟩), .sc (.slice none 0 0), .sc (.int .i64 0), .sc (.int .i64 0), .sc (.int .i64 0), .sc (.slice none 0 0)] m
theorem hostsZ_zero (m : Nat) : rowD [.sc (.string ⟨#[]⟩), .sc (.slice none 0 0), .sc (.int .i64 0), .sc (.int .i64 0), .sc (.int .i64 0), .sc (.slice none 0 0)] m = hostsZ m := rfl
theorem hostsZ_cons (m : Nat) : hostsZ (m + 1) = .sc (.string ⟨#[]⟩) :: .sc (.slice none 0 0) :: .sc (.int .i64 0) :: .sc (.int .i64 0) :: .sc (.int .i64 0) :: .sc (.slice none 0 0) :: hostsZ m := rfl
theorem hostsZ_nil : hostsZ 0 = [] := rfl
theorem hostsZ_len (m : Nat) : (hostsZ m).length = m * 6 := rowD_len _ m
theorem hostsZ_tp (m : Nat) : (hostsZ m).all D.tp = true := rowD_all rfl m
theorem hostsZ_in (p : Nat → Bool) (m : Nat) : (hostsZ m).all (D.in1 p) = true := tps_in (hostsZ_tp m) p
theorem hostsZ_ren (f : Nat → Nat) (m : Nat) : (hostsZ m).map (D.ren1 f) = hostsZ m := tps_ren (hostsZ_tp m) f
theorem hostsZ_frz (i : Nat) (x : Ob) (m : Nat) : (hostsZ m).map (D.frz1 i x) = hostsZ m := tps_frz (hostsZ_tp m) i x
theorem hostsZ_lt (q m : Nat) : (hostsZ m).all (D.lt1 q) = true := tps_lt (hostsZ_tp m) q
theorem hostsZ_abs (i : Nat) (x : Ob) (m : Nat) : (hostsZ m).map (D.abs1 i x) = hostsZ m := tps_abs (hostsZ_tp m) i x
theorem hostsZ_own (i n k m : Nat) : own1 i n (hostsZ m) k = (k == 1) := own1_all (hostsZ_tp m) i n k

def placedsZ (m : Nat) : List D := rowD [.sc (.string ⟨#[]⟩), .sc (.slice none 0 0), .sc (.int .i64 0), .sc (.int .i64 0), .sc (.int .i64 0), .sc (.slice none 0 0), .sc (.slice none 0 0), .sc (.string ⟨#[]⟩), .sc (.int .i64 0)] m
theorem placedsZ_zero (m : Nat) : rowD [.sc (.string ⟨#[]⟩), .sc (.slice none 0 0), .sc (.int .i64 0), .sc (.int .i64 0), .sc (.int .i64 0), .sc (.slice none 0 0), .sc (.slice none 0 0), .sc (.string ⟨#[]⟩), .sc (.int .i64 0)] m = placedsZ m := rfl
theorem placedsZ_cons (m : Nat) : placedsZ (m + 1) = .sc (.string ⟨#[]⟩) :: .sc (.slice none 0 0) :: .sc (.int .i64 0) :: .sc (.int .i64 0) :: .sc (.int .i64 0) :: .sc (.slice none 0 0) :: .sc (.slice none 0 0) :: .sc (.string ⟨#[]⟩) :: .sc (.int .i64 0) :: placedsZ m := rfl
theorem placedsZ_nil : placedsZ 0 = [] := rfl
theorem placedsZ_len (m : Nat) : (placedsZ m).length = m * 9 := rowD_len _ m
theorem placedsZ_tp (m : Nat) : (placedsZ m).all D.tp = true := rowD_all rfl m
theorem placedsZ_in (p : Nat → Bool) (m : Nat) : (placedsZ m).all (D.in1 p) = true := tps_in (placedsZ_tp m) p
theorem placedsZ_ren (f : Nat → Nat) (m : Nat) : (placedsZ m).map (D.ren1 f) = placedsZ m := tps_ren (placedsZ_tp m) f
theorem placedsZ_frz (i : Nat) (x : Ob) (m : Nat) : (placedsZ m).map (D.frz1 i x) = placedsZ m := tps_frz (placedsZ_tp m) i x
theorem placedsZ_lt (q m : Nat) : (placedsZ m).all (D.lt1 q) = true := tps_lt (placedsZ_tp m) q
theorem placedsZ_abs (i : Nat) (x : Ob) (m : Nat) : (placedsZ m).map (D.abs1 i x) = placedsZ m := tps_abs (placedsZ_tp m) i x
theorem placedsZ_own (i n k m : Nat) : own1 i n (placedsZ m) k = (k == 1) := own1_all (placedsZ_tp m) i n k

theorem snoc_take {α : Type} [Inhabited α] {xs a : List α} {m : Nat} (h : a = xs.take a.length) (hl : a.length + (m + 1) = xs.length) : a ++ [xs.getD a.length default] = xs.take (a ++ [xs.getD a.length default]).length := by
  have hk : a.length < xs.length := by omega
  rw [List.length_append]
  show _ = xs.take (a.length + 1)
  rw [List.take_add_one, List.getElem?_eq_getElem hk, List.getD_eq_getElem?_getD, List.getElem?_eq_getElem hk, ← h]
  rfl
theorem take_whole {α : Type} {xs a : List α} (h : a = xs.take a.length) (hl : a.length + 0 = xs.length) : a = xs := by
  rw [h, List.take_of_length_le (by omega)]
theorem toStringS_H (xs : List ByteArray) (hn : xs.length ≤ 1048576) : SpecH Tryz.prog 76 [.sl xs.length (strsD xs)] [] 0 (fun d os' nb' => d = .own 0 0 xs.length ∧ os' = [(0, ⟨9, 1, xs.length, strsD xs⟩)] ∧ nb' = 1) := by
  have ex0 := @strsMix_zero; have ex1 := @strsMix_set; have ex2 := @strsMix_all; have ex3 := @strsMix_len; have ex4 := @strsMix_rp; have ex5 := @strsMix_frz; have ex6 := @strsMix_in; have ex7 := @strsMix_ren; have ex8 := @strsMix_lt
  refine spH_ (rs := [.tmp 2]) (nt := 22) Tryz.func76 rfl fun X hX => ?_
  refine nm_ ?_
  repeat' ((first | contradiction | (with_reducible exact tt_) | ((with_reducible show Wk (AwStepF _ _ _ _ _ _ _)); first | (refine mk0_ rfl ?_) | (refine mk_ rfl ?_)) | ((with_reducible show Wk (AwStep _ _ _ _ _)); first | (refine pln_ ?_)) | ((with_reducible show Wk (AwCode _ _ _ _ _)); first | (refine lpV_ (ι := Nat) [] [0] 0x19 (fun k => [(4, .sc (.int .i64 (k : Int)))]) (fun k => [(0, ⟨9, 1, xs.length, strsMix xs k⟩)]) (fun k => k ≤ xs.length) (fun k => xs.length - k) 0 ?_ ?_; (focus (omega)); rintro _ hN0 k hinv; (try dsimp only at hinv); have hk : k ≤ xs.length := hinv; skip)) | ((with_reducible show Wk (boolK _ _ _ _)); first | (refine bk_ (fun h h' => ?_) (fun h h' => ?_))) | ((with_reducible show Wk (_ ∧ _)); first | (refine and_ ?_ ?_)) | ((with_reducible show Wk (retOkH _ _ _ _ _)); first | (refine rh_ [0] ?_)) | (refine hN0.go (k + 1) [] [0] ?_ ?_; (focus (show k + 1 ≤ xs.length; omega)); (focus (show xs.length - (k + 1) < xs.length - k; omega))) | fail) <;> (try refine nm_ ?_))
  all_goals clear ex0 ex1 ex2 ex3 ex4 ex5 ex6 ex7 ex8
  all_goals (refine ⟨?_⟩)
  all_goals first | contradiction | (exfalso; omega) | exact ⟨rfl, rfl, rfl⟩ | trace_state

theorem toLabelS_H (xs : List LabelD) (hn : xs.length ≤ 1048576) : SpecH Tryz.prog 200 [.sl xs.length (labelsD xs)] [] 0 (fun d os' nb' => d = .own 0 0 xs.length ∧ os' = [(0, ⟨217, 2, xs.length, labelsD xs⟩)] ∧ nb' = 1) := by
  have ex0 := @labelsMix_zero; have ex1 := @labelsMix_set; have ex2 := @labelsMix_all; have ex3 := @labelsMix_len; have ex4 := @labelsMix_rp; have ex5 := @labelsMix_frz; have ex6 := @labelCells_one; have ex7 := @labelCells_len; have ex8 := @labelsMix_in; have ex9 := @labelsMix_ren; have ex10 := @labelsMix_lt
  refine spH_ (rs := [.tmp 2]) (nt := 23) Tryz.func200 rfl fun X hX => ?_
  refine nm_ ?_
  repeat' ((first | contradiction | (with_reducible exact tt_) | ((with_reducible show Wk (AwStepF _ _ _ _ _ _ _)); first | (refine cl_ rfl _ _ (laws_toLabel_D (xs.getD k default)) rfl rfl ?_; rintro _ rfl) | (refine mk0_ rfl ?_) | (refine mk_ rfl ?_)) | ((with_reducible show Wk (AwStep _ _ _ _ _)); first | (refine pln_ ?_)) | ((with_reducible show Wk (AwCode _ _ _ _ _)); first | (refine lpV_ (ι := Nat) [] [0] 0x19 (fun k => [(4, .sc (.int .i64 (k : Int)))]) (fun k => [(0, ⟨217, 2, xs.length, labelsMix xs k⟩)]) (fun k => k ≤ xs.length) (fun k => xs.length - k) 0 ?_ ?_; (focus (omega)); rintro _ hN0 k hinv; (try dsimp only at hinv); have hk : k ≤ xs.length := hinv; skip)) | ((with_reducible show Wk (boolK _ _ _ _)); first | (refine bk_ (fun h h' => ?_) (fun h h' => ?_))) | ((with_reducible show Wk (_ ∧ _)); first | (refine and_ ?_ ?_)) | ((with_reducible show Wk (retOkH _ _ _ _ _)); first | (refine rh_ [0] ?_)) | (refine hN0.go (k + 1) [] [0] ?_ ?_; (focus (show k + 1 ≤ xs.length; omega)); (focus (show xs.length - (k + 1) < xs.length - k; omega))) | fail) <;> (try refine nm_ ?_))
  all_goals clear ex0 ex1 ex2 ex3 ex4 ex5 ex6 ex7 ex8 ex9 ex10
  all_goals (refine ⟨?_⟩)
  all_goals first | contradiction | (exfalso; omega) | exact ⟨rfl, rfl, rfl⟩ | trace_state

theorem toTaintS_H (xs : List TaintD) (hn : xs.length ≤ 1048576) : SpecH Tryz.prog 201 [.sl xs.length (taintsD xs)] [] 0 (fun d os' nb' => d = .own 0 0 xs.length ∧ os' = [(0, ⟨118, 3, xs.length, taintsD xs⟩)] ∧ nb' = 1) := by
  have ex0 := @taintsMix_zero; have ex1 := @taintsMix_set; have ex2 := @taintsMix_all; have ex3 := @taintsMix_len; have ex4 := @taintsMix_rp; have ex5 := @taintsMix_frz; have ex6 := @taintCells_one; have ex7 := @taintCells_len; have ex8 := @taintsMix_in; have ex9 := @taintsMix_ren; have ex10 := @taintsMix_lt
  refine spH_ (rs := [.tmp 2]) (nt := 23) Tryz.func201 rfl fun X hX => ?_
  refine nm_ ?_
  repeat' ((first | contradiction | (with_reducible exact tt_) | ((with_reducible show Wk (AwStepF _ _ _ _ _ _ _)); first | (refine cl_ rfl _ _ (laws_toTaint_D (xs.getD k default)) rfl rfl ?_; rintro _ rfl) | (refine mk0_ rfl ?_) | (refine mk_ rfl ?_)) | ((with_reducible show Wk (AwStep _ _ _ _ _)); first | (refine pln_ ?_)) | ((with_reducible show Wk (AwCode _ _ _ _ _)); first | (refine lpV_ (ι := Nat) [] [0] 0x19 (fun k => [(4, .sc (.int .i64 (k : Int)))]) (fun k => [(0, ⟨118, 3, xs.length, taintsMix xs k⟩)]) (fun k => k ≤ xs.length) (fun k => xs.length - k) 0 ?_ ?_; (focus (omega)); rintro _ hN0 k hinv; (try dsimp only at hinv); have hk : k ≤ xs.length := hinv; skip)) | ((with_reducible show Wk (boolK _ _ _ _)); first | (refine bk_ (fun h h' => ?_) (fun h h' => ?_))) | ((with_reducible show Wk (_ ∧ _)); first | (refine and_ ?_ ?_)) | ((with_reducible show Wk (retOkH _ _ _ _ _)); first | (refine rh_ [0] ?_)) | (refine hN0.go (k + 1) [] [0] ?_ ?_; (focus (show k + 1 ≤ xs.length; omega)); (focus (show xs.length - (k + 1) < xs.length - k; omega))) | fail) <;> (try refine nm_ ?_))
  all_goals clear ex0 ex1 ex2 ex3 ex4 ex5 ex6 ex7 ex8 ex9 ex10
  all_goals (refine ⟨?_⟩)
  all_goals first | contradiction | (exfalso; omega) | exact ⟨rfl, rfl, rfl⟩ | trace_state

theorem toToleranceS_H (xs : List TolerD) (hn : xs.length ≤ 1048576) : SpecH Tryz.prog 263 [.sl xs.length (tolersD xs)] [] 0 (fun d os' nb' => d = .own 0 0 xs.length ∧ os' = [(0, ⟨145, 4, xs.length, tolersD xs⟩)] ∧ nb' = 1) := by
  have ex0 := @tolersMix_zero; have ex1 := @tolersMix_set; have ex2 := @tolersMix_all; have ex3 := @tolersMix_len; have ex4 := @tolersMix_rp; have ex5 := @tolersMix_frz; have ex6 := @tolerCells_one; have ex7 := @tolerCells_len; have ex8 := @tolersMix_in; have ex9 := @tolersMix_ren; have ex10 := @tolersMix_lt
  refine spH_ (rs := [.tmp 2]) (nt := 23) Tryz.func263 rfl fun X hX => ?_
  refine nm_ ?_
  repeat' ((first | contradiction | (with_reducible exact tt_) | ((with_reducible show Wk (AwStepF _ _ _ _ _ _ _)); first | (refine cl_ rfl _ _ (laws_toTolerance_D (xs.getD k default)) rfl rfl ?_; rintro _ rfl) | (refine mk0_ rfl ?_) | (refine mk_ rfl ?_)) | ((with_reducible show Wk (AwStep _ _ _ _ _)); first | (refine pln_ ?_)) | ((with_reducible show Wk (AwCode _ _ _ _ _)); first | (refine lpV_ (ι := Nat) [] [0] 0x19 (fun k => [(4, .sc (.int .i64 (k : Int)))]) (fun k => [(0, ⟨145, 4, xs.length, tolersMix xs k⟩)]) (fun k => k ≤ xs.length) (fun k => xs.length - k) 0 ?_ ?_; (focus (omega)); rintro _ hN0 k hinv; (try dsimp only at hinv); have hk : k ≤ xs.length := hinv; skip)) | ((with_reducible show Wk (boolK _ _ _ _)); first | (refine bk_ (fun h h' => ?_) (fun h h' => ?_))) | ((with_reducible show Wk (_ ∧ _)); first | (refine and_ ?_ ?_)) | ((with_reducible show Wk (retOkH _ _ _ _ _)); first | (refine rh_ [0] ?_)) | (refine hN0.go (k + 1) [] [0] ?_ ?_; (focus (show k + 1 ≤ xs.length; omega)); (focus (show xs.length - (k + 1) < xs.length - k; omega))) | fail) <;> (try refine nm_ ?_))
  all_goals clear ex0 ex1 ex2 ex3 ex4 ex5 ex6 ex7 ex8 ex9 ex10
  all_goals (refine ⟨?_⟩)
  all_goals first | contradiction | (exfalso; omega) | exact ⟨rfl, rfl, rfl⟩ | trace_state

theorem toNeed_H (x : NeedD) (hn : x.values.length ≤ 1048576) : SpecH Tryz.prog 330 [.agg (needCells x)] [] 0 (fun d os' nb' => d = .agg [.sc (.string x.key), .sc (.int .i64 x.op), .own 0 0 x.values.length] ∧ os' = [(0, ⟨9, 1, x.values.length, strsD x.values⟩)] ∧ nb' = 1) := by
  unfold needCells
  refine spH_ (rs := [.cell 2 103]) (nt := 15) Tryz.func330 rfl fun X hX => ?_
  refine nm_ ?_
  repeat' ((first | contradiction | (with_reducible exact tt_) | ((with_reducible show Wk (AwStepF _ _ _ _ _ _ _)); first | (refine awH_ rfl (toStringS_H x.values hn) [] ?_; rintro _ _ _ ⟨rfl, rfl, rfl⟩ _)) | ((with_reducible show Wk (AwStep _ _ _ _ _)); first | (refine pln_ ?_)) | ((with_reducible show Wk (boolK _ _ _ _)); first | (refine bk_ (fun h h' => ?_) (fun h h' => ?_))) | ((with_reducible show Wk (_ ∧ _)); first | (refine and_ ?_ ?_)) | ((with_reducible show Wk (retOkH _ _ _ _ _)); first | (refine rh_ [3] ?_)) | fail) <;> (try refine nm_ ?_))
  all_goals (refine ⟨?_⟩)
  all_goals first | contradiction | exact ⟨rfl, rfl, rfl⟩ | trace_state

theorem toNeedS_H (xs : List NeedD) (hn : xs.length ≤ 1048576) (hv : ∀ k, (xs.getD k default).values.length ≤ 1048576) : SpecH Tryz.prog 262 [.sl xs.length (needsD xs)] [] 0 (fun d os' nb' => d = .own 0 0 xs.length ∧ os' = [(0, ⟨103, 3, xs.length, needsT xs⟩)] ∧ nb' = 1) := by
  have ex0 := @needsT_s0; have ex1 := @needsT_s1; have ex2 := @needsT_s2; have ex3 := @needsT_g2; have ex4 := @needsT_cons; have ex5 := @needsT_mid; have ex6 := @needsZ_zero; have ex7 := @needsZ_cons; have ex8 := @needsZ_nil; have ex9 := @needsZ_len; have ex10 := @needsZ_in; have ex11 := @needsZ_ren; have ex12 := @needsZ_frz; have ex13 := @needsZ_lt; have ex14 := @needsZ_abs; have ex15 := @needsZ_own; have ex16 := @needsZ_tp
  refine spH_ (rs := [.tmp 2]) (nt := 23) Tryz.func262 rfl fun X hX => ?_
  refine nm_ ?_
  repeat' ((first | contradiction | (with_reducible exact tt_) | ((with_reducible show Wk (AwStepF _ _ _ _ _ _ _)); first | (refine mk0_ rfl ?_) | (refine mk_ rfl ?_) | (refine awH_ rfl (toNeed_H (xs.getD a.length default) (hv _)) [] ?_; rintro _ _ _ ⟨rfl, rfl, rfl⟩ _)) | ((with_reducible show Wk (AwStep _ _ _ _ _)); first | (refine pln_ ?_)) | ((with_reducible show Wk (AwCode _ _ _ _ _)); first | (refine lpK_ (ι := List NeedD × Nat) [] [0] 0x19 (fun ⟨a, m⟩ => [(4, .sc (.int .i64 (a.length : Int)))]) (fun ⟨a, m⟩ => [(0, ⟨103, 3, xs.length, needsT a ++ needsZ m⟩)]) (fun ⟨a, m⟩ => a = xs.take a.length ∧ a.length + m = xs.length) (fun ⟨a, m⟩ => m) ([], xs.length) ?_ ?_; (focus (exact ⟨rfl, by simp⟩)); rintro _ hN0 ⟨a, m⟩ hinv; (try dsimp only at hinv); obtain ⟨hA, hlen⟩ := hinv; replace hA := Lib.hid hA; rcases m with _ | m; skip)) | ((with_reducible show Wk (boolK _ _ _ _)); first | (refine bk_ (fun h h' => ?_) (fun h h' => ?_))) | ((with_reducible show Wk (_ ∧ _)); first | (refine and_ ?_ ?_)) | ((with_reducible show Wk (retOkH _ _ _ _ _)); first | (refine rh_ [0] ?_)) | (refine hN0.run ((a ++ [xs.getD a.length default], m)) [.abs 1 0] [0] ?_ ?_; (focus (exact ⟨snoc_take hA.out hlen, by simp; omega⟩)); (focus (show m < m + 1; omega))) | fail) <;> (try refine nm_ ?_))
  all_goals clear ex0 ex1 ex2 ex3 ex4 ex5 ex6 ex7 ex8 ex9 ex10 ex11 ex12 ex13 ex14 ex15 ex16
  all_goals (refine ⟨?_⟩)
  all_goals (try (first | contradiction | (exfalso; omega)))
  all_goals (obtain rfl := take_whole hA.out hlen; first | exact ⟨rfl, rfl, rfl⟩ | rfl | trace_state)

theorem toHost_H (x : HostD) (hp : x.fine) : SpecH Tryz.prog 105 [.agg (hostCells x)] [] 0 (fun d os' nb' => d = .agg [.sc (.string x.name), .own 0 0 x.labels.length, .sc (.int .i64 x.cpu), .sc (.int .i64 x.mem), .sc (.int .i64 x.slots), .own 1 0 x.taints.length] ∧ os' = [(0, ⟨217, 2, x.labels.length, labelsD x.labels⟩), (1, ⟨118, 3, x.taints.length, taintsD x.taints⟩)] ∧ nb' = 2) := by
  unfold hostCells
  refine spH_ (rs := [.cell 2 63]) (nt := 25) Tryz.func105 rfl fun X hX => ?_
  refine nm_ ?_
  repeat' ((first | contradiction | (with_reducible exact tt_) | ((with_reducible show Wk (AwStepF _ _ _ _ _ _ _)); first | (refine awH_ rfl (toLabelS_H x.labels hp.labels.len) [] ?_; rintro _ _ _ ⟨rfl, rfl, rfl⟩ _) | (refine awH_ rfl (toTaintS_H x.taints hp.tlen) [] ?_; rintro _ _ _ ⟨rfl, rfl, rfl⟩ _)) | ((with_reducible show Wk (AwStep _ _ _ _ _)); first | (refine pln_ ?_)) | ((with_reducible show Wk (boolK _ _ _ _)); first | (refine bk_ (fun h h' => ?_) (fun h h' => ?_))) | ((with_reducible show Wk (_ ∧ _)); first | (refine and_ ?_ ?_)) | ((with_reducible show Wk (retOkH _ _ _ _ _)); first | (refine rh_ [3, 4] ?_)) | fail) <;> (try refine nm_ ?_))
  all_goals (refine ⟨?_⟩)
  all_goals first | contradiction | exact ⟨rfl, rfl, rfl⟩ | trace_state

theorem toHostS_H (xs : List HostD) (hn : xs.length ≤ 1048576) (hv : ∀ k, (xs.getD k default).fine) : SpecH Tryz.prog 48 [.sl xs.length (hostsD xs)] [] 0 (fun d os' nb' => d = .own 0 0 xs.length ∧ os' = [(0, ⟨63, 6, xs.length, hostsT xs⟩)] ∧ nb' = 1) := by
  have ex0 := @hostsT_s0; have ex1 := @hostsT_s1; have ex2 := @hostsT_s2; have ex3 := @hostsT_s3; have ex4 := @hostsT_s4; have ex5 := @hostsT_s5; have ex6 := @hostsT_g1; have ex7 := @hostsT_g5; have ex8 := @hostsT_cons; have ex9 := @hostsT_mid; have ex10 := @hostsZ_zero; have ex11 := @hostsZ_cons; have ex12 := @hostsZ_nil; have ex13 := @hostsZ_len; have ex14 := @hostsZ_in; have ex15 := @hostsZ_ren; have ex16 := @hostsZ_frz; have ex17 := @hostsZ_lt; have ex18 := @hostsZ_abs; have ex19 := @hostsZ_own; have ex20 := @hostsZ_tp
  refine spH_ (rs := [.tmp 2]) (nt := 23) Tryz.func48 rfl fun X hX => ?_
  refine nm_ ?_
  repeat' ((first | contradiction | (with_reducible exact tt_) | ((with_reducible show Wk (AwStepF _ _ _ _ _ _ _)); first | (refine mk0_ rfl ?_) | (refine mk_ rfl ?_) | (refine awH_ rfl (toHost_H (xs.getD a.length default) (hv _)) [] ?_; rintro _ _ _ ⟨rfl, rfl, rfl⟩ _)) | ((with_reducible show Wk (AwStep _ _ _ _ _)); first | (refine pln_ ?_)) | ((with_reducible show Wk (AwCode _ _ _ _ _)); first | (refine lpK_ (ι := List HostD × Nat) [] [0] 0x19 (fun ⟨a, m⟩ => [(4, .sc (.int .i64 (a.length : Int)))]) (fun ⟨a, m⟩ => [(0, ⟨63, 6, xs.length, hostsT a ++ hostsZ m⟩)]) (fun ⟨a, m⟩ => a = xs.take a.length ∧ a.length + m = xs.length) (fun ⟨a, m⟩ => m) ([], xs.length) ?_ ?_; (focus (exact ⟨rfl, by simp⟩)); rintro _ hN0 ⟨a, m⟩ hinv; (try dsimp only at hinv); obtain ⟨hA, hlen⟩ := hinv; replace hA := Lib.hid hA; rcases m with _ | m; skip)) | ((with_reducible show Wk (boolK _ _ _ _)); first | (refine bk_ (fun h h' => ?_) (fun h h' => ?_))) | ((with_reducible show Wk (_ ∧ _)); first | (refine and_ ?_ ?_)) | ((with_reducible show Wk (retOkH _ _ _ _ _)); first | (refine rh_ [0] ?_)) | (refine hN0.run ((a ++ [xs.getD a.length default], m)) [.abs 1 0, .abs 2 0] [0] ?_ ?_; (focus (exact ⟨snoc_take hA.out hlen, by simp; omega⟩)); (focus (show m < m + 1; omega))) | fail) <;> (try refine nm_ ?_))
  all_goals clear ex0 ex1 ex2 ex3 ex4 ex5 ex6 ex7 ex8 ex9 ex10 ex11 ex12 ex13 ex14 ex15 ex16 ex17 ex18 ex19 ex20
  all_goals (refine ⟨?_⟩)
  all_goals (try (first | contradiction | (exfalso; omega)))
  all_goals (obtain rfl := take_whole hA.out hlen; first | exact ⟨rfl, rfl, rfl⟩ | rfl | trace_state)

theorem toPod_H (x : PodD) (hp : x.fine) : SpecH Tryz.prog 202 [.agg (podCells x)] [] 0 (fun d os' nb' => d = .agg [.sc (.string x.name), .own 0 0 x.labels.length, .sc (.int .i64 x.cpu), .sc (.int .i64 x.mem), .sc (.int .i64 x.rank), .own 1 0 x.needs.length, .own 2 0 x.tolers.length] ∧ os' = [(0, ⟨217, 2, x.labels.length, labelsD x.labels⟩), (1, ⟨103, 3, x.needs.length, needsT x.needs⟩), (2, ⟨145, 4, x.tolers.length, tolersD x.tolers⟩)] ∧ nb' = 3) := by
  unfold podCells
  refine spH_ (rs := [.cell 2 78]) (nt := 29) Tryz.func202 rfl fun X hX => ?_
  refine nm_ ?_
  repeat' ((first | contradiction | (with_reducible exact tt_) | ((with_reducible show Wk (AwStepF _ _ _ _ _ _ _)); first | (refine awH_ rfl (toLabelS_H x.labels hp.labels.len) [] ?_; rintro _ _ _ ⟨rfl, rfl, rfl⟩ _) | (refine awH_ rfl (toNeedS_H x.needs hp.nlen fun k => (hp.need k).len) [] ?_; rintro _ _ _ ⟨rfl, rfl, rfl⟩ _) | (refine awH_ rfl (toToleranceS_H x.tolers hp.tlen) [] ?_; rintro _ _ _ ⟨rfl, rfl, rfl⟩ _)) | ((with_reducible show Wk (AwStep _ _ _ _ _)); first | (refine pln_ ?_)) | ((with_reducible show Wk (boolK _ _ _ _)); first | (refine bk_ (fun h h' => ?_) (fun h h' => ?_))) | ((with_reducible show Wk (_ ∧ _)); first | (refine and_ ?_ ?_)) | ((with_reducible show Wk (retOkH _ _ _ _ _)); first | (refine rh_ [3, 4, 5] ?_)) | fail) <;> (try refine nm_ ?_))
  all_goals (refine ⟨?_⟩)
  all_goals first | contradiction | exact ⟨rfl, rfl, rfl⟩ | trace_state

theorem toPlaced_H (x : PlacedD) (hp : x.pod.fine) : SpecH Tryz.prog 106 [.agg (placedCells x)] [] 0 (fun d os' nb' => d = .agg [.sc (.string x.pod.name), .own 0 0 x.pod.labels.length, .sc (.int .i64 x.pod.cpu), .sc (.int .i64 x.pod.mem), .sc (.int .i64 x.pod.rank), .own 1 0 x.pod.needs.length, .own 2 0 x.pod.tolers.length, .sc (.string x.on), .sc (.int .i64 x.seq)] ∧ os' = [(0, ⟨217, 2, x.pod.labels.length, labelsD x.pod.labels⟩), (1, ⟨103, 3, x.pod.needs.length, needsT x.pod.needs⟩), (2, ⟨145, 4, x.pod.tolers.length, tolersD x.pod.tolers⟩)] ∧ nb' = 3) := by
  unfold placedCells
  refine spH_ (rs := [.cell 2 163]) (nt := 15) Tryz.func106 rfl fun X hX => ?_
  refine nm_ ?_
  repeat' ((first | contradiction | (with_reducible exact tt_) | ((with_reducible show Wk (AwStepF _ _ _ _ _ _ _)); first | (refine awH_ rfl (toPod_H x.pod hp) [] ?_; rintro _ _ _ ⟨rfl, rfl, rfl⟩ _)) | ((with_reducible show Wk (AwStep _ _ _ _ _)); first | (refine pln_ ?_)) | ((with_reducible show Wk (boolK _ _ _ _)); first | (refine bk_ (fun h h' => ?_) (fun h h' => ?_))) | ((with_reducible show Wk (_ ∧ _)); first | (refine and_ ?_ ?_)) | ((with_reducible show Wk (retOkH _ _ _ _ _)); first | (refine rh_ [3, 4, 5] ?_)) | fail) <;> (try refine nm_ ?_))
  all_goals (refine ⟨?_⟩)
  all_goals first | contradiction | exact ⟨rfl, rfl, rfl⟩ | trace_state

theorem toPlacedS_H (xs : List PlacedD) (hn : xs.length ≤ 1048576) (hv : ∀ k, (xs.getD k default).pod.fine) : SpecH Tryz.prog 49 [.sl xs.length (placedsD xs)] [] 0 (fun d os' nb' => d = .own 0 0 xs.length ∧ os' = [(0, ⟨163, 9, xs.length, placedsT xs⟩)] ∧ nb' = 1) := by
  have ex0 := @placedsT_s0; have ex1 := @placedsT_s1; have ex2 := @placedsT_s2; have ex3 := @placedsT_s3; have ex4 := @placedsT_s4; have ex5 := @placedsT_s5; have ex6 := @placedsT_s6; have ex7 := @placedsT_s7; have ex8 := @placedsT_s8; have ex9 := @placedsT_g1; have ex10 := @placedsT_g5; have ex11 := @placedsT_g6; have ex12 := @placedsT_cons; have ex13 := @placedsT_mid; have ex14 := @placedsZ_zero; have ex15 := @placedsZ_cons; have ex16 := @placedsZ_nil; have ex17 := @placedsZ_len; have ex18 := @placedsZ_in; have ex19 := @placedsZ_ren; have ex20 := @placedsZ_frz; have ex21 := @placedsZ_lt; have ex22 := @placedsZ_abs; have ex23 := @placedsZ_own; have ex24 := @placedsZ_tp
  refine spH_ (rs := [.tmp 2]) (nt := 23) Tryz.func49 rfl fun X hX => ?_
  refine nm_ ?_
  repeat' ((first | contradiction | (with_reducible exact tt_) | ((with_reducible show Wk (AwStepF _ _ _ _ _ _ _)); first | (refine mk0_ rfl ?_) | (refine mk_ rfl ?_) | (refine awH_ rfl (toPlaced_H (xs.getD a.length default) (hv _)) [] ?_; rintro _ _ _ ⟨rfl, rfl, rfl⟩ _)) | ((with_reducible show Wk (AwStep _ _ _ _ _)); first | (refine pln_ ?_)) | ((with_reducible show Wk (AwCode _ _ _ _ _)); first | (refine lpK_ (ι := List PlacedD × Nat) [] [0] 0x19 (fun ⟨a, m⟩ => [(4, .sc (.int .i64 (a.length : Int)))]) (fun ⟨a, m⟩ => [(0, ⟨163, 9, xs.length, placedsT a ++ placedsZ m⟩)]) (fun ⟨a, m⟩ => a = xs.take a.length ∧ a.length + m = xs.length) (fun ⟨a, m⟩ => m) ([], xs.length) ?_ ?_; (focus (exact ⟨rfl, by simp⟩)); rintro _ hN0 ⟨a, m⟩ hinv; (try dsimp only at hinv); obtain ⟨hA, hlen⟩ := hinv; replace hA := Lib.hid hA; rcases m with _ | m; skip)) | ((with_reducible show Wk (boolK _ _ _ _)); first | (refine bk_ (fun h h' => ?_) (fun h h' => ?_))) | ((with_reducible show Wk (_ ∧ _)); first | (refine and_ ?_ ?_)) | ((with_reducible show Wk (retOkH _ _ _ _ _)); first | (refine rh_ [0] ?_)) | (refine hN0.run ((a ++ [xs.getD a.length default], m)) [.abs 1 0, .abs 2 0, .abs 3 0] [0] ?_ ?_; (focus (exact ⟨snoc_take hA.out hlen, by simp; omega⟩)); (focus (show m < m + 1; omega))) | fail) <;> (try refine nm_ ?_))
  all_goals clear ex0 ex1 ex2 ex3 ex4 ex5 ex6 ex7 ex8 ex9 ex10 ex11 ex12 ex13 ex14 ex15 ex16 ex17 ex18 ex19 ex20 ex21 ex22 ex23 ex24
  all_goals (refine ⟨?_⟩)
  all_goals (try (first | contradiction | (exfalso; omega)))
  all_goals (obtain rfl := take_whole hA.out hlen; first | exact ⟨rfl, rfl, rfl⟩ | rfl | trace_state)

theorem toCluster_H (c : ClusterD) (hc : c.fine) : SpecH Tryz.prog 9 [c.d] [] 0 (fun d os' nb' => d = .agg [.own 0 0 c.hosts.length, .own 1 0 c.pods.length, .sc (.int .i64 c.next), .sc (.int .i64 c.w1), .sc (.int .i64 c.w2), .sc (.int .i64 c.w3)] ∧ os' = [(0, ⟨63, 6, c.hosts.length, hostsT c.hosts⟩), (1, ⟨163, 9, c.pods.length, placedsT c.pods⟩)] ∧ nb' = 2) := by
  unfold ClusterD.d
  refine spH_ (rs := [.cell 2 35]) (nt := 20) Tryz.func9 rfl fun X hX => ?_
  refine nm_ ?_
  repeat' ((first | contradiction | (with_reducible exact tt_) | ((with_reducible show Wk (AwStepF _ _ _ _ _ _ _)); first | (refine cl_ rfl _ _ (laws_toWeights_D _ _ _) rfl rfl ?_; rintro _ rfl) | (refine awH_ rfl (toHostS_H c.hosts hc.hlen hc.host) [] ?_; rintro _ _ _ ⟨rfl, rfl, rfl⟩ _) | (refine awH_ rfl (toPlacedS_H c.pods hc.plen hc.pod) [] ?_; rintro _ _ _ ⟨rfl, rfl, rfl⟩ _)) | ((with_reducible show Wk (AwStep _ _ _ _ _)); first | (refine pln_ ?_)) | ((with_reducible show Wk (boolK _ _ _ _)); first | (refine bk_ (fun h h' => ?_) (fun h h' => ?_))) | ((with_reducible show Wk (_ ∧ _)); first | (refine and_ ?_ ?_)) | ((with_reducible show Wk (retOkH _ _ _ _ _)); first | (refine rh_ [3, 4] ?_)) | fail) <;> (try refine nm_ ?_))
  all_goals (refine ⟨?_⟩)
  all_goals first | contradiction | exact ⟨rfl, rfl, rfl⟩ | trace_state

end Go.Proofs.YtidjjfjhmlndjaaGreatDoor
