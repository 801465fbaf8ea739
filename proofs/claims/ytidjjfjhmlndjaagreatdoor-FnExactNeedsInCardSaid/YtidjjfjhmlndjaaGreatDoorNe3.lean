/- The model reads a need, and needs. -/
import Derived.Test.YtidjjfjhmlndjaaGreatDoorNe2
namespace Go.Proofs.YtidjjfjhmlndjaaGreatDoor
open Go.RowKit
set_option linter.unusedVariables false
set_option linter.unusedSimpArgs false
set_option maxRecDepth 100000
set_option maxHeartbeats 4000000

section
variable {t : TreeD} {p : ByteArray}
theorem needM_1 (h : ¬ (knownT t p [wKey, wOp, wValues]).code = 0) : needM t p = (default, knownT t p [wKey, wOp, wValues]) := by
  unfold needM
  simp only [h, ne_eq, not_true_eq_false, not_false_eq_true, if_true, if_false]
theorem needM_2 (h0 : (knownT t p [wKey, wOp, wValues]).code = 0) (h : ¬ (fineF t p wKey keyB).2.code = 0) : needM t p = (default, (fineF t p wKey keyB).2) := by
  unfold needM
  simp only [h0, h, ne_eq, not_true_eq_false, not_false_eq_true, if_true, if_false]
theorem needM_3 (h0 : (knownT t p [wKey, wOp, wValues]).code = 0) (h1 : (fineF t p wKey keyB).2.code = 0) (h : ¬ (oneF t p wOp opsW).2.code = 0) : needM t p = (default, (oneF t p wOp opsW).2) := by
  unfold needM
  simp only [h0, h1, h, ne_eq, not_true_eq_false, not_false_eq_true, if_true, if_false]
theorem needM_4 (h0 : (knownT t p [wKey, wOp, wValues]).code = 0) (h1 : (fineF t p wKey keyB).2.code = 0) (h2 : (oneF t p wOp opsW).2.code = 0) (h : ¬ (listF t p wValues 40).2.code = 0) : needM t p = (default, (listF t p wValues 40).2) := by
  unfold needM
  simp only [h0, h1, h2, h, ne_eq, not_true_eq_false, not_false_eq_true, if_true, if_false]
theorem needM_5 (h0 : (knownT t p [wKey, wOp, wValues]).code = 0) (h1 : (fineF t p wKey keyB).2.code = 0) (h2 : (oneF t p wOp opsW).2.code = 0) (h3 : (listF t p wValues 40).2.code = 0) {f : FaultD} (hv : valsE (pathK p wValues) 0 (listF t p wValues 40).1 = f) (h : ¬ f.code = 0) : needM t p = (default, f) := by
  subst hv
  unfold needM
  simp only [h0, h1, h2, h3, h, ne_eq, not_true_eq_false, not_false_eq_true, if_true, if_false]
theorem dec_lt0 (n : Nat) : decide ((0 : Int) < (n : Int)) = decide (0 < n) := decide_eq_decide.2 (by omega)
theorem needM_6 (h0 : (knownT t p [wKey, wOp, wValues]).code = 0) (h1 : (fineF t p wKey keyB).2.code = 0) (h2 : (oneF t p wOp opsW).2.code = 0) (h3 : (listF t p wValues 40).2.code = 0) (hv : valsE (pathK p wValues) 0 (listF t p wValues 40).1 = noF) {vs : List ByteArray} (hvs : vs = valsF (textsOf (listF t p wValues 40).1)) (h : (!(decide ((vs.length : Int) > 0) == decide ((oneF t p wOp opsW).1 < 3))) = true) : needM t p = (default, fltF 14 (pathK p wValues)) := by
  subst hvs
  have h' := (dec_lt0 _ ▸ bne_iff_ne.1 h : ¬ decide (0 < _) = decide _)
  unfold needM
  simp only [h0, h1, h2, h3, hv, noF_code, h', ne_eq, not_true_eq_false, not_false_eq_true, if_true, if_false]
theorem needM_7 (h0 : (knownT t p [wKey, wOp, wValues]).code = 0) (h1 : (fineF t p wKey keyB).2.code = 0) (h2 : (oneF t p wOp opsW).2.code = 0) (h3 : (listF t p wValues 40).2.code = 0) (hv : valsE (pathK p wValues) 0 (listF t p wValues 40).1 = noF) {vs : List ByteArray} (hvs : vs = valsF (textsOf (listF t p wValues 40).1)) (h : (!(decide ((vs.length : Int) > 0) == decide ((oneF t p wOp opsW).1 < 3))) = false) (h4 : 4 < vs.length) : needM t p = (default, fltF 16 (pathK p wValues)) := by
  subst hvs
  have h' := (dec_lt0 _ ▸ bne_eq_false_iff_eq.1 h : decide (0 < _) = decide _)
  unfold needM
  simp only [h0, h1, h2, h3, hv, noF_code, h', h4, ne_eq, not_true_eq_false, not_false_eq_true, if_true, if_false]
theorem needM_8 (h0 : (knownT t p [wKey, wOp, wValues]).code = 0) (h1 : (fineF t p wKey keyB).2.code = 0) (h2 : (oneF t p wOp opsW).2.code = 0) (h3 : (listF t p wValues 40).2.code = 0) (hv : valsE (pathK p wValues) 0 (listF t p wValues 40).1 = noF) {vs : List ByteArray} (hvs : vs = valsF (textsOf (listF t p wValues 40).1)) (h : (!(decide ((vs.length : Int) > 0) == decide ((oneF t p wOp opsW).1 < 3))) = false) (h4 : ¬ 4 < vs.length) : needM t p = (⟨(fineF t p wKey keyB).1, (oneF t p wOp opsW).1, vs⟩, noF) := by
  subst hvs
  have h' := (dec_lt0 _ ▸ bne_eq_false_iff_eq.1 h : decide (0 < _) = decide _)
  unfold needM
  simp only [h0, h1, h2, h3, hv, noF_code, h', h4, ne_eq, not_true_eq_false, not_false_eq_true, if_true, if_false]
theorem listF_len (t : TreeD) (p key : ByteArray) : (listF t p key 40).1.length ≤ 40 := by
  unfold listF
  split
  · split
    · split
      · exact Nat.zero_le _
      · show (kidT t key).kids.length ≤ 40
        omega
    · exact Nat.zero_le _
  · exact Nat.zero_le _
theorem listF_fine {t : TreeD} (hf : TFine t) (p key : ByteArray) (m : Int) {x : TreeD} (h : x ∈ (listF t p key m).1) : TFine x := by
  unfold listF at h
  split at h
  · rename_i hh
    split at h
    · split at h
      · cases h
      · exact (hf.of hh).mem h
    · cases h
  · cases h
theorem valsE_go {q : ByteArray} {l : List TreeD} {i : Nat} (h : i < l.length) (hk : (l.getD i default).kind = 4) (hv : valueB (l.getD i default).text = true) (hR : valsE q i (l.drop i) = valsE q 0 l) : valsE q (i + 1) (l.drop (i + 1)) = valsE q 0 l := by
  rw [← hR, getD_drop l h, valsE, if_pos hk, if_pos hv]
theorem valsE_k {q : ByteArray} {l : List TreeD} {i : Nat} (h : i < l.length) (hk : ¬ (l.getD i default).kind = 4) (hR : valsE q i (l.drop i) = valsE q 0 l) : valsE q 0 l = fltF 11 (pathP q (i : Int)) := by
  rw [← hR, getD_drop l h, valsE, if_neg hk]
theorem valsE_v {q : ByteArray} {l : List TreeD} {i : Nat} (h : i < l.length) (hk : (l.getD i default).kind = 4) (hv : valueB (l.getD i default).text = false) (hR : valsE q i (l.drop i) = valsE q 0 l) : valsE q 0 l = fltF 14 (pathP q (i : Int)) := by
  rw [← hR, getD_drop l h, valsE, if_pos hk, if_neg (by rw [hv]; decide)]
theorem valsE_end {q : ByteArray} {l : List TreeD} {i : Nat} (h : l.length ≤ i) (hR : valsE q i (l.drop i) = valsE q 0 l) : valsE q 0 l = noF := by
  rw [← hR, List.drop_of_length_le h, valsE]
theorem texts_snoc {l : List TreeD} {o : List ByteArray} {i : Nat} (hi : i < l.length) (h : o = textsOf (l.take i)) : o ++ [(l.getD i default).text] = textsOf (l.take (i + 1)) := by
  rw [take_snoc l i hi, h]
  simp [textsOf]
theorem texts_end {l : List TreeD} {o : List ByteArray} {i : Nat} (hi : l.length ≤ i) (h : o = textsOf (l.take i)) : o = textsOf l := by rw [h, List.take_of_length_le hi]
end

theorem nd_no {x : NeedD × FaultD} {f : FaultD} (e : x = (default, f)) (hf : ¬ f.code = 0) : (x.2.code = 0 ∧ D.tup [.agg [.sc (.string ⟨#[]⟩), .sc (.int .i64 0), .sc (.slice none 0 0)], .agg [.sc (.int .i64 (f).code), .sc (.int .i64 (f).at_), .sc (.string (f).path)]] = D.tup [.agg [.sc (.string (x.1).key), .sc (.int .i64 (x.1).op), .sl (x.1).values.length (strsD (x.1).values)], .agg [.sc (.int .i64 0), .sc (.int .i64 0), .sc (.string ⟨#[]⟩)]]) ∨ (¬ x.2.code = 0 ∧ D.tup [.agg [.sc (.string ⟨#[]⟩), .sc (.int .i64 0), .sc (.slice none 0 0)], .agg [.sc (.int .i64 (f).code), .sc (.int .i64 (f).at_), .sc (.string (f).path)]] = D.tup [.agg [.sc (.string ⟨#[]⟩), .sc (.int .i64 0), .sc (.slice none 0 0)], .agg [.sc (.int .i64 (x.2).code), .sc (.int .i64 (x.2).at_), .sc (.string (x.2).path)]]) := by
  subst e
  exact .inr ⟨hf, rfl⟩
theorem nd_ok {x : NeedD × FaultD} {n : NeedD} (e : x = (n, noF)) : (x.2.code = 0 ∧ D.tup [.agg [.sc (.string (n).key), .sc (.int .i64 (n).op), .sl (n).values.length (strsD (n).values)], .agg [.sc (.int .i64 0), .sc (.int .i64 0), .sc (.string ⟨#[]⟩)]] = D.tup [.agg [.sc (.string (x.1).key), .sc (.int .i64 (x.1).op), .sl (x.1).values.length (strsD (x.1).values)], .agg [.sc (.int .i64 0), .sc (.int .i64 0), .sc (.string ⟨#[]⟩)]]) ∨ (¬ x.2.code = 0 ∧ D.tup [.agg [.sc (.string (n).key), .sc (.int .i64 (n).op), .sl (n).values.length (strsD (n).values)], .agg [.sc (.int .i64 0), .sc (.int .i64 0), .sc (.string ⟨#[]⟩)]] = D.tup [.agg [.sc (.string ⟨#[]⟩), .sc (.int .i64 0), .sc (.slice none 0 0)], .agg [.sc (.int .i64 (x.2).code), .sc (.int .i64 (x.2).at_), .sc (.string (x.2).path)]]) := by
  subst e
  exact .inl ⟨rfl, rfl⟩

theorem wordN_rng (t : TreeD) (p : ByteArray) : 0 ≤ (oneF t p wOp opsW).1 ∧ (oneF t p wOp opsW).1 ≤ 4 := by
  have h := opW_rng (textF t p wOp).1
  unfold oneF
  split
  · split
    · exact ⟨Int.le_refl _, by show (0 : Int) ≤ 4; decide⟩
    · exact h
  · exact ⟨Int.le_refl _, by show (0 : Int) ≤ 4; decide⟩

theorem needM_len (t : TreeD) (p : ByteArray) : (needM t p).1.values.length ≤ 4 := by
  unfold needM
  repeat' (split; exact Nat.zero_le _)
  show (valsF _).length ≤ 4
  omega
theorem pathP_sz {p : ByteArray} {i : Nat} (h : i ≤ 1048576) : (pathP p (i : Int)).size ≤ p.size + 21 := by
  unfold pathP
  have h2 := itoaN_sz (n := i) (by omega)
  rw [ByteArray.size_append, ByteArray.size_append, ByteArray.size_append, ba_len]
  show p.size + 1 + _ + 1 ≤ _
  omega
structure NdE (p : ByteArray) (l : List TreeD) (i : Nat) (o : List NeedD) : Prop where
  r1 : o ++ (needsE p i (l.drop i)).1 = (needsE p 0 l).1
  r2 : (needsE p i (l.drop i)).2 = (needsE p 0 l).2
  len : o.length = i
  vals : ∀ k, (o.getD k default).values.length ≤ 4
theorem ndE_0 (p : ByteArray) (l : List TreeD) : NdE p l 0 [] := ⟨rfl, rfl, rfl, fun k => Nat.zero_le _⟩
section
variable {p : ByteArray} {l : List TreeD} {i : Nat} {o : List NeedD}
theorem NdE.go (h : NdE p l i o) (hi : i < l.length) (hc : (needM (l.getD i default) (pathP p (i : Int))).2.code = 0) : NdE p l (i + 1) (o ++ [(needM (l.getD i default) (pathP p (i : Int))).1]) := by
  have e1 := h.r1
  have e2 := h.r2
  rw [getD_drop l hi, needsE, if_pos hc] at e1 e2
  refine ⟨by rw [List.append_assoc]; exact e1, e2, by rw [List.length_append, h.len]; rfl, fun k => ?_⟩
  rw [List.getD_eq_getElem?_getD, List.getElem?_append]
  split
  · rw [← List.getD_eq_getElem?_getD]; exact h.vals k
  · cases hk : [(needM (l.getD i default) (pathP p (i : Int))).1][k - o.length]? with
    | none => exact Nat.zero_le _
    | some x =>
      have := List.mem_of_getElem? hk
      rw [List.mem_singleton] at this
      subst this
      exact needM_len _ _
theorem NdE.flt (h : NdE p l i o) (hi : i < l.length) (hc : ¬ (needM (l.getD i default) (pathP p (i : Int))).2.code = 0) : needsR l p = ([], (needM (l.getD i default) (pathP p (i : Int))).2) := by
  have e2 := h.r2
  rw [getD_drop l hi, needsE, if_neg hc] at e2
  unfold needsR
  rw [← e2, if_neg hc]
theorem NdE.fin (h : NdE p l i o) (hi : l.length ≤ i) : needsR l p = if (srtNed o).2 = true then ((srtNed o).1, noF) else ([], fltF 16 p) := by
  have e1 := h.r1
  have e2 := h.r2
  rw [List.drop_of_length_le hi, needsE] at e1 e2
  rw [List.append_nil] at e1
  unfold needsR
  rw [← e2, if_pos noF_code, ← e1]
theorem NdE.no (h : NdE p l i o) (hi : l.length ≤ i) (hs : (srtNed o).2 = false) : needsR l p = ([], fltF 16 p) := by rw [h.fin hi, if_neg (by rw [hs]; decide)]
theorem NdE.yes (h : NdE p l i o) (hi : l.length ≤ i) (hs : (srtNed o).2 = true) : needsR l p = ((srtNed o).1, noF) := by rw [h.fin hi, if_pos hs]
end

theorem spec_NeedIn_X (t : TreeD) (p : ByteArray) (hf : TFine t) (hp : p.size ≤ 2097152) : Spec Tryz.prog 61 [.agg (treeC t), .sc (.string p)] (fun d => ((needM t p).2.code = 0 ∧ d = .tup [.agg [.sc (.string ((needM t p).1).key), .sc (.int .i64 ((needM t p).1).op), .sl ((needM t p).1).values.length (strsD ((needM t p).1).values)], .agg [.sc (.int .i64 0), .sc (.int .i64 0), .sc (.string ⟨#[]⟩)]]) ∨ (¬ (needM t p).2.code = 0 ∧ d = .tup [.agg [.sc (.string ⟨#[]⟩), .sc (.int .i64 0), .sc (.slice none 0 0)], .agg [.sc (.int .i64 ((needM t p).2).code), .sc (.int .i64 ((needM t p).2).at_), .sc (.string ((needM t p).2).path)]])) := by
  have hps : (pathK p wValues).size ≤ 2097160 := (by have := path_sz p wValues; have e : wValues.size = 6 := rfl; omega); have hll := listF_len t p wValues; have hr := wordN_rng t p; unfold treeC
  refine spG_ (rs := [.cell 4 103, .cell 5 46]) (nt := 122) Tryz.func61 rfl fun X hX => ?_
  refine nm_ ?_
  repeat' ((first | contradiction | (with_reducible exact tt_) | ((with_reducible show Wk (AwStepF _ _ _ _ _ _ _)); first | (refine cl_ rfl _ _ (spec_l19Key_D t p hf (by omega)) rfl rfl ?_; rintro _ rfl) | (refine cl_ rfl _ _ (spec_l15Ops_D) rfl rfl ?_; rintro _ rfl) | (refine cl_ rfl _ _ (spec_l19One_D t p wOp hf (by omega) (by decide) opsW (by decide)) rfl rfl ?_; rintro _ rfl) | (refine cl_ rfl _ _ (spec_PathKey_D p wValues (by omega) (by decide)) rfl rfl ?_; rintro _ rfl) | (refine cl_ rfl _ _ (spec_ListField_D t p wValues hf (by omega) (by decide) 40) rfl rfl ?_; rintro _ rfl) | (refine cl_ rfl _ _ (spec_PathPlace_D (pathK p wValues) i (by omega) (by omega)) rfl rfl ?_; rintro _ rfl) | (refine cl_ rfl _ _ (spec_l18Fault_D _ _) rfl rfl ?_; rintro _ rfl) | (refine cl_ rfl _ _ (spec_LabelValueOk_D _) rfl rfl ?_; rintro _ rfl) | (refine app_ rfl ?_) | (refine afz_ [3] ?_; refine nm_ ?_; refine cl_ rfl _ _ (spec_KnownKeys_D t p [wKey, wOp, wValues] hf (by omega) (by decide)) rfl rfl ?_; rintro _ rfl) | (refine afz_ [3] ?_; refine nm_ ?_; refine cl_ rfl _ _ (l15Values_N o hol (by omega)) rfl rfl ?_; rintro _ rfl)) | ((with_reducible show Wk (AwStep _ _ _ _ _)); first | (refine pln_ ?_)) | ((with_reducible show Wk (AwCode _ _ _ _ _)); first | (refine wo_ (id := 3) [1, 2] [(0, true), (1, true), (2, false), (3, false)] ?_) | (refine wo_ (id := 7) [1, 2] [(0, true), (1, true), (2, false), (3, false)] ?_) | (refine wo_ (id := 8) [4, 5] [(0, true), (1, true), (2, false), (3, false), (4, true), (5, true), (6, true), (7, true), (8, false), (9, false)] ?_) | (refine wo_ (id := 10) [1, 2] [(0, true), (1, true), (2, false), (3, false)] ?_) | (refine wo_ (id := 14) [1, 2] [(0, true), (1, true), (2, false), (3, false)] ?_) | (refine lpK_ (ι := Nat × List ByteArray) [] [1, 2, 5, 7] 0x1bb0 (fun ⟨i, o⟩ => [(12, .sc (.int .i64 (i : Int))), (11, .own 3 0 o.length)]) (fun ⟨i, o⟩ => [(3, ⟨9, 1, (o).length, strsD (o)⟩)]) (fun ⟨i, o⟩ => i ≤ (listF t p wValues 40).1.length ∧ o = textsOf ((listF t p wValues 40).1.take i) ∧ valsE (pathK p wValues) i ((listF t p wValues 40).1.drop i) = valsE (pathK p wValues) 0 (listF t p wValues 40).1) (fun ⟨i, o⟩ => (listF t p wValues 40).1.length - i) (0, []) ?_ ?_; (focus (exact ⟨Nat.zero_le _, rfl, rfl⟩)); rintro _ hN0 ⟨i, o⟩ hinv; (try dsimp only at hinv); obtain ⟨hi, hO, hE⟩ := hinv; have hol : o.length = i := (by rw [hO, textsOf, List.length_map, List.length_take]; omega); replace hO := Lib.hid hO; replace hE := Lib.hid hE; skip)) | ((with_reducible show Wk (boolK _ _ _ _)); first | (refine bk_ (fun h h' => ?_) (fun h h' => ?_))) | ((with_reducible show Wk (_ ∧ _)); first | (refine and_ ?_ ?_)) | ((with_reducible show Wk (retOkG _ _ _ _)); first | (refine rgg_ [] ?_)) | (refine hN0.run ((i + 1, o ++ [((listF t p wValues 40).1.getD i default).text])) [] [0, 1, 2, 5] ?_ ?_; (focus (exact ⟨by show i + 1 ≤ _; omega, texts_snoc (by omega) hO.out, valsE_go (by omega) (by omega) (by assumption) hE.out⟩)); (focus (show (listF t p wValues 40).1.length - (i + 1) < (listF t p wValues 40).1.length - i; omega))) | fail) <;> (try refine nm_ ?_))
  all_goals (refine ⟨?_⟩)
  all_goals first | contradiction | (exfalso; omega) | (exact nd_no (needM_1 (by omega)) (by omega)) | (exact nd_no (needM_2 (by omega) (by omega)) (by omega)) | (exact nd_no (needM_3 (by omega) (by omega) (by omega)) (by omega)) | (exact nd_no (needM_4 (by omega) (by omega) (by omega) (by omega)) (by omega)) | (exact nd_no (needM_5 (by omega) (by omega) (by omega) (by omega) (valsE_k (by omega) (by omega) hE.out) (nzF _ _)) (nzF _ _)) | (exact nd_no (needM_5 (by omega) (by omega) (by omega) (by omega) (valsE_v (by omega) (by omega) (by assumption) hE.out) (nzF _ _)) (nzF _ _)) | (have e := valsE_end (by omega) hE.out; have et := congrArg valsF (texts_end (by omega) hO.out); first | exact nd_no (needM_6 (by omega) (by omega) (by omega) (by omega) e et (by assumption)) (nzF 14 _) | exact nd_no (needM_7 (by omega) (by omega) (by omega) (by omega) e et (by assumption) (by omega)) (nzF 16 _) | exact nd_ok (needM_8 (by omega) (by omega) (by omega) (by omega) e et (by assumption) (by omega))) | trace_state

theorem spec_NeedsIn_X (l : List TreeD) (p : ByteArray) (hl : l.length ≤ 1048576) (hf : ∀ x ∈ l, TFine x) (hp : p.size ≤ 1048576) : Spec Tryz.prog 17 [.sl l.length (treesD l), .sc (.string p)] (fun d => d = .tup [.sl (needsR l p).1.length (needsD (needsR l p).1), .agg [.sc (.int .i64 ((needsR l p).2).code), .sc (.int .i64 ((needsR l p).2).at_), .sc (.string ((needsR l p).2).path)]]) := by
  have ex0 := @needsD_snoc; have ex1 := @wt3_done; have ex2 := @wt3_early; have ex3 := @wt3_one; have ex4 := @wt3_two; have ex5 := @wt3_three
  refine spG_ (rs := [.tmp 4, .cell 5 46]) (nt := 52) Tryz.func17 rfl fun X hX => ?_
  refine nm_ ?_
  repeat' ((first | contradiction | (with_reducible exact tt_) | ((with_reducible show Wk (AwStepF _ _ _ _ _ _ _)); first | (refine cl_ rfl _ _ (spec_PathPlace_D p i (by omega) (by omega)) rfl rfl ?_; rintro _ rfl) | (refine cl_ rfl _ _ (spec_NeedIn_X (l.getD i default) (pathP p (i : Int)) (hx (by omega)) (by omega)) rfl rfl ?_; rintro _ (⟨hc, rfl⟩ | ⟨hc, rfl⟩)) | (refine cl_ rfl _ _ (spec_l18Fault_D _ _) rfl rfl ?_; rintro _ rfl) | (refine app_ rfl ?_) | (refine afz_ [2] ?_; refine nm_ ?_; refine cl_ rfl _ _ (spec_SortNeeds_N o hol (by omega) (fun k => Nat.le_trans (hE.out.vals k) (by omega))) rfl rfl ?_; rintro _ rfl)) | ((with_reducible show Wk (AwStep _ _ _ _ _)); first | (refine pln_ ?_)) | ((with_reducible show Wk (AwCode _ _ _ _ _)); first | (refine wtr3_ (id := 6) [] (.early 0 (.early 1 (.early 2 (.early 3 (.early 4 (.early 5 (.three 6 (.three 7 (.early 8 (.early 9 (.early 10 (.two 11 (.one 12 (.one 13 (.one 14 .done))) 12 (.one 11 (.one 13 (.one 14 .done))))))) 11 (.two 7 (.early 8 (.early 9 (.early 10 (.one 12 (.one 13 (.one 14 .done)))))) 12 (.one 7 (.early 8 (.early 9 (.early 10 (.one 13 (.one 14 .done))))))) 12 (.two 7 (.early 8 (.early 9 (.early 10 (.one 11 (.one 13 (.one 14 .done)))))) 11 (.one 7 (.early 8 (.early 9 (.early 10 (.one 13 (.one 14 .done)))))))) 11 (.two 6 (.two 7 (.early 8 (.early 9 (.early 10 (.one 12 (.one 13 (.one 14 .done)))))) 12 (.one 7 (.early 8 (.early 9 (.early 10 (.one 13 (.one 14 .done))))))) 12 (.one 6 (.one 7 (.early 8 (.early 9 (.early 10 (.one 13 (.one 14 .done)))))))) 12 (.two 6 (.two 7 (.early 8 (.early 9 (.early 10 (.one 11 (.one 13 (.one 14 .done)))))) 11 (.one 7 (.early 8 (.early 9 (.early 10 (.one 13 (.one 14 .done))))))) 11 (.one 6 (.one 7 (.early 8 (.early 9 (.early 10 (.one 13 (.one 14 .done))))))))))))))) ?_) | (refine wo_ (id := 8) [0] [(0, true), (1, true), (2, true), (3, false)] ?_) | (refine lpK_ (ι := Nat × List NeedD) [] [0, 1, 2] 0x1e3 (fun ⟨i, o⟩ => [(8, .sc (.int .i64 (i : Int))), (7, .own 2 0 o.length)]) (fun ⟨i, o⟩ => [(2, ⟨103, 3, (o).length, needsD (o)⟩)]) (fun ⟨i, o⟩ => i ≤ l.length ∧ NdE p l i o) (fun ⟨i, o⟩ => l.length - i) (0, []) ?_ ?_; (focus (exact ⟨Nat.zero_le _, ndE_0 p l⟩)); rintro _ hN0 ⟨i, o⟩ hinv; (try dsimp only at hinv); obtain ⟨hi, hE⟩ := hinv; have hol := hE.len; replace hE := Lib.hid hE; have hx : i < l.length → TFine (l.getD i default) := fun h => hf _ (getD_mem h); have hqz := pathP_sz (p := p) (i := i) (by omega); skip)) | ((with_reducible show Wk (boolK _ _ _ _)); first | (refine bk_ (fun h h' => ?_) (fun h h' => ?_))) | ((with_reducible show Wk (_ ∧ _)); first | (refine and_ ?_ ?_)) | ((with_reducible show Wk (retOkG _ _ _ _)); first | (refine rgg_ [.frz 1] ?_) | (refine rgg_ [] ?_)) | (refine hN0.run ((i + 1, o ++ [(needM (l.getD i default) (pathP p (i : Int))).1])) [] [0, 1, 6] ?_ ?_; (focus (exact ⟨by show i + 1 ≤ _; omega, hE.out.go (by omega) hc⟩)); (focus (show l.length - (i + 1) < l.length - i; omega))) | fail) <;> (try refine nm_ ?_))
  all_goals clear ex0 ex1 ex2 ex3 ex4 ex5
  all_goals (refine ⟨?_⟩)
  all_goals first | contradiction | (exfalso; omega) | (rw [hE.out.flt (by omega) hc] <;> rfl) | (rw [hE.out.no (by omega) (by assumption)] <;> rfl) | (rw [hE.out.yes (by omega) (by assumption)] <;> rfl) | trace_state

end Go.Proofs.YtidjjfjhmlndjaaGreatDoor
