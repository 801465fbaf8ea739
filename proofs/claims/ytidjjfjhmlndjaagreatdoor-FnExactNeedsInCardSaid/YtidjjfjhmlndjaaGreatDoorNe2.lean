/- The model reads needs. -/
import Derived.Test.YtidjjfjhmlndjaaGreatDoorNe1
import Derived.Test.YtidjjfjhmlndjaaGreatDoorDw
import Derived.Test.YtidjjfjhmlndjaaGreatDoorSox
namespace Go.Proofs.YtidjjfjhmlndjaaGreatDoor
open Go.RowKit
set_option linter.unusedVariables false
set_option linter.unusedSimpArgs false
set_option maxRecDepth 100000
set_option maxHeartbeats 4000000

section
variable {α : Type} [Inhabited α] {b s : α → α → Bool} {nf : α → α} {ls o a c : List α} {i j : Nat}
theorem fold_lay (hO : o = foldTo (fun x o => insD b s (nf x) o) ls i) (hi : i < ls.length) (hR : o.take j ++ insD b s (nf (ls.getD i default)) (o.drop j) = insD b s (nf (ls.getD i default)) o) (hc : Cut o a c j j) (h : o.length ≤ j ∨ (b (o.getD j default) (nf (ls.getD i default)) = false ∧ s (o.getD j default) (nf (ls.getD i default)) = false)) : a ++ [nf (ls.getD i default)] ++ c = foldTo (fun x o => insD b s (nf x) o) ls (i + 1) := by
  rw [fold_succ _ _ hi, ← hO, hc.fst, hc.snd]
  rcases Nat.lt_or_ge j o.length with hj | hj
  · rcases h with h | ⟨h1, h2⟩
    · omega
    · exact insD_lay hj h1 h2 hR
  · exact insDup_end hj hR
theorem fold_lay2 (hO : o = foldTo (fun x o => insD b s (nf x) o) ls i) (hi : i < ls.length) (hR : o.take j ++ insD b s (nf (ls.getD i default)) (o.drop j) = insD b s (nf (ls.getD i default)) o) (hc : Cut o a c j j) (h : o.length ≤ j) : a ++ [nf (ls.getD i default)] = foldTo (fun x o => insD b s (nf x) o) ls (i + 1) := by
  have e := fold_lay hO hi hR hc (.inl h)
  rw [← e, hc.snd, List.drop_of_length_le h, List.append_nil]
theorem fold_there (hO : o = foldTo (fun x o => insD b s (nf x) o) ls i) (hi : i < ls.length) (hR : o.take j ++ insD b s (nf (ls.getD i default)) (o.drop j) = insD b s (nf (ls.getD i default)) o) (hj : j < o.length) (h1 : b (o.getD j default) (nf (ls.getD i default)) = false) (h2 : s (o.getD j default) (nf (ls.getD i default)) = true) : o = foldTo (fun x o => insD b s (nf x) o) ls (i + 1) := by
  rw [fold_succ _ _ hi, ← hO]
  exact insD_there hj h1 h2 hR
theorem fold_sz (hO : o = foldTo (fun x o => insD b s (nf x) o) ls i) (hi : i ≤ ls.length) : o.length ≤ i := by
  rw [hO]
  exact fold_len (fun x o => insD_len b s (nf x) o) ls i hi
end
theorem valsF_len (vs : List ByteArray) : (valsF vs).length ≤ vs.length := by
  have e : valsF vs = foldTo (fun x o => insVal x o) vs vs.length := (fold_all _ vs (Nat.le_refl _)).symm
  rw [e]
  exact fold_len (fun x o => insD_len lessB eqB x o) vs vs.length (Nat.le_refl _)
theorem vals_end {vs o : List ByteArray} {i : Nat} (h : vs.length ≤ i) (hO : o = foldTo (fun x o => insD lessB eqB (id x) o) vs i) : o = valsF vs := by
  rw [hO, fold_all _ vs h]
  rfl
def nedIns (x : NeedD) (o : List NeedD) : List NeedD := insD needLess needS (needN x) o
def nedF (ls : List NeedD) : List NeedD := ls.foldl (fun o x => insNed x o) []
theorem ned_end {ls o : List NeedD} {i : Nat} (h : ls.length ≤ i) (hO : o = foldTo (fun x o => insD needLess needS (needN x) o) ls i) : o = nedF ls := by
  rw [hO, fold_all _ ls h]
  rfl
theorem srtNed_a {ls : List NeedD} (h : 40 < ls.length) : srtNed ls = (ls, false) := if_pos (.inl h)
theorem srtNed_b {ls : List NeedD} {i : Nat} (h : i < ls.length) (hv : 40 < (ls.getD i default).values.length) : srtNed ls = (ls, false) := if_pos (.inr (List.any_eq_true.2 ⟨_, getD_mem h, by simpa using hv⟩))
theorem srtNed_any {ls : List NeedD} (h : ∀ j, j < ls.length → (ls.getD j default).values.length ≤ 40) : (ls.any fun n => decide (40 < n.values.length)) = false := by
  rw [Bool.eq_false_iff]
  intro k
  obtain ⟨x, hx, hv⟩ := List.any_eq_true.1 k
  obtain ⟨j, hj, rfl⟩ := List.getElem_of_mem hx
  have := h j hj
  rw [List.getD_eq_getElem?_getD, List.getElem?_eq_getElem hj] at this
  have h2 : 40 < ls[j].values.length := by simpa using hv
  have h3 : ls[j].values.length ≤ 40 := this
  omega
theorem srtNed_c {ls : List NeedD} (h : ls.length ≤ 40) (hv : ∀ j, j < ls.length → (ls.getD j default).values.length ≤ 40) (hb : needsB (nedF ls) = true) : srtNed ls = (nedF ls, true) := by
  unfold srtNed
  rw [srtNed_any hv, if_neg (fun k => k.elim (fun q => by omega) (fun q => by cases q))]
  exact if_pos hb
theorem srtNed_d {ls : List NeedD} (h : ls.length ≤ 40) (hv : ∀ j, j < ls.length → (ls.getD j default).values.length ≤ 40) (hb : needsB (nedF ls) = false) : srtNed ls = (ls, false) := by
  unfold srtNed
  rw [srtNed_any hv, if_neg (fun k => k.elim (fun q => by omega) (fun q => by cases q))]
  exact if_neg (fun k => by rw [show ls.foldl (fun o x => insNed x o) [] = nedF ls from rfl, hb] at k; cases k)

theorem upto_next {ls : List NeedD} {i : Nat} (h : ∀ j, j < i → (ls.getD j default).values.length ≤ 40) (hi : (ls.getD i default).values.length ≤ 40) : ∀ j, j < i + 1 → (ls.getD j default).values.length ≤ 40 := fun j hj => by
  by_cases e : j = i
  · subst e; exact hi
  · exact h j (by omega)
theorem upto_all {ls : List NeedD} {i : Nat} (h : ∀ j, j < i → (ls.getD j default).values.length ≤ 40) (hi : ls.length ≤ i) : ∀ j, j < ls.length → (ls.getD j default).values.length ≤ 40 := fun j hj => h j (by omega)

theorem l15Values_X (ls : List ByteArray) (hn : ls.length ≤ 1000) : Spec Tryz.prog 122 [.sl ls.length (strsD ls)] (fun d => d = .sl (valsF ls).length (strsD (valsF ls))) := by
  have ex0 := @strs_app; have ex1 := @strs_put; have ex2 := @Nat.sub_zero
  refine spG_ (rs := [.tmp 2]) (nt := 63) Tryz.func122 rfl fun X hX => ?_
  refine nm_ ?_
  repeat' ((first | contradiction | (with_reducible exact tt_) | ((with_reducible show Wk (AwStepF _ _ _ _ _ _ _)); first | (refine app_ rfl ?_)) | ((with_reducible show Wk (AwStep _ _ _ _ _)); first | (refine pln_ ?_)) | ((with_reducible show Wk (AwCode _ _ _ _ _)); first | (refine wo_ (id := 6) [] [(0, true), (1, true), (2, true), (3, true), (4, true), (5, true), (6, true), (7, true), (8, true), (9, true), (10, true), (11, true), (12, true), (13, true), (14, true)] ?_) | (refine wo_ (id := 8) [] [(0, true), (1, true), (2, true), (3, true), (4, true), (5, true), (6, true), (7, true), (8, true), (9, true), (10, true), (11, true), (12, true), (13, true), (14, true)] ?_) | (refine wtr_ (id := 9) [] (.early 1 (.early 2 (.early 3 (.early 5 (.early 6 (.early 7 (.early 8 (.two 0 (.two 4 (.one 9 (.one 10 (.early 11 .done))) 9 (.one 4 (.one 10 (.early 11 .done)))) 9 (.one 0 (.one 4 (.one 10 (.early 11 .done)))))))))))) ?_) | ((with_reducible show Wk (AwCode _ _ (.loop (.seq (.seq (.region 6 _ _) _) _)) _ _)); refine lpK_ (ι := Nat) [] [0] 0x39 (fun j => [(5, .sc (.int .i64 (j : Int)))]) (fun j => []) (fun j => j ≤ o.length ∧ o.take j ++ insD lessB eqB (id (ls.getD i default)) (o.drop j) = insD lessB eqB (id (ls.getD i default)) o) (fun j => o.length - j) 0 ?_ ?_; (focus (exact ⟨Nat.zero_le _, rfl⟩)); rintro _ hN1 j hinv; (try dsimp only at hinv); obtain ⟨hj, hR⟩ := hinv; replace hR := Lib.hid hR; obtain ⟨a, b, hcut, la, lb, ta, tb⟩ := strs_cut o j j (by omega) (by omega); replace hcut := Lib.hid hcut; skip) | ((with_reducible show Wk (AwCode _ _ (.loop (.seq (.seq (.region 3 _ _) _) _)) _ _)); refine lpK_ (ι := Nat × List ByteArray) [] [0] 0x19 (fun ⟨i, o⟩ => [(4, .sc (.int .i64 (i : Int))), (3, .own 0 0 o.length)]) (fun ⟨i, o⟩ => [(0, ⟨9, 1, (o).length, strsD (o)⟩)]) (fun ⟨i, o⟩ => i ≤ ls.length ∧ o = foldTo (fun x o => insD lessB eqB (id x) o) ls i) (fun ⟨i, o⟩ => ls.length - i) (0, []) ?_ ?_; (focus (exact ⟨Nat.zero_le _, rfl⟩)); rintro _ hN0 ⟨i, o⟩ hinv; (try dsimp only at hinv); obtain ⟨hi, hO⟩ := hinv; have hol := fold_sz hO hi; replace hO := Lib.hid hO; skip)) | ((with_reducible show Wk (boolK _ _ _ _)); first | (refine bk_ (fun h h' => ?_) (fun h h' => ?_))) | ((with_reducible show Wk (_ ∧ _)); first | (refine and_ ?_ ?_)) | ((with_reducible show Wk (stepK _ _ _)); first | (refine ite_ (fun hs => ?_) (fun hs => ?_))) | ((with_reducible show Wk (retOkG _ _ _ _)); first | (refine rgg_ [.frz 0] ?_)) | (refine hN1.run (j + 1) [] [0] ?_ ?_; (focus (exact ⟨by show j + 1 ≤ o.length; omega, insD_step (by omega) (by assumption) hR.out⟩)); (focus (show o.length - (j + 1) < o.length - j; omega))) | (refine hN0.run ((i + 1, a ++ [(ls.getD i default)] ++ b)) [] [5] ?_ ?_; (focus (exact ⟨by show i + 1 ≤ ls.length; omega, fold_lay hO.out (by omega) hR.out hcut.out (by first | exact .inl (by omega) | exact .inr ⟨by assumption, by assumption⟩ | exact .inr ⟨by assumption, by simp_all [needS]⟩)⟩)); (focus (show ls.length - (i + 1) < ls.length - i; omega))) | (refine hN0.run ((i + 1, a ++ [(ls.getD i default)])) [] [5] ?_ ?_; (focus (exact ⟨by show i + 1 ≤ ls.length; omega, fold_lay2 hO.out (by omega) hR.out hcut.out (by omega)⟩)); (focus (show ls.length - (i + 1) < ls.length - i; omega))) | (refine hN0.run ((i + 1, o)) [] [0] ?_ ?_; (focus (exact ⟨by show i + 1 ≤ ls.length; omega, fold_there hO.out (by omega) hR.out (by omega) (by assumption) (by assumption)⟩)); (focus (show ls.length - (i + 1) < ls.length - i; omega))) | fail) <;> (try refine nm_ ?_))
  all_goals clear ex0 ex1 ex2
  all_goals (refine ⟨?_⟩)
  all_goals first | contradiction | (exfalso; omega) | (rw [vals_end (by omega) hO.out]; done) | (rw [← vals_end (by omega) hO.out]; done) | trace_state

theorem l15Values_N (ls : List ByteArray) {n : Nat} (hl : ls.length = n) (hn : n ≤ 1000) : Spec Tryz.prog 122 [.sl n (strsD ls)] (fun d => d = .sl (valsF ls).length (strsD (valsF ls))) := by
  subst hl
  exact l15Values_X ls hn

theorem l15Copy_X (ns : List NeedD) (hl : ns.length ≤ 1048576) (hv : ∀ k, (ns.getD k default).values.length ≤ 1048576) : Spec Tryz.prog 123 [.sl ns.length (needsD ns)] (fun d => d = .sl ns.length (needsD ns)) := by
  have ex0 := @needsD_snoc
  refine spG_ (rs := [.tmp 2]) (nt := 27) Tryz.func123 rfl fun X hX => ?_
  refine nm_ ?_
  repeat' ((first | contradiction | (with_reducible exact tt_) | ((with_reducible show Wk (AwStepF _ _ _ _ _ _ _)); first | (refine app_ rfl ?_)) | ((with_reducible show Wk (AwStep _ _ _ _ _)); first | (refine pln_ ?_)) | ((with_reducible show Wk (AwCode _ _ _ _ _)); first | (refine lpK_ (ι := Nat × List NeedD) [] [0] 0x19 (fun ⟨i, o⟩ => [(4, .sc (.int .i64 (i : Int))), (3, .own 0 0 o.length)]) (fun ⟨i, o⟩ => [(0, ⟨103, 3, (o).length, needsD (o)⟩)]) (fun ⟨i, o⟩ => i ≤ ns.length ∧ o = ns.take i) (fun ⟨i, o⟩ => ns.length - i) (0, []) ?_ ?_; (focus (exact ⟨Nat.zero_le _, rfl⟩)); rintro _ hN0 ⟨i, o⟩ hinv; (try dsimp only at hinv); obtain ⟨hi, hW⟩ := hinv; have hol : o.length = i := (by rw [hW, List.length_take]; omega); replace hW := Lib.hid hW; have hvi := hv i; skip)) | ((with_reducible show Wk (boolK _ _ _ _)); first | (refine bk_ (fun h h' => ?_) (fun h h' => ?_))) | ((with_reducible show Wk (_ ∧ _)); first | (refine and_ ?_ ?_)) | ((with_reducible show Wk (retOkG _ _ _ _)); first | (refine rgg_ [.frz 0] ?_)) | (refine hN0.run ((i + 1, o ++ [(ns.getD i default)])) [.frz 3] [5] ?_ ?_; (focus (exact ⟨by show i + 1 ≤ ns.length; omega, by rw [hW.out]; exact (take_snoc ns i (by omega)).symm⟩)); (focus (show ns.length - (i + 1) < ns.length - i; omega))) | fail) <;> (try refine nm_ ?_))
  all_goals clear ex0
  all_goals (refine ⟨?_⟩)
  all_goals first | contradiction | (exfalso; omega) | (have e := hW.out; rw [List.take_of_length_le (by omega)] at e; have ei : i = ns.length := (by omega); first | (rw [ei]; done) | (rw [ei, e]; done) | (rw [e]; done)) | trace_state

theorem spec_SortNeeds_X (ls : List NeedD) (hn : ls.length ≤ 1048576) (hv : ∀ k, (ls.getD k default).values.length ≤ 1048576) : Spec Tryz.prog 63 [.sl ls.length (needsD ls)] (fun d => d = .tup [.sl (srtNed ls).1.length (needsD (srtNed ls).1), .sc (.bool (srtNed ls).2)]) := by
  have ex0 := @needs_app; have ex1 := @needs_put; have ex2 := @Nat.sub_zero
  refine spG_ (rs := [.tmp 2, .tmp 3]) (nt := 87) Tryz.func63 rfl fun X hX => ?_
  refine nm_ ?_
  repeat' ((first | contradiction | (with_reducible exact tt_) | ((with_reducible show Wk (AwStepF _ _ _ _ _ _ _)); first | (refine cl_ rfl _ _ (l15Copy_X ls hn hv) rfl rfl ?_; rintro _ rfl) | (refine cl_ rfl _ _ (l15Values_X (ls.getD i default).values (by omega)) rfl rfl ?_; rintro _ rfl) | (refine cl_ rfl _ _ (spec_NeedLess_D (o.getD j default) (NeedD.mk (ls.getD i default).key (ls.getD i default).op (valsF (ls.getD i default).values)) (.inr (by show (valsF (ls.getD i default).values).length ≤ _; omega))) rfl rfl ?_; rintro _ rfl) | (refine cl_ rfl _ _ (spec_NeedLess_D (NeedD.mk (ls.getD i default).key (ls.getD i default).op (valsF (ls.getD i default).values)) (o.getD j default) (.inl (by show (valsF (ls.getD i default).values).length ≤ _; omega))) rfl rfl ?_; rintro _ rfl) | (refine app_ rfl ?_) | (refine bo_ rfl [.frz 0] (spec_SelectorOk_D o) ?_; rintro _ rfl; refine ⟨rfl, ?_⟩)) | ((with_reducible show Wk (AwStep _ _ _ _ _)); first | (refine pln_ ?_)) | ((with_reducible show Wk (AwCode _ _ _ _ _)); first | (refine wo_ (id := 12) [] [(0, true), (1, true), (2, true), (3, true), (4, true), (5, true), (6, true), (7, true), (8, true), (9, true), (10, false), (11, true)] ?_) | (refine wo_ (id := 14) [] [(0, true), (1, true), (2, true), (3, true), (4, true), (5, true), (6, true), (7, true), (8, true), (9, true), (10, false), (11, true), (12, true)] ?_) | (refine wtr_ (id := 15) [] (.early 1 (.early 2 (.early 3 (.early 5 (.two 0 (.two 4 (.one 6 (.one 7 (.early 8 .done))) 6 (.one 4 (.one 7 (.early 8 .done)))) 6 (.one 0 (.one 4 (.one 7 (.early 8 .done))))))))) ?_) | ((with_reducible show Wk (AwCode _ _ (.loop (.seq (.seq (.region 12 _ _) _) _)) _ _)); refine lpK_ (ι := Nat) [] [0, 1] 0xf1 (fun j => [(7, .sc (.int .i64 (j : Int)))]) (fun j => []) (fun j => j ≤ o.length ∧ o.take j ++ insD needLess needS (needN (ls.getD i default)) (o.drop j) = insD needLess needS (needN (ls.getD i default)) o) (fun j => o.length - j) 0 ?_ ?_; (focus (exact ⟨Nat.zero_le _, rfl⟩)); rintro _ hN1 j hinv; (try dsimp only at hinv); obtain ⟨hj, hR⟩ := hinv; replace hR := Lib.hid hR; obtain ⟨a, b, hcut, la, lb, ta, tb⟩ := needs_cut o j j (by omega) (by omega); replace hcut := Lib.hid hcut; skip) | ((with_reducible show Wk (AwCode _ _ (.loop (.seq (.seq (.region 5 _ _) _) _)) _ _)); refine lpK_ (ι := Nat × List NeedD) [] [0] 0x31 (fun ⟨i, o⟩ => [(5, .sc (.int .i64 (i : Int))), (4, .own 0 0 o.length)]) (fun ⟨i, o⟩ => [(0, ⟨103, 3, (o).length, needsD (o)⟩)]) (fun ⟨i, o⟩ => i ≤ ls.length ∧ (∀ j, j < i → (ls.getD j default).values.length ≤ 40) ∧ o = foldTo (fun x o => insD needLess needS (needN x) o) ls i) (fun ⟨i, o⟩ => ls.length - i) (0, []) ?_ ?_; (focus (exact ⟨Nat.zero_le _, fun j h => absurd h (Nat.not_lt_zero _), rfl⟩)); rintro _ hN0 ⟨i, o⟩ hinv; (try dsimp only at hinv); obtain ⟨hi, hU, hO⟩ := hinv; have hol := fold_sz hO hi; replace hO := Lib.hid hO; replace hU := Lib.hid hU; have hvi := hv i; have hzl := valsF_len (ls.getD i default).values; skip)) | ((with_reducible show Wk (boolK _ _ _ _)); first | (refine bk_ (fun h h' => ?_) (fun h h' => ?_))) | ((with_reducible show Wk (_ ∧ _)); first | (refine and_ ?_ ?_)) | ((with_reducible show Wk (stepK _ _ _)); first | (refine ite_ (fun hs => ?_) (fun hs => ?_))) | ((with_reducible show Wk (retOkG _ _ _ _)); first | (refine rgg_ [.frz 0] ?_) | (refine rgg_ [] ?_)) | (refine hN1.run (j + 1) [] [0, 1] ?_ ?_; (focus (exact ⟨by show j + 1 ≤ o.length; omega, insD_step (by omega) (by assumption) hR.out⟩)); (focus (show o.length - (j + 1) < o.length - j; omega))) | (refine hN0.run ((i + 1, a ++ [(NeedD.mk (ls.getD i default).key (ls.getD i default).op (valsF (ls.getD i default).values))] ++ b)) [] [6] ?_ ?_; (focus (exact ⟨by show i + 1 ≤ ls.length; omega, ⟨upto_next hU.out (by omega), fold_lay hO.out (by omega) hR.out hcut.out (by first | exact .inl (by omega) | exact .inr ⟨by assumption, by assumption⟩ | exact .inr ⟨by assumption, by simp_all [needS]⟩)⟩⟩)); (focus (show ls.length - (i + 1) < ls.length - i; omega))) | (refine hN0.run ((i + 1, a ++ [(NeedD.mk (ls.getD i default).key (ls.getD i default).op (valsF (ls.getD i default).values))])) [] [6] ?_ ?_; (focus (exact ⟨by show i + 1 ≤ ls.length; omega, ⟨upto_next hU.out (by omega), fold_lay2 hO.out (by omega) hR.out hcut.out (by omega)⟩⟩)); (focus (show ls.length - (i + 1) < ls.length - i; omega))) | (refine hN0.run ((i + 1, o)) [] [0] ?_ ?_; (focus (exact ⟨by show i + 1 ≤ ls.length; omega, ⟨upto_next hU.out (by omega), fold_there hO.out (by omega) hR.out (by omega) (by assumption) (by unfold needS; rw [show needLess (needN (ls.getD i default)) (o.getD j default) = false from by assumption]; rfl)⟩⟩)); (focus (show ls.length - (i + 1) < ls.length - i; omega))) | fail) <;> (try refine nm_ ?_))
  all_goals clear ex0 ex1 ex2
  all_goals (refine ⟨?_⟩)
  all_goals first | contradiction | (exfalso; omega) | (rw [srtNed_a (by omega)]; done) | (rw [srtNed_b (i := i) (by omega) (by omega)]; done) | (have e := ned_end (by omega) hO.out; have hU2 := upto_all hU.out (by omega); first | (rw [srtNed_c (by omega) hU2 (by rw [← e]; assumption), ← e]; done) | (rw [srtNed_d (by omega) hU2 (by rw [← e]; assumption)]; done)) | trace_state

theorem spec_SortNeeds_N (ls : List NeedD) {n : Nat} (hl : ls.length = n) (hn : n ≤ 1048576) (hv : ∀ k, (ls.getD k default).values.length ≤ 1048576) : Spec Tryz.prog 63 [.sl n (needsD ls)] (fun d => d = .tup [.sl (srtNed ls).1.length (needsD (srtNed ls).1), .sc (.bool (srtNed ls).2)]) := by
  subst hl
  exact spec_SortNeeds_X ls hn hv

end Go.Proofs.YtidjjfjhmlndjaaGreatDoor
