/- The act of a line, as the program reads it; the law. -/
import Derived.Test.YtidjjfjhmlndjaaDoorRa7
namespace Go.Proofs.YtidjjfjhmlndjaaDoor
open Go.RowKit
set_option linter.unusedVariables false
set_option linter.unusedSimpArgs false
set_option maxRecDepth 100000
set_option maxHeartbeats 4000000

def RAC1 (a : ActD) (ok : Bool) (d : D) (os : List (Nat × Ob)) (nb : Nat) : Prop := d = .tup [.agg (actO a (.own 0 0 a.keeps.length)), .sc (.bool ok)] ∧ os = [(0, ⟨3, 1, a.keeps.length, intsD a.keeps⟩)] ∧ nb = 1
def RAC2 (a : ActD) (ok : Bool) (d : D) (os : List (Nat × Ob)) (nb : Nat) : Prop := ∃ u v, d = .tup [.agg (actO a (.own 0 2 a.keeps.length)), .sc (.bool ok)] ∧ os = [(0, ⟨3, 1, a.keeps.length + 2, .sc (.int .i64 u) :: .sc (.int .i64 v) :: intsD a.keeps⟩)] ∧ nb = 1
def RAC3 (a : ActD) (ok : Bool) (d : D) (os : List (Nat × Ob)) (nb : Nat) : Prop := Hid (a.keeps = []) ∧ d = .tup [.agg (actO a (.sl 0 [])), .sc (.bool ok)] ∧ os = [] ∧ nb = 0
theorem actO_z {a : ActD} (h : a.keeps = []) : actO a (.sl 0 []) = actCells a := by
  unfold actO actCells
  rw [h]; rfl
theorem impl_ActLine_Z (a : ActD) (ht : a.text.length ≤ 1048576) (hk : a.keeps.length ≤ 1048576) (hn : a.name.length ≤ 1048576) (h : a.keeps = []) : Spec Tryd.prog 17 [.agg (actO a (.sl 0 []))] (fun d => d = .sc (.string (ba (lineT a)))) := by
  rw [actO_z h]; exact impl_ActLine_A a ht hk hn
theorem map_bl_inj {p q : List ByteArray} (h : p.map bl = q.map bl) : p = q := by
  have e : ∀ l : List ByteArray, (l.map bl).map ba = l := fun l => by rw [List.map_map]; exact (List.map_congr_left fun x _ => ba_bl x).trans (List.map_id _)
  rw [← e p, h, e]
theorem rdI_no {t w : ByteArray} {r ps2 : List ByteArray} {a : ActD} {ok2 : Bool} (h : PartR t (w :: r) true) (hI : ActI w r a) (h2 : PartQ (ba (lineT a)) ps2 ok2) (e : ¬ ps2 = w :: r) : RdA t zeroA false := rdA_no h fun el => by
  have hs := (read_same (h.yes rfl)).2 el
  rw [← hI.eq, ← bl_ba (lineT a)] at hs
  cases ok2 with
  | false => rw [h2.r.no rfl] at hs; cases hs.1
  | true =>
    have := Option.some.inj ((h2.r.yes rfl).symm.trans hs.1)
    exact e (map_bl_inj (p := ps2) (q := w :: r) this)
theorem rdI_yes {t w : ByteArray} {r ps2 : List ByteArray} {a : ActD} {ok2 : Bool} (h : PartR t (w :: r) true) (hI : ActI w r a) (h2 : PartQ (ba (lineT a)) ps2 ok2) (e : ps2 = w :: r) : RdA t a true := by
  cases ok2 with
  | false => rw [h2.e rfl] at e; cases e
  | true =>
    have h3 := h2.r.yes rfl
    rw [bl_ba, e, hI.eq] at h3
    obtain ⟨h4, _, h5⟩ := (read_same (h.yes rfl)).1 h3
    rw [hI.eq, ← h5]
    exact rdA_yes h (Nat.succ_pos _) h4
theorem strs_tk (r : List ByteArray) : List.take r.length (strsD r) = strsD r := List.take_of_length_le (by rw [strsD_len]; exact Nat.le_refl _)
theorem actO_eq (a : ActD) (kd : D) : actO a kd = [.sc (.int .i64 a.kind), .sc (.int .i64 a.format), .sc (.string (ba a.text)), .sc (.string (ba a.name)), .sc (.int .i64 a.w1), .sc (.int .i64 a.w2), .sc (.int .i64 a.w3), .sc (.int .i64 a.schema), .sc (.int .i64 a.steps), kd] := rfl
theorem actC_eq (a : ActD) : actCells a = [.sc (.int .i64 a.kind), .sc (.int .i64 a.format), .sc (.string (ba a.text)), .sc (.string (ba a.name)), .sc (.int .i64 a.w1), .sc (.int .i64 a.w2), .sc (.int .i64 a.w3), .sc (.int .i64 a.schema), .sc (.int .i64 a.steps), .sl a.keeps.length (intsD a.keeps)] := rfl
theorem two_if (n : Nat) (x y : D) : (if 2 + n ≤ n + 1 + 1 then x else y) = x := if_pos (by omega)
theorem two_if2 (n : Nat) (x y : D) : (if 2 + n ≤ n + 2 then x else y) = x := if_pos (by omega)
theorem n11 (n : Nat) : n + 1 - 1 = n := rfl
theorem lineT_sz (a : ActD) : (ba (lineT a)).size ≤ 600 := by
  rw [ba_len]
  unfold lineT
  split
  · rename_i h; exact h.len
  · exact Nat.zero_le _
theorem part_sz {t w : ByteArray} {r : List ByteArray} {ok : Bool} (h : PartR t (w :: r) ok) : r.length ≤ 11 ∧ ∀ x ∈ r, x.size ≤ 600 := ⟨by have := h.len; rw [List.length_cons] at this; omega, fun x hx => h.sz x (List.mem_cons_of_mem _ hx)⟩

theorem impl_ReadAct_A (t : ByteArray) (ht : t.size ≤ 9223372036854775807) : SpecH Tryd.prog 5 [.sc (.string t)] [] 0 (fun d os' nb' => ∃ a ok, RdA t a ok ∧ (RAC1 a ok d os' nb' ∨ RAC2 a ok d os' nb' ∨ RAC3 a ok d os' nb')) := by
  have ex0 := @strsD_cons; have ex1 := @intsD_takeN; have ex2 := @strs_tk; have ex3 := @n11; have ex4 := @actO_eq; have ex5 := @two_if
  refine spJ_ (rs := [.cell 2 26, .tmp 3]) (nt := 40) Tryd.func5 rfl fun X hX => ?_
  refine nm_ ?_
  repeat' ((first | contradiction | (with_reducible exact tt_) | ((with_reducible show Wk (AwStepF _ _ _ _ _ _ _)); first | (refine cl_ rfl _ _ (impl_PartsOf_A t ht) rfl rfl ?_; rintro _ ⟨ps, ok, hP, rfl⟩; (have hPl := hP.r.len; (rcases ps with _ | ⟨w, r⟩ <;> replace hP := Lib.hid hP))) | (refine cl_ rfl _ _ (impl_PartsOf_A (ba (lineT a)) (by have := lineT_sz a; omega)) rfl rfl ?_; rintro _ ⟨ps2, ok2, hP2, rfl⟩; (have hP2l := hP2.r.len; replace hP2 := Lib.hid hP2)) | (refine cl_ rfl _ _ (impl_ActLine_Z a (by have := hI.tx; omega) (by have := hI.ks; omega) hI.nm hke.out) rfl rfl ?_; rintro _ rfl) | (refine cl_ rfl _ _ (equalS_D ps2 (w :: r) (by omega) (by omega)) rfl rfl ?_; rintro _ rfl) | (refine awH_ rfl (impl_actIn_A w r (by have := (part_sz hP.out.r).1; omega) (part_sz hP.out.r).2) [] ?_; rintro _ _ _ ⟨a, hI, (⟨rfl, rfl⟩ | ⟨u, v, rfl, rfl⟩ | ⟨hke, u, v, rfl, rfl⟩), rfl⟩ _) | (refine bo_ rfl [.frz 1] (impl_ActLine_A a (by have := hI.tx; omega) (by have := hI.ks; omega) hI.nm) ?_; rintro _ rfl; refine ⟨rfl, ?_⟩) | (refine bo_ rfl [.frz 2] (impl_ActLine_A a (by have := hI.tx; omega) (by have := hI.ks; omega) hI.nm) ?_; rintro _ rfl; refine ⟨rfl, ?_⟩)) | ((with_reducible show Wk (AwStep _ _ _ _ _)); first | (refine pln_ ?_)) | ((with_reducible show Wk (AwCode _ _ _ _ _)); first | (refine wtr_ (id := 4) [] (.early 0 (.early 1 (.early 2 (.early 3 (.early 4 (.two 5 (.one 6 (.one 7 .done)) 6 (.one 5 (.one 7 .done)))))))) ?_)) | ((with_reducible show Wk (boolK _ _ _ _)); first | (refine bk_ (fun h h' => ?_) (fun h h' => ?_))) | ((with_reducible show Wk (_ ∧ _)); first | (refine and_ ?_ ?_)) | ((with_reducible show Wk (stepK _ _ _)); first | (refine ite_ (fun hs => ?_) (fun hs => ?_))) | ((with_reducible show Wk (retOkJ _ _ _ _ _)); first | (refine rjj_ [.nil 0 9 3 1] [1] ?_; refine nm_ ?_; fail_if_success (show Wk False)) | (refine rjj_ [.nil 0 9 3 1] [3] ?_; refine nm_ ?_; fail_if_success (show Wk False)) | (refine rjj_ [] [] ?_; refine nm_ ?_; fail_if_success (show Wk False)) | (refine rjj_ [] [1] ?_; refine nm_ ?_; fail_if_success (show Wk False)) | (refine rjj_ [] [2] ?_; refine nm_ ?_; fail_if_success (show Wk False))) | fail) <;> (try refine nm_ ?_))
  all_goals clear ex0 ex1 ex2 ex3 ex4 ex5
  all_goals (refine ⟨?_⟩)
  all_goals first | contradiction | (exfalso; omega) | (exact ⟨zeroA, false, rdA_none hP.out.r (.inl (by assumption)), .inl ⟨rfl, rfl, rfl⟩⟩) | (exact ⟨zeroA, false, rdA_none hP.out.r (.inr rfl), .inl ⟨rfl, rfl, rfl⟩⟩) | (have e8 : ok = true := (by assumption); subst e8; first | exact ⟨zeroA, false, rdI_no hP.out.r hI hP2.out (by assumption), .inl ⟨rfl, rfl, rfl⟩⟩ | exact ⟨a, true, rdI_yes hP.out.r hI hP2.out (by assumption), .inl ⟨rfl, rfl, rfl⟩⟩ | exact ⟨a, true, rdI_yes hP.out.r hI hP2.out (by assumption), .inr (.inl ⟨_, _, rfl, rfl, rfl⟩)⟩ | exact ⟨a, true, rdI_yes hP.out.r hI hP2.out (by assumption), .inr (.inr ⟨hke, rfl, rfl, rfl⟩)⟩) | trace_state

theorem eqIntS_A (x y : List Int) (hx : x.length ≤ 1048576) (hy : y.length ≤ 1048576) : Spec Tryd.prog 20 [.sl x.length (intsD x), .sl y.length (intsD y)] (fun d => d = .sc (.bool (x == y))) := by
  refine sp_ (rs := [.tmp 4]) (nt := 26) Tryd.func20 rfl fun X hX => ?_
  refine nm_ ?_
  repeat' ((first | contradiction | (with_reducible exact tt_) | ((with_reducible show Wk (AwStep _ _ _ _ _)); first | (refine pln_ ?_)) | ((with_reducible show Wk (AwCode _ _ _ _ _)); first | (refine wo_ (id := 6) [] [(0, true), (1, true), (2, true), (3, true), (4, true), (5, true), (6, true), (7, true), (8, true)] ?_) | (refine lpU_ 0x23 (ι := Nat) (fun i => [(5, .sc (.int .i64 (i : Int)))]) (fun i => i ≤ x.length ∧ ∀ j, j < i → x.getD j default = y.getD j default) (fun i => x.length - i) 0 ?_ ?_; (focus (exact ⟨Nat.zero_le _, fun j h => absurd h (Nat.not_lt_zero _)⟩)); rintro _ hN0 i hinv; (try dsimp only at hinv); obtain ⟨hi, hE⟩ := hinv; replace hE := Lib.hid hE; skip)) | ((with_reducible show Wk (boolK _ _ _ _)); first | (refine bk_ (fun h h' => ?_) (fun h h' => ?_))) | ((with_reducible show Wk (_ ∧ _)); first | (refine and_ ?_ ?_)) | (refine hN0.go (i + 1) ?_ ?_; (focus (exact ⟨by show i + 1 ≤ x.length; omega, ieq_go hE.out (by omega)⟩)); (focus (show x.length - (i + 1) < x.length - i; omega))) | fail) <;> (try refine nm_ ?_))
  all_goals (refine ⟨?_⟩)
  all_goals first | contradiction | (exfalso; omega) | (rw [ieq_len (by omega)]; done) | (rw [ieq_no (i := i) (by assumption)]; done) | (rw [ieq_yes hE.out (by omega) (by omega)]; done) | trace_state

theorem eqWeights_A (a b c x y z : Int) : Spec Tryd.prog 19 [.agg [.sc (.int .i64 a), .sc (.int .i64 b), .sc (.int .i64 c)], .agg [.sc (.int .i64 x), .sc (.int .i64 y), .sc (.int .i64 z)]] (fun d => d = .sc (.bool (a == x && (b == y && c == z)))) := by
  refine sp_ (rs := [.tmp 4]) (nt := 20) Tryd.func19 rfl fun X hX => ?_
  refine nm_ ?_
  repeat' ((first | contradiction | (with_reducible exact tt_) | ((with_reducible show Wk (AwStep _ _ _ _ _)); first | (refine pln_ ?_)) | ((with_reducible show Wk (boolK _ _ _ _)); first | (refine bk_ (fun h h' => ?_) (fun h h' => ?_))) | ((with_reducible show Wk (_ ∧ _)); first | (refine and_ ?_ ?_)) | fail) <;> (try refine nm_ ?_))
  all_goals (refine ⟨?_⟩)
  all_goals first | contradiction | (exfalso; omega) | (simp_all; done) | (have e9 : (a == x && (b == y && c == z)) = false := (by simp; omega); rw [e9]) | trace_state

theorem eqAct_A (a b : ActD) (hk : a.keeps.length ≤ 1048576) (hk2 : b.keeps.length ≤ 1048576) : Spec Tryd.prog 6 [.agg (actCells a), .agg (actCells b)] (fun d => d = .sc (.bool (sameB a b))) := by
  unfold actCells
  refine sp_ (rs := [.tmp 4]) (nt := 47) Tryd.func6 rfl fun X hX => ?_
  refine nm_ ?_
  repeat' ((first | contradiction | (with_reducible exact tt_) | ((with_reducible show Wk (AwStepF _ _ _ _ _ _ _)); first | (refine cl_ rfl _ _ (eqWeights_A a.w1 a.w2 a.w3 b.w1 b.w2 b.w3) rfl rfl ?_; rintro _ rfl) | (refine cl_ rfl _ _ (eqIntS_A a.keeps b.keeps hk hk2) rfl rfl ?_; rintro _ rfl)) | ((with_reducible show Wk (AwStep _ _ _ _ _)); first | (refine pln_ ?_)) | ((with_reducible show Wk (boolK _ _ _ _)); first | (refine bk_ (fun h h' => ?_) (fun h h' => ?_))) | ((with_reducible show Wk (_ ∧ _)); first | (refine and_ ?_ ?_)) | fail) <;> (try refine nm_ ?_))
  all_goals (refine ⟨?_⟩)
  all_goals first | contradiction | (exfalso; omega) | (have e9 := notB_t (by assumption : (!(a.w1 == b.w1 && (a.w2 == b.w2 && a.w3 == b.w3))) = true); unfold sameB; rw [e9]; simp; done) | (unfold sameB; simp_all; done) | trace_state

/-- What is marked of a row. -/
structure MkG (L : List Int) (m off i : Nat) (k0 : Int) : Prop where
  ln : L.length = m
  at_ : ∀ j, j < i → L.getD (off + j) default = k0 + (j : Int)
theorem mkG_0 {L : List Int} {m off : Nat} {k0 : Int} (h : L.length = m) : MkG L m off 0 k0 := ⟨h, fun j h => absurd h (Nat.not_lt_zero _)⟩
theorem mkG_go {L : List Int} {m off i : Nat} {k0 : Int} (h : MkG L m off i k0) (hi : off + i < m) : MkG (L.set (off + i) (k0 + (i : Int))) m off (i + 1) k0 := ⟨by rw [List.length_set]; exact h.ln, fun j hj => by
  rw [List.getD_eq_getElem?_getD, List.getElem?_set]
  by_cases e : j = i
  · subst e; rw [if_pos rfl, if_pos (by rw [h.ln]; exact hi)]; rfl
  · rw [if_neg (by omega), ← List.getD_eq_getElem?_getD]; exact h.at_ j (by omega)⟩
theorem ints_set (L : List Int) (k : Nat) (x : Int) : (intsD L).set k (.sc (.int .i64 x)) = intsD (L.set k x) := by simp [intsD, List.map_set]
theorem ints_dt (L : List Int) (k m : Nat) : ((intsD L).drop k).take m = intsD ((L.drop k).take m) := by simp [intsD, List.map_take, List.map_drop]
theorem mkG_at {L : List Int} {m off n : Nat} {k0 : Int} (h : MkG L m off n k0) (hn : off + n ≤ m) : ((L.drop off).take n).length = n ∧ ∀ j, j < n → ((L.drop off).take n).getD j default = k0 + (j : Int) := by
  have hl := h.ln
  refine ⟨by rw [List.length_take, List.length_drop]; omega, fun j hj => ?_⟩
  rw [List.getD_eq_getElem?_getD, List.getElem?_take, if_pos hj, List.getElem?_drop, ← List.getD_eq_getElem?_getD]
  exact h.at_ j hj
theorem take_all0 {L : List Int} {n : Nat} (h : L.length = n) : (L.drop 0).take n = L := by rw [List.drop_zero, List.take_of_length_le (by omega)]

theorem markIntS_A (ws : List Int) (m off n : Nat) (k0 : Int) (hw : ws.length = m) (hn : off + n ≤ m) (hm : m ≤ 1048576) (h0 : 0 ≤ k0) (h1 : k0 ≤ 1000) : SpecH Tryd.prog 21 [.own 0 off n, .sc (.int .i64 k0)] [(0, ⟨3, 1, m, intsD ws⟩)] 1 (fun d os' nb' => ∃ L, MkG L m off n k0 ∧ d = .sc (.int .i64 (k0 + (n : Int))) ∧ os' = [(0, ⟨3, 1, m, intsD L⟩)] ∧ nb' = 1) := by
  have ex0 := @ints_set
  refine spH_ (rs := [.tmp 4]) (nt := 19) Tryd.func21 rfl fun X hX => ?_
  refine nm_ ?_
  repeat' ((first | contradiction | (with_reducible exact tt_) | ((with_reducible show Wk (AwStep _ _ _ _ _)); first | (refine pln_ ?_)) | ((with_reducible show Wk (AwCode _ _ _ _ _)); first | (refine lpK_ (ι := Nat × List Int) [] [0] 0x23 (fun ⟨i, L⟩ => [(1, .sc (.int .i64 (k0 + (i : Int)))), (5, .sc (.int .i64 (i : Int)))]) (fun ⟨i, L⟩ => [(0, ⟨3, 1, m, intsD L⟩)]) (fun ⟨i, L⟩ => i ≤ n ∧ MkG L m off i k0) (fun ⟨i, L⟩ => n - i) (0, ws) ?_ ?_; (focus (exact ⟨Nat.zero_le _, mkG_0 hw⟩)); rintro _ hN0 ⟨i, L⟩ hinv; (try dsimp only at hinv); obtain ⟨hi, hM⟩ := hinv; have hLl := hM.ln; replace hM := Lib.hid hM; skip)) | ((with_reducible show Wk (boolK _ _ _ _)); first | (refine bk_ (fun h h' => ?_) (fun h h' => ?_))) | ((with_reducible show Wk (_ ∧ _)); first | (refine and_ ?_ ?_)) | ((with_reducible show Wk (retOkH _ _ _ _ _)); first | (refine rh_ [] ?_)) | (refine hN0.run ((i + 1, L.set (off + i) (k0 + (i : Int)))) [] [0] ?_ ?_; (focus (exact ⟨by show i + 1 ≤ n; omega, mkG_go hM.out (by omega)⟩)); (focus (show n - (i + 1) < n - i; omega))) | fail) <;> (try refine nm_ ?_))
  all_goals clear ex0
  all_goals (refine ⟨?_⟩)
  all_goals first | contradiction | (exfalso; omega) | (have e9 : i = n := (by omega); subst e9; first | exact ⟨L, hM.out, rfl, rfl, rfl⟩ | exact ⟨L, hM.out, rfl, rfl⟩ | exact ⟨L, hM.out, rfl⟩) | trace_state

theorem markAct_A (ws : List Int) (m off n : Nat) (k0 : Int) (hw : ws.length = m) (hn : off + n ≤ m) (hm : m ≤ 1048576) (h0 : 0 ≤ k0) (h1 : k0 ≤ 1000) (a : ActD) : SpecH Tryd.prog 7 [.agg (actO a (.own 0 off n)), .sc (.int .i64 k0)] [(0, ⟨3, 1, m, intsD ws⟩)] 1 (fun d os' nb' => ∃ L, MkG L m off n k0 ∧ d = .sc (.int .i64 (k0 + (n : Int))) ∧ os' = [(0, ⟨3, 1, m, intsD L⟩)] ∧ nb' = 1) := by
  unfold actO
  refine spH_ (rs := [.tmp 4]) (nt := 10) Tryd.func7 rfl fun X hX => ?_
  refine nm_ ?_
  repeat' ((first | contradiction | (with_reducible exact tt_) | ((with_reducible show Wk (AwStepF _ _ _ _ _ _ _)); first | (refine awH_ rfl (markIntS_A ws m off n k0 hw hn hm h0 h1) [0] ?_; rintro _ _ _ ⟨L, hM, rfl, rfl, rfl⟩ _)) | ((with_reducible show Wk (AwStep _ _ _ _ _)); first | (refine pln_ ?_)) | ((with_reducible show Wk (boolK _ _ _ _)); first | (refine bk_ (fun h h' => ?_) (fun h h' => ?_))) | ((with_reducible show Wk (_ ∧ _)); first | (refine and_ ?_ ?_)) | ((with_reducible show Wk (retOkH _ _ _ _ _)); first | (refine rh_ [] ?_)) | fail) <;> (try refine nm_ ?_))
  all_goals (refine ⟨?_⟩)
  all_goals first | contradiction | (exfalso; omega) | (exact ⟨L, hM, rfl, rfl, rfl⟩) | (exact ⟨L, hM, rfl, rfl⟩) | (exact ⟨L, hM, rfl⟩) | trace_state

theorem heldIntS_A (q : List Int) (n : Nat) (k0 : Int) (hq : q.length = n) (hat : ∀ j, j < n → q.getD j default = k0 + (j : Int)) (hm : n ≤ 1048576) (h0 : 0 ≤ k0) (h1 : k0 ≤ 1000) : Spec Tryd.prog 22 [.sl n (intsD q), .sc (.int .i64 k0)] (fun d => d = .sc (.int .i64 (k0 + (n : Int)))) := by
  replace hat := Lib.hid hat
  refine sp_ (rs := [.tmp 4]) (nt := 21) Tryd.func22 rfl fun X hX => ?_
  refine nm_ ?_
  repeat' ((first | contradiction | (with_reducible exact tt_) | ((with_reducible show Wk (AwStep _ _ _ _ _)); first | (refine pln_ ?_)) | ((with_reducible show Wk (AwCode _ _ _ _ _)); first | (refine lpU_ 0x23 (ι := Nat × Int) (fun ⟨i, k⟩ => [(1, .sc (.int .i64 k)), (5, .sc (.int .i64 (i : Int)))]) (fun ⟨i, k⟩ => i ≤ n ∧ k = k0 + (i : Int)) (fun ⟨i, k⟩ => n - i) (0, k0) ?_ ?_; (focus (exact ⟨Nat.zero_le _, by omega⟩)); rintro _ hN0 ⟨i, k⟩ hinv; (try dsimp only at hinv); obtain ⟨hi, hk⟩ := hinv; have hai := hat.out i; subst hk; skip)) | ((with_reducible show Wk (boolK _ _ _ _)); first | (refine bk_ (fun h h' => ?_) (fun h h' => ?_))) | ((with_reducible show Wk (_ ∧ _)); first | (refine and_ ?_ ?_)) | (refine hN0.go ((i + 1, _)) ?_ ?_; (focus (exact ⟨by show i + 1 ≤ n; omega, by show _ = k0 + ((i + 1 : Nat) : Int); omega⟩)); (focus (show n - (i + 1) < n - i; omega))) | fail) <;> (try refine nm_ ?_))
  all_goals (refine ⟨?_⟩)
  all_goals first | contradiction | (exfalso; omega) | (have e9 : i = n := (by omega); subst e9; rfl) | (exfalso; have := hai (by omega); omega) | trace_state

theorem heldAct_A (q : List Int) (n : Nat) (k0 : Int) (hq : q.length = n) (hat : ∀ j, j < n → q.getD j default = k0 + (j : Int)) (hm : n ≤ 1048576) (h0 : 0 ≤ k0) (h1 : k0 ≤ 1000) (a : ActD) : Spec Tryd.prog 8 [.agg (actO a (.sl n (intsD q))), .sc (.int .i64 k0)] (fun d => d = .sc (.int .i64 (k0 + (n : Int)))) := by
  have hat2 := hat; replace hat := Lib.hid hat; clear hat2; unfold actO
  refine sp_ (rs := [.tmp 4]) (nt := 12) Tryd.func8 rfl fun X hX => ?_
  refine nm_ ?_
  repeat' ((first | contradiction | (with_reducible exact tt_) | ((with_reducible show Wk (AwStepF _ _ _ _ _ _ _)); first | (refine cl_ rfl _ _ (heldIntS_A q n k0 hq hat.out hm h0 h1) rfl rfl ?_; rintro _ rfl)) | ((with_reducible show Wk (AwStep _ _ _ _ _)); first | (refine pln_ ?_)) | ((with_reducible show Wk (boolK _ _ _ _)); first | (refine bk_ (fun h h' => ?_) (fun h h' => ?_))) | ((with_reducible show Wk (_ ∧ _)); first | (refine and_ ?_ ?_)) | fail) <;> (try refine nm_ ?_))
  all_goals (refine ⟨?_⟩)
  all_goals first | contradiction | (exfalso; omega) | rfl | trace_state

theorem rdA_kl {t : ByteArray} {a : ActD} {ok : Bool} (h : RdA t a ok) : a.keeps.length ≤ 600 := by
  cases ok with
  | false => rw [(h.no rfl).1]; decide
  | true =>
    obtain ⟨w, r, hp, ha, _⟩ := h.yes rfl
    have hl : (w :: r).length ≤ 12 := by
      unfold partsOf at hp
      split at hp
      · rename_i h3; rw [← Option.some.inj hp]; exact h3.2.2
      · cases hp
    have h2 : (rdS (w :: r)).keeps.length ≤ (w :: r).length := by
      unfold rdS
      simp only []
      (repeat' split) <;> first | exact Nat.zero_le _ | (show (List.map _ _).length ≤ _; rw [List.length_map, List.length_drop]; omega)
    rw [ha]; omega
theorem impl_ReadAct_B (t : ByteArray) (ht : t.size ≤ 9223372036854775807) (a : ActD) (ok : Bool) (h : RdA t a ok) : SpecH Tryd.prog 5 [.sc (.string t)] [] 0 (fun d os' nb' => (d = .tup [.agg (actO a (.own 0 0 a.keeps.length)), .sc (.bool ok)] ∧ os' = [(0, ⟨3, 1, a.keeps.length, intsD a.keeps⟩)] ∧ nb' = 1) ∨ (∃ u v, d = .tup [.agg (actO a (.own 0 2 a.keeps.length)), .sc (.bool ok)] ∧ os' = [(0, ⟨3, 1, a.keeps.length + 2, .sc (.int .i64 u) :: .sc (.int .i64 v) :: intsD a.keeps⟩)] ∧ nb' = 1) ∨ (Hid (a.keeps = []) ∧ d = .tup [.agg (actO a (.sl 0 [])), .sc (.bool ok)] ∧ os' = [] ∧ nb' = 0)) := by
  refine SpecH.imp (impl_ReadAct_A t ht) fun d os' nb' hq => ?_
  obtain ⟨b, ok2, hR, hA⟩ := hq
  obtain ⟨rfl, rfl⟩ := h.same hR
  rcases hA with hA | hA | hA
  · exact .inl hA
  · exact .inr (.inl hA)
  · exact .inr (.inr hA)
theorem eqAct_Z (a : ActD) (hk : a.keeps.length ≤ 1048576) (h : a.keeps = []) : Spec Tryd.prog 6 [.agg (actO a (.sl 0 [])), .agg (actCells a)] (fun d => d = .sc (.bool true)) := by
  rw [actO_z h]; exact (eqAct_A a a hk hk).mono fun d hd => by rw [hd, same_self]
theorem heldAct_Z (a : ActD) : Spec Tryd.prog 8 [.agg (actO a (.sl 0 [])), .sc (.int .i64 1)] (fun d => d = .sc (.int .i64 1)) := heldAct_A [] 0 1 rfl (fun j h => absurd h (Nat.not_lt_zero _)) (by decide) (by decide) (by decide) a

theorem markIntS_Z  : Spec Tryd.prog 21 [.sl 0 [], .sc (.int .i64 1)] (fun d => d = .sc (.int .i64 1)) := by
  refine sp_ (rs := [.tmp 4]) (nt := 19) Tryd.func21 rfl fun X hX => ?_
  refine nm_ ?_
  repeat' ((first | contradiction | (with_reducible exact tt_) | ((with_reducible show Wk (AwStep _ _ _ _ _)); first | (refine pln_ ?_)) | ((with_reducible show Wk (AwCode _ _ _ _ _)); first | (refine lpU_ 0x23 (ι := Unit) (fun _ => [(1, .sc (.int .i64 1)), (5, .sc (.int .i64 0))]) (fun _ => True) (fun _ => 0) () ?_ ?_; (focus (trivial)); rintro _ hN0 _ hinv; (try dsimp only at hinv); skip)) | ((with_reducible show Wk (boolK _ _ _ _)); first | (refine bk_ (fun h h' => ?_) (fun h h' => ?_))) | ((with_reducible show Wk (_ ∧ _)); first | (refine and_ ?_ ?_)) | (refine hN0.go (()) ?_ ?_; (focus (trivial)); (focus (omega))) | fail) <;> (try refine nm_ ?_))
  all_goals (refine ⟨?_⟩)
  all_goals first | contradiction | (exfalso; omega) | rfl | trace_state

theorem markAct_Z (a : ActD) : Spec Tryd.prog 7 [.agg (actO a (.sl 0 [])), .sc (.int .i64 1)] (fun d => d = .sc (.int .i64 1)) := by
  unfold actO
  refine sp_ (rs := [.tmp 4]) (nt := 10) Tryd.func7 rfl fun X hX => ?_
  refine nm_ ?_
  repeat' ((first | contradiction | (with_reducible exact tt_) | ((with_reducible show Wk (AwStepF _ _ _ _ _ _ _)); first | (refine cl_ rfl _ _ (markIntS_Z) rfl rfl ?_; rintro _ rfl)) | ((with_reducible show Wk (AwStep _ _ _ _ _)); first | (refine pln_ ?_)) | ((with_reducible show Wk (boolK _ _ _ _)); first | (refine bk_ (fun h h' => ?_) (fun h h' => ?_))) | ((with_reducible show Wk (_ ∧ _)); first | (refine and_ ?_ ?_)) | fail) <;> (try refine nm_ ?_))
  all_goals (refine ⟨?_⟩)
  all_goals first | contradiction | (exfalso; omega) | rfl | trace_state

theorem lawReadAct_A (t : ByteArray) : Spec Tryd.prog 3 [.sc (.string t)] (fun d => d = .sc (.bool true)) := by
  have ex0 := @ints_dt; have ex1 := @intsD_takeN; have ex2 := @actO_eq; have ex3 := @actC_eq; have ex4 := @two_if; have ex5 := @two_if2; have ex6 := @intsD_cons
  refine sp_ (rs := [.tmp 2]) (nt := 66) Tryd.func3 rfl fun X hX => ?_
  refine nm_ ?_
  repeat' ((first | contradiction | (with_reducible exact tt_) | ((with_reducible show Wk (AwStepF _ _ _ _ _ _ _)); first | (refine cl_ rfl _ _ (spec_ReadAct_A t (by omega)) rfl rfl ?_; rintro _ ⟨a, ok, hR, rfl⟩; (have hkl := rdA_kl hR; generalize hRh : hR = hR0; clear hRh; replace hR := Lib.hid hR)) | (refine cl_ rfl _ _ (eqAct_Z a (by omega) hke.out) rfl rfl ?_; rintro _ rfl) | (refine cl_ rfl _ _ (markAct_Z a) rfl rfl ?_; rintro _ rfl) | (refine cl_ rfl _ _ (heldAct_Z a) rfl rfl ?_; rintro _ rfl) | (refine awH_ rfl (impl_ReadAct_B t (by omega) a ok hR0) [] ?_; rintro _ _ _ (⟨rfl, rfl, rfl⟩ | ⟨u, v, rfl, rfl, rfl⟩ | ⟨hke, rfl, rfl, rfl⟩) _) | (refine awH_ rfl (markAct_A a.keeps a.keeps.length 0 a.keeps.length 1 rfl (by omega) (by omega) (by omega) (by omega) a) [1] ?_; rintro _ _ _ ⟨L, hM, rfl, rfl, rfl⟩ _; (have hLl := hM.ln)) | (refine awH_ rfl (markAct_A (u :: v :: a.keeps) (a.keeps.length + 2) 2 a.keeps.length 1 rfl (by omega) (by omega) (by omega) (by omega) a) [1] ?_; rintro _ _ _ ⟨L, hM, rfl, rfl, rfl⟩ _; (have hLl := hM.ln)) | (refine bo_ rfl [.frz 1] (eqAct_A a a (by omega) (by omega)) ?_; rintro _ rfl; rw [same_self]; refine ⟨rfl, ?_⟩) | (refine bo_ rfl [.frz 3] (eqAct_A a a (by omega) (by omega)) ?_; rintro _ rfl; rw [same_self]; refine ⟨rfl, ?_⟩) | (refine bo_ rfl [.frz 2] (eqAct_A a a (by omega) (by omega)) ?_; rintro _ rfl; rw [same_self]; refine ⟨rfl, ?_⟩) | (refine bo_ rfl [.frz 1] (heldAct_A L a.keeps.length 1 (hM.ln) (fun j h => by have := hM.at_ j h; rwa [Nat.zero_add] at this) (by omega) (by omega) (by omega) a) ?_; rintro _ rfl; refine ⟨rfl, ?_⟩) | (refine bo_ rfl [.frz 1] (heldAct_A ((L.drop 2).take a.keeps.length) a.keeps.length 1 (mkG_at hM (by omega)).1 (mkG_at hM (by omega)).2 (by omega) (by omega) (by omega) a) ?_; rintro _ rfl; refine ⟨rfl, ?_⟩)) | ((with_reducible show Wk (AwStep _ _ _ _ _)); first | (refine pln_ ?_)) | ((with_reducible show Wk (boolK _ _ _ _)); first | (refine bk_ (fun h h' => ?_) (fun h h' => ?_))) | ((with_reducible show Wk (_ ∧ _)); first | (refine and_ ?_ ?_)) | fail) <;> (try refine nm_ ?_))
  all_goals clear ex0 ex1 ex2 ex3 ex4 ex5 ex6

end Go.Proofs.YtidjjfjhmlndjaaDoor
