/- Acts, as the program tells them. -/
import Derived.Test.YtidjjfjhmlndjaaDoorRa6
namespace Go.Proofs.YtidjjfjhmlndjaaDoor
open Go.RowKit
set_option linter.unusedVariables false
set_option linter.unusedSimpArgs false
set_option maxRecDepth 100000
set_option maxHeartbeats 12000000

theorem words10_at {k : Int} (h : 1 ≤ k ∧ k ≤ 10) : ([.sc (.string ⟨#[97, 112, 112, 108, 121]⟩), .sc (.string ⟨#[100, 114, 111, 112]⟩), .sc (.string ⟨#[100, 101, 108, 101, 116, 101]⟩), .sc (.string ⟨#[112, 108, 97, 99, 101]⟩), .sc (.string ⟨#[110, 101, 120, 116]⟩), .sc (.string ⟨#[119, 101, 105, 103, 104, 116, 115]⟩), .sc (.string ⟨#[115, 97, 118, 101]⟩), .sc (.string ⟨#[114, 101, 115, 116, 111, 114, 101]⟩), .sc (.string ⟨#[99, 114, 97, 115, 104]⟩), .sc (.string ⟨#[102, 97, 108, 108]⟩)] : List D)[(k - 1).toNat]? = some (.sc (.string (ba (wordK k)))) := by
  have : k = 1 ∨ k = 2 ∨ k = 3 ∨ k = 4 ∨ k = 5 ∨ k = 6 ∨ k = 7 ∨ k = 8 ∨ k = 9 ∨ k = 10 := by omega
  rcases this with rfl | rfl | rfl | rfl | rfl | rfl | rfl | rfl | rfl | rfl <;> rfl
theorem wordK_no {k : Int} (h : ¬ (1 ≤ k ∧ k ≤ 10)) : ba (wordK k) = ⟨#[]⟩ := by
  unfold wordK
  split <;> first | rfl | omega
theorem word_is {k m : Int} (hk : 1 ≤ k ∧ k ≤ 10) (hm : 1 ≤ m ∧ m ≤ 10) : eqB (ba (wordK k)) (ba (wordK m)) = decide (k = m) := by
  by_cases e : k = m
  · subst e; rw [eqS_rfl, decide_eq_true rfl]
  · rw [decide_eq_false e]
    cases h : eqB (ba (wordK k)) (ba (wordK m)) with
    | false => rfl
    | true =>
      have h2 := congrArg kindW (ba_inj (eqS_eq h))
      rw [kind_word hk, kind_word hm] at h2
      exact absurd h2 e
theorem kw_is {w : ByteArray} {m : Int} (hm : 1 ≤ m ∧ m ≤ 10) : eqB w (ba (wordK m)) = decide (kindW (bl w) = m) := by
  by_cases e : kindW (bl w) = m
  · rw [decide_eq_true e]
    have := word_kind e hm.1
    rw [this, ba_bl, eqS_rfl]
  · rw [decide_eq_false e]
    cases h : eqB w (ba (wordK m)) with
    | false => rfl
    | true =>
      rw [eqS_eq h, bl_ba, kind_word hm] at e
      exact absurd rfl e

def isK (k m : Int) : Bool := decide (k = m)
theorem wk_all {k : Int} (hk : 1 ≤ k ∧ k ≤ 10) : eqB (ba (wordK k)) ⟨#[97, 112, 112, 108, 121]⟩ = isK k 1 ∧ eqB (ba (wordK k)) ⟨#[100, 114, 111, 112]⟩ = isK k 2 ∧ eqB (ba (wordK k)) ⟨#[100, 101, 108, 101, 116, 101]⟩ = isK k 3 ∧ eqB (ba (wordK k)) ⟨#[112, 108, 97, 99, 101]⟩ = isK k 4 ∧ eqB (ba (wordK k)) ⟨#[119, 101, 105, 103, 104, 116, 115]⟩ = isK k 6 ∧ eqB (ba (wordK k)) ⟨#[115, 97, 118, 101]⟩ = isK k 7 ∧ eqB (ba (wordK k)) ⟨#[99, 114, 97, 115, 104]⟩ = isK k 9 ∧ eqB (ba (wordK k)) ⟨#[102, 97, 108, 108]⟩ = isK k 10 := ⟨word_is hk (m := 1) (by decide), word_is hk (m := 2) (by decide), word_is hk (m := 3) (by decide), word_is hk (m := 4) (by decide), word_is hk (m := 6) (by decide), word_is hk (m := 7) (by decide), word_is hk (m := 9) (by decide), word_is hk (m := 10) (by decide)⟩
theorem kw_all (w : ByteArray) : eqB w ⟨#[97, 112, 112, 108, 121]⟩ = isK (kindW (bl w)) 1 ∧ eqB w ⟨#[100, 114, 111, 112]⟩ = isK (kindW (bl w)) 2 ∧ eqB w ⟨#[100, 101, 108, 101, 116, 101]⟩ = isK (kindW (bl w)) 3 ∧ eqB w ⟨#[112, 108, 97, 99, 101]⟩ = isK (kindW (bl w)) 4 ∧ eqB w ⟨#[119, 101, 105, 103, 104, 116, 115]⟩ = isK (kindW (bl w)) 6 ∧ eqB w ⟨#[115, 97, 118, 101]⟩ = isK (kindW (bl w)) 7 ∧ eqB w ⟨#[99, 114, 97, 115, 104]⟩ = isK (kindW (bl w)) 9 ∧ eqB w ⟨#[102, 97, 108, 108]⟩ = isK (kindW (bl w)) 10 := ⟨kw_is (w := w) (m := 1) (by decide), kw_is (w := w) (m := 2) (by decide), kw_is (w := w) (m := 3) (by decide), kw_is (w := w) (m := 4) (by decide), kw_is (w := w) (m := 6) (by decide), kw_is (w := w) (m := 7) (by decide), kw_is (w := w) (m := 9) (by decide), kw_is (w := w) (m := 10) (by decide)⟩
theorem kw_alld (w : ByteArray) : ∃ kw : Int, kw = kindW (bl w) ∧ eqB w ⟨#[97, 112, 112, 108, 121]⟩ = decide (kw = 1) ∧ eqB w ⟨#[100, 114, 111, 112]⟩ = decide (kw = 2) ∧ eqB w ⟨#[100, 101, 108, 101, 116, 101]⟩ = decide (kw = 3) ∧ eqB w ⟨#[112, 108, 97, 99, 101]⟩ = decide (kw = 4) ∧ eqB w ⟨#[119, 101, 105, 103, 104, 116, 115]⟩ = decide (kw = 6) ∧ eqB w ⟨#[115, 97, 118, 101]⟩ = decide (kw = 7) ∧ eqB w ⟨#[99, 114, 97, 115, 104]⟩ = decide (kw = 9) ∧ eqB w ⟨#[102, 97, 108, 108]⟩ = decide (kw = 10) := ⟨_, rfl, kw_is (w := w) (m := 1) (by decide), kw_is (w := w) (m := 2) (by decide), kw_is (w := w) (m := 3) (by decide), kw_is (w := w) (m := 4) (by decide), kw_is (w := w) (m := 6) (by decide), kw_is (w := w) (m := 7) (by decide), kw_is (w := w) (m := 9) (by decide), kw_is (w := w) (m := 10) (by decide)⟩
theorem impl_actWord_A (k : Int) (h0 : -9223372036854775808 ≤ k) (h1 : k ≤ 9223372036854775807) : Spec Tryd.prog 33 [.sc (.int .i64 k)] (fun d => d = .sc (.string (ba (wordK k)))) := by
  have hwa := fun h => words10_at (k := k) h
  refine sp_ (rs := [.tmp 2]) (nt := 13) Tryd.func33 rfl fun X hX => ?_
  refine nm_ ?_
  repeat' ((first | contradiction | (with_reducible exact tt_) | ((with_reducible show Wk (AwStepF _ _ _ _ _ _ _)); first | (refine cl_ rfl _ _ (within_D _ _ _) rfl rfl ?_; rintro _ rfl)) | ((with_reducible show Wk (AwStep _ _ _ _ _)); first | (refine pln_ ?_)) | ((with_reducible show Wk (boolK _ _ _ _)); first | (refine bk_ (fun h h' => ?_) (fun h h' => ?_))) | ((with_reducible show Wk (_ ∧ _)); first | (refine and_ ?_ ?_)) | fail) <;> (try refine nm_ ?_))
  all_goals (refine ⟨?_⟩)
  all_goals first | contradiction | (exfalso; omega) | (rw [wordK_no (by omega)]) | trace_state

def actO (a : ActD) (kd : D) : List D := [.sc (.int .i64 a.kind), .sc (.int .i64 a.format), .sc (.string (ba a.text)), .sc (.string (ba a.name)), .sc (.int .i64 a.w1), .sc (.int .i64 a.w2), .sc (.int .i64 a.w3), .sc (.int .i64 a.schema), .sc (.int .i64 a.steps), kd]

theorem impl_sameAct_A (a b : ActD) (hk : a.keeps.length ≤ 1048576) (hk2 : b.keeps.length ≤ 1048576) : Spec Tryd.prog 42 [.agg (actCells a), .agg (actCells b)] (fun d => d = .sc (.bool (sameB a b))) := by
  unfold actCells
  refine sp_ (rs := [.tmp 4]) (nt := 59) Tryd.func42 rfl fun X hX => ?_
  refine nm_ ?_
  repeat' ((first | contradiction | (with_reducible exact tt_) | ((with_reducible show Wk (AwStepF _ _ _ _ _ _ _)); first | (refine cl_ rfl _ _ (equal_D a.keeps b.keeps hk hk2) rfl rfl ?_; rintro _ rfl) | (refine eqg_ rfl ?_)) | ((with_reducible show Wk (AwStep _ _ _ _ _)); first | (refine pln_ ?_)) | ((with_reducible show Wk (boolK _ _ _ _)); first | (refine bk_ (fun h h' => ?_) (fun h h' => ?_))) | ((with_reducible show Wk (_ ∧ _)); first | (refine and_ ?_ ?_)) | fail) <;> (try refine nm_ ?_))
  all_goals (refine ⟨?_⟩)
  all_goals first | contradiction | (exfalso; omega) | (unfold sameB; simp_all; done) | trace_state

theorem impl_sameAct_N (a b : ActD) (hk : a.keeps.length ≤ 1048576) (hb : b.keeps = []) : Spec Tryd.prog 42 [.agg (actCells a), .agg (actO b (.sc (.slice none 0 0)))] (fun d => d = .sc (.bool (sameB a b))) := by
  refine Spec.argsA (impl_sameAct_A a b hk (by rw [hb]; exact Nat.zero_le _)) rfl fun j d d' h h' => ?_
  match j, h, h' with
  | 0, h, h' => injection h with h; injection h' with h'; subst h; subst h'; exact fun _ _ _ h => h
  | 1, h, h' =>
    injection h with h; injection h' with h'; subst h; subst h'
    refine ASub.agg rfl fun i d d' h h' => ?_
    unfold actCells at h'
    unfold actO at h
    match i, h, h' with
    | 0, h, h' => injection h with h; injection h' with h'; subst h; subst h'; exact .inl rfl
    | 1, h, h' => injection h with h; injection h' with h'; subst h; subst h'; exact .inl rfl
    | 2, h, h' => injection h with h; injection h' with h'; subst h; subst h'; exact .inl rfl
    | 3, h, h' => injection h with h; injection h' with h'; subst h; subst h'; exact .inl rfl
    | 4, h, h' => injection h with h; injection h' with h'; subst h; subst h'; exact .inl rfl
    | 5, h, h' => injection h with h; injection h' with h'; subst h; subst h'; exact .inl rfl
    | 6, h, h' => injection h with h; injection h' with h'; subst h; subst h'; exact .inl rfl
    | 7, h, h' => injection h with h; injection h' with h'; subst h; subst h'; exact .inl rfl
    | 8, h, h' => injection h with h; injection h' with h'; subst h; subst h'; exact .inl rfl
    | 9, h, h' =>
      injection h with h; injection h' with h'; subst h; subst h'
      rw [hb]; exact .inr ⟨rfl, rfl⟩
    | i + 10, h, h' => cases h
  | j + 2, h, h' => cases h
theorem joinB_l : ∀ xs : List By, Lib.join xs [32] = joinW xs
  | [] => rfl
  | [w] => by unfold Lib.join; first | rfl | simp [joinW]
  | w :: v :: r => by
    have ih := joinB_l (v :: r)
    unfold Lib.join
    show _ = w ++ 32 :: joinW (v :: r)
    rw [← ih]
    simp [Lib.join]
theorem joinB_w (q : List ByteArray) : joinB q ⟨#[32]⟩ = ba (joinW (q.map bl)) := by
  unfold joinB
  rw [← joinB_l]
  rfl
theorem joinW_sz : ∀ (q : List By) (m : Nat), (∀ w ∈ q, w.length ≤ m) → (joinW q).length ≤ q.length * (m + 1)
  | [], m, _ => Nat.zero_le _
  | [w], m, h => by have := h w (List.mem_cons_self ..); show w.length ≤ 1 * (m + 1); omega
  | w :: v :: r, m, h => by
    have h1 := h w (List.mem_cons_self ..)
    have ih := joinW_sz (v :: r) m fun x hx => h x (List.mem_cons_of_mem _ hx)
    show (w ++ 32 :: joinW (v :: r)).length ≤ (r.length + 1 + 1) * (m + 1)
    rw [List.length_append, List.length_cons, Nat.succ_mul (r.length + 1)]
    have e : (v :: r).length = r.length + 1 := rfl
    rw [e] at ih
    omega
/-- The numbers that the program tells. -/
def numsJ (a : ActD) : List Int := if a.kind = 6 then [a.w1, a.w2, a.w3] else if a.kind = 7 then [a.schema] else if a.kind = 9 then [a.schema, a.steps] ++ a.keeps else if a.kind = 10 then a.keeps else []
theorem numsJ_A {a : ActD} (h : toldA a = a) : numsJ a = numsA a := by
  unfold numsJ numsA
  by_cases h6 : a.kind = 6
  · rw [if_pos h6, if_pos h6, told_keeps h (by omega) (by omega)]; rfl
  rw [if_neg h6, if_neg h6]
  by_cases h7 : a.kind = 7
  · rw [if_pos h7, if_pos h7, told_keeps h (by omega) (by omega)]; rfl
  rw [if_neg h7, if_neg h7]
  by_cases h9 : a.kind = 9
  · rw [if_pos h9, if_pos h9]
  rw [if_neg h9, if_neg h9]
  by_cases h10 : a.kind = 10
  · rw [if_pos h10]
  · rw [if_neg h10, told_keeps h h9 h10]
/-- The words that are told with the first i numbers. -/
structure PtG (a : ActD) (i : Nat) (ns : List Int) (q : List ByteArray) : Prop where
  ns : ns = numsJ a
  eq : q.map bl = wordK a.kind :: (fixA a ++ ((numsJ a).take i).map Lib.itoa)
  num : ∀ n ∈ (numsJ a).take i, NumP n
  sz : ∀ w ∈ q, w.size ≤ 40000
  len : q.length ≤ 3 + i
theorem ptG_go {a : ActD} {i : Nat} {ns : List Int} {q : List ByteArray} (h : PtG a i ns q) (hi : i < ns.length) (hn : NumP (ns.getD i default)) : PtG a (i + 1) ns (q ++ [ba (Lib.itoa (ns.getD i default))]) := by
  have e := h.ns
  subst e
  have ht : (numsJ a).take (i + 1) = (numsJ a).take i ++ [(numsJ a).getD i default] := by
    rw [List.take_succ_eq_append_getElem hi, List.getD_eq_getElem?_getD, List.getElem?_eq_getElem hi]; rfl
  refine ⟨rfl, ?_, ?_, ?_, by rw [List.length_append]; have := h.len; show _ + 1 ≤ _; omega⟩
  · rw [List.map_append, h.eq, ht, List.map_append, List.cons_append, List.append_assoc]
    rfl
  · rw [ht]
    intro n hm
    rcases List.mem_append.1 hm with hm | hm
    · exact h.num n hm
    · rw [List.mem_singleton.1 hm]; exact hn
  · intro w hw
    rcases List.mem_append.1 hw with hw | hw
    · exact h.sz w hw
    · rw [List.mem_singleton.1 hw, ba_len]; have := (itoa_facts hn.lo hn.hi).1; omega
theorem wordsz {k : Int} (h : 1 ≤ k ∧ k ≤ 10) : (ba (wordK k)).size ≤ 40000 := by rw [ba_len]; have := word_sz h; omega
theorem ptG_x {a : ActD} (hk : 1 ≤ a.kind ∧ a.kind ≤ 10) {ns : List Int} (hn : ns = numsJ a) (h : ¬ a.kind = 1 ∧ ¬ (a.kind = 2 ∨ a.kind = 3 ∨ a.kind = 4)) : PtG a 0 ns [ba (wordK a.kind)] := by
  have e : fixA a = [] := by unfold fixA; rw [if_neg h.1, if_neg h.2]
  exact ⟨hn, by rw [e]; rfl, fun n h => by simp at h, fun w hw => by rw [List.mem_singleton.1 hw]; exact wordsz hk, (by show 1 ≤ 3; decide)⟩
theorem numsJ_e {a : ActD} (h : ¬ a.kind = 6 ∧ ¬ a.kind = 7 ∧ ¬ a.kind = 9 ∧ ¬ a.kind = 10) : [] = numsJ a := by unfold numsJ; rw [if_neg h.1, if_neg h.2.1, if_neg h.2.2.1, if_neg h.2.2.2]
theorem numsJ_6 {a : ActD} (h : a.kind = 6) : [a.w1, a.w2, a.w3] = numsJ a := (if_pos h).symm
theorem numsJ_7 {a : ActD} (h : a.kind = 7) : [a.schema] = numsJ a := by unfold numsJ; rw [if_neg (by omega), if_pos h]
theorem numsJ_9 {a : ActD} (h : a.kind = 9) : [a.schema, a.steps] ++ a.keeps = numsJ a := by unfold numsJ; rw [if_neg (by omega), if_neg (by omega), if_pos h]
theorem numsJ_10 {a : ActD} (h : a.kind = 10) : a.keeps = numsJ a := by unfold numsJ; rw [if_neg (by omega), if_neg (by omega), if_neg (by omega), if_pos h]
theorem ptG_2 {a : ActD} (hk : 1 ≤ a.kind ∧ a.kind ≤ 10) (h : a.kind = 2 ∨ a.kind = 3 ∨ a.kind = 4) (hz : a.name.length ≤ 20) : PtG a 0 [] ([ba (wordK a.kind)] ++ [ba a.name]) := by
  have e : fixA a = [a.name] := by unfold fixA; rw [if_neg (by omega), if_pos h]
  refine ⟨numsJ_e (by omega), by rw [e]; rfl, fun n h => by simp at h, fun w hw => ?_, (by decide : (2 : Nat) ≤ 3)⟩
  simp only [List.mem_append, List.mem_singleton] at hw
  rcases hw with rfl | rfl
  · exact wordsz hk
  · rw [ba_len]; omega
theorem ptG_1 {a : ActD} (hk : 1 ≤ a.kind ∧ a.kind ≤ 10) (h : a.kind = 1) (hf : (Lib.itoa a.format).length ≤ 10) {x : ByteArray} (hz : x.size ≤ 40000) (hx : bl x = if a.text = [] then [45] else hexL a.text) : PtG a 0 [] ([ba (wordK a.kind)] ++ [ba (Lib.itoa a.format), x]) := by
  have e : fixA a = [Lib.itoa a.format, if a.text = [] then [45] else hexL a.text] := by unfold fixA; rw [if_pos h]
  refine ⟨numsJ_e (by omega), by rw [e, ← hx]; rfl, fun n h => by simp at h, fun w hw => ?_, (by decide : (3 : Nat) ≤ 3)⟩
  simp only [List.mem_append, List.mem_cons, List.not_mem_nil, or_false] at hw
  rcases hw with rfl | rfl | rfl
  · exact wordsz hk
  · rw [ba_len]; omega
  · exact hz
theorem line_noJ {a : ActD} {k : Nat} (hk : k < (numsJ a).length) (h : inB ((numsJ a).getD k default) 0 1000000000 = false) : ba (lineT a) = ⟨#[]⟩ := lineE fun g => by
  rw [numsJ_A g.told] at hk h
  have hm : (numsA a).getD k default ∈ numsA a := by rw [List.getD_eq_getElem?_getD, List.getElem?_eq_getElem hk]; exact List.getElem_mem _
  have := nums_in g _ hm
  have h1 := this.lo
  have h2 := this.hi
  unfold inB at h
  rw [decide_eq_true h1, decide_eq_true h2] at h
  cases h
theorem same_comm {a b : ActD} (h : sameB a b = false) : sameB b a = false := by
  cases e : sameB b a with
  | false => rfl
  | true =>
    have := same_eq e
    subst this
    rw [same_self] at h; cases h
theorem lineJ {a b : ActD} {i : Nat} {ns : List Int} {q : List ByteArray} (hk : ActK a) (hb : b = toldA a) (hn : (a.kind = 2 ∨ a.kind = 3 ∨ a.kind = 4) → nmB (ba a.name) = true) (h : PtG a i ns q) (hi : ns.length ≤ i) : ((sameB a b = false ∨ 600 < (ba (joinW (q.map bl))).size) → ba (lineT a) = ⟨#[]⟩) ∧ (sameB a b = true → (ba (joinW (q.map bl))).size ≤ 600 → ba (joinW (q.map bl)) = ba (lineT a)) := by
  subst hb
  cases hs : sameB a (toldA a) with
  | false => exact ⟨fun _ => line_no2 (same_comm hs), fun e => by cases e⟩
  | true =>
    have ht : toldA a = a := (same_eq hs).symm
    have e := h.eq
    have hns := h.num
    rw [List.take_of_length_le (by rw [← h.ns]; exact hi)] at e hns
    have hq : joinW (q.map bl) = joinW (partsT a) := by rw [e, numsJ_A ht, parts_eq ht]
    have hg : LnG a (numsA a).length (numsA a) (ba (joinW (partsT a))) ∨ True := .inr trivial
    refine ⟨fun hz => lineE fun g => ?_, fun _ hz => ?_⟩
    · rcases hz with hz | hz
      · cases hz
      · have := g.len; rw [hq, ba_len] at hz; omega
    · have hl : LineOk a := by
        refine ⟨hk.kind, hk.text, hk.format, hk.schema, hk.steps, hk.keep, ht, hn, ?_, ?_, by rw [← hq, ← ba_len]; exact hz⟩
        · by_cases h6 : a.kind = 6
          · have e6 : numsJ a = [a.w1, a.w2, a.w3] := if_pos h6
            exact ⟨hns _ (by rw [e6]; simp), hns _ (by rw [e6]; simp), hns _ (by rw [e6]; simp)⟩
          · obtain ⟨h1, h2, h3⟩ := told_wts ht h6
            rw [h1, h2, h3]
            exact ⟨⟨by decide, by decide⟩, ⟨by decide, by decide⟩, ⟨by decide, by decide⟩⟩
        · intro n hn
          refine hns n ?_
          rw [numsJ_A ht]
          unfold numsA
          split
          · exact List.mem_append_right _ hn
          split
          · exact List.mem_append_right _ hn
          split
          · exact List.mem_append_right _ hn
          · exact hn
      unfold lineT
      rw [if_pos hl, hq]
theorem joinB_sz {a : ActD} {i : Nat} {ns : List Int} {q : List ByteArray} (h : PtG a i ns q) (hi : i ≤ 6) : (joinB q ⟨#[32]⟩).size ≤ 140737488355328 ∧ q.length ≤ 9 := by
  have h1 := joinW_sz (q.map bl) 40000 fun w hw => by
    obtain ⟨x, hx, rfl⟩ := List.mem_map.1 hw
    rw [bl_len]; exact h.sz x hx
  have h2 := h.len
  rw [joinB_w, ba_len]
  rw [List.length_map] at h1
  have : q.length * (40000 + 1) ≤ 9 * (40000 + 1) := Nat.mul_le_mul_right _ (by omega)
  omega
theorem dec_pl {n : Int} (h : 0 ≤ n ∧ n ≤ 1000000000) : Spec Tryd.prog 38 [.sc (.int .i64 n)] (fun d => d = .sc (.string (ba (Lib.itoa n))) ∧ (Lib.itoa n).length ≤ 10) :=
  (impl_Decimal_A n (by omega) (by omega)).mono fun d hd => ⟨hd, (itoa_facts h.1 h.2).1⟩
theorem strs_snoc (q : List ByteArray) (x : ByteArray) : strsD q ++ [.sc (.string x)] = strsD (q ++ [x]) := by simp [strsD]
theorem told_1k {a : ActD} (h : a.kind = 1) : (⟨a.kind, a.format, a.text, [], 0, 0, 0, 0, 0, []⟩ : ActD) = toldA a := by rw [told_1 h, h]
theorem told_6k {a : ActD} (h : a.kind = 6) : (⟨a.kind, 0, [], [], a.w1, a.w2, a.w3, 0, 0, []⟩ : ActD) = toldA a := by rw [told_6 h, h]
theorem told_7k {a : ActD} (h : a.kind = 7) : (⟨a.kind, 0, [], [], 0, 0, 0, a.schema, 0, []⟩ : ActD) = toldA a := by rw [told_7 h, h]
theorem told_9k {a : ActD} (h : a.kind = 9) : (⟨a.kind, 0, [], [], 0, 0, 0, a.schema, a.steps, a.keeps⟩ : ActD) = toldA a := by rw [told_9 h, h]
theorem told_10k {a : ActD} (h : a.kind = 10) : (⟨a.kind, 0, [], [], 0, 0, 0, 0, 0, a.keeps⟩ : ActD) = toldA a := by rw [told_10 h, h]

theorem impl_ActLine_A (a : ActD) (ht : a.text.length ≤ 1048576) (hk : a.keeps.length ≤ 1048576) (hn : a.name.length ≤ 1048576) : Spec Tryd.prog 17 [.agg (actCells a)] (fun d => d = .sc (.string (ba (lineT a)))) := by
  unfold actCells
  have ex0 := @ba_len; have ex1 := @strs_snoc; have ex2 := @strsD_cons; have ex3 := @intsD_cons; have ex4 := @ba_nil
  refine sp_ (rs := [.tmp 2]) (nt := 140) Tryd.func17 rfl fun X hX => ?_
  refine nm_ ?_
  repeat' ((first | contradiction | (with_reducible exact tt_) | ((with_reducible show Wk (AwStepF _ _ _ _ _ _ _)); first | (refine cl_ rfl _ _ (impl_ActOk_A a ht hk) rfl rfl ?_; rintro _ rfl; (rcases Bool.eq_false_or_eq_true (actOkB a) with hok | hok; (have hK := actK_iff.1 hok; have k0 := hK.kind.1; have k1 := hK.kind.2; have ht2 := hK.text; have hf0 := hK.format.1; have hf1 := hK.format.2; have hk4 := hK.keep; have hwz := word_sz hK.kind; have hhx := hexb_sz hK.text; obtain ⟨q1, q2, q3, q4, q6, q7, q9, q10⟩ := wk_all hK.kind); rotate_left; skip; rotate_left)) | (refine cl_ rfl _ _ (impl_actWord_A a.kind (by omega) (by omega)) rfl rfl ?_; rintro _ rfl) | (refine cl_ rfl _ _ (impl_Hex_A (ba a.text) (by rw [ba_len]; omega)) rfl rfl ?_; rintro _ rfl; (rw [if_pos (by rw [ba_len]; omega), decide_eq_true (by rw [ba_len]; omega), bl_ba])) | (refine cl_ rfl _ _ (dec_pl (n := a.format) (by omega)) rfl rfl ?_; rintro _ ⟨rfl, hfz⟩) | (refine cl_ rfl _ _ (dec_pl (n := (ns.getD i default)) (by omega)) rfl rfl ?_; rintro _ ⟨rfl, hqz⟩) | (refine cl_ rfl _ _ (impl_NameOk_D (ba a.name) (by rw [ba_len]; omega)) rfl rfl ?_; rintro _ rfl; (rcases Bool.eq_false_or_eq_true (nmB (ba a.name)) with hnm | hnm; (have hnz := nm_sz hnm); rotate_left; skip; rotate_left)) | (refine cl_ rfl _ _ (within_D _ _ _) rfl rfl ?_; rintro _ rfl) | (refine cl_ rfl _ _ (impl_sameAct_N a ⟨a.kind, a.format, a.text, [], 0, 0, 0, 0, 0, []⟩ hk rfl) rfl rfl ?_; rintro _ rfl; (have hbt := told_1k (a := a) (by simp only [isK, decide_eq_true_eq, decide_eq_false_iff_not] at *; omega); generalize hsb : sameB a _ = sb; replace hbt := Lib.hid hbt; replace hsb := Lib.hid hsb)) | (refine cl_ rfl _ _ (impl_sameAct_N a ⟨a.kind, 0, [], a.name, 0, 0, 0, 0, 0, []⟩ hk rfl) rfl rfl ?_; rintro _ rfl; (have hbt := (told_2 (a := a) (by simp only [isK, decide_eq_true_eq, decide_eq_false_iff_not] at *; omega)).symm; generalize hsb : sameB a _ = sb; replace hbt := Lib.hid hbt; replace hsb := Lib.hid hsb)) | (refine cl_ rfl _ _ (impl_sameAct_N a ⟨a.kind, 0, [], [], a.w1, a.w2, a.w3, 0, 0, []⟩ hk rfl) rfl rfl ?_; rintro _ rfl; (have hbt := told_6k (a := a) (by simp only [isK, decide_eq_true_eq, decide_eq_false_iff_not] at *; omega); generalize hsb : sameB a _ = sb; replace hbt := Lib.hid hbt; replace hsb := Lib.hid hsb)) | (refine cl_ rfl _ _ (impl_sameAct_N a ⟨a.kind, 0, [], [], 0, 0, 0, a.schema, 0, []⟩ hk rfl) rfl rfl ?_; rintro _ rfl; (have hbt := told_7k (a := a) (by simp only [isK, decide_eq_true_eq, decide_eq_false_iff_not] at *; omega); generalize hsb : sameB a _ = sb; replace hbt := Lib.hid hbt; replace hsb := Lib.hid hsb)) | (refine cl_ rfl _ _ (impl_sameAct_N a ⟨a.kind, 0, [], [], 0, 0, 0, 0, 0, []⟩ hk rfl) rfl rfl ?_; rintro _ rfl; (have hbt := (told_no (a := a) (by simp only [isK, decide_eq_true_eq, decide_eq_false_iff_not] at *; omega)).symm; generalize hsb : sameB a _ = sb; replace hbt := Lib.hid hbt; replace hsb := Lib.hid hsb)) | (refine cl_ rfl _ _ (impl_sameAct_A a ⟨a.kind, 0, [], [], 0, 0, 0, a.schema, a.steps, a.keeps⟩ hk hk) rfl rfl ?_; rintro _ rfl; (have hbt := told_9k (a := a) (by simp only [isK, decide_eq_true_eq, decide_eq_false_iff_not] at *; omega); generalize hsb : sameB a _ = sb; replace hbt := Lib.hid hbt; replace hsb := Lib.hid hsb)) | (refine cl_ rfl _ _ (impl_sameAct_A a ⟨a.kind, 0, [], [], 0, 0, 0, 0, 0, a.keeps⟩ hk hk) rfl rfl ?_; rintro _ rfl; (have hbt := told_10k (a := a) (by simp only [isK, decide_eq_true_eq, decide_eq_false_iff_not] at *; omega); generalize hsb : sameB a _ = sb; replace hbt := Lib.hid hbt; replace hsb := Lib.hid hsb)) | (refine app_ rfl ?_) | (refine afz_ [0] ?_; refine nm_ ?_; refine cl_ rfl _ _ (join_D q ⟨#[32]⟩ (joinB_sz hG.out (by omega)).1 (by have := (joinB_sz hG.out (by omega)).2; omega)) rfl rfl ?_; rintro _ rfl; rw [joinB_w])) | ((with_reducible show Wk (AwStep _ _ _ _ _)); first | (refine pln_ ?_)) | ((with_reducible show Wk (AwCode _ _ _ _ _)); first | (refine wo_ (id := 9) [2] [(0, true), (1, true), (2, true), (3, true), (4, true), (5, false), (6, true), (7, false)] ?_) | (refine wo_ (id := 28) [2] [(0, true), (1, true), (2, true), (3, true), (4, true), (5, true), (6, true), (7, false), (8, true), (9, false), (10, true), (11, false)] ?_) | (have hq_ : isK a.kind 1 = true := (by assumption); clear hq_; refine lpK_ (ι := Nat × Nat × List Int × List ByteArray) [.frz 0, .frz 2, .frz 3] [5] 0xe0000000000000000000000000032 (fun ⟨i, m, ns, q⟩ => [(4, .own 0 0 q.length), (113, .sl m (intsD ns)), (114, .sc (.int .i64 (m : Int))), (115, .sc (.int .i64 (i : Int)))]) (fun ⟨i, m, ns, q⟩ => [(0, ⟨9, 1, q.length, strsD q⟩)]) (fun ⟨i, m, ns, q⟩ => i ≤ m ∧ m = ns.length ∧ m ≤ 6 ∧ PtG a i ns q) (fun ⟨i, m, ns, q⟩ => m - i) (0, 0, [], [ba (wordK a.kind)] ++ [ba (Lib.itoa a.format), ba (hexL a.text)]) ?_ ?_; (focus ((try simp only [isK, decide_eq_true_eq, decide_eq_false_iff_not] at *); refine ⟨Nat.zero_le _, by first | rfl | exact True.intro | (show _ = a.keeps.length + 2; omega), by first | decide | (show (2 + a.keeps.length) ≤ 6; omega) | (show a.keeps.length ≤ 6; omega), ?_⟩; exact ptG_1 ⟨k0, k1⟩ (by omega) hfz (by rw [ba_len]; omega) (hexx_n (hex_n (by assumption))))); rintro _ hN0 ⟨i, m, ns, q⟩ hinv; (try dsimp only at hinv); obtain ⟨hi, hm, h7, hG⟩ := hinv; have hm1 : m ≤ ns.length := (by omega); have hm2 : ns.length ≤ m := (by omega); clear hm; have hql := hG.len; replace hG := Lib.hid hG; skip) | (have hq_ : isK a.kind 1 = true := (by assumption); clear hq_; refine lpK_ (ι := Nat × Nat × List Int × List ByteArray) [.frz 0, .frz 2, .frz 3] [5] 0xe0000000000000000000000000032 (fun ⟨i, m, ns, q⟩ => [(4, .own 0 0 q.length), (113, .sl m (intsD ns)), (114, .sc (.int .i64 (m : Int))), (115, .sc (.int .i64 (i : Int)))]) (fun ⟨i, m, ns, q⟩ => [(0, ⟨9, 1, q.length, strsD q⟩)]) (fun ⟨i, m, ns, q⟩ => i ≤ m ∧ m = ns.length ∧ m ≤ 6 ∧ PtG a i ns q) (fun ⟨i, m, ns, q⟩ => m - i) (0, 0, [], [ba (wordK a.kind)] ++ [ba (Lib.itoa a.format), ⟨#[45]⟩]) ?_ ?_; (focus ((try simp only [isK, decide_eq_true_eq, decide_eq_false_iff_not] at *); refine ⟨Nat.zero_le _, by first | rfl | exact True.intro | (show _ = a.keeps.length + 2; omega), by first | decide | (show (2 + a.keeps.length) ≤ 6; omega) | (show a.keeps.length ≤ 6; omega), ?_⟩; exact ptG_1 ⟨k0, k1⟩ (by omega) hfz (by decide) (hexx_e (hex_e (by assumption))))); rintro _ hN0 ⟨i, m, ns, q⟩ hinv; (try dsimp only at hinv); obtain ⟨hi, hm, h7, hG⟩ := hinv; have hm1 : m ≤ ns.length := (by omega); have hm2 : ns.length ≤ m := (by omega); clear hm; have hql := hG.len; replace hG := Lib.hid hG; skip) | (refine lpK_ (ι := Nat × Nat × List Int × List ByteArray) [.frz 0, .frz 2, .frz 3] [5] 0xe0000000000000000000000000032 (fun ⟨i, m, ns, q⟩ => [(4, .own 0 0 q.length), (113, .sl m (intsD ns)), (114, .sc (.int .i64 (m : Int))), (115, .sc (.int .i64 (i : Int)))]) (fun ⟨i, m, ns, q⟩ => [(0, ⟨9, 1, q.length, strsD q⟩)]) (fun ⟨i, m, ns, q⟩ => i ≤ m ∧ m = ns.length ∧ m ≤ 6 ∧ PtG a i ns q) (fun ⟨i, m, ns, q⟩ => m - i) (0, 0, [], [ba (wordK a.kind)] ++ [ba a.name]) ?_ ?_; (focus ((try simp only [isK, decide_eq_true_eq, decide_eq_false_iff_not] at *); refine ⟨Nat.zero_le _, by first | rfl | exact True.intro | (show _ = a.keeps.length + 2; omega), by first | decide | (show (2 + a.keeps.length) ≤ 6; omega) | (show a.keeps.length ≤ 6; omega), ?_⟩; exact ptG_2 ⟨k0, k1⟩ (by omega) hnz)); rintro _ hN0 ⟨i, m, ns, q⟩ hinv; (try dsimp only at hinv); obtain ⟨hi, hm, h7, hG⟩ := hinv; have hm1 : m ≤ ns.length := (by omega); have hm2 : ns.length ≤ m := (by omega); clear hm; have hql := hG.len; replace hG := Lib.hid hG; skip) | (have hq_ : isK a.kind 6 = true := (by assumption); clear hq_; refine lpK_ (ι := Nat × Nat × List Int × List ByteArray) [.frz 0, .frz 2, .frz 4] [1] 0xe0000000000000000000000000032 (fun ⟨i, m, ns, q⟩ => [(4, .own 0 0 q.length), (113, .sl m (intsD ns)), (114, .sc (.int .i64 (m : Int))), (115, .sc (.int .i64 (i : Int)))]) (fun ⟨i, m, ns, q⟩ => [(0, ⟨9, 1, q.length, strsD q⟩)]) (fun ⟨i, m, ns, q⟩ => i ≤ m ∧ m = ns.length ∧ m ≤ 6 ∧ PtG a i ns q) (fun ⟨i, m, ns, q⟩ => m - i) (0, 3, [a.w1, a.w2, a.w3], [ba (wordK a.kind)]) ?_ ?_; (focus ((try simp only [isK, decide_eq_true_eq, decide_eq_false_iff_not] at *); refine ⟨Nat.zero_le _, by first | rfl | exact True.intro | (show _ = a.keeps.length + 2; omega), by first | decide | (show (2 + a.keeps.length) ≤ 6; omega) | (show a.keeps.length ≤ 6; omega), ?_⟩; exact ptG_x ⟨k0, k1⟩ (numsJ_6 (by omega)) (by omega))); rintro _ hN0 ⟨i, m, ns, q⟩ hinv; (try dsimp only at hinv); obtain ⟨hi, hm, h7, hG⟩ := hinv; have hm1 : m ≤ ns.length := (by omega); have hm2 : ns.length ≤ m := (by omega); clear hm; have hql := hG.len; replace hG := Lib.hid hG; skip) | (have hq_ : isK a.kind 7 = true := (by assumption); clear hq_; refine lpK_ (ι := Nat × Nat × List Int × List ByteArray) [.frz 0, .frz 2, .frz 4] [1] 0xe0000000000000000000000000032 (fun ⟨i, m, ns, q⟩ => [(4, .own 0 0 q.length), (113, .sl m (intsD ns)), (114, .sc (.int .i64 (m : Int))), (115, .sc (.int .i64 (i : Int)))]) (fun ⟨i, m, ns, q⟩ => [(0, ⟨9, 1, q.length, strsD q⟩)]) (fun ⟨i, m, ns, q⟩ => i ≤ m ∧ m = ns.length ∧ m ≤ 6 ∧ PtG a i ns q) (fun ⟨i, m, ns, q⟩ => m - i) (0, 1, [a.schema], [ba (wordK a.kind)]) ?_ ?_; (focus ((try simp only [isK, decide_eq_true_eq, decide_eq_false_iff_not] at *); refine ⟨Nat.zero_le _, by first | rfl | exact True.intro | (show _ = a.keeps.length + 2; omega), by first | decide | (show (2 + a.keeps.length) ≤ 6; omega) | (show a.keeps.length ≤ 6; omega), ?_⟩; exact ptG_x ⟨k0, k1⟩ (numsJ_7 (by omega)) (by omega))); rintro _ hN0 ⟨i, m, ns, q⟩ hinv; (try dsimp only at hinv); obtain ⟨hi, hm, h7, hG⟩ := hinv; have hm1 : m ≤ ns.length := (by omega); have hm2 : ns.length ≤ m := (by omega); clear hm; have hql := hG.len; replace hG := Lib.hid hG; skip) | (have hq_ : isK a.kind 9 = true := (by assumption); clear hq_; refine lpK_ (ι := Nat × Nat × List Int × List ByteArray) [.frz 0, .frz 2, .frz 5] [1] 0xe0000000000000000000000000032 (fun ⟨i, m, ns, q⟩ => [(4, .own 0 0 q.length), (113, .sl m (intsD ns)), (114, .sc (.int .i64 (m : Int))), (115, .sc (.int .i64 (i : Int)))]) (fun ⟨i, m, ns, q⟩ => [(0, ⟨9, 1, q.length, strsD q⟩)]) (fun ⟨i, m, ns, q⟩ => i ≤ m ∧ m = ns.length ∧ m ≤ 6 ∧ PtG a i ns q) (fun ⟨i, m, ns, q⟩ => m - i) (0, (2 + a.keeps.length), [a.schema, a.steps] ++ a.keeps, [ba (wordK a.kind)]) ?_ ?_; (focus ((try simp only [isK, decide_eq_true_eq, decide_eq_false_iff_not] at *); refine ⟨Nat.zero_le _, by first | rfl | exact True.intro | (show _ = a.keeps.length + 2; omega), by first | decide | (show (2 + a.keeps.length) ≤ 6; omega) | (show a.keeps.length ≤ 6; omega), ?_⟩; exact ptG_x ⟨k0, k1⟩ (numsJ_9 (by omega)) (by omega))); rintro _ hN0 ⟨i, m, ns, q⟩ hinv; (try dsimp only at hinv); obtain ⟨hi, hm, h7, hG⟩ := hinv; have hm1 : m ≤ ns.length := (by omega); have hm2 : ns.length ≤ m := (by omega); clear hm; have hql := hG.len; replace hG := Lib.hid hG; skip) | (have hq_ : isK a.kind 10 = true := (by assumption); clear hq_; refine lpK_ (ι := Nat × Nat × List Int × List ByteArray) [.frz 0, .frz 2] [1] 0xe0000000000000000000000000032 (fun ⟨i, m, ns, q⟩ => [(4, .own 0 0 q.length), (113, .sl m (intsD ns)), (114, .sc (.int .i64 (m : Int))), (115, .sc (.int .i64 (i : Int)))]) (fun ⟨i, m, ns, q⟩ => [(0, ⟨9, 1, q.length, strsD q⟩)]) (fun ⟨i, m, ns, q⟩ => i ≤ m ∧ m = ns.length ∧ m ≤ 6 ∧ PtG a i ns q) (fun ⟨i, m, ns, q⟩ => m - i) (0, a.keeps.length, a.keeps, [ba (wordK a.kind)]) ?_ ?_; (focus ((try simp only [isK, decide_eq_true_eq, decide_eq_false_iff_not] at *); refine ⟨Nat.zero_le _, by first | rfl | exact True.intro | (show _ = a.keeps.length + 2; omega), by first | decide | (show (2 + a.keeps.length) ≤ 6; omega) | (show a.keeps.length ≤ 6; omega), ?_⟩; exact ptG_x ⟨k0, k1⟩ (numsJ_10 (by omega)) (by omega))); rintro _ hN0 ⟨i, m, ns, q⟩ hinv; (try dsimp only at hinv); obtain ⟨hi, hm, h7, hG⟩ := hinv; have hm1 : m ≤ ns.length := (by omega); have hm2 : ns.length ≤ m := (by omega); clear hm; have hql := hG.len; replace hG := Lib.hid hG; skip) | (refine lpK_ (ι := Nat × Nat × List Int × List ByteArray) [.frz 0, .frz 2, .frz 3] [1] 0xe0000000000000000000000000032 (fun ⟨i, m, ns, q⟩ => [(4, .own 0 0 q.length), (113, .sl m (intsD ns)), (114, .sc (.int .i64 (m : Int))), (115, .sc (.int .i64 (i : Int)))]) (fun ⟨i, m, ns, q⟩ => [(0, ⟨9, 1, q.length, strsD q⟩)]) (fun ⟨i, m, ns, q⟩ => i ≤ m ∧ m = ns.length ∧ m ≤ 6 ∧ PtG a i ns q) (fun ⟨i, m, ns, q⟩ => m - i) (0, 0, [], [ba (wordK a.kind)]) ?_ ?_; (focus ((try simp only [isK, decide_eq_true_eq, decide_eq_false_iff_not] at *); refine ⟨Nat.zero_le _, by first | rfl | exact True.intro | (show _ = a.keeps.length + 2; omega), by first | decide | (show (2 + a.keeps.length) ≤ 6; omega) | (show a.keeps.length ≤ 6; omega), ?_⟩; exact ptG_x ⟨k0, k1⟩ (numsJ_e (by omega)) (by omega))); rintro _ hN0 ⟨i, m, ns, q⟩ hinv; (try dsimp only at hinv); obtain ⟨hi, hm, h7, hG⟩ := hinv; have hm1 : m ≤ ns.length := (by omega); have hm2 : ns.length ≤ m := (by omega); clear hm; have hql := hG.len; replace hG := Lib.hid hG; skip)) | ((with_reducible show Wk (boolK _ _ _ _)); first | (refine bk_ (fun h h' => ?_) (fun h h' => ?_))) | ((with_reducible show Wk (_ ∧ _)); first | (refine and_ ?_ ?_)) | (refine hN0.run ((i + 1, m, ns, q ++ [ba (Lib.itoa (ns.getD i default))])) [] [2] ?_ ?_; (focus (exact ⟨by show i + 1 ≤ m; omega, by show m = ns.length; omega, h7, ptG_go hG.out (by omega) ⟨by omega, by omega⟩⟩)); (focus (show m - (i + 1) < m - i; omega))) | fail) <;> (try refine nm_ ?_))
  all_goals clear ex0 ex1 ex2 ex3 ex4
  all_goals (refine ⟨?_⟩)
  all_goals first | contradiction | (exfalso; omega) | (rw [line_no1 hok]; done) | (rw [line_no3 (by simp only [isK, decide_eq_true_eq, decide_eq_false_iff_not] at *; omega) hnm]; done) | (rw [line_noJ (a := a) (k := i) (by rw [← hG.out.ns]; omega) (by rw [← hG.out.ns]; first | assumption | simp_all)]; done) | (have e9 := lineJ hK hbt.out (fun hk9 => by first | assumption | (exfalso; (try simp only [isK, decide_eq_true_eq, decide_eq_false_iff_not] at *); omega)) hG.out (by omega); rw [hsb.out] at e9; first | (rw [e9.1 (.inl (by assumption))]; done) | (rw [e9.1 (.inr (by rw [ba_len]; omega))]; done) | (rw [e9.2 (by assumption) (by rw [ba_len]; omega)]; done)) | trace_state

/-- The numbers among the first i words. -/
structure NsG (r : List ByteArray) (i : Nat) (ns : List Int) : Prop where
  eq : ns = ((r.map bl).take i).map numV
  all : ∀ x ∈ (r.map bl).take i, numO x = true
theorem nsG_0 (r : List ByteArray) : NsG r 0 [] := ⟨rfl, fun x h => by simp at h⟩
theorem nsG_go {r : List ByteArray} {i : Nat} {ns : List Int} {n : Int} (h : NsG r i ns) (hi : i < r.length) (hn : NumR (bl (r.getD i default)) n true) : NsG r (i + 1) (ns ++ [n]) := by
  have e := jn_at hi
  refine ⟨?_, fun x hx => ?_⟩
  · rw [e, List.map_append, ← h.eq, hn.eq.1]; rfl
  · rw [e] at hx
    rcases List.mem_append.1 hx with hx | hx
    · exact h.all x hx
    · rw [List.mem_singleton.1 hx]; exact hn.eq.2.symm
theorem NsG.len {r : List ByteArray} {i : Nat} {ns : List Int} (h : NsG r i ns) : ns.length ≤ i := by rw [h.eq, List.length_map, List.length_take]; omega
theorem tw_all {p : By → Bool} : ∀ (l m : List By), (∀ x ∈ l, p x = true) → (l ++ m).takeWhile p = l ++ m.takeWhile p
  | [], m, _ => rfl
  | x :: l, m, h => by
    rw [List.cons_append, List.takeWhile_cons, if_pos (h x (List.mem_cons_self ..)), tw_all l m fun y hy => h y (List.mem_cons_of_mem _ hy)]; rfl
theorem nsG_all {r : List ByteArray} {i : Nat} {ns : List Int} (h : NsG r i ns) (hi : r.length ≤ i) : ns = numsI (r.map bl) := by
  have h1 := h.all
  have e := h.eq
  rw [List.take_of_length_le (by rw [List.length_map]; exact hi)] at h1 e
  unfold numsI
  have := tw_all (r.map bl) [] h1
  rw [List.append_nil] at this
  rw [this, e]; simp
theorem nsG_brk {r : List ByteArray} {i : Nat} {ns : List Int} {n : Int} (h : NsG r i ns) (hi : i < r.length) (hn : NumR (bl (r.getD i default)) n false) : ns = numsI (r.map bl) := by
  have e : r.map bl = (r.map bl).take i ++ (r.map bl).drop i := (List.take_append_drop i _).symm
  have hl : i < (r.map bl).length := by rw [List.length_map]; exact hi
  have e2 : (r.map bl).drop i = bl (r.getD i default) :: (r.map bl).drop (i + 1) := by
    rw [List.drop_eq_getElem_cons hl, ← bl_getD, List.getD_eq_getElem?_getD, List.getElem?_eq_getElem hl]; rfl
  unfold numsI
  rw [e, tw_all _ _ h.all, e2, List.takeWhile_cons, if_neg (by rw [← hn.eq.2]; decide), List.append_nil, h.eq]
theorem rdI_of {w : ByteArray} {r : List ByteArray} {k : Int} {ns : List Int} (hk : k = kindW (bl w)) (hn : ns = numsI (r.map bl)) : rdI (bl w) (r.map bl) = rdK k (r.map bl) ns := by rw [hk, hn]; rfl
theorem rk_1 {k : Int} {r : List ByteArray} {ns : List Int} (h : k = 1) (h2 : r.length = 2) (h3 : 0 < ns.length) : (⟨k, ns.getD 0 default, unhexL (bl (r.getD 1 default)), [], 0, 0, 0, 0, 0, []⟩ : ActD) = rdK k (r.map bl) ns := by
  unfold rdK; rw [if_pos ⟨h, by rw [List.length_map]; exact h2, h3⟩, bl_getD]; rfl
theorem rk_2 {k : Int} {r : List ByteArray} {ns : List Int} (h : k = 2 ∨ k = 3 ∨ k = 4) (h2 : r.length = 1) : (⟨k, 0, [], bl (r.getD 0 default), 0, 0, 0, 0, 0, []⟩ : ActD) = rdK k (r.map bl) ns := by
  unfold rdK; rw [if_neg (by omega), if_pos ⟨h, by rw [List.length_map]; exact h2⟩, bl_getD]
theorem rk_6 {k : Int} {r : List ByteArray} {ns : List Int} (h : k = 6) (h2 : ns.length = 3) : (⟨k, 0, [], [], ns.getD 0 default, ns.getD 1 default, ns.getD 2 default, 0, 0, []⟩ : ActD) = rdK k (r.map bl) ns := by
  unfold rdK; rw [if_neg (by omega), if_neg (by omega), if_pos ⟨h, h2⟩]; rfl
theorem rk_7 {k : Int} {r : List ByteArray} {ns : List Int} (h : k = 7) (h2 : ns.length = 1) : (⟨k, 0, [], [], 0, 0, 0, ns.getD 0 default, 0, []⟩ : ActD) = rdK k (r.map bl) ns := by
  unfold rdK; rw [if_neg (by omega), if_neg (by omega), if_neg (by omega), if_pos ⟨h, h2⟩]; rfl
theorem rk_9 {k : Int} {r : List ByteArray} {ns : List Int} (h : k = 9) (h2 : 2 ≤ ns.length) : (⟨k, 0, [], [], 0, 0, 0, ns.getD 0 default, ns.getD 1 default, ns.drop 2⟩ : ActD) = rdK k (r.map bl) ns := by
  unfold rdK; rw [if_neg (by omega), if_neg (by omega), if_neg (by omega), if_neg (by omega), if_pos ⟨h, h2⟩]; rfl
theorem rk_10 {k : Int} {r : List ByteArray} {ns : List Int} (h : k = 10) : (⟨k, 0, [], [], 0, 0, 0, 0, 0, ns⟩ : ActD) = rdK k (r.map bl) ns := by
  unfold rdK; rw [if_neg (by omega), if_neg (by omega), if_neg (by omega), if_neg (by omega), if_neg (by omega), if_pos h]
theorem rk_no {k : Int} {r : List ByteArray} {ns : List Int} (h1 : ¬ (k = 1 ∧ r.length = 2 ∧ 0 < ns.length)) (h2 : ¬ ((k = 2 ∨ k = 3 ∨ k = 4) ∧ r.length = 1)) (h3 : ¬ (k = 6 ∧ ns.length = 3)) (h4 : ¬ (k = 7 ∧ ns.length = 1)) (h5 : ¬ (k = 9 ∧ 2 ≤ ns.length)) (h6 : ¬ k = 10) : (⟨k, 0, [], [], 0, 0, 0, 0, 0, []⟩ : ActD) = rdK k (r.map bl) ns := by
  unfold rdK; rw [if_neg (by rw [List.length_map]; exact h1), if_neg (by rw [List.length_map]; exact h2), if_neg h3, if_neg h4, if_neg h5, if_neg h6]
structure ActI (w : ByteArray) (r : List ByteArray) (a : ActD) : Prop where
  eq : a = rdI (bl w) (r.map bl)
  ks : a.keeps.length ≤ 12
  nm : a.name.length ≤ 1048576
  tx : a.text.length ≤ 40000
theorem rdK_tx (k : Int) (r : List By) (ns : List Int) : (rdK k r ns).text.length ≤ 40000 ∧ (rdK k r ns).keeps.length ≤ ns.length := by
  unfold rdK
  (repeat' split) <;> first | exact ⟨unhexL_le _, Nat.zero_le _⟩ | exact ⟨Nat.zero_le _, Nat.zero_le _⟩ | exact ⟨Nat.zero_le _, Nat.le_refl _⟩ | exact ⟨Nat.zero_le _, by show (ns.drop 2).length ≤ _; rw [List.length_drop]; omega⟩
theorem rdK_nm {k : Int} {r : List ByteArray} {ns : List Int} (hz : ∀ w ∈ r, w.size ≤ 600) : (rdK k (r.map bl) ns).name.length ≤ 1048576 := by
  have h := at_sz hz 0
  unfold rdK
  (repeat' split) <;> first | exact Nat.zero_le _ | (show ((r.map bl).getD 0 []).length ≤ _; rw [bl_getD, bl_len]; omega)
theorem actI_of {w : ByteArray} {r : List ByteArray} {k : Int} {ns : List Int} {a : ActD} (hk : k = kindW (bl w)) (hn : ns = numsI (r.map bl)) (hl : ns.length ≤ 12) (ha : a = rdK k (r.map bl) ns) (hz : ∀ w ∈ r, w.size ≤ 600) : ActI w r a := by
  have h := rdK_tx k (r.map bl) ns
  exact ⟨by rw [rdI_of hk hn]; exact ha, by rw [ha]; omega, by rw [ha]; exact rdK_nm hz, by rw [ha]; exact h.1⟩
theorem ints_two {ns : List Int} (h : 2 ≤ ns.length) : ns = [ns.getD 0 default, ns.getD 1 default] ++ ns.drop 2 := by
  match ns, h with
  | a :: b :: r, _ => rfl

def ACT1 (a : ActD) (d : D) (os : List (Nat × Ob)) : Prop := d = .agg (actO a (.own 0 0 a.keeps.length)) ∧ os = [(0, ⟨3, 1, a.keeps.length, intsD a.keeps⟩)]
def ACT2 (a : ActD) (d : D) (os : List (Nat × Ob)) : Prop := ∃ u v, d = .agg (actO a (.own 0 2 a.keeps.length)) ∧ os = [(0, ⟨3, 1, a.keeps.length + 2, .sc (.int .i64 u) :: .sc (.int .i64 v) :: intsD a.keeps⟩)]
def ACT3 (a : ActD) (d : D) (os : List (Nat × Ob)) : Prop := Hid (a.keeps = []) ∧ ∃ u v, d = .agg (actO a (.sl 0 [])) ∧ os = [(0, ⟨3, 1, 2, [.sc (.int .i64 u), .sc (.int .i64 v)]⟩)]
theorem two_e {ns : List Int} (h : ns.length = 2) : ns.drop 2 = [] := List.drop_eq_nil_of_le (by omega)
theorem two_z {ns : List Int} (h : ns.length = 2) : [(0, (⟨3, 1, ns.length, intsD ns⟩ : Ob))] = [(0, ⟨3, 1, 2, [.sc (.int .i64 (ns.getD 0 default)), .sc (.int .i64 (ns.getD 1 default))]⟩)] := by
  match ns, h with
  | [a, b], _ => rfl
theorem itE_ {c : Prop} [Decidable c] {g : Bool} {f : D → St} {x y : Option D} {k : St → Prop} (h1 : c → Wk (earlyK g (Option.map f x) k)) (h2 : ¬ c → Wk (earlyK g (Option.map f y) k)) : Wk (earlyK g (Option.map f (if c then x else y)) k) := by
  split
  · rename_i h
    exact h1 h
  · rename_i h
    exact h2 h
theorem two_o {ns : List Int} (h : 2 ≤ ns.length) : [(0, (⟨3, 1, ns.length, intsD ns⟩ : Ob))] = [(0, ⟨3, 1, (ns.drop 2).length + 2, .sc (.int .i64 (ns.getD 0 default)) :: .sc (.int .i64 (ns.getD 1 default)) :: intsD (ns.drop 2)⟩)] := by
  match ns, h with
  | a :: b :: r, _ => rfl
theorem two_d {ns : List Int} {k : Int} (h : 2 ≤ ns.length) : D.agg [.sc (.int .i64 k), .sc (.int .i64 0), .sc (.string ⟨#[]⟩), .sc (.string ⟨#[]⟩), .sc (.int .i64 0), .sc (.int .i64 0), .sc (.int .i64 0), .sc (.int .i64 (ns.getD 0 default)), .sc (.int .i64 (ns.getD 1 default)), .own 0 2 (ns.length - 2)] = .agg (actO ⟨k, 0, [], [], 0, 0, 0, ns.getD 0 default, ns.getD 1 default, ns.drop 2⟩ (.own 0 2 (ns.drop 2).length)) := by rw [List.length_drop]; rfl

theorem impl_actIn_A (w : ByteArray) (r : List ByteArray) (hl : r.length ≤ 12) (hz : ∀ w ∈ r, w.size ≤ 600) : SpecH Tryd.prog 16 [.sc (.string w), .sl r.length (strsD r)] [] 0 (fun d os' nb' => ∃ a, ActI w r a ∧ (ACT1 a d os' ∨ ACT2 a d os' ∨ ACT3 a d os') ∧ nb' = 1) := by
  obtain ⟨kw, hkw0, q1, q2, q3, q4, q6, q7, q9, q10⟩ := kw_alld w; replace hkw0 := Lib.hid hkw0
  have ex0 := @ba_bl; have ex1 := @intsD_cons
  refine spJ_ (rs := [.cell 4 26]) (nt := 143) Tryd.func16 rfl fun X hX => ?_
  refine nm_ ?_
  repeat' ((first | contradiction | (with_reducible exact tt_) | ((with_reducible show Wk (AwStepF _ _ _ _ _ _ _)); first | (refine cl_ rfl _ _ (impl_actWord_A (i : Int) (by omega) (by omega)) rfl rfl ?_; rintro _ rfl) | (refine cl_ rfl _ _ (impl_ReadDecimal_A (r.getD j default) (by omega)) rfl rfl ?_; rintro _ ⟨n, ok, hR, rfl⟩; (cases ok <;> replace hR := Lib.hid hR)) | (refine cl_ rfl _ _ (impl_Unhex_A (r.getD 1 default) (by have := at_sz hz 1; omega)) rfl rfl ?_; rintro _ ⟨q, rfl⟩) | (refine app_ rfl ?_)) | ((with_reducible show Wk (AwStep _ _ _ _ _)); first | (refine pln_ ?_)) | ((with_reducible show Wk (AwCode _ _ _ _ _)); first | (refine wo_ (id := 21) [1] [(0, true), (1, true), (2, true), (3, true), (4, true), (5, true), (6, true), (7, true), (8, true), (9, true), (10, true), (11, false)] ?_) | (refine wo_ (id := 25) [1] [(0, true), (1, true), (2, true), (3, true), (4, true), (5, true), (6, true), (7, true), (8, true), (9, false), (10, true), (11, false), (12, true), (13, false)] ?_) | ((with_reducible show Wk (AwCode _ _ (.loop (.seq (.region 9 _ _) _)) _ _)); refine lpK_ (ι := Nat × List Int) [] [0, 1, 2] 0x70000b3 (fun ⟨j, ns⟩ => [(7, .own 2 0 ns.length), (26, .sc (.int .i64 (j : Int)))]) (fun ⟨j, ns⟩ => [(0, ⟨26, 10, 1, [.sc (.int .i64 0), .sc (.int .i64 0), .sc (.string ⟨#[]⟩), .sc (.string ⟨#[]⟩), .sc (.int .i64 0), .sc (.int .i64 0), .sc (.int .i64 0), .sc (.int .i64 0), .sc (.int .i64 0), .sc (.slice none 0 0)]⟩), (1, ⟨26, 10, 1, [.sc (.int .i64 k), .sc (.int .i64 0), .sc (.string ⟨#[]⟩), .sc (.string ⟨#[]⟩), .sc (.int .i64 0), .sc (.int .i64 0), .sc (.int .i64 0), .sc (.int .i64 0), .sc (.int .i64 0), .sc (.slice none 0 0)]⟩), (2, ⟨3, 1, ns.length, intsD ns⟩)]) (fun ⟨j, ns⟩ => j ≤ r.length ∧ NsG r j ns) (fun ⟨j, ns⟩ => r.length - j) (0, []) ?_ ?_; (focus (exact ⟨Nat.zero_le _, nsG_0 r⟩)); rintro _ hN1 ⟨j, ns⟩ hinv; (try dsimp only at hinv); obtain ⟨hj, hN⟩ := hinv; have hnl := hN.len; have hs := at_sz hz j; replace hN := Lib.hid hN; skip) | ((with_reducible show Wk (AwCode _ _ (.loop (.seq (.seq (.region 3 _ _) _) _)) _ _)); refine lpK_ (ι := Nat × Int) [] [0, 1] 0x73 (fun ⟨i, k⟩ => [(6, .sc (.int .i64 (i : Int)))]) (fun ⟨i, k⟩ => [(0, ⟨26, 10, 1, [.sc (.int .i64 0), .sc (.int .i64 0), .sc (.string ⟨#[]⟩), .sc (.string ⟨#[]⟩), .sc (.int .i64 0), .sc (.int .i64 0), .sc (.int .i64 0), .sc (.int .i64 0), .sc (.int .i64 0), .sc (.slice none 0 0)]⟩), (1, ⟨26, 10, 1, [.sc (.int .i64 k), .sc (.int .i64 0), .sc (.string ⟨#[]⟩), .sc (.string ⟨#[]⟩), .sc (.int .i64 0), .sc (.int .i64 0), .sc (.int .i64 0), .sc (.int .i64 0), .sc (.int .i64 0), .sc (.slice none 0 0)]⟩)]) (fun ⟨i, k⟩ => 1 ≤ i ∧ i ≤ 11 ∧ KG (bl w) i k) (fun ⟨i, k⟩ => 11 - i) (1, 0) ?_ ?_; (focus (exact ⟨Nat.le_refl _, by decide, kG_1 _⟩)); rintro _ hN0 ⟨i, k⟩ hinv; (try dsimp only at hinv); obtain ⟨hi1, hi, hKG⟩ := hinv; replace hKG := Lib.hid hKG; skip)) | ((with_reducible show Wk (boolK _ _ _ _)); first | (refine bk_ (fun h h' => ?_) (fun h h' => ?_))) | ((with_reducible show Wk (_ ∧ _)); first | (refine and_ ?_ ?_)) | ((with_reducible show Wk (stepK _ _ _)); first | (refine ite_ (fun hs => ?_) (fun hs => ?_))) | ((with_reducible show Wk (earlyK _ _ _)); first | (refine itE_ (fun hs => ?_) (fun hs => ?_))) | ((with_reducible show Wk (retOkJ _ _ _ _ _)); first | (refine rjj_ [.nil 0 9 3 1] [3] ?_; refine nm_ ?_; fail_if_success (show Wk False)) | (refine rjj_ [] [2] ?_; refine nm_ ?_; fail_if_success (show Wk False)) | (refine rjj_ [] [2] ?_; refine nm_ ?_; fail_if_success (show Wk False))) | (refine hN1.run ((j + 1, ns ++ [n])) [] [0, 1, 4] ?_ ?_; (focus (exact ⟨by show j + 1 ≤ r.length; omega, nsG_go hN.out (by omega) (by first | exact hR.out | assumption)⟩)); (focus (show r.length - (j + 1) < r.length - j; omega))) | (refine hN0.run ((i + 1, (i : Int))) [] [0, 1] ?_ ?_; (focus (exact ⟨by show 1 ≤ i + 1; omega, by show i + 1 ≤ 11; omega, kG_yes hKG.out (by omega) (kG_eq (by assumption))⟩)); (focus (show 11 - (i + 1) < 11 - i; omega))) | (refine hN0.run ((i + 1, k)) [] [0, 1] ?_ ?_; (focus (exact ⟨by show 1 ≤ i + 1; omega, by show i + 1 ≤ 11; omega, kG_no hKG.out (by omega) (kG_ne (by assumption))⟩)); (focus (show 11 - (i + 1) < 11 - i; omega))) | fail) <;> (try refine nm_ ?_))
  all_goals clear ex0 ex1
  all_goals (refine ⟨?_⟩)
  all_goals first | contradiction | (exfalso; omega) | (have hkw := kG_end hKG.out (by omega); have hkk := hkw.trans hkw0.out.symm; have hns := (by first | exact nsG_all hN.out (by omega) | exact nsG_brk hN.out (by omega) hR.out : ns = numsI (r.map bl)); first | (refine ⟨_, actI_of hkw hns (by omega) (rk_1 (by omega) (by omega) (by omega)) hz, .inl ⟨?_, rfl⟩⟩ <;> (first | rfl | (unfold actO; rw [ba_bl]; rfl))) | (refine ⟨_, actI_of hkw hns (by omega) (rk_2 (by omega) (by omega)) hz, .inl ⟨?_, rfl⟩⟩ <;> (first | rfl | (unfold actO; rw [ba_bl]; rfl))) | (refine ⟨_, actI_of hkw hns (by omega) (rk_6 (by omega) (by omega)) hz, .inl ⟨?_, rfl⟩⟩ <;> (first | rfl | (unfold actO; rw [ba_bl]; rfl))) | (refine ⟨_, actI_of hkw hns (by omega) (rk_7 (by omega) (by omega)) hz, .inl ⟨?_, rfl⟩⟩ <;> (first | rfl | (unfold actO; rw [ba_bl]; rfl))) | (refine ⟨_, actI_of hkw hns (by omega) (rk_10 (by omega)) hz, .inl ⟨?_, rfl⟩⟩ <;> (first | rfl | (unfold actO; rw [ba_bl]; rfl))) | (refine ⟨_, actI_of hkw hns (by omega) (rk_no (by omega) (by omega) (by omega) (by omega) (by omega) (by omega)) hz, .inl ⟨?_, rfl⟩⟩ <;> (first | rfl | (unfold actO; rw [ba_bl]; rfl))) | (refine ⟨_, actI_of hkw hns (by omega) (rk_9 (by omega) (by omega)) hz, .inr (.inl ⟨ns.getD 0 default, ns.getD 1 default, ?_, ?_⟩)⟩ <;> (first | exact two_d (by omega) | exact two_o (by omega))) | (have e2 : ns.length = 2 := (by omega); refine ⟨_, actI_of hkw hns (by omega) (rk_9 (by omega) (by omega)) hz, .inr (.inr ⟨Lib.hid (two_e e2), ns.getD 0 default, ns.getD 1 default, rfl, two_z e2⟩)⟩)) | trace_state

end Go.Proofs.YtidjjfjhmlndjaaDoor
