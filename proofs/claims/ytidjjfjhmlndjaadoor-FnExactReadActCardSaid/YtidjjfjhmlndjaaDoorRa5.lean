/- The act of a line, as the model reads it. -/
import Derived.Test.YtidjjfjhmlndjaaDoorRa4
namespace Go.Proofs.YtidjjfjhmlndjaaDoor
open Go.RowKit
set_option linter.unusedVariables false
set_option linter.unusedSimpArgs false
set_option maxRecDepth 100000
set_option maxHeartbeats 4000000

def zeroA : ActD := ⟨0, 0, [], [], 0, 0, 0, 0, 0, []⟩
/-- What a reader of a line makes of it. -/
structure RdA (s : ByteArray) (a : ActD) (ok : Bool) : Prop where
  yes : ok = true → ∃ w r, partsOf (bl s) = some (w :: r) ∧ a = rdS (w :: r) ∧ lineT (rdS (w :: r)) = joinW (w :: r)
  no : ok = false → a = zeroA ∧ ∀ w r, partsOf (bl s) = some (w :: r) → ¬ lineT (rdS (w :: r)) = joinW (w :: r)
theorem RdA.same {s : ByteArray} {a b : ActD} {ok ok2 : Bool} (h : RdA s a ok) (g : RdA s b ok2) : a = b ∧ ok = ok2 := by
  cases ok <;> cases ok2
  · exact ⟨(h.no rfl).1.trans (g.no rfl).1.symm, rfl⟩
  · obtain ⟨w, r, h1, h2, h3⟩ := g.yes rfl
    exact absurd h3 ((h.no rfl).2 w r h1)
  · obtain ⟨w, r, h1, h2, h3⟩ := h.yes rfl
    exact absurd h3 ((g.no rfl).2 w r h1)
  · obtain ⟨w, r, h1, h2, h3⟩ := h.yes rfl
    obtain ⟨w2, r2, g1, g2, g3⟩ := g.yes rfl
    have e := Option.some.inj (h1.symm.trans g1)
    injection e with e1 e2
    subst e1; subst e2
    exact ⟨h2.trans g2.symm, rfl⟩
theorem kindW_rng (w : By) : 0 ≤ kindW w ∧ kindW w ≤ 10 := by
  unfold kindW
  (repeat' split) <;> decide
theorem word_kind {w : By} {k : Int} (h : kindW w = k) (hk : 1 ≤ k) : wordK k = w := by
  unfold kindW at h
  split at h
  · subst h; rename_i e; exact e.symm
  split at h
  · subst h; rename_i e; exact e.symm
  split at h
  · subst h; rename_i e; exact e.symm
  split at h
  · subst h; rename_i e; exact e.symm
  split at h
  · subst h; rename_i e; exact e.symm
  split at h
  · subst h; rename_i e; exact e.symm
  split at h
  · subst h; rename_i e; exact e.symm
  split at h
  · subst h; rename_i e; exact e.symm
  split at h
  · subst h; rename_i e; exact e.symm
  split at h
  · subst h; rename_i e; exact e.symm
  omega
/-- The word's number among the first i. -/
structure KG (w : By) (i : Nat) (k : Int) : Prop where
  eq : k = if kindW w < (i : Int) then kindW w else 0
theorem kG_1 (w : By) : KG w 1 0 := ⟨by
  have := kindW_rng w
  split
  · omega
  · rfl⟩
theorem kG_yes {w : By} {i : Nat} {k : Int} (h : KG w i k) (hi : 1 ≤ i ∧ i ≤ 10) (he : wordK (i : Int) = w) : KG w (i + 1) (i : Int) := ⟨by
  have := kind_word (k := (i : Int)) (by omega)
  rw [he] at this
  rw [this, if_pos (by omega)]⟩
theorem kG_no {w : By} {i : Nat} {k : Int} (h : KG w i k) (hi : 1 ≤ i ∧ i ≤ 10) (he : ¬ wordK (i : Int) = w) : KG w (i + 1) k := ⟨by
  have hne : ¬ kindW w = (i : Int) := fun e => he (word_kind e (by omega))
  rw [h.eq]
  by_cases h1 : kindW w < (i : Int)
  · rw [if_pos h1, if_pos (by omega)]
  · rw [if_neg h1, if_neg (by omega)]⟩
theorem kG_end {w : By} {i : Nat} {k : Int} (h : KG w i k) (hi : 11 ≤ i) : k = kindW w := by
  have := kindW_rng w
  rw [h.eq, if_pos (by omega)]
theorem words_at {i : Nat} (h : i < 11) : (strsD wordsL)[i]? = some (.sc (.string (ba (wordK (i : Int))))) := by
  have : i = 0 ∨ i = 1 ∨ i = 2 ∨ i = 3 ∨ i = 4 ∨ i = 5 ∨ i = 6 ∨ i = 7 ∨ i = 8 ∨ i = 9 ∨ i = 10 := by omega
  rcases this with rfl | rfl | rfl | rfl | rfl | rfl | rfl | rfl | rfl | rfl | rfl <;> rfl
/-- The numbers from one place on. -/
theorem nums_go {p : List By} {f i : Nat} {ks : List Int} (h : ks = ((p.drop f).take (i - f)).map numV) (hf : f ≤ i) (hi : i < p.length) : ks ++ [numAt p i] = ((p.drop f).take (i + 1 - f)).map numV := by
  have e : i + 1 - f = (i - f) + 1 := by omega
  have hl : i - f < (p.drop f).length := by rw [List.length_drop]; omega
  rw [h, e, List.take_succ_eq_append_getElem hl, List.map_append]
  congr 1
  unfold numAt
  rw [if_pos hi, List.getD_eq_getElem?_getD, List.getElem?_eq_getElem hi, List.getElem_drop]
  show [numV p[i]] = [numV p[f + (i - f)]]
  congr 3
  omega

structure RG (p : List By) (a : ActD) (i : Nat) (ks : List Int) : Prop where
  ex : ∃ f, f ≤ i ∧ ks = ((p.drop f).take (i - f)).map numV ∧ rdS p = ⟨a.kind, a.format, a.text, a.name, a.w1, a.w2, a.w3, a.schema, a.steps, (p.drop f).map numV⟩
  tx : a.text.length ≤ 1048576
def withK (a : ActD) (ks : List Int) : ActD := ⟨a.kind, a.format, a.text, a.name, a.w1, a.w2, a.w3, a.schema, a.steps, ks⟩
theorem rG_go {p : List By} {a : ActD} {i : Nat} {ks : List Int} (h : RG p a i ks) (hi : i < p.length) : RG p a (i + 1) (ks ++ [numAt p i]) := by
  obtain ⟨f, h1, h2, h3⟩ := h.ex
  exact ⟨⟨f, Nat.le_succ_of_le h1, nums_go h2 h1 hi, h3⟩, h.tx⟩
theorem rG_end {p : List By} {a : ActD} {i : Nat} {ks : List Int} (h : RG p a i ks) (hi : p.length ≤ i) : withK a ks = rdS p := by
  obtain ⟨f, h1, h2, h3⟩ := h.ex
  rw [List.take_of_length_le (by rw [List.length_drop]; omega)] at h2
  rw [h3, h2]; rfl
theorem rG_len {p : List By} {a : ActD} {i : Nat} {ks : List Int} (h : RG p a i ks) : ks.length ≤ p.length := by
  obtain ⟨f, h1, rfl, h3⟩ := h.ex
  rw [List.length_map, List.length_take, List.length_drop]; omega
theorem unhexG_len : ∀ (n : Nat) (l t : By), l.length ≤ n → unhexG l = some t → t.length ≤ l.length
  | n, [], t, _, h => by injection h with h; subst h; exact Nat.le_refl _
  | n, [x], t, _, h => by cases h
  | 0, x :: y :: r, t, hl, h => by simp at hl
  | n + 1, x :: y :: r, t, hl, h => by
    rw [unhexG_two] at h
    cases hx : valB x with
    | none => rw [hx] at h; cases h
    | some u =>
      cases hy : valB y with
      | none => rw [hx, hy] at h; cases h
      | some v =>
        cases hr : unhexG r with
        | none => rw [hx, hy, hr] at h; cases h
        | some q =>
          rw [hx, hy, hr] at h
          injection h with h
          subst h
          have := unhexG_len n r q (by simp only [List.length_cons] at hl; omega) hr
          simp only [List.length_cons]
          omega
theorem unhexL_le (l : By) : (unhexL l).length ≤ 40000 := by
  unfold unhexL
  split
  · rename_i h
    cases e : unhexG l with
    | none => exact Nat.zero_le _
    | some t => have := unhexG_len _ l t (Nat.le_refl _) e; show t.length ≤ _; omega
  · exact Nat.zero_le _
theorem drop_all (p : List By) : (p.drop p.length).map numV = [] := by rw [List.drop_length]; rfl
theorem rg_1 {p : List By} (h : kindW (p.getD 0 []) = 1) : RG p ⟨1, numAt p 1, unhexL (p.getD 2 []), [], 0, 0, 0, 0, 0, []⟩ p.length [] := ⟨⟨p.length, Nat.le_refl _, by simp, by rw [drop_all]; unfold rdS; rw [h]; rfl⟩, Nat.le_trans (unhexL_le (p.getD 2 [])) (by decide)⟩
theorem rg_2 {p : List By} {k : Int} (h : kindW (p.getD 0 []) = k) (hk : k = 2 ∨ k = 3 ∨ k = 4) : RG p ⟨k, 0, [], p.getD 1 [], 0, 0, 0, 0, 0, []⟩ p.length [] := ⟨⟨p.length, Nat.le_refl _, by simp, by rw [drop_all]; unfold rdS; rw [h]; rcases hk with rfl | rfl | rfl <;> rfl⟩, Nat.zero_le _⟩
theorem rg_6 {p : List By} (h : kindW (p.getD 0 []) = 6) : RG p ⟨6, 0, [], [], numAt p 1, numAt p 2, numAt p 3, 0, 0, []⟩ p.length [] := ⟨⟨p.length, Nat.le_refl _, by simp, by rw [drop_all]; unfold rdS; rw [h]; rfl⟩, Nat.zero_le _⟩
theorem rg_7 {p : List By} (h : kindW (p.getD 0 []) = 7) : RG p ⟨7, 0, [], [], 0, 0, 0, numAt p 1, 0, []⟩ p.length [] := ⟨⟨p.length, Nat.le_refl _, by simp, by rw [drop_all]; unfold rdS; rw [h]; rfl⟩, Nat.zero_le _⟩
theorem rg_9 {p : List By} (h : kindW (p.getD 0 []) = 9) : RG p ⟨9, 0, [], [], 0, 0, 0, numAt p 1, numAt p 2, []⟩ 3 [] := ⟨⟨3, Nat.le_refl _, by simp, by unfold rdS; rw [h]; rfl⟩, Nat.zero_le _⟩
theorem rg_10 {p : List By} (h : kindW (p.getD 0 []) = 10) : RG p ⟨10, 0, [], [], 0, 0, 0, 0, 0, []⟩ 1 [] := ⟨⟨1, Nat.le_refl _, by simp, by unfold rdS; rw [h]; rfl⟩, Nat.zero_le _⟩
theorem rg_no {p : List By} {k : Int} (h : kindW (p.getD 0 []) = k) (hk : ¬ k = 1 ∧ ¬ (k = 2 ∨ k = 3 ∨ k = 4) ∧ ¬ k = 6 ∧ ¬ k = 7 ∧ ¬ k = 9 ∧ ¬ k = 10) : RG p ⟨k, 0, [], [], 0, 0, 0, 0, 0, []⟩ p.length [] := ⟨⟨p.length, Nat.le_refl _, by simp, by
  rw [drop_all]; unfold rdS; rw [h]
  show (if k = 1 then _ else if k = 2 ∨ k = 3 ∨ k = 4 then _ else if k = 6 then _ else if k = 7 then _ else if k = 9 then _ else if k = 10 then _ else _) = _
  rw [if_neg hk.1, if_neg hk.2.1, if_neg hk.2.2.1, if_neg hk.2.2.2.1, if_neg hk.2.2.2.2.1, if_neg hk.2.2.2.2.2]⟩, Nat.zero_le _⟩
theorem rdA_none {s : ByteArray} {ps : List ByteArray} {ok : Bool} (h : PartR s ps ok) (hn : ok = false ∨ ps.length = 0) : RdA s zeroA false := ⟨fun e => (by cases e), fun _ => ⟨rfl, fun w r e => by
  cases ok with
  | false => rw [h.no rfl] at e; cases e
  | true =>
    rcases hn with hn | hn
    · cases hn
    · rw [h.yes rfl, List.eq_nil_of_length_eq_zero hn] at e
      cases e⟩⟩
theorem rdA_no {s : ByteArray} {ps : List ByteArray} (h : PartR s ps true) (hn : ¬ lineT (rdS (ps.map bl)) = joinW (ps.map bl)) : RdA s zeroA false := ⟨fun e => (by cases e), fun _ => ⟨rfl, fun w r e => by
  rw [h.yes rfl] at e
  rw [← Option.some.inj e]; exact hn⟩⟩
theorem rdA_yes {s : ByteArray} {ps : List ByteArray} (h : PartR s ps true) (h0 : 0 < ps.length) (hn : lineT (rdS (ps.map bl)) = joinW (ps.map bl)) : RdA s (rdS (ps.map bl)) true := ⟨fun _ => by
  match ps, h0, h, hn with
  | p :: r, _, h, hn => exact ⟨bl p, r.map bl, h.yes rfl, rfl, hn⟩, fun e => by cases e⟩

theorem ints_app1 (a : List Int) (x : Int) : intsD a ++ [.sc (.int .i64 x)] = intsD (a ++ [x]) := by simp [intsD]
theorem ln_ne {s : ByteArray} {ps : List ByteArray} {a : ActD} (h : PartR s ps true) (h0 : 0 < ps.length) (ha : a = rdS (ps.map bl)) (he : eqB (ba (lineT a)) ⟨#[]⟩ = true ∨ eqB (ba (lineT a)) (ba (joinW (ps.map bl))) = false) : RdA s zeroA false := by
  refine rdA_no h fun e => ?_
  rw [← ha] at e
  rcases he with he | he
  · have e2 := ba_inj (eqS_eq he : ba (lineT a) = ba [])
    rw [e2] at e
    match ps, h0, h, e with
    | p :: r, _, h, e => exact absurd e.symm (join_ne (partsOf_wd (h.yes rfl) _ (List.mem_cons_self ..)))
  · rw [e, eqS_rfl] at he; cases he
theorem ln_ye {s : ByteArray} {ps : List ByteArray} {a : ActD} (h : PartR s ps true) (h0 : 0 < ps.length) (ha : a = rdS (ps.map bl)) (he : eqB (ba (lineT a)) (ba (joinW (ps.map bl))) = true) : RdA s a true := by
  have e := ba_inj (eqS_eq he)
  rw [ha] at e ⊢
  exact rdA_yes h h0 e
theorem kG_eq {w : By} {s : ByteArray} (h : eqB (ba w) s = true) : w = bl s := by rw [← eqS_eq h, bl_ba]
theorem kW_of {ps : List ByteArray} {i : Nat} {k m : Int} (h : KG (bl (ps.getD 0 default)) i k) (hi : 11 ≤ i) (hm : k = m) : kindW ((ps.map bl).getD 0 []) = m := by rw [bl_getD, ← kG_end h hi, hm]
theorem rg_1a {ps : List ByteArray} {k : Int} (h : kindW ((ps.map bl).getD 0 []) = 1) (hk : k = 1) : RG (ps.map bl) ⟨k, numAt (ps.map bl) 1, unhexL (bl (ps.getD 2 default)), [], 0, 0, 0, 0, 0, []⟩ ps.length [] := by
  have e := rg_1 h
  rw [bl_getD, List.length_map] at e
  rw [hk]; exact e
theorem rg_1b {ps : List ByteArray} {k : Int} (h : kindW ((ps.map bl).getD 0 []) = 1) (hk : k = 1) (hl : ps.length ≤ 2) : RG (ps.map bl) ⟨k, numAt (ps.map bl) 1, [], [], 0, 0, 0, 0, 0, []⟩ ps.length [] := by
  have e := rg_1 h
  rw [show (ps.map bl).getD 2 [] = [] by rw [List.getD_eq_getElem?_getD, List.getElem?_eq_none (by rw [List.length_map]; omega)]; rfl, List.length_map] at e
  rw [hk]; exact e
theorem rg_2a {ps : List ByteArray} {k : Int} (h : kindW ((ps.map bl).getD 0 []) = k) (hk : k = 2 ∨ k = 3 ∨ k = 4) : RG (ps.map bl) ⟨k, 0, [], bl (ps.getD 1 default), 0, 0, 0, 0, 0, []⟩ ps.length [] := by
  have e := rg_2 h hk
  rw [bl_getD, List.length_map] at e
  exact e
theorem rg_2b {ps : List ByteArray} {k : Int} (h : kindW ((ps.map bl).getD 0 []) = k) (hk : k = 2 ∨ k = 3 ∨ k = 4) (hl : ps.length ≤ 1) : RG (ps.map bl) ⟨k, 0, [], [], 0, 0, 0, 0, 0, []⟩ ps.length [] := by
  have e := rg_2 h hk
  rw [show (ps.map bl).getD 1 [] = [] by rw [List.getD_eq_getElem?_getD, List.getElem?_eq_none (by rw [List.length_map]; omega)]; rfl, List.length_map] at e
  exact e
theorem rg_6a {ps : List ByteArray} {k : Int} (h : kindW ((ps.map bl).getD 0 []) = 6) (hk : k = 6) : RG (ps.map bl) ⟨k, 0, [], [], numAt (ps.map bl) 1, numAt (ps.map bl) 2, numAt (ps.map bl) 3, 0, 0, []⟩ ps.length [] := by
  have e := rg_6 h
  rw [List.length_map] at e
  rw [hk]; exact e
theorem rg_7a {ps : List ByteArray} {k : Int} (h : kindW ((ps.map bl).getD 0 []) = 7) (hk : k = 7) : RG (ps.map bl) ⟨k, 0, [], [], 0, 0, 0, numAt (ps.map bl) 1, 0, []⟩ ps.length [] := by
  have e := rg_7 h
  rw [List.length_map] at e
  rw [hk]; exact e
theorem rg_noa {ps : List ByteArray} {k : Int} (h : kindW ((ps.map bl).getD 0 []) = k) (hk : ¬ k = 1 ∧ ¬ (k = 2 ∨ k = 3 ∨ k = 4) ∧ ¬ k = 6 ∧ ¬ k = 7 ∧ ¬ k = 9 ∧ ¬ k = 10) : RG (ps.map bl) ⟨k, 0, [], [], 0, 0, 0, 0, 0, []⟩ ps.length [] := by
  have e := rg_no h hk
  rw [List.length_map] at e
  exact e
theorem kG_ne {w : By} {s : ByteArray} (h : eqB (ba w) s = false) : ¬ w = bl s := fun e => by
  rw [e, ba_bl, eqS_rfl] at h; cases h

theorem spec_ReadAct_A (t : ByteArray) (ht : t.size ≤ 9223372036854775807) : Spec Tryd.prog 4 [.sc (.string t)] (fun d => ∃ a ok, RdA t a ok ∧ d = .tup [.agg (actCells a), .sc (.bool ok)]) := by
  have ex0 := @wordsL_len; have ex1 := @ba_bl; have ex2 := @ba_nil; have ex3 := @ints_app1
  refine spG_ (rs := [.cell 2 26, .tmp 3]) (nt := 126) Tryd.func4 rfl fun X hX => ?_
  refine nm_ ?_
  repeat' ((first | contradiction | (with_reducible exact tt_) | ((with_reducible show Wk (AwStepF _ _ _ _ _ _ _)); first | (refine cl_ rfl _ _ (spec_PartsOf_A t ht) rfl rfl ?_; rintro _ ⟨ps, ok, hP, rfl⟩; (have hl := hP.len; have hz := hP.sz; have hzk := at_sz hz; replace hP := Lib.hid hP)) | (refine cl_ rfl _ _ (spec_l32Words_A) rfl rfl ?_; rintro _ rfl) | (refine cl_ rfl _ _ (spec_l32Num_A ps hl hz 1 (by decide)) rfl rfl ?_; rintro _ rfl) | (refine cl_ rfl _ _ (spec_l32Num_A ps hl hz 2 (by decide)) rfl rfl ?_; rintro _ rfl) | (refine cl_ rfl _ _ (spec_l32Num_A ps hl hz 3 (by decide)) rfl rfl ?_; rintro _ rfl) | (refine cl_ rfl _ _ (spec_l32Num_A ps hl hz i (by omega)) rfl rfl ?_; rintro _ rfl) | (refine cl_ rfl _ _ (spec_Unhex_A (ps.getD 2 default) (by have := hzk 2; omega)) rfl rfl ?_; rintro _ ⟨q, rfl⟩) | (refine cl_ rfl _ _ (spec_l32Join_A ps hl hz) rfl rfl ?_; rintro _ rfl) | (refine app_ rfl ?_) | (refine afz_ [2] ?_; refine nm_ ?_; refine cl_ rfl _ _ (spec_ActLine_A (withK a ks) hG.out.tx (by show ks.length ≤ 1048576; omega)) rfl rfl ?_; rintro _ rfl)) | ((with_reducible show Wk (AwStep _ _ _ _ _)); first | (refine pln_ ?_)) | ((with_reducible show Wk (AwCode _ _ _ _ _)); first | (refine wo_ (id := 9) [] [(0, true), (1, true), (2, true), (3, true), (4, true), (5, true), (6, true), (7, true)] ?_) | (refine wtr_ (id := 35) [1, 2] (.early 0 (.early 2 (.early 3 (.two 1 (.one 4 (.one 5 (.one 6 (.early 7 (.one 8 .done))))) 4 (.two 1 (.one 5 (.one 6 (.early 7 (.one 8 .done)))) 5 (.one 1 (.one 6 (.early 7 (.one 8 .done))))))))) ?_) | ((with_reducible show Wk (AwCode _ _ (.loop (.seq (.seq (.region 33 _ _) _) _)) _ _)); refine nilC_ 1 9 3 1 (by simp [nilAt, St.ob, cellOb, List.lookup_cons]) ?_; refine nm_ ?_; refine lpK_ (ι := Nat × ActD × List Int) [] [0, 1, 2] 0x494 (fun ⟨i, a, ks⟩ => [(10, .sc (.int .i64 (i : Int)))]) (fun ⟨i, a, ks⟩ => [(1, ⟨26, 10, 1, [.sc (.int .i64 a.kind), .sc (.int .i64 a.format), .sc (.string (ba a.text)), .sc (.string (ba a.name)), .sc (.int .i64 a.w1), .sc (.int .i64 a.w2), .sc (.int .i64 a.w3), .sc (.int .i64 a.schema), .sc (.int .i64 a.steps), .own 2 0 ks.length]⟩), (2, ⟨3, 1, ks.length, intsD ks⟩)]) (fun ⟨i, a, ks⟩ => RG (ps.map bl) a i ks ∧ i ≤ 13) (fun ⟨i, a, ks⟩ => ps.length - i) (ps.length, ⟨k, numAt (ps.map bl) 1, unhexL (bl (ps.getD 2 default)), [], 0, 0, 0, 0, 0, []⟩, []) ?_ ?_; (focus (exact ⟨rg_1a (kW_of hKG.out (by omega) (by omega : k = 1)) (by omega), by omega⟩)); rintro _ hN1 ⟨i, a, ks⟩ hinv; (try dsimp only at hinv); obtain ⟨hG, hi⟩ := hinv; have htx := hG.tx; have hkl := rG_len hG; rw [List.length_map] at hkl; replace hG := Lib.hid hG; skip) | ((with_reducible show Wk (AwCode _ _ (.loop (.seq (.seq (.region 33 _ _) _) _)) _ _)); refine nilC_ 1 9 3 1 (by simp [nilAt, St.ob, cellOb, List.lookup_cons]) ?_; refine nm_ ?_; refine lpK_ (ι := Nat × ActD × List Int) [] [0, 1, 2] 0x494 (fun ⟨i, a, ks⟩ => [(10, .sc (.int .i64 (i : Int)))]) (fun ⟨i, a, ks⟩ => [(1, ⟨26, 10, 1, [.sc (.int .i64 a.kind), .sc (.int .i64 a.format), .sc (.string (ba a.text)), .sc (.string (ba a.name)), .sc (.int .i64 a.w1), .sc (.int .i64 a.w2), .sc (.int .i64 a.w3), .sc (.int .i64 a.schema), .sc (.int .i64 a.steps), .own 2 0 ks.length]⟩), (2, ⟨3, 1, ks.length, intsD ks⟩)]) (fun ⟨i, a, ks⟩ => RG (ps.map bl) a i ks ∧ i ≤ 13) (fun ⟨i, a, ks⟩ => ps.length - i) (ps.length, ⟨k, numAt (ps.map bl) 1, [], [], 0, 0, 0, 0, 0, []⟩, []) ?_ ?_; (focus (exact ⟨rg_1b (kW_of hKG.out (by omega) (by omega : k = 1)) (by omega) (by omega), by omega⟩)); rintro _ hN1 ⟨i, a, ks⟩ hinv; (try dsimp only at hinv); obtain ⟨hG, hi⟩ := hinv; have htx := hG.tx; have hkl := rG_len hG; rw [List.length_map] at hkl; replace hG := Lib.hid hG; skip) | ((with_reducible show Wk (AwCode _ _ (.loop (.seq (.seq (.region 33 _ _) _) _)) _ _)); refine nilC_ 1 9 3 1 (by simp [nilAt, St.ob, cellOb, List.lookup_cons]) ?_; refine nm_ ?_; refine lpK_ (ι := Nat × ActD × List Int) [] [0, 1, 2] 0x494 (fun ⟨i, a, ks⟩ => [(10, .sc (.int .i64 (i : Int)))]) (fun ⟨i, a, ks⟩ => [(1, ⟨26, 10, 1, [.sc (.int .i64 a.kind), .sc (.int .i64 a.format), .sc (.string (ba a.text)), .sc (.string (ba a.name)), .sc (.int .i64 a.w1), .sc (.int .i64 a.w2), .sc (.int .i64 a.w3), .sc (.int .i64 a.schema), .sc (.int .i64 a.steps), .own 2 0 ks.length]⟩), (2, ⟨3, 1, ks.length, intsD ks⟩)]) (fun ⟨i, a, ks⟩ => RG (ps.map bl) a i ks ∧ i ≤ 13) (fun ⟨i, a, ks⟩ => ps.length - i) (ps.length, ⟨k, 0, [], bl (ps.getD 1 default), 0, 0, 0, 0, 0, []⟩, []) ?_ ?_; (focus (exact ⟨rg_2a (kW_of hKG.out (by omega) (by omega : k = k)) (by omega), by omega⟩)); rintro _ hN1 ⟨i, a, ks⟩ hinv; (try dsimp only at hinv); obtain ⟨hG, hi⟩ := hinv; have htx := hG.tx; have hkl := rG_len hG; rw [List.length_map] at hkl; replace hG := Lib.hid hG; skip) | ((with_reducible show Wk (AwCode _ _ (.loop (.seq (.seq (.region 33 _ _) _) _)) _ _)); refine nilC_ 1 9 3 1 (by simp [nilAt, St.ob, cellOb, List.lookup_cons]) ?_; refine nm_ ?_; refine lpK_ (ι := Nat × ActD × List Int) [] [0, 1, 2] 0x494 (fun ⟨i, a, ks⟩ => [(10, .sc (.int .i64 (i : Int)))]) (fun ⟨i, a, ks⟩ => [(1, ⟨26, 10, 1, [.sc (.int .i64 a.kind), .sc (.int .i64 a.format), .sc (.string (ba a.text)), .sc (.string (ba a.name)), .sc (.int .i64 a.w1), .sc (.int .i64 a.w2), .sc (.int .i64 a.w3), .sc (.int .i64 a.schema), .sc (.int .i64 a.steps), .own 2 0 ks.length]⟩), (2, ⟨3, 1, ks.length, intsD ks⟩)]) (fun ⟨i, a, ks⟩ => RG (ps.map bl) a i ks ∧ i ≤ 13) (fun ⟨i, a, ks⟩ => ps.length - i) (ps.length, ⟨k, 0, [], [], numAt (ps.map bl) 1, numAt (ps.map bl) 2, numAt (ps.map bl) 3, 0, 0, []⟩, []) ?_ ?_; (focus (exact ⟨rg_6a (kW_of hKG.out (by omega) (by omega : k = 6)) (by omega), by omega⟩)); rintro _ hN1 ⟨i, a, ks⟩ hinv; (try dsimp only at hinv); obtain ⟨hG, hi⟩ := hinv; have htx := hG.tx; have hkl := rG_len hG; rw [List.length_map] at hkl; replace hG := Lib.hid hG; skip) | ((with_reducible show Wk (AwCode _ _ (.loop (.seq (.seq (.region 33 _ _) _) _)) _ _)); refine nilC_ 1 9 3 1 (by simp [nilAt, St.ob, cellOb, List.lookup_cons]) ?_; refine nm_ ?_; refine lpK_ (ι := Nat × ActD × List Int) [] [0, 1, 2] 0x494 (fun ⟨i, a, ks⟩ => [(10, .sc (.int .i64 (i : Int)))]) (fun ⟨i, a, ks⟩ => [(1, ⟨26, 10, 1, [.sc (.int .i64 a.kind), .sc (.int .i64 a.format), .sc (.string (ba a.text)), .sc (.string (ba a.name)), .sc (.int .i64 a.w1), .sc (.int .i64 a.w2), .sc (.int .i64 a.w3), .sc (.int .i64 a.schema), .sc (.int .i64 a.steps), .own 2 0 ks.length]⟩), (2, ⟨3, 1, ks.length, intsD ks⟩)]) (fun ⟨i, a, ks⟩ => RG (ps.map bl) a i ks ∧ i ≤ 13) (fun ⟨i, a, ks⟩ => ps.length - i) (ps.length, ⟨k, 0, [], [], 0, 0, 0, numAt (ps.map bl) 1, 0, []⟩, []) ?_ ?_; (focus (exact ⟨rg_7a (kW_of hKG.out (by omega) (by omega : k = 7)) (by omega), by omega⟩)); rintro _ hN1 ⟨i, a, ks⟩ hinv; (try dsimp only at hinv); obtain ⟨hG, hi⟩ := hinv; have htx := hG.tx; have hkl := rG_len hG; rw [List.length_map] at hkl; replace hG := Lib.hid hG; skip) | ((with_reducible show Wk (AwCode _ _ (.loop (.seq (.seq (.region 33 _ _) _) _)) _ _)); refine nilC_ 1 9 3 1 (by simp [nilAt, St.ob, cellOb, List.lookup_cons]) ?_; refine nm_ ?_; refine lpK_ (ι := Nat × ActD × List Int) [] [0, 1, 2] 0x494 (fun ⟨i, a, ks⟩ => [(10, .sc (.int .i64 (i : Int)))]) (fun ⟨i, a, ks⟩ => [(1, ⟨26, 10, 1, [.sc (.int .i64 a.kind), .sc (.int .i64 a.format), .sc (.string (ba a.text)), .sc (.string (ba a.name)), .sc (.int .i64 a.w1), .sc (.int .i64 a.w2), .sc (.int .i64 a.w3), .sc (.int .i64 a.schema), .sc (.int .i64 a.steps), .own 2 0 ks.length]⟩), (2, ⟨3, 1, ks.length, intsD ks⟩)]) (fun ⟨i, a, ks⟩ => RG (ps.map bl) a i ks ∧ i ≤ 13) (fun ⟨i, a, ks⟩ => ps.length - i) (3, ⟨k, 0, [], [], 0, 0, 0, numAt (ps.map bl) 1, numAt (ps.map bl) 2, []⟩, []) ?_ ?_; (focus (have e9 : k = 9 := (by omega); subst e9; exact ⟨rg_9 (kW_of hKG.out (by omega) (by omega : (9 : Int) = 9)), by omega⟩)); rintro _ hN1 ⟨i, a, ks⟩ hinv; (try dsimp only at hinv); obtain ⟨hG, hi⟩ := hinv; have htx := hG.tx; have hkl := rG_len hG; rw [List.length_map] at hkl; replace hG := Lib.hid hG; skip) | ((with_reducible show Wk (AwCode _ _ (.loop (.seq (.seq (.region 33 _ _) _) _)) _ _)); refine nilC_ 1 9 3 1 (by simp [nilAt, St.ob, cellOb, List.lookup_cons]) ?_; refine nm_ ?_; refine lpK_ (ι := Nat × ActD × List Int) [] [0, 1, 2] 0x494 (fun ⟨i, a, ks⟩ => [(10, .sc (.int .i64 (i : Int)))]) (fun ⟨i, a, ks⟩ => [(1, ⟨26, 10, 1, [.sc (.int .i64 a.kind), .sc (.int .i64 a.format), .sc (.string (ba a.text)), .sc (.string (ba a.name)), .sc (.int .i64 a.w1), .sc (.int .i64 a.w2), .sc (.int .i64 a.w3), .sc (.int .i64 a.schema), .sc (.int .i64 a.steps), .own 2 0 ks.length]⟩), (2, ⟨3, 1, ks.length, intsD ks⟩)]) (fun ⟨i, a, ks⟩ => RG (ps.map bl) a i ks ∧ i ≤ 13) (fun ⟨i, a, ks⟩ => ps.length - i) (1, ⟨k, 0, [], [], 0, 0, 0, 0, 0, []⟩, []) ?_ ?_; (focus (have e9 : k = 10 := (by omega); subst e9; exact ⟨rg_10 (kW_of hKG.out (by omega) (by omega : (10 : Int) = 10)), by omega⟩)); rintro _ hN1 ⟨i, a, ks⟩ hinv; (try dsimp only at hinv); obtain ⟨hG, hi⟩ := hinv; have htx := hG.tx; have hkl := rG_len hG; rw [List.length_map] at hkl; replace hG := Lib.hid hG; skip) | ((with_reducible show Wk (AwCode _ _ (.loop (.seq (.seq (.region 33 _ _) _) _)) _ _)); refine nilC_ 1 9 3 1 (by simp [nilAt, St.ob, cellOb, List.lookup_cons]) ?_; refine nm_ ?_; refine lpK_ (ι := Nat × ActD × List Int) [] [0, 1, 2] 0x494 (fun ⟨i, a, ks⟩ => [(10, .sc (.int .i64 (i : Int)))]) (fun ⟨i, a, ks⟩ => [(1, ⟨26, 10, 1, [.sc (.int .i64 a.kind), .sc (.int .i64 a.format), .sc (.string (ba a.text)), .sc (.string (ba a.name)), .sc (.int .i64 a.w1), .sc (.int .i64 a.w2), .sc (.int .i64 a.w3), .sc (.int .i64 a.schema), .sc (.int .i64 a.steps), .own 2 0 ks.length]⟩), (2, ⟨3, 1, ks.length, intsD ks⟩)]) (fun ⟨i, a, ks⟩ => RG (ps.map bl) a i ks ∧ i ≤ 13) (fun ⟨i, a, ks⟩ => ps.length - i) (ps.length, ⟨k, 0, [], [], 0, 0, 0, 0, 0, []⟩, []) ?_ ?_; (focus (first | exact ⟨rg_2b (kW_of hKG.out (by omega) (by omega : k = k)) (by omega) (by omega), by omega⟩ | exact ⟨rg_noa (kW_of hKG.out (by omega) (by omega : k = k)) (by omega), by omega⟩)); rintro _ hN1 ⟨i, a, ks⟩ hinv; (try dsimp only at hinv); obtain ⟨hG, hi⟩ := hinv; have htx := hG.tx; have hkl := rG_len hG; rw [List.length_map] at hkl; replace hG := Lib.hid hG; skip) | ((with_reducible show Wk (AwCode _ _ (.loop (.seq (.seq (.region 7 _ _) _) _)) _ _)); refine lpK_ (ι := Nat × Int) [] [0, 1] 0x1d4 (fun ⟨i, k⟩ => [(8, .sc (.int .i64 (i : Int)))]) (fun ⟨i, k⟩ => [(1, ⟨26, 10, 1, [.sc (.int .i64 k), .sc (.int .i64 0), .sc (.string ⟨#[]⟩), .sc (.string ⟨#[]⟩), .sc (.int .i64 0), .sc (.int .i64 0), .sc (.int .i64 0), .sc (.int .i64 0), .sc (.int .i64 0), .sc (.slice none 0 0)]⟩)]) (fun ⟨i, k⟩ => 1 ≤ i ∧ i ≤ 11 ∧ KG (bl (ps.getD 0 default)) i k) (fun ⟨i, k⟩ => 11 - i) (1, 0) ?_ ?_; (focus (exact ⟨Nat.le_refl _, by decide, kG_1 _⟩)); rintro _ hN0 ⟨i, k⟩ hinv; (try dsimp only at hinv); obtain ⟨hi1, hi, hKG⟩ := hinv; have hwa := words_at (i := i); replace hKG := Lib.hid hKG; skip)) | ((with_reducible show Wk (boolK _ _ _ _)); first | (refine bk_ (fun h h' => ?_) (fun h h' => ?_))) | ((with_reducible show Wk (_ ∧ _)); first | (refine and_ ?_ ?_)) | ((with_reducible show Wk (retOkG _ _ _ _)); first | (refine rgg_ [.nil 0 9 3 1, .frz 1] ?_; refine nm_ ?_; fail_if_success (show Wk False)) | (refine rgg_ [.nil 0 9 3 1, .frz 3] ?_; refine nm_ ?_; fail_if_success (show Wk False)) | (refine rgg_ [] ?_; refine nm_ ?_; fail_if_success (show Wk False))) | (refine hN1.run ((i + 1, a, ks ++ [numAt (ps.map bl) i])) [] [0, 1, 4] ?_ ?_; (focus (exact ⟨rG_go hG.out (by rw [List.length_map]; omega), by omega⟩)); (focus (show ps.length - (i + 1) < ps.length - i; omega))) | (refine hN0.run ((i + 1, (i : Int))) [] [0, 1] ?_ ?_; (focus (exact ⟨by show 1 ≤ i + 1; omega, by show i + 1 ≤ 11; omega, kG_yes hKG.out (by omega) (kG_eq (by assumption))⟩)); (focus (show 11 - (i + 1) < 11 - i; omega))) | (refine hN0.run ((i + 1, k)) [] [0, 1] ?_ ?_; (focus (exact ⟨by show 1 ≤ i + 1; omega, by show i + 1 ≤ 11; omega, kG_no hKG.out (by omega) (kG_ne (by assumption))⟩)); (focus (show 11 - (i + 1) < 11 - i; omega))) | fail) <;> (try refine nm_ ?_))
  all_goals clear ex0 ex1 ex2 ex3
  all_goals (refine ⟨?_⟩)
  all_goals first | contradiction | (exfalso; omega) | (exact ⟨zeroA, false, rdA_none hP.out (.inl (by assumption)), rfl⟩) | (exact ⟨zeroA, false, rdA_none hP.out (.inr (by omega)), rfl⟩) | (have e9 := rG_end hG.out (by rw [List.length_map]; omega); have e8 : ok = true := (by assumption); rw [e8] at hP; first | exact ⟨zeroA, false, ln_ne hP.out (by omega) e9 (.inl (by assumption)), rfl⟩ | exact ⟨zeroA, false, ln_ne hP.out (by omega) e9 (.inr (by assumption)), rfl⟩ | exact ⟨withK a ks, true, ln_ye hP.out (by omega) e9 (by assumption), rfl⟩) | trace_state

end Go.Proofs.YtidjjfjhmlndjaaDoor
