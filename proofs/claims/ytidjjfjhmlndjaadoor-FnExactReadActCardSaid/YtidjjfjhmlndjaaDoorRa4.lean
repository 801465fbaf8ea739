/- The line of an act, and the act of a line, as the model reckons them. -/
import Derived.Test.YtidjjfjhmlndjaaDoorRa3
namespace Go.Proofs.YtidjjfjhmlndjaaDoor
open Go.RowKit
set_option linter.unusedVariables false
set_option linter.unusedSimpArgs false
set_option maxRecDepth 100000
set_option maxHeartbeats 4000000

def tailW : List By → By
  | [] => []
  | w :: r => 32 :: (w ++ tailW r)
theorem join_tail : ∀ (w : By) (r : List By), joinW (w :: r) = w ++ tailW r
  | w, [] => (List.append_nil w).symm
  | w, v :: r => by show w ++ 32 :: joinW (v :: r) = w ++ 32 :: (v ++ tailW r); rw [join_tail v r]
theorem tailW_app : ∀ (a b : List By), tailW (a ++ b) = tailW a ++ tailW b
  | [], b => rfl
  | w :: r, b => by show 32 :: (w ++ tailW (r ++ b)) = 32 :: (w ++ tailW r) ++ tailW b; rw [tailW_app r b]; simp
def numsA (a : ActD) : List Int := if a.kind = 6 then [a.w1, a.w2, a.w3] ++ a.keeps else if a.kind = 7 then [a.schema] ++ a.keeps else if a.kind = 9 then [a.schema, a.steps] ++ a.keeps else a.keeps
def fixA (a : ActD) : List By := if a.kind = 1 then [Lib.itoa a.format, if a.text = [] then [45] else hexL a.text] else if a.kind = 2 ∨ a.kind = 3 ∨ a.kind = 4 then [a.name] else []
theorem told_keeps {a : ActD} (h : toldA a = a) (h9 : ¬ a.kind = 9) (h10 : ¬ a.kind = 10) : a.keeps = [] := by
  rw [← h]
  unfold toldA
  (repeat' split) <;> first | rfl | contradiction | (exfalso; omega)
theorem told_wts {a : ActD} (h : toldA a = a) (h6 : ¬ a.kind = 6) : a.w1 = 0 ∧ a.w2 = 0 ∧ a.w3 = 0 := by
  rw [← h]
  unfold toldA
  (repeat' split) <;> first | exact ⟨rfl, rfl, rfl⟩ | contradiction | (exfalso; omega)
theorem parts_eq {a : ActD} (h : toldA a = a) : partsT a = wordK a.kind :: (fixA a ++ (numsA a).map Lib.itoa) := by
  unfold partsT fixA numsA
  congr 1
  by_cases h1 : a.kind = 1
  · rw [if_pos h1, if_pos h1, if_neg (show ¬ a.kind = 6 by omega), if_neg (show ¬ a.kind = 7 by omega), if_neg (show ¬ a.kind = 9 by omega), told_keeps h (by omega) (by omega)]; rfl
  rw [if_neg h1, if_neg h1]
  by_cases h2 : a.kind = 2 ∨ a.kind = 3 ∨ a.kind = 4
  · rw [if_pos h2, if_pos h2, if_neg (show ¬ a.kind = 6 by omega), if_neg (show ¬ a.kind = 7 by omega), if_neg (show ¬ a.kind = 9 by omega), told_keeps h (by omega) (by omega)]; rfl
  rw [if_neg h2, if_neg h2]
  by_cases h6 : a.kind = 6
  · rw [if_pos h6, if_pos h6, told_keeps h (by omega) (by omega)]; rfl
  rw [if_neg h6, if_neg h6]
  by_cases h7 : a.kind = 7
  · rw [if_pos h7, if_pos h7, told_keeps h (by omega) (by omega)]; rfl
  rw [if_neg h7, if_neg h7]
  by_cases h9 : a.kind = 9
  · rw [if_pos h9, if_pos h9]; rfl
  rw [if_neg h9, if_neg h9]
  by_cases h10 : a.kind = 10
  · rw [if_pos h10]; rfl
  · rw [if_neg h10, told_keeps h h9 h10]; rfl
structure ActK (a : ActD) : Prop where
  kind : 1 ≤ a.kind ∧ a.kind ≤ 10
  text : a.text.length ≤ 20000
  format : 0 ≤ a.format ∧ a.format ≤ 9
  schema : 0 ≤ a.schema ∧ a.schema ≤ 9
  steps : 0 ≤ a.steps ∧ a.steps ≤ 9
  keep : a.keeps.length ≤ 4
theorem actK_iff {a : ActD} : actOkB a = true ↔ ActK a := by
  unfold actOkB inB
  simp only [Bool.and_eq_true, decide_eq_true_iff]
  constructor
  · rintro ⟨h1, h2, h3, h4, h5, h6⟩
    exact ⟨h1, by omega, h3, h4, h5, by omega⟩
  · intro h
    exact ⟨h.kind, by have := h.text; omega, h.format, h.schema, h.steps, by have := h.keep; omega⟩
theorem ba_inj {x y : By} (h : ba x = ba y) : x = y := by have := congrArg bl h; rwa [bl_ba, bl_ba] at this
theorem same_eq {a b : ActD} (h : sameB a b = true) : a = b := by
  unfold sameB at h
  simp only [Bool.and_eq_true, beq_iff_eq] at h
  obtain ⟨h1, h2, h3, h4, ⟨h5, h6, h7⟩, h8, h9, h10⟩ := h
  replace h3 := ba_inj (eqS_eq h3)
  replace h4 := ba_inj (eqS_eq h4)
  cases a; cases b
  simp only at h1 h2 h3 h4 h5 h6 h7 h8 h9 h10
  subst h1; subst h2; subst h3; subst h4; subst h5; subst h6; subst h7; subst h8; subst h9; subst h10
  rfl
theorem same_self (a : ActD) : sameB a a = true := by
  unfold sameB
  simp [eqS_rfl]
theorem lineE {a : ActD} (h : ¬ LineOk a) : ba (lineT a) = ⟨#[]⟩ := by unfold lineT; rw [if_neg h]; rfl
theorem line_no1 {a : ActD} (h : actOkB a = false) : ba (lineT a) = ⟨#[]⟩ := lineE fun g => by
  rw [actK_iff.2 ⟨g.kind, g.text, g.format, g.schema, g.steps, g.keep⟩] at h; cases h
theorem line_no2 {a : ActD} (h : sameB (toldA a) a = false) : ba (lineT a) = ⟨#[]⟩ := lineE fun g => by
  rw [g.told, same_self] at h; cases h
theorem line_no3 {a : ActD} (hk : a.kind = 2 ∨ a.kind = 3 ∨ a.kind = 4) (h : nmB (ba a.name) = false) : ba (lineT a) = ⟨#[]⟩ := lineE fun g => by
  rw [g.name hk] at h; cases h
theorem nums_in {a : ActD} (g : LineOk a) : ∀ n ∈ numsA a, NumP n := by
  intro n hn
  unfold numsA at hn
  split at hn
  · rcases List.mem_append.1 hn with hn | hn
    · simp only [List.mem_cons, List.not_mem_nil, or_false] at hn
      rcases hn with rfl | rfl | rfl
      · exact g.wts.1
      · exact g.wts.2.1
      · exact g.wts.2.2
    · exact g.keeps n hn
  split at hn
  · rcases List.mem_append.1 hn with hn | hn
    · rw [List.mem_singleton.1 hn]; exact np9 g.schema
    · exact g.keeps n hn
  split at hn
  · rcases List.mem_append.1 hn with hn | hn
    · simp only [List.mem_cons, List.not_mem_nil, or_false] at hn
      rcases hn with rfl | rfl
      · exact np9 g.schema
      · exact np9 g.steps
    · exact g.keeps n hn
  · exact g.keeps n hn
theorem line_no4 {a : ActD} {k : Nat} (hk : k < (numsA a).length) (h : inB ((numsA a).getD k default) 0 1000000000 = false) : ba (lineT a) = ⟨#[]⟩ := lineE fun g => by
  have hm : (numsA a).getD k default ∈ numsA a := by rw [List.getD_eq_getElem?_getD, List.getElem?_eq_getElem hk]; exact List.getElem_mem _
  have := nums_in g _ hm
  have h1 := this.lo
  have h2 := this.hi
  unfold inB at h
  rw [decide_eq_true h1, decide_eq_true h2] at h
  cases h
/-- What is told of the first i numbers. -/
structure LnG (a : ActD) (i : Nat) (ns : List Int) (r : ByteArray) : Prop where
  ns : ns = numsA a
  eq : bl r = wordK a.kind ++ tailW (fixA a ++ ((numsA a).take i).map Lib.itoa)
  num : ∀ n ∈ (numsA a).take i, NumP n
  sz : r.size ≤ 50000 + 20 * i
theorem line_yes {a : ActD} (hk : ActK a) (ht : toldA a = a) (hn : (a.kind = 2 ∨ a.kind = 3 ∨ a.kind = 4) → nmB (ba a.name) = true) {i : Nat} {ns : List Int} {r : ByteArray} (h : LnG a i ns r) (hi : ns.length ≤ i) : bl r = joinW (partsT a) ∧ (r.size ≤ 600 → r = ba (lineT a)) ∧ (600 < r.size → ba (lineT a) = ⟨#[]⟩) := by
  have e := h.eq
  have hns := h.num
  rw [List.take_of_length_le (by rw [← h.ns]; exact hi)] at e hns
  have e2 : bl r = joinW (partsT a) := by rw [e, parts_eq ht, join_tail]
  refine ⟨e2, fun hz => ?_, fun hz => lineE fun g => by have := g.len; rw [← e2, bl_len] at this; omega⟩
  have hl : LineOk a := by
    refine ⟨hk.kind, hk.text, hk.format, hk.schema, hk.steps, hk.keep, ht, hn, ?_, ?_, by rw [← e2, bl_len]; exact hz⟩
    · by_cases h6 : a.kind = 6
      · have e6 : numsA a = [a.w1, a.w2, a.w3] ++ a.keeps := if_pos h6
        exact ⟨hns _ (by rw [e6]; simp), hns _ (by rw [e6]; simp), hns _ (by rw [e6]; simp)⟩
      · obtain ⟨h1, h2, h3⟩ := told_wts ht h6
        rw [h1, h2, h3]
        exact ⟨⟨by decide, by decide⟩, ⟨by decide, by decide⟩, ⟨by decide, by decide⟩⟩
    · intro n hn
      refine hns n ?_
      unfold numsA
      split
      · exact List.mem_append_right _ hn
      split
      · exact List.mem_append_right _ hn
      split
      · exact List.mem_append_right _ hn
      · exact hn
  unfold lineT
  rw [if_pos hl, ← e2, ba_bl]
theorem word_at {k : Int} (h : 1 ≤ k ∧ k ≤ 10) : (strsD wordsL)[k.toNat]? = some (.sc (.string (ba (wordK k)))) := by
  have : k = 1 ∨ k = 2 ∨ k = 3 ∨ k = 4 ∨ k = 5 ∨ k = 6 ∨ k = 7 ∨ k = 8 ∨ k = 9 ∨ k = 10 := by omega
  rcases this with rfl | rfl | rfl | rfl | rfl | rfl | rfl | rfl | rfl | rfl <;> rfl
theorem word_sz {k : Int} (h : 1 ≤ k ∧ k ≤ 10) : (wordK k).length ≤ 7 := by
  have : k = 1 ∨ k = 2 ∨ k = 3 ∨ k = 4 ∨ k = 5 ∨ k = 6 ∨ k = 7 ∨ k = 8 ∨ k = 9 ∨ k = 10 := by omega
  rcases this with rfl | rfl | rfl | rfl | rfl | rfl | rfl | rfl | rfl | rfl <;> decide
theorem dec_it {n : Int} (h : 0 ≤ n ∧ n ≤ 1000000000) : Spec Tryd.prog 29 [.sc (.int .i64 n)] (fun d => d = .sc (.string (ba (Lib.itoa n))) ∧ (Lib.itoa n).length ≤ 10) := by
  have f := itoa_facts h.1 h.2
  refine (dec_of (n := n) (by omega)).mono fun d hd => ⟨by rw [f.2.2.2]; exact hd, f.1⟩
theorem bl_lit (b : UInt8) : bl ⟨#[b]⟩ = [b] := rfl
theorem lnG_go {a : ActD} {i : Nat} {ns : List Int} {r : ByteArray} (h : LnG a i ns r) (hi : i < ns.length) (hn : NumP (ns.getD i default)) (hz : (Lib.itoa (ns.getD i default)).length ≤ 10) : LnG a (i + 1) ns (r ++ ⟨#[32]⟩ ++ ba (Lib.itoa (ns.getD i default))) := by
  have e := h.ns
  subst e
  have ht : (numsA a).take (i + 1) = (numsA a).take i ++ [(numsA a).getD i default] := by
    rw [List.take_succ_eq_append_getElem hi, List.getD_eq_getElem?_getD, List.getElem?_eq_getElem hi]; rfl
  refine ⟨rfl, ?_, ?_, ?_⟩
  · rw [bl_app, bl_app, h.eq, ht, bl_ba, bl_lit, List.map_append, ← List.append_assoc (fixA a)]
    simp [tailW, tailW_app]
  · rw [ht]
    intro n hm
    rcases List.mem_append.1 hm with hm | hm
    · exact h.num n hm
    · rw [List.mem_singleton.1 hm]; exact hn
  · rw [ByteArray.size_append, ByteArray.size_append, ba_len]
    have := h.sz
    show r.size + 1 + _ ≤ _
    omega
theorem lnG_0 {a : ActD} {r : ByteArray} {ns : List Int} (h1 : ns = numsA a) (h2 : bl r = wordK a.kind ++ tailW (fixA a)) (h3 : r.size ≤ 50000) : LnG a 0 ns r := ⟨h1, by rw [h2]; simp, fun n h => by simp at h, by omega⟩

theorem told_kl (a : ActD) : (toldA a).keeps.length ≤ a.keeps.length := by
  unfold toldA
  (repeat' split) <;> first | exact Nat.zero_le _ | exact Nat.le_refl _
theorem hex_e {t : By} (h : eqB (ba (hexL t)) ⟨#[]⟩ = true) : t = [] := by
  have e := ba_inj (eqS_eq h : ba (hexL t) = ba [])
  cases t with
  | nil => rfl
  | cons b r => unfold hexL at e; cases e
theorem hex_n {t : By} (h : eqB (ba (hexL t)) ⟨#[]⟩ = false) : ¬ t = [] := fun e => by
  subst e
  rw [show eqB (ba (hexL [])) ⟨#[]⟩ = true from eqS_rfl _] at h
  cases h
theorem wordsL_len : wordsL.length = 11 := rfl
theorem nm_sz {w : By} (h : nmB (ba w) = true) : w.length ≤ 20 := by
  rw [← ba_len]
  unfold nmB at h
  simp only [Bool.and_eq_true] at h
  have := h.1
  unfold inB at this
  simp at this
  omega
theorem numsK {a : ActD} (h6 : ¬ a.kind = 6) (h7 : ¬ a.kind = 7) (h9 : ¬ a.kind = 9) : a.keeps = numsA a := by unfold numsA; rw [if_neg h6, if_neg h7, if_neg h9]
theorem nums_6 {a : ActD} (h : a.kind = 6) : [a.w1, a.w2, a.w3] ++ a.keeps = numsA a := (if_pos h).symm
theorem nums_7 {a : ActD} (h : a.kind = 7) : [a.schema] ++ a.keeps = numsA a := by unfold numsA; rw [if_neg (by omega), if_pos h]
theorem nums_9 {a : ActD} (h : a.kind = 9) : [a.schema, a.steps] ++ a.keeps = numsA a := by unfold numsA; rw [if_neg (by omega), if_neg (by omega), if_pos h]
theorem ln_x {a : ActD} (hk : 1 ≤ a.kind ∧ a.kind ≤ 10) {ns : List Int} (hn : ns = numsA a) (h : ¬ a.kind = 1 ∧ ¬ (a.kind = 2 ∨ a.kind = 3 ∨ a.kind = 4)) : LnG a 0 ns (ba (wordK a.kind)) := by
  refine lnG_0 hn ?_ (by rw [ba_len]; have := word_sz hk; omega)
  have : fixA a = [] := by unfold fixA; rw [if_neg h.1, if_neg h.2]
  rw [this, bl_ba]; exact (List.append_nil _).symm
theorem ln_2 {a : ActD} (hk : 1 ≤ a.kind ∧ a.kind ≤ 10) (h : a.kind = 2 ∨ a.kind = 3 ∨ a.kind = 4) (hz : a.name.length ≤ 20) : LnG a 0 a.keeps (ba (wordK a.kind) ++ ⟨#[32]⟩ ++ ba a.name) := by
  refine lnG_0 (numsK (by omega) (by omega) (by omega)) ?_ ?_
  · have : fixA a = [a.name] := by unfold fixA; rw [if_neg (by omega), if_pos h]
    rw [this, bl_app, bl_app, bl_ba, bl_ba, bl_lit]; simp [tailW]
  · rw [ByteArray.size_append, ByteArray.size_append, ba_len (wordK a.kind), ba_len a.name]; have := word_sz hk; show _ + 1 + _ ≤ _; omega
theorem ln_1 {a : ActD} (hk : 1 ≤ a.kind ∧ a.kind ≤ 10) (h : a.kind = 1) (ht : a.text.length ≤ 20000) (hf : (Lib.itoa a.format).length ≤ 10) {x : ByteArray} (hx : bl x = if a.text = [] then [45] else hexL a.text) : LnG a 0 a.keeps (ba (wordK a.kind) ++ ⟨#[32]⟩ ++ ba (Lib.itoa a.format) ++ ⟨#[32]⟩ ++ x) := by
  refine lnG_0 (numsK (by omega) (by omega) (by omega)) ?_ ?_
  · have : fixA a = [Lib.itoa a.format, if a.text = [] then [45] else hexL a.text] := by unfold fixA; rw [if_pos h]
    rw [this, bl_app, bl_app, bl_app, bl_app, bl_ba, bl_ba, bl_lit, hx]; simp [tailW]
  · have hz : x.size ≤ 40000 := by
      rw [← bl_len, hx]
      split
      · decide
      · rw [hexL_len]; omega
    rw [ByteArray.size_append, ByteArray.size_append, ByteArray.size_append, ByteArray.size_append, ba_len (wordK a.kind), ba_len (Lib.itoa a.format)]
    have := word_sz hk
    show _ + 1 + _ + 1 + _ ≤ _
    omega
theorem hexx_n {t : By} (h : ¬ t = []) : bl (ba (hexL t)) = if t = [] then [45] else hexL t := (if_neg h).symm
theorem hexx_e {t : By} (h : t = []) : bl ⟨#[45]⟩ = if t = [] then [45] else hexL t := (if_pos h).symm
theorem hexb_sz {t : By} (h : t.length ≤ 20000) : (hexL t).length ≤ 40000 := by rw [hexL_len]; omega
theorem sz45 : ByteArray.size ⟨#[45]⟩ = 1 := rfl

theorem spec_ActLine_A (a : ActD) (ht : a.text.length ≤ 1048576) (hk : a.keeps.length ≤ 1048576) : Spec Tryd.prog 13 [.agg (actCells a)] (fun d => d = .sc (.string (ba (lineT a)))) := by
  have hkl := told_kl a; unfold actCells
  have ex0 := @ba_len; have ex1 := @ByteArray.size_append; have ex2 := @sz1; have ex3 := @sz45; have ex4 := @wordsL_len; have ex5 := @intsD_cons
  refine sp_ (rs := [.tmp 2]) (nt := 118) Tryd.func13 rfl fun X hX => ?_
  refine nm_ ?_
  repeat' ((first | contradiction | (with_reducible exact tt_) | ((with_reducible show Wk (AwStepF _ _ _ _ _ _ _)); first | (refine cl_ rfl _ _ (spec_ActOk_A a ht hk) rfl rfl ?_; rintro _ rfl; (rcases Bool.eq_false_or_eq_true (actOkB a) with hok | hok; (have hK := actK_iff.1 hok; have k0 := hK.kind.1; have k1 := hK.kind.2; have ht2 := hK.text; have hf0 := hK.format.1; have hf1 := hK.format.2; have hk4 := hK.keep; have hwz := word_sz hK.kind; have hwa := word_at hK.kind; have hhx := hexb_sz hK.text); rotate_left; skip; rotate_left)) | (refine cl_ rfl _ _ (spec_l32Told_A a ht hk) rfl rfl ?_; rintro _ rfl) | (refine cl_ rfl _ _ (spec_l32Same_A (toldA a) a (by omega) hk) rfl rfl ?_; rintro _ rfl; (rcases Bool.eq_false_or_eq_true (sameB (toldA a) a) with hsm | hsm; (have hto := same_eq hsm; replace hto := Lib.hid hto); rotate_left; skip; rotate_left)) | (refine cl_ rfl _ _ (spec_l32Words_A) rfl rfl ?_; rintro _ rfl) | (refine cl_ rfl _ _ (spec_Hex_A (ba a.text) (by rw [ba_len]; omega)) rfl rfl ?_; rintro _ rfl; (rw [if_pos (by rw [ba_len]; omega), decide_eq_true (by rw [ba_len]; omega), bl_ba])) | (refine cl_ rfl _ _ (dec_it (n := a.format) (by omega)) rfl rfl ?_; rintro _ ⟨rfl, hfz⟩) | (refine cl_ rfl _ _ (dec_it (n := (ns.getD i default)) (by omega)) rfl rfl ?_; rintro _ ⟨rfl, hqz⟩) | (refine cl_ rfl _ _ (specName_D (ba a.name)) rfl rfl ?_; rintro _ rfl; (rcases Bool.eq_false_or_eq_true (nmB (ba a.name)) with hnm | hnm; (have hnz := nm_sz hnm); rotate_left; skip; rotate_left)) | (refine cl_ rfl _ _ (l01In_D _ _ _) rfl rfl ?_; rintro _ rfl) | (refine app_ rfl ?_)) | ((with_reducible show Wk (AwStep _ _ _ _ _)); first | (refine pln_ ?_)) | ((with_reducible show Wk (AwCode _ _ _ _ _)); first | (refine wo_ (id := 1) [] [(0, true), (1, false), (2, true), (3, true), (4, true), (6, true), (5, false), (7, false), (8, true), (9, true)] ?_) | (refine wo_ (id := 3) [] [(1, true), (2, true), (0, false), (3, true), (4, false), (5, true)] ?_) | (refine lpK_ (ι := Nat × Nat × List Int × ByteArray) [] [4] 0x98 (fun ⟨i, m, ns, r⟩ => [(3, .sc (.string r)), (4, .own 0 0 m), (7, .sc (.int .i64 (i : Int)))]) (fun ⟨i, m, ns, r⟩ => [(0, ⟨3, 1, m, intsD ns⟩)]) (fun ⟨i, m, ns, r⟩ => i ≤ m ∧ m = ns.length ∧ m ≤ 7 ∧ LnG a i ns r) (fun ⟨i, m, ns, r⟩ => m - i) (0, 3 + a.keeps.length, [a.w1, a.w2, a.w3] ++ a.keeps, _) ?_ ?_; (focus (refine ⟨Nat.zero_le _, by (show _ = a.keeps.length + 3); omega, by (show 3 + a.keeps.length ≤ 7); omega, ?_⟩; exact ln_x ⟨k0, k1⟩ (nums_6 (by omega)) (by omega))); rintro _ hN0 ⟨i, m, ns, r⟩ hinv; (try dsimp only at hinv); obtain ⟨hi, hm, h7, hG⟩ := hinv; have hm1 : m ≤ ns.length := (by omega); have hm2 : ns.length ≤ m := (by omega); clear hm; have hrz := hG.sz; replace hG := Lib.hid hG; skip) | (refine lpK_ (ι := Nat × Nat × List Int × ByteArray) [] [4] 0x98 (fun ⟨i, m, ns, r⟩ => [(3, .sc (.string r)), (4, .own 0 0 m), (7, .sc (.int .i64 (i : Int)))]) (fun ⟨i, m, ns, r⟩ => [(0, ⟨3, 1, m, intsD ns⟩)]) (fun ⟨i, m, ns, r⟩ => i ≤ m ∧ m = ns.length ∧ m ≤ 7 ∧ LnG a i ns r) (fun ⟨i, m, ns, r⟩ => m - i) (0, 2 + a.keeps.length, [a.schema, a.steps] ++ a.keeps, _) ?_ ?_; (focus (refine ⟨Nat.zero_le _, by (show _ = a.keeps.length + 2); omega, by (show 2 + a.keeps.length ≤ 7); omega, ?_⟩; exact ln_x ⟨k0, k1⟩ (nums_9 (by omega)) (by omega))); rintro _ hN0 ⟨i, m, ns, r⟩ hinv; (try dsimp only at hinv); obtain ⟨hi, hm, h7, hG⟩ := hinv; have hm1 : m ≤ ns.length := (by omega); have hm2 : ns.length ≤ m := (by omega); clear hm; have hrz := hG.sz; replace hG := Lib.hid hG; skip) | (refine lpK_ (ι := Nat × Nat × List Int × ByteArray) [] [4] 0x98 (fun ⟨i, m, ns, r⟩ => [(3, .sc (.string r)), (4, .own 0 0 m), (7, .sc (.int .i64 (i : Int)))]) (fun ⟨i, m, ns, r⟩ => [(0, ⟨3, 1, m, intsD ns⟩)]) (fun ⟨i, m, ns, r⟩ => i ≤ m ∧ m = ns.length ∧ m ≤ 7 ∧ LnG a i ns r) (fun ⟨i, m, ns, r⟩ => m - i) (0, 1 + a.keeps.length, [a.schema] ++ a.keeps, _) ?_ ?_; (focus (refine ⟨Nat.zero_le _, by (show _ = a.keeps.length + 1); omega, by (show 1 + a.keeps.length ≤ 7); omega, ?_⟩; exact ln_x ⟨k0, k1⟩ (nums_7 (by omega)) (by omega))); rintro _ hN0 ⟨i, m, ns, r⟩ hinv; (try dsimp only at hinv); obtain ⟨hi, hm, h7, hG⟩ := hinv; have hm1 : m ≤ ns.length := (by omega); have hm2 : ns.length ≤ m := (by omega); clear hm; have hrz := hG.sz; replace hG := Lib.hid hG; skip) | (refine lpK_ (ι := Nat × Nat × List Int × ByteArray) [] [2] 0x98 (fun ⟨i, m, ns, r⟩ => [(3, .sc (.string r)), (4, .own 0 0 m), (7, .sc (.int .i64 (i : Int)))]) (fun ⟨i, m, ns, r⟩ => [(0, ⟨3, 1, m, intsD ns⟩)]) (fun ⟨i, m, ns, r⟩ => i ≤ m ∧ m = ns.length ∧ m ≤ 7 ∧ LnG a i ns r) (fun ⟨i, m, ns, r⟩ => m - i) (0, a.keeps.length, a.keeps, _) ?_ ?_; (focus (refine ⟨Nat.zero_le _, rfl, by omega, ?_⟩; first | exact ln_x ⟨k0, k1⟩ (numsK (by omega) (by omega) (by omega)) (by omega) | exact ln_2 ⟨k0, k1⟩ (by omega) hnz | exact ln_1 ⟨k0, k1⟩ (by omega) ht2 hfz (hexx_n (hex_n (by assumption))) | exact ln_1 ⟨k0, k1⟩ (by omega) ht2 hfz (hexx_e (hex_e (by assumption))))); rintro _ hN0 ⟨i, m, ns, r⟩ hinv; (try dsimp only at hinv); obtain ⟨hi, hm, h7, hG⟩ := hinv; have hm1 : m ≤ ns.length := (by omega); have hm2 : ns.length ≤ m := (by omega); clear hm; have hrz := hG.sz; replace hG := Lib.hid hG; skip)) | ((with_reducible show Wk (boolK _ _ _ _)); first | (refine bk_ (fun h h' => ?_) (fun h h' => ?_))) | ((with_reducible show Wk (_ ∧ _)); first | (refine and_ ?_ ?_)) | (refine hN0.run ((i + 1, m, ns, r ++ ⟨#[32]⟩ ++ ba (Lib.itoa (ns.getD i default)))) [] [0] ?_ ?_; (focus (exact ⟨by show i + 1 ≤ m; omega, by show m = ns.length; omega, h7, lnG_go hG.out (by omega) ⟨by omega, by omega⟩ hqz⟩)); (focus (show m - (i + 1) < m - i; omega))) | fail) <;> (try refine nm_ ?_))
  all_goals clear ex0 ex1 ex2 ex3 ex4 ex5
  all_goals (refine ⟨?_⟩)
  all_goals first | contradiction | (exfalso; omega) | (rw [line_no1 hok]; done) | (rw [line_no2 hsm]; done) | (rw [line_no3 (by omega) hnm]; done) | (rw [line_no4 (a := a) (k := i) (by rw [← hG.out.ns]; omega) (by rw [← hG.out.ns]; first | assumption | simp_all)]; done) | (have e9 := line_yes hK hto.out (fun _ => by first | assumption | (exfalso; omega)) hG.out (by omega); first | (rw [e9.2.2 (by omega)]; done) | (rw [← e9.2.1 (by omega)]; done)) | trace_state

end Go.Proofs.YtidjjfjhmlndjaaDoor
