/- The words of a line, as the model finds them. -/
import Derived.Test.YtidjjfjhmlndjaaDoorRa1
namespace Go.Proofs.YtidjjfjhmlndjaaDoor
open Go.RowKit
set_option linter.unusedVariables false
set_option linter.unusedSimpArgs false
set_option maxRecDepth 100000
set_option maxHeartbeats 1000000

theorem bl_ext (s : ByteArray) (b i : Nat) : bl (s.extract b i) = ((bl s).take i).drop b := by
  unfold bl
  rw [ByteArray.data_extract, Array.toList_extract, List.extract_eq_take_drop, List.drop_take]
/-- What is known of the words of a line. -/
structure PartR (s : ByteArray) (ps : List ByteArray) (ok : Bool) : Prop where
  yes : ok = true → partsOf (bl s) = some (ps.map bl)
  no : ok = false → partsOf (bl s) = none
  len : ps.length ≤ 12
  sz : ∀ w ∈ ps, w.size ≤ 600
structure PG (s : ByteArray) (i b : Nat) (o : List ByteArray) : Prop where
  bi : b ≤ i
  asc : ∀ x ∈ (bl s).take i, 32 ≤ x.toNat ∧ x.toNat ≤ 126
  eq : i ≤ s.size → Lib.fields (bl s) = o.map bl ++ Lib.fieldsGo (((bl s).take i).drop b) ((bl s).drop i)
  fin : s.size < i → Lib.fields (bl s) = o.map bl
  len : o.length ≤ i
  sz : ∀ w ∈ o, w.size ≤ 600
theorem pg_0 (s : ByteArray) : PG s 0 0 [] := ⟨Nat.le_refl _, fun x h => (by cases h), fun _ => rfl, fun h => (by omega), Nat.le_refl _, fun w h => by cases h⟩
theorem at_i {s : ByteArray} {i : Nat} (hi : i < s.size) : ∃ x, bytB s i = (x.toNat : Int) ∧ (bl s).drop i = x :: (bl s).drop (i + 1) ∧ (bl s).take (i + 1) = (bl s).take i ++ [x] := by
  obtain ⟨x, h1, h2⟩ := bytB_bl hi
  obtain ⟨a, ha⟩ := List.getElem?_eq_some_iff.1 h1
  exact ⟨x, h2, by rw [List.drop_eq_getElem_cons a, ha], by rw [List.take_succ_eq_append_getElem a, ha]⟩
theorem take_asc {s : ByteArray} {i b : Nat} {o : List ByteArray} (h : PG s i b o) (hr : i < s.size → 32 ≤ bytB s i ∧ bytB s i ≤ 126) : ∀ x ∈ (bl s).take (i + 1), 32 ≤ x.toNat ∧ x.toNat ≤ 126 := by
  by_cases hi : i < s.size
  · obtain ⟨x, h1, h2, h3⟩ := at_i hi
    rw [h3]
    intro y hy
    rcases List.mem_append.1 hy with hy | hy
    · exact h.asc y hy
    · rw [List.mem_singleton.1 hy]; have := hr hi; omega
  · intro y hy
    rw [List.take_of_length_le (by rw [bl_len]; omega)] at hy
    exact h.asc y (by rw [List.take_of_length_le (by rw [bl_len]; omega)]; exact hy)
theorem cur_nil {s : ByteArray} {i : Nat} : ((bl s).take i).drop i = [] := List.drop_eq_nil_of_le (by rw [List.length_take]; omega)
theorem cur_ne {s : ByteArray} {i b : Nat} (hb : b < i) (hi : i ≤ s.size) : ((bl s).take i).drop b ≠ [] := fun e => by
  have := congrArg List.length e
  rw [List.length_drop, List.length_take, bl_len] at this
  simp at this; omega
theorem pg_more {s : ByteArray} {i b : Nat} {o : List ByteArray} (h : PG s i b o) (hi : i < s.size) (hr : 32 ≤ bytB s i ∧ bytB s i ≤ 126) (hn : ¬ bytB s i = 32) : PG s (i + 1) b o := by
  obtain ⟨x, h1, h2, h3⟩ := at_i hi
  refine ⟨Nat.le_succ_of_le h.bi, take_asc h fun _ => hr, fun _ => ?_, fun h' => by omega, Nat.le_succ_of_le h.len, h.sz⟩
  have hb := h.bi
  have e := h.eq (by omega)
  rw [h2, Lib.fieldsGo_more _ x _ (sp_of (by omega))] at e
  rw [e, h3, List.drop_append_of_le_length (by rw [List.length_take, bl_len]; omega)]
theorem pg_word {s : ByteArray} {i b : Nat} {o : List ByteArray} (h : PG s i b o) (hz : s.size ≤ 600) (hi : i ≤ s.size) (hb : b < i) (hr : i < s.size → bytB s i = 32) : PG s (i + 1) (i + 1) (o ++ [s.extract b i]) := by
  have e := h.eq hi
  have hc := cur_ne (s := s) hb hi
  refine ⟨Nat.le_refl _, take_asc h fun h' => by rw [hr h']; omega, fun hi2 => ?_, fun hi2 => ?_, by rw [List.length_append]; show _ + 1 ≤ _; have := h.len; omega, fun w hw => ?_⟩
  · obtain ⟨x, h1, h2, h3⟩ := at_i (s := s) (i := i) (by omega)
    have hx : x = 32 := UInt8.toNat_inj.1 (by have := hr (by omega); show x.toNat = 32; omega)
    subst hx
    rw [h2, Lib.fieldsGo_end _ 32 _ (by decide) hc] at e
    rw [e, cur_nil, List.map_append, List.append_assoc]
    show _ = _ ++ (bl (s.extract b i) :: _)
    rw [bl_ext]
    rfl
  · have hs : i = s.size := by omega
    rw [show (bl s).drop i = [] from List.drop_eq_nil_of_le (by rw [bl_len]; omega)] at e
    unfold Lib.fieldsGo at e
    rw [if_neg (by simpa using hc)] at e
    rw [e, List.map_append]
    show _ = _ ++ [bl (s.extract b i)]
    rw [bl_ext]
  · rcases List.mem_append.1 hw with hw | hw
    · exact h.sz w hw
    · rw [List.mem_singleton.1 hw, ByteArray.size_extract]; omega
theorem pg_skip {s : ByteArray} {i b : Nat} {o : List ByteArray} (h : PG s i b o) (hi : i ≤ s.size) (hb : ¬ b < i) (hr : i < s.size → bytB s i = 32) : PG s (i + 1) (i + 1) o := by
  have e := h.eq hi
  have hb2 : b = i := by have := h.bi; omega
  subst hb2
  rw [cur_nil] at e
  refine ⟨Nat.le_refl _, take_asc h fun h' => by rw [hr h']; omega, fun hi2 => ?_, fun hi2 => ?_, Nat.le_succ_of_le h.len, h.sz⟩
  · obtain ⟨x, h1, h2, h3⟩ := at_i (s := s) (i := b) (by omega)
    have hx : x = 32 := UInt8.toNat_inj.1 (by have := hr (by omega); show x.toNat = 32; omega)
    subst hx
    rw [h2, Lib.fieldsGo_sp 32 _ (by decide)] at e
    rw [e, cur_nil]
  · rw [show (bl s).drop b = [] from List.drop_eq_nil_of_le (by rw [bl_len]; omega)] at e
    rw [e]
    show _ ++ [] = _
    rw [List.append_nil]
theorem partNo {s : ByteArray} (h : ¬ (s.size ≤ 600 ∧ (∀ b ∈ bl s, 32 ≤ b.toNat ∧ b.toNat ≤ 126) ∧ (Lib.fields (bl s)).length ≤ 12)) : PartR s [] false := by
  refine ⟨fun e => (by cases e), fun _ => ?_, by decide, fun w h => by cases h⟩
  unfold partsOf
  rw [if_neg (by rw [bl_len]; exact h)]
theorem part_long {s : ByteArray} (h : 600 < s.size) : PartR s [] false := partNo fun g => by have := g.1; omega
theorem part_byte {s : ByteArray} {i : Nat} (hi : i < s.size) (h : bytB s i < 32 ∨ 126 < bytB s i) : PartR s [] false := partNo fun g => by
  obtain ⟨x, h1, h2⟩ := bytB_bl hi
  have := g.2.1 x (List.mem_of_getElem? h1)
  omega
theorem part_many {s : ByteArray} {i b : Nat} {o : List ByteArray} (h : PG s i b o) (hi : s.size < i) (hl : 12 < o.length) : PartR s [] false := partNo fun g => by
  have := g.2.2
  rw [h.fin hi, List.length_map] at this
  omega
theorem part_yes {s : ByteArray} {i b : Nat} {o : List ByteArray} (h : PG s i b o) (hz : s.size ≤ 600) (hi : s.size < i) (hl : o.length ≤ 12) : PartR s o true := by
  refine ⟨fun _ => ?_, fun e => (by cases e), hl, h.sz⟩
  unfold partsOf
  have ha := h.asc
  rw [List.take_of_length_le (by rw [bl_len]; omega)] at ha
  rw [h.fin hi, if_pos ⟨by rw [bl_len]; exact hz, ha, by rw [List.length_map]; exact hl⟩]

theorem spec_PartsOf_A (t : ByteArray) (ht : t.size ≤ 9223372036854775807) : Spec Tryd.prog 9 [.sc (.string t)] (fun d => ∃ ps ok, PartR t ps ok ∧ d = .tup [.sl ps.length (strsD ps), .sc (.bool ok)]) := by
  have ex0 := @strsD_one
  refine spG_ (rs := [.tmp 2, .tmp 3]) (nt := 62) Tryd.func9 rfl fun X hX => ?_
  refine nm_ ?_
  repeat' ((first | contradiction | (with_reducible exact tt_) | ((with_reducible show Wk (AwStepF _ _ _ _ _ _ _)); first | (refine app_ rfl ?_)) | ((with_reducible show Wk (AwStep _ _ _ _ _)); first | (refine pln_ ?_)) | ((with_reducible show Wk (AwCode _ _ _ _ _)); first | (refine lpK_ (ι := Nat × Nat × List ByteArray) [] [0] 0x71 (fun ⟨i, b, o⟩ => [(4, .own 0 0 o.length), (5, .sc (.int .i64 (b : Int))), (6, .sc (.int .i64 (i : Int)))]) (fun ⟨i, b, o⟩ => [(0, ⟨9, 1, o.length, strsD o⟩)]) (fun ⟨i, b, o⟩ => i ≤ t.size + 1 ∧ PG t i b o) (fun ⟨i, b, o⟩ => t.size + 1 - i) (0, 0, []) ?_ ?_; (focus (exact ⟨Nat.zero_le _, pg_0 t⟩)); rintro _ hN0 ⟨i, b, o⟩ hinv; (try dsimp only at hinv); obtain ⟨hi, hG⟩ := hinv; have hbi := hG.bi; have hol := hG.len; have hbr := bytB_rng t i; replace hG := Lib.hid hG; skip)) | ((with_reducible show Wk (boolK _ _ _ _)); first | (refine bk_ (fun h h' => ?_) (fun h h' => ?_))) | ((with_reducible show Wk (_ ∧ _)); first | (refine and_ ?_ ?_)) | ((with_reducible show Wk (retOkG _ _ _ _)); first | (refine rgg_ [.frz 0] ?_; refine nm_ ?_; fail_if_success (show Wk False)) | (refine rgg_ [.frz 1] ?_; refine nm_ ?_; fail_if_success (show Wk False)) | (refine rgg_ [] ?_; refine nm_ ?_; fail_if_success (show Wk False))) | (refine hN0.run ((i + 1, b, o)) [] [0] ?_ ?_; (focus (exact ⟨by show i + 1 ≤ t.size + 1; omega, pg_more hG.out (by omega) (by omega) (by omega)⟩)); (focus (show t.size + 1 - (i + 1) < t.size + 1 - i; omega))) | (refine hN0.run ((i + 1, i + 1, o ++ [t.extract b i])) [] [2] ?_ ?_; (focus (exact ⟨by show i + 1 ≤ t.size + 1; omega, pg_word hG.out (by omega) (by omega) (by omega) (fun _ => by omega)⟩)); (focus (show t.size + 1 - (i + 1) < t.size + 1 - i; omega))) | (refine hN0.run ((i + 1, i + 1, o)) [] [0] ?_ ?_; (focus (exact ⟨by show i + 1 ≤ t.size + 1; omega, pg_skip hG.out (by omega) (by omega) (fun _ => by omega)⟩)); (focus (show t.size + 1 - (i + 1) < t.size + 1 - i; omega))) | fail) <;> (try refine nm_ ?_))
  all_goals clear ex0
  all_goals (refine ⟨?_⟩)
  all_goals first | contradiction | (exfalso; omega) | (exact ⟨[], false, part_long (by omega), rfl⟩) | (exact ⟨[], false, part_byte (i := i) (by omega) (by first | exact .inl (by omega) | exact .inr (by omega)), rfl⟩) | (exact ⟨[], false, part_many hG.out (by omega) (by omega), rfl⟩) | (exact ⟨o, true, part_yes hG.out (by omega) (by omega) (by omega), rfl⟩) | trace_state

theorem bl_getD (p : List ByteArray) (k : Nat) : (p.map bl).getD k [] = bl (p.getD k default) := by
  rw [List.getD_eq_getElem?_getD, List.getD_eq_getElem?_getD, List.getElem?_map]
  cases p[k]? <;> rfl
theorem num_at {p : List ByteArray} {k : Nat} {n : Int} {ok : Bool} (h : NumR (bl (p.getD k default)) n ok) (hk : k < p.length) : n = numAt (p.map bl) k := by
  unfold numAt
  rw [if_pos (by rw [List.length_map]; exact hk), bl_getD]
  exact h.eq.1
theorem num_no {p : List ByteArray} {k : Nat} (hk : ¬ k < p.length) : 0 = numAt (p.map bl) k := by
  unfold numAt
  rw [if_neg (by rw [List.length_map]; exact hk)]
theorem joinW_snoc : ∀ (xs : List By) (w : By), joinW (xs ++ [w]) = (if xs = [] then w else joinW xs ++ 32 :: w)
  | [], w => rfl
  | [x], w => rfl
  | x :: y :: r, w => by
    rw [if_neg (by simp)]
    show x ++ 32 :: joinW ((y :: r) ++ [w]) = (x ++ 32 :: joinW (y :: r)) ++ 32 :: w
    rw [joinW_snoc (y :: r) w, if_neg (by simp), List.append_assoc]
    rfl
structure JnG (p : List ByteArray) (i : Nat) (r : ByteArray) : Prop where
  eq : bl r = joinW ((p.map bl).take i)
  sz : r.size ≤ i * 601
theorem jn_0 (p : List ByteArray) : JnG p 0 ⟨#[]⟩ := ⟨rfl, Nat.le_refl _⟩
theorem bl_app (a b : ByteArray) : bl (a ++ b) = bl a ++ bl b := by unfold bl; rw [ByteArray.data_append, Array.toList_append]
theorem jn_at {p : List ByteArray} {i : Nat} (hi : i < p.length) : (p.map bl).take (i + 1) = (p.map bl).take i ++ [bl (p.getD i default)] := by
  have h2 : i < (p.map bl).length := by rw [List.length_map]; exact hi
  rw [List.take_succ_eq_append_getElem h2, ← bl_getD, List.getD_eq_getElem?_getD, List.getElem?_eq_getElem h2]; rfl
theorem jn_first {p : List ByteArray} {r : ByteArray} (h : JnG p 0 r) (hi : 0 < p.length) (hz : ∀ w ∈ p, w.size ≤ 600) : JnG p (0 + 1) (r ++ p.getD 0 default) := by
  have hs := hz _ (by rw [List.getD_eq_getElem?_getD, List.getElem?_eq_getElem hi]; exact List.getElem_mem _ : p.getD 0 default ∈ p)
  refine ⟨?_, by rw [ByteArray.size_append]; have := h.sz; omega⟩
  rw [bl_app, h.eq, jn_at hi, joinW_snoc]; rfl
theorem jn_next {p : List ByteArray} {i : Nat} {r : ByteArray} (h : JnG p i r) (h0 : 0 < i) (hi : i < p.length) (hz : ∀ w ∈ p, w.size ≤ 600) : JnG p (i + 1) (r ++ ⟨#[32]⟩ ++ p.getD i default) := by
  have hs := hz _ (by rw [List.getD_eq_getElem?_getD, List.getElem?_eq_getElem hi]; exact List.getElem_mem _ : p.getD i default ∈ p)
  refine ⟨?_, by rw [ByteArray.size_append, ByteArray.size_append]; have := h.sz; show r.size + 1 + _ ≤ _; omega⟩
  rw [bl_app, bl_app, h.eq, jn_at hi, joinW_snoc, if_neg (fun e => by have := congrArg List.length e; rw [List.length_take, List.length_map, List.length_nil] at this; omega), List.append_assoc]
  rfl
theorem jn_end {p : List ByteArray} {i : Nat} {r : ByteArray} (h : JnG p i r) (hi : p.length ≤ i) : r = ba (joinW (p.map bl)) := by
  have e := h.eq
  rw [List.take_of_length_le (by rw [List.length_map]; exact hi)] at e
  rw [← e, ba_bl]
theorem sz1 : ByteArray.size ⟨#[32]⟩ = 1 := rfl
theorem at_sz {p : List ByteArray} (hz : ∀ w ∈ p, w.size ≤ 600) (k : Nat) : (p.getD k default).size ≤ 600 := by
  by_cases h : k < p.length
  · exact hz _ (by rw [List.getD_eq_getElem?_getD, List.getElem?_eq_getElem h]; exact List.getElem_mem _)
  · rw [List.getD_eq_getElem?_getD, List.getElem?_eq_none (by omega)]; exact Nat.zero_le _
def wordsL : List ByteArray := [ba (wordK 0), ba (wordK 1), ba (wordK 2), ba (wordK 3), ba (wordK 4), ba (wordK 5), ba (wordK 6), ba (wordK 7), ba (wordK 8), ba (wordK 9), ba (wordK 10)]

theorem spec_l32Num_A (p : List ByteArray) (hl : p.length ≤ 12) (hz : ∀ w ∈ p, w.size ≤ 600) (k : Nat) (hk : k ≤ 12) : Spec Tryd.prog 11 [.sl p.length (strsD p), .sc (.int .i64 (k : Int))] (fun d => d = .sc (.int .i64 (numAt (p.map bl) k))) := by
  have hs := at_sz hz k
  refine sp_ (rs := [.tmp 4]) (nt := 20) Tryd.func11 rfl fun X hX => ?_
  refine nm_ ?_
  repeat' ((first | contradiction | (with_reducible exact tt_) | ((with_reducible show Wk (AwStepF _ _ _ _ _ _ _)); first | (refine cl_ rfl _ _ (spec_ReadDecimal_A (p.getD k default) (by omega)) rfl rfl ?_; rintro _ ⟨n, ok, hN, rfl⟩)) | ((with_reducible show Wk (AwStep _ _ _ _ _)); first | (refine pln_ ?_)) | ((with_reducible show Wk (boolK _ _ _ _)); first | (refine bk_ (fun h h' => ?_) (fun h h' => ?_))) | ((with_reducible show Wk (_ ∧ _)); first | (refine and_ ?_ ?_)) | fail) <;> (try refine nm_ ?_))
  all_goals (refine ⟨?_⟩)
  all_goals first | contradiction | (exfalso; omega) | (rw [← num_at hN (by omega)]) | (rw [← num_no (by omega)]) | trace_state

theorem spec_l32Join_A (p : List ByteArray) (hl : p.length ≤ 12) (hz : ∀ w ∈ p, w.size ≤ 600) : Spec Tryd.prog 14 [.sl p.length (strsD p)] (fun d => d = .sc (.string (ba (joinW (p.map bl))))) := by
  have ex0 := @ByteArray.size_append; have ex1 := @sz1
  refine sp_ (rs := [.tmp 2]) (nt := 22) Tryd.func14 rfl fun X hX => ?_
  refine nm_ ?_
  repeat' ((first | contradiction | (with_reducible exact tt_) | ((with_reducible show Wk (AwStep _ _ _ _ _)); first | (refine pln_ ?_)) | ((with_reducible show Wk (AwCode _ _ _ _ _)); first | (refine lpU_ 0x19 (ι := Nat × ByteArray) (fun ⟨i, r⟩ => [(3, .sc (.string r)), (4, .sc (.int .i64 (i : Int)))]) (fun ⟨i, r⟩ => i ≤ p.length ∧ JnG p i r) (fun ⟨i, r⟩ => p.length - i) (0, ⟨#[]⟩) ?_ ?_; (focus (exact ⟨Nat.zero_le _, jn_0 p⟩)); rintro _ hN0 ⟨i, r⟩ hinv; (try dsimp only at hinv); obtain ⟨hi, hJ⟩ := hinv; have hrz := hJ.sz; have hs := at_sz hz i; replace hJ := Lib.hid hJ; skip)) | ((with_reducible show Wk (boolK _ _ _ _)); first | (refine bk_ (fun h h' => ?_) (fun h h' => ?_))) | ((with_reducible show Wk (_ ∧ _)); first | (refine and_ ?_ ?_)) | (refine hN0.go ((i + 1, r ++ ⟨#[32]⟩ ++ p.getD i default)) ?_ ?_; (focus (first | exact ⟨by show i + 1 ≤ p.length; omega, jn_next hJ.out (by omega) (by omega) hz⟩ | (have e9 : i = 0 := (by omega); subst e9; exact ⟨by show 0 + 1 ≤ p.length; omega, jn_first hJ.out (by omega) hz⟩))); (focus (show p.length - (i + 1) < p.length - i; omega))) | (refine hN0.go ((i + 1, r ++ p.getD i default)) ?_ ?_; (focus (first | exact ⟨by show i + 1 ≤ p.length; omega, jn_next hJ.out (by omega) (by omega) hz⟩ | (have e9 : i = 0 := (by omega); subst e9; exact ⟨by show 0 + 1 ≤ p.length; omega, jn_first hJ.out (by omega) hz⟩))); (focus (show p.length - (i + 1) < p.length - i; omega))) | fail) <;> (try refine nm_ ?_))
  all_goals clear ex0 ex1
  all_goals (refine ⟨?_⟩)
  all_goals first | contradiction | (exfalso; omega) | (rw [← jn_end hJ.out (by omega)]) | trace_state

theorem spec_l32Words_A  : Spec Tryd.prog 10 [] (fun d => d = .sl 11 (strsD wordsL)) := by
  refine spG_ (rs := [.tmp 0]) (nt := 2) Tryd.func10 rfl fun X hX => ?_
  refine nm_ ?_
  repeat' ((first | contradiction | (with_reducible exact tt_) | ((with_reducible show Wk (AwStep _ _ _ _ _)); first | (refine pln_ ?_)) | ((with_reducible show Wk (boolK _ _ _ _)); first | (refine bk_ (fun h h' => ?_) (fun h h' => ?_))) | ((with_reducible show Wk (_ ∧ _)); first | (refine and_ ?_ ?_)) | ((with_reducible show Wk (retOkG _ _ _ _)); first | (refine rgg_ [.frz 0] ?_)) | fail) <;> (try refine nm_ ?_))
  all_goals (refine ⟨?_⟩)
  all_goals first | contradiction | (exfalso; omega) | rfl | trace_state

end Go.Proofs.YtidjjfjhmlndjaaDoor
