/- The line of an act, and the law. -/
import Derived.Test.YtepachoampdhiaaDoorActs4
namespace Go.Proofs.YtepachoampdhiaaDoor
open Go.RowKit

noncomputable def lineA (a : ActD) : ByteArray := if actOkB a = true then (if a.kind = 1 then line1 a else (if a.kind = 2 then line2 a else (if a.kind = 3 then line3 a else (if a.kind = 4 then line4 a else (if a.kind = 5 then line5 a else (if a.kind = 6 then line6 a else (if a.kind = 7 then line7 a else (if a.kind = 8 then line8 a else (if a.kind = 9 then line9 a else (if a.kind = 10 then line10 a else (⟨#[]⟩))))))))))) else ⟨#[]⟩
theorem sameB_keeps {a b : ActD} (h : sameB a b = true) : a.keeps = b.keeps := by
  simp [sameB] at h
  exact h.2.2.2.2.2.2.2
theorem kinds_of {a : ActD} (h : actOkB a = true) : 1 ≤ a.kind ∧ a.kind ≤ 10 := by
  simp [actOkB] at h
  omega
theorem mk1_eq (a : ActD) (h : a.kind = 1) : (ActD.mk 1 a.format a.text a.name a.w1 a.w2 a.w3 a.schema a.steps a.keeps) = a := by
  cases a; simp at h; subst h; rfl
theorem nums1_eq (a : ActD) (h : (told1 a).keeps = a.keeps) : nums1 a = numsI1 a := by
  have h2 : a.keeps = [] := h.symm
  simp [nums1, numsI1, h2]
theorem line1_eq (a : ActD) : line1 a = lineI1 a := by
  unfold line1 lineI1
  rw [sameB_comm]
  cases h : sameB (ActD.mk 1 a.format a.text a.name a.w1 a.w2 a.w3 a.schema a.steps a.keeps) (told1 a)
  · rfl
  · rw [nums1_eq a (sameB_keeps h).symm]
theorem lineA1 (a : ActD) (hok : actOkB a = true) (h : a.kind = 1) : lineA a = line1 a := by
  simp [lineA, hok, h]

theorem mk2_eq (a : ActD) (h : a.kind = 2) : (ActD.mk 2 a.format a.text a.name a.w1 a.w2 a.w3 a.schema a.steps a.keeps) = a := by
  cases a; simp at h; subst h; rfl
theorem nums2_eq (a : ActD) (h : (told2 a).keeps = a.keeps) : nums2 a = numsI2 a := by
  have h2 : a.keeps = [] := h.symm
  simp [nums2, numsI2, h2]
theorem line2_eq (a : ActD) : line2 a = lineI2 a := by
  unfold line2 lineI2
  rw [sameB_comm]
  cases h : sameB (ActD.mk 2 a.format a.text a.name a.w1 a.w2 a.w3 a.schema a.steps a.keeps) (told2 a)
  · rfl
  · rw [nums2_eq a (sameB_keeps h).symm]
theorem lineA2 (a : ActD) (hok : actOkB a = true) (h : a.kind = 2) : lineA a = line2 a := by
  simp [lineA, hok, h]

theorem mk3_eq (a : ActD) (h : a.kind = 3) : (ActD.mk 3 a.format a.text a.name a.w1 a.w2 a.w3 a.schema a.steps a.keeps) = a := by
  cases a; simp at h; subst h; rfl
theorem nums3_eq (a : ActD) (h : (told3 a).keeps = a.keeps) : nums3 a = numsI3 a := by
  have h2 : a.keeps = [] := h.symm
  simp [nums3, numsI3, h2]
theorem line3_eq (a : ActD) : line3 a = lineI3 a := by
  unfold line3 lineI3
  rw [sameB_comm]
  cases h : sameB (ActD.mk 3 a.format a.text a.name a.w1 a.w2 a.w3 a.schema a.steps a.keeps) (told3 a)
  · rfl
  · rw [nums3_eq a (sameB_keeps h).symm]
theorem lineA3 (a : ActD) (hok : actOkB a = true) (h : a.kind = 3) : lineA a = line3 a := by
  simp [lineA, hok, h]

theorem mk4_eq (a : ActD) (h : a.kind = 4) : (ActD.mk 4 a.format a.text a.name a.w1 a.w2 a.w3 a.schema a.steps a.keeps) = a := by
  cases a; simp at h; subst h; rfl
theorem nums4_eq (a : ActD) (h : (told4 a).keeps = a.keeps) : nums4 a = numsI4 a := by
  have h2 : a.keeps = [] := h.symm
  simp [nums4, numsI4, h2]
theorem line4_eq (a : ActD) : line4 a = lineI4 a := by
  unfold line4 lineI4
  rw [sameB_comm]
  cases h : sameB (ActD.mk 4 a.format a.text a.name a.w1 a.w2 a.w3 a.schema a.steps a.keeps) (told4 a)
  · rfl
  · rw [nums4_eq a (sameB_keeps h).symm]
theorem lineA4 (a : ActD) (hok : actOkB a = true) (h : a.kind = 4) : lineA a = line4 a := by
  simp [lineA, hok, h]

theorem mk5_eq (a : ActD) (h : a.kind = 5) : (ActD.mk 5 a.format a.text a.name a.w1 a.w2 a.w3 a.schema a.steps a.keeps) = a := by
  cases a; simp at h; subst h; rfl
theorem nums5_eq (a : ActD) (h : (told5 a).keeps = a.keeps) : nums5 a = numsI5 a := by
  have h2 : a.keeps = [] := h.symm
  simp [nums5, numsI5, h2]
theorem line5_eq (a : ActD) : line5 a = lineI5 a := by
  unfold line5 lineI5
  rw [sameB_comm]
  cases h : sameB (ActD.mk 5 a.format a.text a.name a.w1 a.w2 a.w3 a.schema a.steps a.keeps) (told5 a)
  · rfl
  · rw [nums5_eq a (sameB_keeps h).symm]
theorem lineA5 (a : ActD) (hok : actOkB a = true) (h : a.kind = 5) : lineA a = line5 a := by
  simp [lineA, hok, h]

theorem mk6_eq (a : ActD) (h : a.kind = 6) : (ActD.mk 6 a.format a.text a.name a.w1 a.w2 a.w3 a.schema a.steps a.keeps) = a := by
  cases a; simp at h; subst h; rfl
theorem nums6_eq (a : ActD) (h : (told6 a).keeps = a.keeps) : nums6 a = numsI6 a := by
  have h2 : a.keeps = [] := h.symm
  simp [nums6, numsI6, h2]
theorem line6_eq (a : ActD) : line6 a = lineI6 a := by
  unfold line6 lineI6
  rw [sameB_comm]
  cases h : sameB (ActD.mk 6 a.format a.text a.name a.w1 a.w2 a.w3 a.schema a.steps a.keeps) (told6 a)
  · rfl
  · rw [nums6_eq a (sameB_keeps h).symm]
theorem lineA6 (a : ActD) (hok : actOkB a = true) (h : a.kind = 6) : lineA a = line6 a := by
  simp [lineA, hok, h]

theorem mk7_eq (a : ActD) (h : a.kind = 7) : (ActD.mk 7 a.format a.text a.name a.w1 a.w2 a.w3 a.schema a.steps a.keeps) = a := by
  cases a; simp at h; subst h; rfl
theorem nums7_eq (a : ActD) (h : (told7 a).keeps = a.keeps) : nums7 a = numsI7 a := by
  have h2 : a.keeps = [] := h.symm
  simp [nums7, numsI7, h2]
theorem line7_eq (a : ActD) : line7 a = lineI7 a := by
  unfold line7 lineI7
  rw [sameB_comm]
  cases h : sameB (ActD.mk 7 a.format a.text a.name a.w1 a.w2 a.w3 a.schema a.steps a.keeps) (told7 a)
  · rfl
  · rw [nums7_eq a (sameB_keeps h).symm]
theorem lineA7 (a : ActD) (hok : actOkB a = true) (h : a.kind = 7) : lineA a = line7 a := by
  simp [lineA, hok, h]

theorem mk8_eq (a : ActD) (h : a.kind = 8) : (ActD.mk 8 a.format a.text a.name a.w1 a.w2 a.w3 a.schema a.steps a.keeps) = a := by
  cases a; simp at h; subst h; rfl
theorem nums8_eq (a : ActD) (h : (told8 a).keeps = a.keeps) : nums8 a = numsI8 a := by
  have h2 : a.keeps = [] := h.symm
  simp [nums8, numsI8, h2]
theorem line8_eq (a : ActD) : line8 a = lineI8 a := by
  unfold line8 lineI8
  rw [sameB_comm]
  cases h : sameB (ActD.mk 8 a.format a.text a.name a.w1 a.w2 a.w3 a.schema a.steps a.keeps) (told8 a)
  · rfl
  · rw [nums8_eq a (sameB_keeps h).symm]
theorem lineA8 (a : ActD) (hok : actOkB a = true) (h : a.kind = 8) : lineA a = line8 a := by
  simp [lineA, hok, h]

theorem mk9_eq (a : ActD) (h : a.kind = 9) : (ActD.mk 9 a.format a.text a.name a.w1 a.w2 a.w3 a.schema a.steps a.keeps) = a := by
  cases a; simp at h; subst h; rfl
theorem nums9_eq (a : ActD) (_h : (told9 a).keeps = a.keeps) : nums9 a = numsI9 a := by
  rfl
theorem line9_eq (a : ActD) : line9 a = lineI9 a := by
  unfold line9 lineI9
  rw [sameB_comm]
  cases h : sameB (ActD.mk 9 a.format a.text a.name a.w1 a.w2 a.w3 a.schema a.steps a.keeps) (told9 a)
  · rfl
  · rw [nums9_eq a (sameB_keeps h).symm]
theorem lineA9 (a : ActD) (hok : actOkB a = true) (h : a.kind = 9) : lineA a = line9 a := by
  simp [lineA, hok, h]

theorem mk10_eq (a : ActD) (h : a.kind = 10) : (ActD.mk 10 a.format a.text a.name a.w1 a.w2 a.w3 a.schema a.steps a.keeps) = a := by
  cases a; simp at h; subst h; rfl
theorem nums10_eq (a : ActD) (_h : (told10 a).keeps = a.keeps) : nums10 a = numsI10 a := by
  rfl
theorem line10_eq (a : ActD) : line10 a = lineI10 a := by
  unfold line10 lineI10
  rw [sameB_comm]
  cases h : sameB (ActD.mk 10 a.format a.text a.name a.w1 a.w2 a.w3 a.schema a.steps a.keeps) (told10 a)
  · rfl
  · rw [nums10_eq a (sameB_keeps h).symm]
theorem lineA10 (a : ActD) (hok : actOkB a = true) (h : a.kind = 10) : lineA a = line10 a := by
  simp [lineA, hok, h]

set_option maxRecDepth 10000 in
set_option maxHeartbeats 1000000 in
theorem specLineN_D (a : ActD) (hok : actOkB a = false) : Spec Tryd.prog 15 [a.d] (fun d => d = .sc (.string ⟨#[]⟩)) := by
  unfold ActD.d
  refine spec_intro (rs := [.tmp 2]) (nt := 118) Tryd.func15 rfl (by kernel_rfl) rfl rfl (by simp) fun X hX => ?_
  simp (maxSteps := 2000000) (disch := omega) only [wc_seq, wc_region, wc_draw, wops_nil, wops_plain, wgo_eq, stepK_some, stepOp, valOp, tq_normal, St.ev, St.get, St.put, St.newOb, D.cells, D.known, D.one, List.length_cons, List.length_nil, List.replicate_succ, List.replicate_zero, List.cons_append, List.nil_append, List.getElem?_cons_zero, Option.getD_some, List.set_cons_succ, List.set_cons_zero, List.all_cons, List.all_nil, oc_str, Option.map_some, if_true, Bool.and_self, Nat.reduceAdd, Nat.reduceSub, Nat.zero_add, *]
  repeat' ((first | (refine boolK_intro (fun h => ?_) (fun h => ?_) <;> (try (have h' := h; simp only [decide_eq_true_eq, decide_eq_false_iff_not, Int.not_lt, Int.not_le, gt_iff_lt, ge_iff_le] at h'))) | (refine And.intro ?_ ?_) | ((first | refine awcall rfl _ _ (specActOk_D a) rfl rfl ?_ | refine awcallF rfl _ _ (specActOk_D a) rfl rfl ?_); rintro _ rfl) | (refine appG rfl ?_) | (refine appGF rfl ?_) | (refine word_sound (id := 1) mixed [] [(0, true), (1, false), (2, true), (3, true), (4, true), (6, true), (5, false), (7, false), (8, true), (9, true)] rfl (by kernel_rfl) (by kernel_rfl) (by simp <;> fail) ?_) | (refine word_sound (id := 3) mixed [] [(1, true), (2, true), (0, false), (3, true), (4, true), (5, true)] rfl (by kernel_rfl) (by kernel_rfl) (by simp <;> fail) ?_) | fail) <;> (try simp (maxSteps := 2000000) (disch := omega) only [wc_seq, wc_cond, wc_ret, wc_region, wops_nil, wops_plain, wgo_eq, guardD, boolK_true, stepK_some, stepOp, valOp, tq_normal, tq_ret, rq_ret, retOk, St.ev, St.get, St.put, St.ob, loadD, partD, unD, pickD, resAll, resD, tupD, D.noid, D.noidA, D.noid1, List.length_cons, List.length_nil, List.getElem?_cons_succ, List.getElem?_cons_zero, Option.getD_some, List.set_cons_succ, List.set_cons_zero, List.lookup_cons, List.map_cons, List.map_nil, List.drop_zero, List.take_succ_cons, List.take_zero, oc_str, oc_bool, Option.map_some, Option.map_none, if_true, and_self, Bool.and_self, Bool.not_false, beq_self_eq_true, Nat.reduceAdd, Nat.zero_add, Nat.le_refl, word_nil, word_cons, opK_some, woat_plain, woat_false, wogo_early, wogo_late, earlyK_go, lateK_none, woskip_eq, earlyOk, lateOk, stepV, List.contains_cons, List.contains_nil, Bool.or_false, ty46, *]))

set_option maxRecDepth 10000 in
set_option maxHeartbeats 1000000 in
theorem implLineN_D (a : ActD) (hok : actOkB a = false) : SpecT Tryd.prog tabT 17 [a.d] (fun d => d = .sc (.string ⟨#[]⟩)) := by
  unfold ActD.d
  refine specT_intro (rs := [.tmp 2]) (nt := 140) Tryd.func17 rfl (by kernel_rfl) rfl rfl (by simp) fun X hX hT => ?_
  simp (maxSteps := 2000000) (disch := omega) only [wc_seq, wc_region, wops_nil, wops_plain, wgo_eq, stepK_some, stepK_none, stepOp, valOp, tq_normal, St.ev, St.get, St.put, St.newOb, St.ob, loadD, partD, D.cells, D.known, D.one, List.length_cons, List.length_nil, List.replicate_succ, List.replicate_zero, List.cons_append, List.nil_append, List.getElem?_cons_succ, List.getElem?_cons_zero, Option.getD_some, List.set_cons_succ, List.set_cons_zero, List.lookup_cons, List.all_cons, List.all_nil, List.drop_zero, List.take_succ_cons, List.take_zero, oc_str, Option.map_some, Option.map_none, if_true, Bool.and_self, beq_self_eq_true, Nat.reduceAdd, Nat.reduceSub, Nat.zero_add, Nat.le_refl, ty46, *]
  repeat' ((first | (refine boolK_intro (fun h => ?_) (fun h => ?_) <;> (try (have h' := h; simp only [decide_eq_true_eq, decide_eq_false_iff_not, Int.not_lt, Int.not_le, gt_iff_lt, ge_iff_le] at h'))) | (refine And.intro ?_ ?_) | ((first | refine awcall rfl _ _ (implActOk_D a) rfl rfl ?_ | refine awcallF rfl _ _ (implActOk_D a) rfl rfl ?_); rintro _ rfl) | (refine appG rfl ?_) | (refine appGF rfl ?_) | (refine Exists.intro [] (And.intro rfl ?_)) | (refine word_sound (id := 9) mixed [] [(0, true), (1, true), (2, true), (3, true), (4, true), (5, false), (6, true), (7, false)] rfl (by kernel_rfl) (by kernel_rfl) (by simp <;> fail) ?_) | (refine word_sound (id := 28) mixed [] [(0, true), (1, true), (2, true), (3, true), (4, true), (5, true), (6, true), (7, false), (8, true), (9, false), (10, true), (11, false)] rfl (by kernel_rfl) (by kernel_rfl) (by simp <;> fail) ?_) | fail) <;> (try simp (maxSteps := 2000000) (disch := omega) only [eq_self, frzs, wc_seq, wc_cond, wc_ret, wc_region, wops_nil, wops_plain, wgo_eq, boolK_true, stepK_some, stepOp, valOp, tq_normal, tq_ret, retOk, St.ev, St.get, St.put, unD, resAll, resD, tupD, D.noid, D.noidA, D.noid1, List.getElem?_cons_succ, List.getElem?_cons_zero, Option.getD_some, List.set_cons_succ, List.set_cons_zero, oc_str, Option.map_some, if_true, and_self, Bool.not_false, rqz_ret, *]))

theorem specLine_D (a : ActD) (ha : a.ok) : Spec Tryd.prog 15 [a.d] (fun d => d = .sc (.string (lineA a))) := by
  cases hok : actOkB a
  · have h := specLineN_D a hok
    rw [show lineA a = ⟨#[]⟩ by simp [lineA, hok]]
    exact h
  · obtain ⟨k1, k2⟩ := kinds_of hok
    obtain h | h | h | h | h | h | h | h | h | h : a.kind = 1 ∨ a.kind = 2 ∨ a.kind = 3 ∨ a.kind = 4 ∨ a.kind = 5 ∨ a.kind = 6 ∨ a.kind = 7 ∨ a.kind = 8 ∨ a.kind = 9 ∨ a.kind = 10 := by omega
    · have h2 := specLine1_D a ha (by rw [mk1_eq a h]; exact hok)
      rw [mk1_eq a h, ← lineA1 a hok h] at h2
      exact h2
    · have h2 := specLine2_D a ha (by rw [mk2_eq a h]; exact hok)
      rw [mk2_eq a h, ← lineA2 a hok h] at h2
      exact h2
    · have h2 := specLine3_D a ha (by rw [mk3_eq a h]; exact hok)
      rw [mk3_eq a h, ← lineA3 a hok h] at h2
      exact h2
    · have h2 := specLine4_D a ha (by rw [mk4_eq a h]; exact hok)
      rw [mk4_eq a h, ← lineA4 a hok h] at h2
      exact h2
    · have h2 := specLine5_D a ha (by rw [mk5_eq a h]; exact hok)
      rw [mk5_eq a h, ← lineA5 a hok h] at h2
      exact h2
    · have h2 := specLine6_D a ha (by rw [mk6_eq a h]; exact hok)
      rw [mk6_eq a h, ← lineA6 a hok h] at h2
      exact h2
    · have h2 := specLine7_D a ha (by rw [mk7_eq a h]; exact hok)
      rw [mk7_eq a h, ← lineA7 a hok h] at h2
      exact h2
    · have h2 := specLine8_D a ha (by rw [mk8_eq a h]; exact hok)
      rw [mk8_eq a h, ← lineA8 a hok h] at h2
      exact h2
    · have h2 := specLine9_D a ha (by rw [mk9_eq a h]; exact hok)
      rw [mk9_eq a h, ← lineA9 a hok h] at h2
      exact h2
    · have h2 := specLine10_D a ha (by rw [mk10_eq a h]; exact hok)
      rw [mk10_eq a h, ← lineA10 a hok h] at h2
      exact h2

theorem implLine_D (a : ActD) (ha : a.ok) : SpecT Tryd.prog tabT 17 [a.d] (fun d => d = .sc (.string (lineA a))) := by
  cases hok : actOkB a
  · have h := implLineN_D a hok
    rw [show lineA a = ⟨#[]⟩ by simp [lineA, hok]]
    exact h
  · obtain ⟨k1, k2⟩ := kinds_of hok
    obtain h | h | h | h | h | h | h | h | h | h : a.kind = 1 ∨ a.kind = 2 ∨ a.kind = 3 ∨ a.kind = 4 ∨ a.kind = 5 ∨ a.kind = 6 ∨ a.kind = 7 ∨ a.kind = 8 ∨ a.kind = 9 ∨ a.kind = 10 := by omega
    · have h2 := implLine1_D a ha (by rw [mk1_eq a h]; exact hok)
      rw [mk1_eq a h, ← line1_eq, ← lineA1 a hok h] at h2
      exact h2
    · have h2 := implLine2_D a ha (by rw [mk2_eq a h]; exact hok)
      rw [mk2_eq a h, ← line2_eq, ← lineA2 a hok h] at h2
      exact h2
    · have h2 := implLine3_D a ha (by rw [mk3_eq a h]; exact hok)
      rw [mk3_eq a h, ← line3_eq, ← lineA3 a hok h] at h2
      exact h2
    · have h2 := implLine4_D a ha (by rw [mk4_eq a h]; exact hok)
      rw [mk4_eq a h, ← line4_eq, ← lineA4 a hok h] at h2
      exact h2
    · have h2 := implLine5_D a ha (by rw [mk5_eq a h]; exact hok)
      rw [mk5_eq a h, ← line5_eq, ← lineA5 a hok h] at h2
      exact h2
    · have h2 := implLine6_D a ha (by rw [mk6_eq a h]; exact hok)
      rw [mk6_eq a h, ← line6_eq, ← lineA6 a hok h] at h2
      exact h2
    · have h2 := implLine7_D a ha (by rw [mk7_eq a h]; exact hok)
      rw [mk7_eq a h, ← line7_eq, ← lineA7 a hok h] at h2
      exact h2
    · have h2 := implLine8_D a ha (by rw [mk8_eq a h]; exact hok)
      rw [mk8_eq a h, ← line8_eq, ← lineA8 a hok h] at h2
      exact h2
    · have h2 := implLine9_D a ha (by rw [mk9_eq a h]; exact hok)
      rw [mk9_eq a h, ← line9_eq, ← lineA9 a hok h] at h2
      exact h2
    · have h2 := implLine10_D a ha (by rw [mk10_eq a h]; exact hok)
      rw [mk10_eq a h, ← line10_eq, ← lineA10 a hok h] at h2
      exact h2

set_option maxRecDepth 10000 in
set_option maxHeartbeats 1000000 in
theorem lawActLine_D (a : ActD) (ht : a.text.size ≤ 9223372036854775807) (hn : a.name.size ≤ 9223372036854775807) (hk : a.keeps.length ≤ 9223372036854775807) : SpecT Tryd.prog tabT 5 [a.d] (fun d => d = .sc (.bool true)) := by
  refine specT_intro (rs := [.tmp 2]) (nt := 27) Tryd.func5 rfl (by kernel_rfl) rfl rfl (by simp) fun X hX hT => ?_
  simp (maxSteps := 2000000) (disch := omega) only [wc_seq, wc_region, wops_plain, wgo_eq, stepOp, St.ev, St.get, St.put, St.newOb, D.cells, D.known, List.length_cons, List.length_nil, List.replicate_succ, List.replicate_zero, List.cons_append, List.nil_append, List.getElem?_cons_zero, Option.getD_some, List.set_cons_succ, List.set_cons_zero, Nat.reduceSub, Nat.zero_add, *]
  repeat' ((first | (refine boolK_intro (fun h => ?_) (fun h => ?_) <;> (try (have h' := h; simp only [decide_eq_true_eq, decide_eq_false_iff_not, Int.not_lt] at h'))) | (refine And.intro ?_ ?_) | ((first | refine awcall rfl _ _ (szAct_D a ht hn hk _ (by omega) (by omega)) rfl rfl ?_ | refine awcallF rfl _ _ (szAct_D a ht hn hk _ (by omega) (by omega)) rfl rfl ?_); rintro _ ⟨r, rfl, hr1, hr2⟩) | ((first | refine awcall rfl _ _ (toAct_D a (by omega)) rfl rfl ?_ | refine awcallF rfl _ _ (toAct_D a (by omega)) rfl rfl ?_); rintro _ rfl) | ((first | refine awcall rfl _ _ (specLine_D a ⟨by omega⟩) rfl rfl ?_ | refine awcallF rfl _ _ (specLine_D a ⟨by omega⟩) rfl rfl ?_); rintro _ rfl) | ((first | refine awcall rfl _ _ (eqAct_D a (by omega)) rfl rfl ?_ | refine awcallF rfl _ _ (eqAct_D a (by omega)) rfl rfl ?_); rintro _ rfl) | ((first | refine awcallT tab_stays hT rfl _ _ (implLine_D a ⟨by omega⟩) rfl rfl ?_ | refine awcallTF tab_stays hT rfl _ _ (implLine_D a ⟨by omega⟩) rfl rfl ?_); rintro _ rfl) | (refine Exists.intro [] (And.intro rfl ?_)) | (refine word_sound (id := 10) mixed [] [(0, true), (1, true), (2, false), (3, false), (4, true)] rfl (by kernel_rfl) (by kernel_rfl) (by simp <;> fail) ?_) | fail) <;> (try simp (maxSteps := 2000000) (disch := omega) only [eq_self, frzs, wc_skip, wc_seq, wc_cond, wc_ret, wc_region, wc_draw, wops_nil, wops_plain, wgo_eq, boolK_false, stepK_some, stepK_none, stepOp, valOp, tq_normal, tq_ret, retOk, St.ev, St.get, St.put, St.newOb, St.setCs, setCs, St.ob, loadD, partD, storeD, unD, binD, D.cells, D.known, resAll, resD, tupD, D.noid, D.noidA, D.noid1, List.length_cons, List.length_nil, List.getElem?_cons_succ, List.getElem?_cons_zero, Option.getD_some, List.set_cons_succ, List.set_cons_zero, List.lookup_cons, List.map_cons, List.map_nil, List.all_cons, List.all_nil, List.drop_zero, List.toList_toArray, List.size_toArray, oc_int, oc_str, oc_bool, oc_slice, vc_agg, Option.map_some, Option.map_none, if_true, if_false, reduceCtorEq, and_true, and_self, Bool.and_self, Bool.not_true, Bool.not_false, beq_self_eq_true, Nat.reduceBEq, Nat.reduceAdd, Nat.zero_add, Nat.le_refl, decide_true, Int.reduceLE, word_nil, word_cons, opK_some, woat_plain, wogo_early, wogo_late, earlyK_go, lateK_none, earlyOk, lateOk, stepV, List.contains_cons, List.contains_nil, Bool.or_false, Bool.or_true, decide_true, List.contains_cons, List.contains_nil, Bool.or_false, Bool.or_true, ty41, ze46, ty46, rqz_ret, *]))

end Go.Proofs.YtepachoampdhiaaDoor
