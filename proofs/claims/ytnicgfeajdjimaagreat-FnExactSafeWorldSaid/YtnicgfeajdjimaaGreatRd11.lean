/- Frames are read. -/
import Derived.Test.YtnicgfeajdjimaaGreatRdf
namespace Go.Proofs.YtnicgfeajdjimaaGreat
open Go.RowKit
set_option maxRecDepth 100000
set_option maxHeartbeats 4000000

theorem spec_ReadFixed_D (s : ByteArray) (p : Int) (hs : s.size ≤ 4611686018427387904) (hp : 0 ≤ p) (h4 : p + 4 ≤ s.size) : Spec Tryz.prog 202 [.sc (.string s), .sc (.int .i64 p), .sc (.int .i64 4)] (fun d => d = .tup [.sc (.int .i64 (le4 s p.toNat)), .sc (.bool true)]) := by
  have hb := bytB_rng s
  refine sp_ (rs := [.tmp 6, .tmp 7]) (nt := 49) Tryz.func202 rfl fun X hX => ?_
  refine nm_ ?_
  repeat' ((first | contradiction | (with_reducible exact tt_) | (refine bk_ (fun h h' => ?_) (fun h h' => ?_)) | (refine and_ ?_ ?_) | (refine pln_ ?_) | (refine cl_ rfl _ _ (l01In_D _ _ _) rfl rfl ?_; rintro _ rfl) | (refine lpU_ 0x303 (ι := Int × Int) (fun ⟨i, n⟩ => [(8, .sc (.int .i64 n)), (9, .sc (.int .i64 i))]) (fun ⟨i, n⟩ => (-1 ≤ i ∧ i ≤ 3) ∧ n = hiN s p.toNat (i + 1).toNat) (fun ⟨i, n⟩ => (i + 1).toNat) (4 - 1, 0) ?_ ?_; (focus (exact ⟨by decide, (hiN_4 s p.toNat).symm⟩)); rintro _ hN0 ⟨i, n⟩ hinv; (try dsimp only at hinv); obtain ⟨hi, hn⟩ := hinv; have hr := hiN_rng s p.toNat (k := (i + 1).toNat) (by omega); rw [← hn] at hr; replace hn := Lib.hid hn; have hb := bytB_rng s (p + i).toNat; skip) | (refine hN0.go ((i - 1, _)) ?_ ?_; (focus (refine ⟨by show -1 ≤ i - 1 ∧ i - 1 ≤ 3; omega, ?_⟩; show _ = hiN s p.toNat (i - 1 + 1).toNat; rw [show (i - 1 + 1).toNat = i.toNat by omega, hiN_step s p.toNat (k := i.toNat) (by omega), show i.toNat + 1 = (i + 1).toNat by omega, ← hn.out, show p.toNat + i.toNat = (p + i).toNat by omega])); (focus (show (i - 1 + 1).toNat < (i + 1).toNat; omega))) | fail) <;> (try refine nm_ ?_))
  all_goals (refine ⟨?_⟩)
  all_goals first | contradiction | (exfalso; omega) | (obtain rfl : i = -1 := (by omega); rw [hn.out, show ((-1 : Int) + 1).toNat = 0 by decide, hiN_0]) | trace_state

theorem impl_ReadFixed_D (s : ByteArray) (p : Int) (hs : s.size ≤ 4611686018427387904) (hp : 0 ≤ p) (h4 : p + 4 ≤ s.size) : Spec Tryz.prog 201 [.sc (.string s), .sc (.int .i64 p), .sc (.int .i64 4)] (fun d => d = .tup [.sc (.int .i64 (le4 s p.toNat)), .sc (.bool true)]) := by
  have ex0 := @shl8; have ex1 := @orF8
  refine sp_ (rs := [.tmp 6, .tmp 7]) (nt := 53) Tryz.func201 rfl fun X hX => ?_
  refine nm_ ?_
  repeat' ((first | contradiction | (with_reducible exact tt_) | (refine bk_ (fun h h' => ?_) (fun h h' => ?_)) | (refine and_ ?_ ?_) | (refine pln_ ?_) | (refine cl_ rfl _ _ (within_D _ _ _) rfl rfl ?_; rintro _ rfl) | (refine lpU_ 0x3000000103 (ι := Nat × Int) (fun ⟨k, n⟩ => [(8, .sc (.int .i64 n)), (37, .sc (.int .i64 (k : Int)))]) (fun ⟨k, n⟩ => k ≤ 4 ∧ n = leN s p.toNat k) (fun ⟨k, n⟩ => 4 - k) (0, 0) ?_ ?_; (focus (exact ⟨Nat.zero_le _, rfl⟩)); rintro _ hN0 ⟨k, n⟩ hinv; (try dsimp only at hinv); obtain ⟨hk, hn⟩ := hinv; have hr := leN_rng s p.toNat k; rw [← hn] at hr; replace hn := Lib.hid hn; have hb := bytB_rng s (p.toNat + k); have hq : (p + (k : Int)).toNat = p.toNat + k := (by omega); skip) | (refine hN0.go ((k + 1, _)) ?_ ?_; (focus (refine ⟨by show k + 1 ≤ 4; omega, ?_⟩; show _ = leN s p.toNat (k + 1); rw [leN, ← hn.out])); (focus (show 4 - (k + 1) < 4 - k; omega))) | fail) <;> (try refine nm_ ?_))
  all_goals clear ex0 ex1
  all_goals (refine ⟨?_⟩)
  all_goals first | contradiction | (exfalso; omega) | (obtain rfl : k = 4 := (by omega); rw [hn.out, leN_4]) | trace_state

theorem internal_stringslite_HasPrefix_D (s t : ByteArray) (_hs : s.size ≤ 4611686018427387904) (ht : t.size ≤ 4611686018427387904) : Spec Tryz.prog 286 [.sc (.string s), .sc (.string t)] (fun d => d = .sc (.bool (decide (t.size ≤ s.size) && eqB (s.extract 0 t.size) t))) := by
  refine sp_ (rs := [.tmp 4]) (nt := 18) Tryz.func286 rfl fun X hX => ?_
  refine nm_ ?_
  repeat' ((first | contradiction | (with_reducible exact tt_) | (refine bk_ (fun h h' => ?_) (fun h h' => ?_)) | (refine and_ ?_ ?_) | (refine pln_ ?_) | fail) <;> (try refine nm_ ?_))
  all_goals (refine ⟨?_⟩)
  all_goals first | contradiction | (exfalso; omega) | rfl | (simp_all; done) | (rw [decide_eq_true (by omega)]; rfl) | (rw [decide_eq_false (by omega)]; rfl) | trace_state

theorem strings_HasPrefix_D (s t : ByteArray) (hs : s.size ≤ 4611686018427387904) (ht : t.size ≤ 4611686018427387904) : Spec Tryz.prog 200 [.sc (.string s), .sc (.string t)] (fun d => d = .sc (.bool (decide (t.size ≤ s.size) && eqB (s.extract 0 t.size) t))) := by
  refine sp_ (rs := [.tmp 4]) (nt := 8) Tryz.func200 rfl fun X hX => ?_
  refine nm_ ?_
  repeat' ((first | contradiction | (with_reducible exact tt_) | (refine bk_ (fun h h' => ?_) (fun h h' => ?_)) | (refine and_ ?_ ?_) | (refine pln_ ?_) | (refine cl_ rfl _ _ (internal_stringslite_HasPrefix_D s t hs ht) rfl rfl ?_; rintro _ rfl) | fail) <;> (try refine nm_ ?_))
  all_goals (refine ⟨?_⟩)
  all_goals first | contradiction | (exfalso; omega) | rfl | trace_state

theorem spec_Unsealed_D (s : ByteArray) (h4 : 4 ≤ s.size) (hs : s.size ≤ 20000) : Spec Tryz.prog 203 [.sc (.string s)] (fun d => ∃ t, d = .tup [.sc (.string t), .sc (.bool (eqB (s.extract (s.size - 4) s.size) (fixB (sumB (s.extract 0 (s.size - 4))))))]) := by
  have e4 : ((s.size : Int) - 4).toNat = s.size - 4 := (by omega); have hsz : (s.extract 0 (s.size - 4)).size ≤ 20000 := (by rw [ByteArray.size_extract]; omega)
  refine sp_ (rs := [.tmp 2, .tmp 3]) (nt := 28) Tryz.func203 rfl fun X hX => ?_
  refine nm_ ?_
  repeat' ((first | contradiction | (with_reducible exact tt_) | (refine bk_ (fun h h' => ?_) (fun h h' => ?_)) | (refine and_ ?_ ?_) | (refine pln_ ?_) | (refine cl_ rfl _ _ (spec_SumOf_D (s.extract 0 (s.size - 4)) hsz) rfl rfl ?_; rintro _ ⟨rfl, hz⟩) | (refine cl_ rfl _ _ (spec_FixedText_D _ (by omega)) rfl rfl ?_; rintro _ ⟨rfl, hy⟩) | (refine wo_ (id := 2) [] [(0, true), (1, true), (2, true), (3, true), (4, true), (5, true), (6, true), (7, true), (8, true), (9, true), (10, true), (11, true), (12, true), (13, false), (14, false), (15, true), (16, true)] ?_) | fail) <;> (try refine nm_ ?_))
  all_goals (refine ⟨?_⟩)
  all_goals first | contradiction | (exfalso; omega) | (exact ⟨_, rfl⟩) | trace_state

theorem pre_berth (s : ByteArray) (hs : s.size ≤ 4611686018427387904) : Spec Tryz.prog 200 [.sc (.string s), .sc (.string ⟨#[66, 69, 82, 84, 72]⟩)] (fun d => d = .sc (.bool (decide (5 ≤ s.size) && eqB (s.extract 0 5) berth))) := strings_HasPrefix_D s berth hs (by decide)

theorem impl_ReadFrame_D (s : ByteArray) (hs : s.size ≤ 4611686018427387904) : Spec Tryz.prog 113 [.sc (.string s)] (fun d => ∃ v t c, Frm s v t c ∧ (t.size ≤ 19980 ∧ (c = 0 → inB v 1 9 = true)) ∧ d = .tup [.agg [.sc (.int .i64 v), .sc (.string t)], .sc (.int .i64 c)]) := by
  have e1 : 14 ≤ s.size ∧ le4 s 6 = (s.size : Int) - 14 → (10 + le4 s 6).toNat = s.size - 4 := (by omega); have e2 : Int.toNat 6 = 6 := rfl; have hb5 := bytB_rng s 5; have hl6 := le4_rng s 6; have hle := le4_rng s (s.size - 4)
  refine sp_ (rs := [.cell 2 134, .tmp 3]) (nt := 60) Tryz.func113 rfl fun X hX => ?_
  refine nm_ ?_
  repeat' ((first | contradiction | (with_reducible exact tt_) | (refine bk_ (fun h h' => ?_) (fun h h' => ?_)) | (refine and_ ?_ ?_) | (refine pln_ ?_) | (refine cl_ rfl _ _ (pre_berth s hs) rfl rfl ?_; rintro _ rfl) | (refine cl_ rfl _ _ (within_D _ _ _) rfl rfl ?_; rintro _ rfl) | (refine cl_ rfl _ _ (impl_ReadFixed_D s 6 hs (by decide) (by omega)) rfl rfl ?_; rintro _ rfl) | (refine cl_ rfl _ _ (impl_ReadFixed_D s (10 + le4 s 6) hs (by omega) (by omega)) rfl rfl ?_; rintro _ rfl) | (refine cl_ rfl _ _ (impl_SumOf_D (s.extract 0 (s.size - 4)) (by rw [ByteArray.size_extract]; omega)) rfl rfl ?_; rintro _ ⟨rfl, hz⟩) | fail) <;> (try refine nm_ ?_))
  all_goals (refine ⟨?_⟩)
  all_goals first | contradiction | (exfalso; omega) | (exact ⟨_, _, _, fr1 (by omega), ⟨by decide, by decide⟩, rfl⟩) | (exact ⟨_, _, _, fr2 (by omega) (by first | assumption | exact h'.resolve_left (by omega)), ⟨by decide, by decide⟩, rfl⟩) | (exact ⟨_, _, _, fr3 (by omega) (by first | assumption | exact (by assumption : _ ∧ eqB (s.extract 0 5) berth = true).2) (by unfold inB; rw [Bool.and_eq_false_iff]; simp only [decide_eq_false_iff_not]; omega), ⟨by decide, by decide⟩, rfl⟩) | (exact ⟨_, _, _, fr4 (by omega) (by first | assumption | exact (by assumption : _ ∧ eqB (s.extract 0 5) berth = true).2) (by unfold inB; simp only [Bool.and_eq_true, decide_eq_true_eq]; omega) (by omega), ⟨by decide, by decide⟩, rfl⟩) | (exact ⟨_, _, _, fr5 (by omega) (by first | assumption | exact (by assumption : _ ∧ eqB (s.extract 0 5) berth = true).2) (by unfold inB; simp only [Bool.and_eq_true, decide_eq_true_eq]; omega) (by omega) (by first | omega | (intro e; rw [hsl.2 e] at h'; cases h')), ⟨by decide, by decide⟩, rfl⟩) | (exact ⟨_, _, _, fr0 (by omega) (by first | assumption | exact (by assumption : _ ∧ eqB (s.extract 0 5) berth = true).2) (by unfold inB; simp only [Bool.and_eq_true, decide_eq_true_eq]; omega) (by omega) (by first | omega | exact hsl.1 (by assumption)), ⟨(by rw [ByteArray.size_extract]; omega), fun _ => (by unfold inB; simp only [Bool.and_eq_true, decide_eq_true_eq]; omega)⟩, rfl⟩) | trace_state

theorem spec_ReadFrame_D (s : ByteArray) (hs : s.size ≤ 4611686018427387904) : Spec Tryz.prog 114 [.sc (.string s)] (fun d => ∃ v t c, Frm s v t c ∧ (t.size ≤ 19980 ∧ (c = 0 → inB v 1 9 = true)) ∧ d = .tup [.agg [.sc (.int .i64 v), .sc (.string t)], .sc (.int .i64 c)]) := by
  have e1 : 14 ≤ s.size ∧ le4 s 6 = (s.size : Int) - 14 → (10 + ((s.size : Int) - 14)).toNat = s.size - 4 := (by omega); have e2 : Int.toNat 6 = 6 := rfl; have hb5 := bytB_rng s 5; have hl6 := le4_rng s 6; have hle := le4_rng s (s.size - 4)
  refine sp_ (rs := [.cell 2 134, .tmp 3]) (nt := 54) Tryz.func114 rfl fun X hX => ?_
  refine nm_ ?_
  repeat' ((first | contradiction | (with_reducible exact tt_) | (refine bk_ (fun h h' => ?_) (fun h h' => ?_)) | (refine and_ ?_ ?_) | (refine pln_ ?_) | (refine cl_ rfl _ _ (l01In_D _ _ _) rfl rfl ?_; rintro _ rfl) | (refine cl_ rfl _ _ (spec_ReadFixed_D s 6 hs (by decide) (by omega)) rfl rfl ?_; rintro _ rfl) | (refine cl_ rfl _ _ (spec_Unsealed_D s (by omega) (by omega)) rfl rfl ?_; rintro _ ⟨t, rfl⟩; (have hsl := seal_eq (s := s) (by omega))) | (refine wo_ (id := 14) [0] [(0, true), (1, true), (2, true), (3, true), (4, true), (5, true), (6, true), (7, true), (8, false), (9, true)] ?_) | fail) <;> (try refine nm_ ?_))
  all_goals (refine ⟨?_⟩)
  all_goals first | contradiction | (exfalso; omega) | (exact ⟨_, _, _, fr1 (by omega), ⟨by decide, by decide⟩, rfl⟩) | (exact ⟨_, _, _, fr2 (by omega) (by first | assumption | exact h'.resolve_left (by omega)), ⟨by decide, by decide⟩, rfl⟩) | (exact ⟨_, _, _, fr3 (by omega) (by first | assumption | exact (by assumption : _ ∧ eqB (s.extract 0 5) berth = true).2) (by unfold inB; rw [Bool.and_eq_false_iff]; simp only [decide_eq_false_iff_not]; omega), ⟨by decide, by decide⟩, rfl⟩) | (exact ⟨_, _, _, fr4 (by omega) (by first | assumption | exact (by assumption : _ ∧ eqB (s.extract 0 5) berth = true).2) (by unfold inB; simp only [Bool.and_eq_true, decide_eq_true_eq]; omega) (by omega), ⟨by decide, by decide⟩, rfl⟩) | (exact ⟨_, _, _, fr5 (by omega) (by first | assumption | exact (by assumption : _ ∧ eqB (s.extract 0 5) berth = true).2) (by unfold inB; simp only [Bool.and_eq_true, decide_eq_true_eq]; omega) (by omega) (by first | omega | (intro e; rw [hsl.2 e] at h'; cases h')), ⟨by decide, by decide⟩, rfl⟩) | (exact ⟨_, _, _, fr0 (by omega) (by first | assumption | exact (by assumption : _ ∧ eqB (s.extract 0 5) berth = true).2) (by unfold inB; simp only [Bool.and_eq_true, decide_eq_true_eq]; omega) (by omega) (by first | omega | exact hsl.1 (by assumption)), ⟨(by rw [ByteArray.size_extract]; omega), fun _ => (by unfold inB; simp only [Bool.and_eq_true, decide_eq_true_eq]; omega)⟩, rfl⟩) | trace_state

end Go.Proofs.YtnicgfeajdjimaaGreat
