/- Rd11 (what is wanted of them). -/
import Derived.Test.YtnicgfeajdjimaaGreatBRdf
namespace Go.Proofs.YtnicgfeajdjimaaGreat
open Go.RowKit
set_option linter.unusedVariables false
set_option linter.unusedSimpArgs false
set_option maxRecDepth 100000
set_option maxHeartbeats 4000000
theorem impl_ReadFixed_D (s : ByteArray) (p : Int) (hs : s.size ≤ 4611686018427387904) (hp : 0 ≤ p) (h4 : p + 4 ≤ s.size) : Spec Tryz.prog 201 [.sc (.string s), .sc (.int .i64 p), .sc (.int .i64 4)] (fun d => d = .tup [.sc (.int .i64 (le4 s p.toNat)), .sc (.bool true)]) := by
  have ex0 := @shl8; have ex1 := @orF8
  refine sp_ (rs := [.tmp 6, .tmp 7]) (nt := 53) Tryz.func201 rfl fun X hX => ?_
  refine nm_ ?_
  repeat' ((first | contradiction | (with_reducible exact tt_) | (refine bk_ (fun h h' => ?_) (fun h h' => ?_)) | (refine and_ ?_ ?_) | (refine pln_ ?_) | (refine cl_ rfl _ _ (within_D _ _ _) rfl rfl ?_; rintro _ rfl) | (refine lpU_ 0x3000000103 (ι := Nat × Int) (fun ⟨k, n⟩ => [(8, .sc (.int .i64 n)), (37, .sc (.int .i64 (k : Int)))]) (fun ⟨k, n⟩ => k ≤ 4 ∧ n = leN s p.toNat k) (fun ⟨k, n⟩ => 4 - k) (0, 0) ?_ ?_; (focus (exact ⟨Nat.zero_le _, rfl⟩)); rintro _ hN0 ⟨k, n⟩ hinv; (try dsimp only at hinv); obtain ⟨hk, hn⟩ := hinv; have hr := leN_rng s p.toNat k; rw [← hn] at hr; replace hn := Lib.hid hn; have hb := bytB_rng s (p.toNat + k); have hq : (p + (k : Int)).toNat = p.toNat + k := (by omega); skip) | (refine hN0.go ((k + 1, _)) ?_ ?_; (focus (refine ⟨by show k + 1 ≤ 4; omega, ?_⟩; show _ = leN s p.toNat (k + 1); rw [leN, ← hn.out])); (focus (show 4 - (k + 1) < 4 - k; omega))) | fail) <;> (try refine nm_ ?_))
  all_goals clear ex0 ex1
  all_goals (refine ⟨?_⟩)
  all_goals first | contradiction | (exfalso; omega) | (obtain rfl : k = 4 := (by omega); rw [hn.out, leN_4]) | trace_state
theorem internal_stringslite_HasPrefix_D (s t : ByteArray) (_hs : s.size ≤ 4611686018427387904) (ht : t.size ≤ 4611686018427387904) : Spec Tryz.prog 286 [.sc (.string s), .sc (.string t)] (fun d => d = .sc (.bool (decide (t.size ≤ s.size) && eqB (s.extract 0 t.size) t))) := by
  refine sp_ (rs := [.tmp 4]) (nt := 18) Tryz.func286 rfl fun X hX => ?_
  refine nm_ ?_
  repeat' ((first | contradiction | (with_reducible exact tt_) | (refine bk_ (fun h h' => ?_) (fun h h' => ?_)) | (refine and_ ?_ ?_) | (refine pln_ ?_) | fail) <;> (try refine nm_ ?_))
  all_goals (refine ⟨?_⟩)
  all_goals first | contradiction | (exfalso; omega) | rfl | (simp_all; done) | (rw [decide_eq_true (by omega)]; rfl) | (rw [decide_eq_false (by omega)]; rfl) | trace_state
theorem strings_HasPrefix_D (s t : ByteArray) (hs : s.size ≤ 4611686018427387904) (ht : t.size ≤ 4611686018427387904) : Spec Tryz.prog 200 [.sc (.string s), .sc (.string t)] (fun d => d = .sc (.bool (decide (t.size ≤ s.size) && eqB (s.extract 0 t.size) t))) := by
  refine sp_ (rs := [.tmp 4]) (nt := 8) Tryz.func200 rfl fun X hX => ?_
  refine nm_ ?_
  repeat' ((first | contradiction | (with_reducible exact tt_) | (refine bk_ (fun h h' => ?_) (fun h h' => ?_)) | (refine and_ ?_ ?_) | (refine pln_ ?_) | (refine cl_ rfl _ _ (internal_stringslite_HasPrefix_D s t hs ht) rfl rfl ?_; rintro _ rfl) | fail) <;> (try refine nm_ ?_))
  all_goals (refine ⟨?_⟩)
  all_goals first | contradiction | (exfalso; omega) | rfl | trace_state
theorem pre_berth (s : ByteArray) (hs : s.size ≤ 4611686018427387904) : Spec Tryz.prog 200 [.sc (.string s), .sc (.string ⟨#[66, 69, 82, 84, 72]⟩)] (fun d => d = .sc (.bool (decide (5 ≤ s.size) && eqB (s.extract 0 5) berth))) := strings_HasPrefix_D s berth hs (by decide)
theorem impl_ReadFrame_D (s : ByteArray) (hs : s.size ≤ 4611686018427387904) : Spec Tryz.prog 113 [.sc (.string s)] (fun d => ∃ v t c, Frm s v t c ∧ (t.size ≤ 19980 ∧ (c = 0 → inB v 1 9 = true)) ∧ d = .tup [.agg [.sc (.int .i64 v), .sc (.string t)], .sc (.int .i64 c)]) := by
  have e1 : 14 ≤ s.size ∧ le4 s 6 = (s.size : Int) - 14 → (10 + le4 s 6).toNat = s.size - 4 := (by omega); have e2 : Int.toNat 6 = 6 := rfl; have hb5 := bytB_rng s 5; have hl6 := le4_rng s 6; have hle := le4_rng s (s.size - 4)
  refine sp_ (rs := [.cell 2 134, .tmp 3]) (nt := 60) Tryz.func113 rfl fun X hX => ?_
  refine nm_ ?_
  repeat' ((first | contradiction | (with_reducible exact tt_) | (refine bk_ (fun h h' => ?_) (fun h h' => ?_)) | (refine and_ ?_ ?_) | (refine pln_ ?_) | (refine cl_ rfl _ _ (pre_berth s hs) rfl rfl ?_; rintro _ rfl) | (refine cl_ rfl _ _ (within_D _ _ _) rfl rfl ?_; rintro _ rfl) | (refine cl_ rfl _ _ (impl_ReadFixed_D s 6 hs (by decide) (by omega)) rfl rfl ?_; rintro _ rfl) | (refine cl_ rfl _ _ (impl_ReadFixed_D s (10 + le4 s 6) hs (by omega) (by omega)) rfl rfl ?_; rintro _ rfl) | (refine cl_ rfl _ _ (impl_SumOf_D (s.extract 0 (s.size - 4)) (by rw [ByteArray.size_extract]; omega)) rfl rfl ?_; rintro _ ⟨rfl, hz⟩) | fail) <;> (try refine nm_ ?_))
  all_goals (refine ⟨?_⟩)
  all_goals first | contradiction | (exfalso; omega) | (exact ⟨_, _, _, fr1 (by omega), ⟨by decide, by decide⟩, rfl⟩) | (exact ⟨_, _, _, fr2 (by omega) (by first | assumption | exact h'.resolve_left (by omega)), ⟨by decide, by decide⟩, rfl⟩) | (exact ⟨_, _, _, fr3 (by omega) (by first | assumption | exact (by assumption : _ ∧ eqB (s.extract 0 5) berth = true).2) (by unfold inB; rw [Bool.and_eq_false_iff]; simp only [decide_eq_false_iff_not]; omega), ⟨by decide, by decide⟩, rfl⟩) | (exact ⟨_, _, _, fr4 (by omega) (by first | assumption | exact (by assumption : _ ∧ eqB (s.extract 0 5) berth = true).2) (by unfold inB; simp only [Bool.and_eq_true, decide_eq_true_eq]; omega) (by omega), ⟨by decide, by decide⟩, rfl⟩) | (exact ⟨_, _, _, fr5 (by omega) (by first | assumption | exact (by assumption : _ ∧ eqB (s.extract 0 5) berth = true).2) (by unfold inB; simp only [Bool.and_eq_true, decide_eq_true_eq]; omega) (by omega) (by first | omega | (intro e; rw [hsl.2 e] at h'; cases h')), ⟨by decide, by decide⟩, rfl⟩) | (exact ⟨_, _, _, fr0 (by omega) (by first | assumption | exact (by assumption : _ ∧ eqB (s.extract 0 5) berth = true).2) (by unfold inB; simp only [Bool.and_eq_true, decide_eq_true_eq]; omega) (by omega) (by first | omega | exact hsl.1 (by assumption)), ⟨(by rw [ByteArray.size_extract]; omega), fun _ => (by unfold inB; simp only [Bool.and_eq_true, decide_eq_true_eq]; omega)⟩, rfl⟩) | trace_state
end Go.Proofs.YtnicgfeajdjimaaGreat
