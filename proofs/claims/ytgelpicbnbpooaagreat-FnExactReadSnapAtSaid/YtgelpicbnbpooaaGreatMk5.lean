/- The laws of what is read with its memory, further. -/
import Derived.Test.YtgelpicbnbpooaaGreatRd12
import Derived.Test.YtgelpicbnbpooaaGreatMk4
namespace Go.Proofs.YtgelpicbnbpooaaGreat
open Go.RowKit
set_option maxRecDepth 100000
set_option maxHeartbeats 1000000

theorem few_rd1 {s : ByteArray} {c : ClusterD} {ok : Bool} (h : Fin (rd1 s) c ok) : Few2 c := ⟨(fin_few h).1, (fin_few h).2⟩
theorem few_at2 {s : ByteArray} {c : ClusterD} {ok : Bool} (h : Fin (at2 s) c ok) : Few2 c := by
  have e := h.eq
  unfold at2 at e
  cases hb : (up23 s).2 with
  | true => rw [hb] at e; exact few_rdC ⟨e⟩
  | false => rw [hb] at e; injection e with e1 e2; subst e1; exact few_zero
theorem few_at {s : ByteArray} {k : Int} {c : ClusterD} {ok : Bool} (h : Fin (rdAt s k) c ok) : Few2 c := by
  have e := h.eq
  unfold rdAt at e
  split at e
  · unfold at1 at e
    cases hb : (up12 s).2 with
    | true => rw [hb] at e; exact few_at2 ⟨e⟩
    | false => rw [hb] at e; injection e with e1 e2; subst e1; exact few_zero
  · split at e
    · exact few_at2 ⟨e⟩
    · split at e
      · exact few_rdC ⟨e⟩
      · injection e with e1 e2; subst e1; exact few_zero
theorem few_st {s : ByteArray} {c : ClusterD} {k : Int} (h : St8 s c k) : Few2 c := by
  have e := h.eq
  unfold rdSt at e
  split at e
  · injection e with e1 e2; subst e1; exact few_zero
  · split at e
    · injection e with e1 e2; subst e1; exact few_zero
    · cases hb : (rdAt (frR s).1.2 (frR s).1.1).2 with
      | true => rw [hb] at e; injection e with e1 e2; exact few_at (ok := true) ⟨Prod.ext e1 hb⟩
      | false => rw [hb] at e; injection e with e1 e2; subst e1; exact few_zero

set_option maxHeartbeats 20000000 in
theorem laws_FnExactReadSnap1_D (s : ByteArray) : Spec Tryz.prog 5 [.sc (.string s)] (fun d => d = .sc (.bool true)) := by
  refine sp_ (rs := [.tmp 2]) (nt := 66) Tryz.func5 rfl fun X hX => ?_
  refine nm_ ?_
  repeat' ((first | contradiction | (with_reducible exact tt_) | (refine bk_ (fun h h' => ?_) (fun h h' => ?_)) | (refine and_ ?_ ?_) | (refine pln_ ?_) | (refine cl_ rfl _ _ (spec_ReadSnap1_C s (by omega)) rfl rfl ?_; rintro _ ⟨c, ok, hf, hc, rfl⟩; (unfold ClusterD.d)) | (refine awH_ rfl (impl_ReadSnap1_C s (by omega)) [] ?_; rintro _ _ _ ⟨c2, ok2, hf2, ⟨hc2, h8, h12, hk2⟩, rfl, rfl, rfl⟩ _; (obtain ⟨rfl, rfl⟩ := fin_same hf2 hf; have hfew := few_rd1 hf; have hr1 := mkHk_rng c.hosts 1 hfew.h; have hr2 := mkPk_rng c.pods (mkHk c.hosts 1) hfew.p)) | (refine awH_ rfl (laws_markCluster_D c 1 (by decide) (by decide) (by omega) (by omega) hfew.h hfew.p) [1, 2] ?_; rintro _ _ _ ⟨rfl, rfl, rfl⟩ _) | (refine bo_ rfl [.cool 1, .frz 1, .cool 2, .frz 2] (laws_eqCluster_D c (rl_fine hc)) ?_; rintro _ rfl; refine ⟨rfl, ?_⟩) | (refine bo_ rfl [.cool 4, .frz 4, .cool 5, .frz 5] (laws_eqCluster_D c (rl_fine hc)) ?_; rintro _ rfl; refine ⟨rfl, ?_⟩) | (refine bo_ rfl [.cool 1, .frz 1, .cool 2, .frz 2] (laws_heldCluster_D c 1 (by decide) (by decide) (by omega) (by omega) hfew.h hfew.p) ?_; rintro _ rfl; refine ⟨rfl, ?_⟩) | fail) <;> (try refine nm_ ?_))
  all_goals (refine ⟨?_⟩)
  all_goals first | contradiction | rfl | (exfalso; omega) | trace_state

set_option maxHeartbeats 20000000 in
theorem laws_FnExactReadSnapAt_D (s : ByteArray) (k : Int) : Spec Tryz.prog 9 [.sc (.string s), .sc (.int .i64 k)] (fun d => d = .sc (.bool true)) := by
  refine sp_ (rs := [.tmp 4]) (nt := 71) Tryz.func9 rfl fun X hX => ?_
  refine nm_ ?_
  repeat' ((first | contradiction | (with_reducible exact tt_) | (refine bk_ (fun h h' => ?_) (fun h h' => ?_)) | (refine and_ ?_ ?_) | (refine pln_ ?_) | (refine cl_ rfl _ _ (spec_ReadSnapAt_D s (by omega) k) rfl rfl ?_; rintro _ ⟨c, ok, hf, hc, rfl⟩; (unfold ClusterD.d)) | (refine awH_ rfl (impl_ReadSnapAt_D s (by omega) k) [] ?_; rintro _ _ _ ⟨c2, ok2, hf2, ⟨hc2, h8, h12⟩, rfl, rfl, rfl⟩ _; (obtain ⟨rfl, rfl⟩ := fin_same hf2 hf; have hfew := few_at hf; have hr1 := mkHk_rng c.hosts 1 hfew.h; have hr2 := mkPk_rng c.pods (mkHk c.hosts 1) hfew.p)) | (refine awH_ rfl (laws_markCluster_D c 1 (by decide) (by decide) (by omega) (by omega) hfew.h hfew.p) [1, 2] ?_; rintro _ _ _ ⟨rfl, rfl, rfl⟩ _) | (refine bo_ rfl [.cool 1, .frz 1, .cool 2, .frz 2] (laws_eqCluster_D c (rl_fine hc)) ?_; rintro _ rfl; refine ⟨rfl, ?_⟩) | (refine bo_ rfl [.cool 4, .frz 4, .cool 5, .frz 5] (laws_eqCluster_D c (rl_fine hc)) ?_; rintro _ rfl; refine ⟨rfl, ?_⟩) | (refine bo_ rfl [.cool 1, .frz 1, .cool 2, .frz 2] (laws_heldCluster_D c 1 (by decide) (by decide) (by omega) (by omega) hfew.h hfew.p) ?_; rintro _ rfl; refine ⟨rfl, ?_⟩) | fail) <;> (try refine nm_ ?_))
  all_goals (refine ⟨?_⟩)
  all_goals first | contradiction | rfl | (exfalso; omega) | trace_state

set_option maxHeartbeats 20000000 in
theorem laws_FnExactReadStored_D (s : ByteArray) : Spec Tryz.prog 10 [.sc (.string s)] (fun d => d = .sc (.bool true)) := by
  refine sp_ (rs := [.tmp 2]) (nt := 66) Tryz.func10 rfl fun X hX => ?_
  refine nm_ ?_
  repeat' ((first | contradiction | (with_reducible exact tt_) | (refine bk_ (fun h h' => ?_) (fun h h' => ?_)) | (refine and_ ?_ ?_) | (refine pln_ ?_) | (refine cl_ rfl _ _ (spec_ReadStored_D s (by omega)) rfl rfl ?_; rintro _ ⟨c, ok, hf, hc, rfl⟩; (unfold ClusterD.d)) | (refine awH_ rfl (impl_ReadStored_D s (by omega)) [] ?_; rintro _ _ _ ⟨c2, ok2, hf2, ⟨hc2, h8, h12⟩, rfl, rfl, rfl⟩ _; (obtain ⟨rfl, rfl⟩ := hf2.same hf; have hfew := few_st hf; have hr1 := mkHk_rng c.hosts 1 hfew.h; have hr2 := mkPk_rng c.pods (mkHk c.hosts 1) hfew.p)) | (refine awH_ rfl (laws_markCluster_D c 1 (by decide) (by decide) (by omega) (by omega) hfew.h hfew.p) [1, 2] ?_; rintro _ _ _ ⟨rfl, rfl, rfl⟩ _) | (refine bo_ rfl [.cool 1, .frz 1, .cool 2, .frz 2] (laws_eqCluster_D c (rl_fine hc)) ?_; rintro _ rfl; refine ⟨rfl, ?_⟩) | (refine bo_ rfl [.cool 4, .frz 4, .cool 5, .frz 5] (laws_eqCluster_D c (rl_fine hc)) ?_; rintro _ rfl; refine ⟨rfl, ?_⟩) | (refine bo_ rfl [.cool 1, .frz 1, .cool 2, .frz 2] (laws_heldCluster_D c 1 (by decide) (by decide) (by omega) (by omega) hfew.h hfew.p) ?_; rintro _ rfl; refine ⟨rfl, ?_⟩) | fail) <;> (try refine nm_ ?_))
  all_goals (refine ⟨?_⟩)
  all_goals first | contradiction | rfl | (exfalso; omega) | trace_state

end Go.Proofs.YtgelpicbnbpooaaGreat
