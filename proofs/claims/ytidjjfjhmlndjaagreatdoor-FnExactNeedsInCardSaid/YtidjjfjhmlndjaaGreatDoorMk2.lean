/- Marks are written into rows that hold rows. -/
import Derived.Test.YtidjjfjhmlndjaaGreatDoorMk1
namespace Go.Proofs.YtidjjfjhmlndjaaGreatDoor
open Go.RowKit
set_option linter.unusedVariables false
set_option linter.unusedSimpArgs false
set_option maxRecDepth 100000
set_option maxHeartbeats 1000000

def mkNd : List NeedD → Int → List NeedD
  | [], _ => []
  | x :: r, k => ⟨markT k.toNat, k + 1, mkW x.values.length (k + 1 + 1)⟩ :: mkNd r (k + 1 + 1 + 1 * (x.values.length : Int))
def mkNk : List NeedD → Int → Int
  | [], k => k
  | x :: r, k => mkNk r (k + 1 + 1 + 1 * (x.values.length : Int))
def mkH1 (x : HostD) (k : Int) : HostD := ⟨markT k.toNat, mkL x.labels.length (k + 1), k + 1 + 2 * (x.labels.length : Int), k + 1 + 2 * (x.labels.length : Int) + 1, k + 1 + 2 * (x.labels.length : Int) + 1 + 1, mkT x.taints.length (k + 1 + 2 * (x.labels.length : Int) + 1 + 1 + 1)⟩
def mkHk1 (x : HostD) (k : Int) : Int := k + 1 + 2 * (x.labels.length : Int) + 1 + 1 + 1 + 3 * (x.taints.length : Int)
def mkHd : List HostD → Int → List HostD
  | [], _ => []
  | x :: r, k => mkH1 x k :: mkHd r (mkHk1 x k)
def mkHk : List HostD → Int → Int
  | [], k => k
  | x :: r, k => mkHk r (mkHk1 x k)
/-- How many marks a row takes, at most. -/
structure Few {α : Type} (P : α → Prop) (xs : List α) : Prop where
  out : ∀ x, x ∈ xs → P x
theorem Few.head {α : Type} {P : α → Prop} {x : α} {r : List α} (h : Few P (x :: r)) : P x := h.out x (List.mem_cons_self ..)
theorem Few.tail {α : Type} {P : α → Prop} {x : α} {r : List α} (h : Few P (x :: r)) : Few P r := ⟨fun y hy => h.out y (List.mem_cons_of_mem _ hy)⟩
abbrev needFew (x : NeedD) : Prop := x.values.length ≤ 1048576
def mkP1 (x : PlacedD) (k : Int) : PlacedD := ⟨⟨markT k.toNat, mkL x.pod.labels.length (k + 1), k + 1 + 2 * (x.pod.labels.length : Int), k + 1 + 2 * (x.pod.labels.length : Int) + 1, k + 1 + 2 * (x.pod.labels.length : Int) + 1 + 1, mkNd x.pod.needs (k + 1 + 2 * (x.pod.labels.length : Int) + 1 + 1 + 1), mkR x.pod.tolers.length (mkNk x.pod.needs (k + 1 + 2 * (x.pod.labels.length : Int) + 1 + 1 + 1))⟩, markT (mkNk x.pod.needs (k + 1 + 2 * (x.pod.labels.length : Int) + 1 + 1 + 1) + 4 * (x.pod.tolers.length : Int)).toNat, mkNk x.pod.needs (k + 1 + 2 * (x.pod.labels.length : Int) + 1 + 1 + 1) + 4 * (x.pod.tolers.length : Int) + 1⟩
def mkPk1 (x : PlacedD) (k : Int) : Int := mkNk x.pod.needs (k + 1 + 2 * (x.pod.labels.length : Int) + 1 + 1 + 1) + 4 * (x.pod.tolers.length : Int) + 1 + 1
def mkPd : List PlacedD → Int → List PlacedD
  | [], _ => []
  | x :: r, k => mkP1 x k :: mkPd r (mkPk1 x k)
def mkPk : List PlacedD → Int → Int
  | [], k => k
  | x :: r, k => mkPk r (mkPk1 x k)
theorem mkNd_len : ∀ (r : List NeedD) (k : Int), (mkNd r k).length = r.length
  | [], _ => rfl
  | x :: r, k => by rw [mkNd, List.length_cons, mkNd_len r, List.length_cons]
theorem mkNk_rng : ∀ (r : List NeedD) (k : Int), Few needFew r → k ≤ mkNk r k ∧ mkNk r k ≤ k + 1048578 * (r.length : Int)
  | [], k, _ => ⟨Int.le_refl _, by show k ≤ k + 1048578 * ((0 : Nat) : Int); omega⟩
  | x :: r, k, h => by
    have h1 := mkNk_rng r (k + 1 + 1 + 1 * (x.values.length : Int)) h.tail
    have h2 : x.values.length ≤ 1048576 := h.head
    rw [mkNk, List.length_cons]
    omega
abbrev hostFew (x : HostD) : Prop := x.labels.length ≤ 1048576 ∧ x.taints.length ≤ 1048576
theorem mkHk_rng : ∀ (r : List HostD) (k : Int), Few hostFew r → k ≤ mkHk r k ∧ mkHk r k ≤ k + 5242884 * (r.length : Int)
  | [], k, _ => ⟨Int.le_refl _, by show k ≤ k + 5242884 * ((0 : Nat) : Int); omega⟩
  | x :: r, k, h => by
    have h1 := mkHk_rng r (mkHk1 x k) h.tail
    have h2 : x.labels.length ≤ 1048576 := h.head.1
    have h3 : x.taints.length ≤ 1048576 := h.head.2
    rw [mkHk, List.length_cons]
    unfold mkHk1 at *
    omega
abbrev placedFew (x : PlacedD) : Prop := x.pod.labels.length ≤ 1048576 ∧ x.pod.needs.length ≤ 1048576 ∧ Few needFew x.pod.needs ∧ x.pod.tolers.length ≤ 1048576
theorem laws_markNeedS_D (xs : List NeedD) (k0 : Int) (h0 : 0 < k0) (h1 : k0 ≤ 1500000000000000000) (hn : xs.length ≤ 1048576) (hf : Few needFew xs) : SpecH Tryz.prog 24 [.own 0 0 xs.length, .sc (.int .i64 k0)] [(0, ⟨103, 3, xs.length, needsT xs⟩)] 1 (fun d os' nb' => d = .sc (.int .i64 (mkNk xs k0)) ∧ os' = [(0, ⟨103, 3, xs.length, needsT (mkNd xs k0)⟩)] ∧ nb' = 1) := by
  have ex0 := @needsT_s0; have ex1 := @needsT_s1; have ex2 := @needsT_s2; have ex3 := @needsT_g2; have ex4 := @needsT_cons; have ex5 := @needsT_mid; have ex6 := @mkNd_len; have ex7 := @mkW_len; have ex8 := @mkL_len; have ex9 := @mkT_len; have ex10 := @mkR_len
  refine spH_ (rs := [.tmp 4]) (nt := 35) Tryz.func24 rfl fun X hX => ?_
  refine nm_ ?_
  repeat' ((first | contradiction | (with_reducible exact tt_) | ((with_reducible show Wk (AwStepF _ _ _ _ _ _ _)); first | (refine cl_ rfl _ _ (laws_markText_D _ (by omega) (by omega)) rfl rfl ?_; rintro _ ⟨rfl, hz⟩) | (refine awH_ rfl (laws_markStringS_D x.values (k + 1 + 1) (by omega) (by omega) (by omega)) [1] ?_; rintro _ _ _ ⟨rfl, rfl, rfl⟩ _)) | ((with_reducible show Wk (AwStep _ _ _ _ _)); first | (refine opn_ 0 (a.length * 3 + 2) ?_) | (refine pln_ ?_)) | ((with_reducible show Wk (AwCode _ _ _ _ _)); first | (refine lpK_ (ι := List NeedD × List NeedD × Int) [] [0] 0x23 (fun ⟨a, r, k⟩ => [(1, .sc (.int .i64 k)), (5, .sc (.int .i64 (a.length : Int)))]) (fun ⟨a, r, k⟩ => [(0, ⟨103, 3, xs.length, needsT a ++ needsT r⟩)]) (fun ⟨a, r, k⟩ => a ++ mkNd r k = mkNd xs k0 ∧ (a.length + r.length = xs.length ∧ k + 1048578 * (r.length : Int) ≤ k0 + 1048578 * (xs.length : Int) ∧ k0 ≤ k) ∧ mkNk r k = mkNk xs k0 ∧ Few needFew r) (fun ⟨a, r, k⟩ => r.length) ([], xs, k0) ?_ ?_; (focus (exact ⟨rfl, ⟨by simp, Int.le_refl _, Int.le_refl _⟩, rfl, hf⟩)); rintro _ hN0 ⟨a, r, k⟩ hinv; (try dsimp only at hinv); obtain ⟨hR, ⟨hlen, hk, hkk⟩, hK, hF⟩ := hinv; replace hR := Lib.hid hR; replace hK := Lib.hid hK; rcases r with _ | ⟨x, r⟩ <;> (simp only [List.length_nil, List.length_cons] at hlen hk; (try (have hx := hF.head; have hF2 := hF.tail; replace hx : x.values.length ≤ 1048576 := hx))); skip)) | ((with_reducible show Wk (boolK _ _ _ _)); first | (refine bk_ (fun h h' => ?_) (fun h h' => ?_))) | ((with_reducible show Wk (_ ∧ _)); first | (refine and_ ?_ ?_)) | ((with_reducible show Wk (retOkH _ _ _ _ _)); first | (refine rh_ [] ?_)) | (refine hN0.run ((a ++ [⟨markT k.toNat, k + 1, mkW x.values.length (k + 1 + 1)⟩], r, _)) [.abs 1 0] [0] ?_ ?_; (focus (exact ⟨mk_step hR.out rfl, ⟨by simp; omega, by show _ + 1048578 * (r.length : Int) ≤ _; omega, by show k0 ≤ _; omega⟩, hK.out, hF2⟩)); (focus (show r.length < (x :: r).length; simp))) | fail) <;> (try refine nm_ ?_))
  all_goals clear ex0 ex1 ex2 ex3 ex4 ex5 ex6 ex7 ex8 ex9 ex10
  all_goals (refine ⟨?_⟩)
  all_goals (try (first | contradiction | (exfalso; omega)))
  all_goals (have e := mk_end hR.out rfl; have ek := hK.out; subst e; first | rfl | (rw [← ek]; rfl) | trace_state)

theorem laws_markHostS_D (xs : List HostD) (k0 : Int) (h0 : 0 < k0) (h1 : k0 ≤ 1500000000000000000) (hn : xs.length ≤ 1048576) (hf : Few hostFew xs) : SpecH Tryz.prog 58 [.own 0 0 xs.length, .sc (.int .i64 k0)] [(0, ⟨63, 6, xs.length, hostsT xs⟩)] 1 (fun d os' nb' => d = .sc (.int .i64 (mkHk xs k0)) ∧ os' = [(0, ⟨63, 6, xs.length, hostsT (mkHd xs k0)⟩)] ∧ nb' = 1) := by
  have ex0 := @hostsT_s0; have ex1 := @hostsT_s1; have ex2 := @hostsT_s2; have ex3 := @hostsT_s3; have ex4 := @hostsT_s4; have ex5 := @hostsT_s5; have ex6 := @hostsT_g1; have ex7 := @hostsT_g5; have ex8 := @hostsT_cons; have ex9 := @hostsT_mid; have ex10 := @mkNd_len; have ex11 := @mkW_len; have ex12 := @mkL_len; have ex13 := @mkT_len; have ex14 := @mkR_len; have ex15 := @mkH1.eq_1
  refine spH_ (rs := [.tmp 4]) (nt := 56) Tryz.func58 rfl fun X hX => ?_
  refine nm_ ?_
  repeat' ((first | contradiction | (with_reducible exact tt_) | ((with_reducible show Wk (AwStepF _ _ _ _ _ _ _)); first | (refine cl_ rfl _ _ (laws_markText_D _ (by omega) (by omega)) rfl rfl ?_; rintro _ ⟨rfl, hz⟩) | (refine awH_ rfl (laws_markLabelS_D x.labels (k + 1) (by omega) (by omega) (by omega)) [1] ?_; rintro _ _ _ ⟨rfl, rfl, rfl⟩ _) | (refine awH_ rfl (laws_markTaintS_D x.taints (k + 1 + 2 * (x.labels.length : Int) + 1 + 1 + 1) (by omega) (by omega) (by omega)) [2] ?_; rintro _ _ _ ⟨rfl, rfl, rfl⟩ _)) | ((with_reducible show Wk (AwStep _ _ _ _ _)); first | (refine opn_ 0 (a.length * 6 + 1) ?_) | (refine opn_ 0 (a.length * 6 + 5) ?_) | (refine pln_ ?_)) | ((with_reducible show Wk (AwCode _ _ _ _ _)); first | (refine lpK_ (ι := List HostD × List HostD × Int) [] [0] 0x23 (fun ⟨a, r, k⟩ => [(1, .sc (.int .i64 k)), (5, .sc (.int .i64 (a.length : Int)))]) (fun ⟨a, r, k⟩ => [(0, ⟨63, 6, xs.length, hostsT a ++ hostsT r⟩)]) (fun ⟨a, r, k⟩ => a ++ mkHd r k = mkHd xs k0 ∧ (a.length + r.length = xs.length ∧ k + 5242884 * (r.length : Int) ≤ k0 + 5242884 * (xs.length : Int) ∧ k0 ≤ k) ∧ mkHk r k = mkHk xs k0 ∧ Few hostFew r) (fun ⟨a, r, k⟩ => r.length) ([], xs, k0) ?_ ?_; (focus (exact ⟨rfl, ⟨by simp, Int.le_refl _, Int.le_refl _⟩, rfl, hf⟩)); rintro _ hN0 ⟨a, r, k⟩ hinv; (try dsimp only at hinv); obtain ⟨hR, ⟨hlen, hk, hkk⟩, hK, hF⟩ := hinv; replace hR := Lib.hid hR; replace hK := Lib.hid hK; rcases r with _ | ⟨x, r⟩ <;> (simp only [List.length_nil, List.length_cons] at hlen hk; (try (have hx := hF.head; have hF2 := hF.tail; have hx1 : x.labels.length ≤ 1048576 := hx.1; have hx2 : x.taints.length ≤ 1048576 := hx.2))); skip)) | ((with_reducible show Wk (boolK _ _ _ _)); first | (refine bk_ (fun h h' => ?_) (fun h h' => ?_))) | ((with_reducible show Wk (_ ∧ _)); first | (refine and_ ?_ ?_)) | ((with_reducible show Wk (retOkH _ _ _ _ _)); first | (refine rh_ [] ?_)) | (refine hN0.run ((a ++ [mkH1 x k], r, _)) [.abs 1 0, .abs 2 0] [0] ?_ ?_; (focus (exact ⟨mk_step hR.out rfl, ⟨by simp; omega, by show _ + 5242884 * (r.length : Int) ≤ _; omega, by show k0 ≤ _; omega⟩, hK.out, hF2⟩)); (focus (show r.length < (x :: r).length; simp))) | fail) <;> (try refine nm_ ?_))
  all_goals clear ex0 ex1 ex2 ex3 ex4 ex5 ex6 ex7 ex8 ex9 ex10 ex11 ex12 ex13 ex14 ex15
  all_goals (refine ⟨?_⟩)
  all_goals (try (first | contradiction | (exfalso; omega)))
  all_goals (have e := mk_end hR.out rfl; have ek := hK.out; subst e; first | rfl | (rw [← ek]; rfl) | trace_state)

theorem laws_markPlacedS_D (xs : List PlacedD) (k0 : Int) (h0 : 0 < k0) (h1 : k0 ≤ 10000000000000) (hn : xs.length ≤ 1048576) (hf : Few placedFew xs) : SpecH Tryz.prog 59 [.own 0 0 xs.length, .sc (.int .i64 k0)] [(0, ⟨163, 9, xs.length, placedsT xs⟩)] 1 (fun d os' nb' => d = .sc (.int .i64 (mkPk xs k0)) ∧ os' = [(0, ⟨163, 9, xs.length, placedsT (mkPd xs k0)⟩)] ∧ nb' = 1) := by
  have ex0 := @placedsT_s0; have ex1 := @placedsT_s1; have ex2 := @placedsT_s2; have ex3 := @placedsT_s3; have ex4 := @placedsT_s4; have ex5 := @placedsT_s5; have ex6 := @placedsT_s6; have ex7 := @placedsT_s7; have ex8 := @placedsT_s8; have ex9 := @placedsT_g1; have ex10 := @placedsT_g5; have ex11 := @placedsT_g6; have ex12 := @placedsT_cons; have ex13 := @placedsT_mid; have ex14 := @mkNd_len; have ex15 := @mkW_len; have ex16 := @mkL_len; have ex17 := @mkT_len; have ex18 := @mkR_len; have ex19 := @mkP1.eq_1
  refine spH_ (rs := [.tmp 4]) (nt := 85) Tryz.func59 rfl fun X hX => ?_
  refine nm_ ?_
  repeat' ((first | contradiction | (with_reducible exact tt_) | ((with_reducible show Wk (AwStepF _ _ _ _ _ _ _)); first | (refine cl_ rfl _ _ (laws_markText_D _ (by omega) (by omega)) rfl rfl ?_; rintro _ ⟨rfl, hz⟩) | (refine awH_ rfl (laws_markLabelS_D x.pod.labels (k + 1) (by omega) (by omega) (by omega)) [1] ?_; rintro _ _ _ ⟨rfl, rfl, rfl⟩ _) | (refine awH_ rfl (laws_markNeedS_D x.pod.needs (k + 1 + 2 * (x.pod.labels.length : Int) + 1 + 1 + 1) (by omega) (by omega) (by omega) hx3) [2] ?_; rintro _ _ _ ⟨rfl, rfl, rfl⟩ _) | (refine awH_ rfl (laws_markToleranceS_D x.pod.tolers (mkNk x.pod.needs (k + 1 + 2 * (x.pod.labels.length : Int) + 1 + 1 + 1)) (by omega) (by omega) (by omega)) [3] ?_; rintro _ _ _ ⟨rfl, rfl, rfl⟩ _)) | ((with_reducible show Wk (AwStep _ _ _ _ _)); first | (refine opn_ 0 (a.length * 9 + 1) ?_) | (refine opn_ 0 (a.length * 9 + 5) ?_) | (refine opn_ 0 (a.length * 9 + 6) ?_) | (refine pln_ ?_)) | ((with_reducible show Wk (AwCode _ _ _ _ _)); first | (refine lpK_ (ι := List PlacedD × List PlacedD × Int) [] [0] 0x23 (fun ⟨a, r, k⟩ => [(1, .sc (.int .i64 k)), (5, .sc (.int .i64 (a.length : Int)))]) (fun ⟨a, r, k⟩ => [(0, ⟨163, 9, xs.length, placedsT a ++ placedsT r⟩)]) (fun ⟨a, r, k⟩ => a ++ mkPd r k = mkPd xs k0 ∧ (a.length + r.length = xs.length ∧ k + 1099520016390 * (r.length : Int) ≤ k0 + 1099520016390 * (xs.length : Int) ∧ k0 ≤ k) ∧ mkPk r k = mkPk xs k0 ∧ Few placedFew r) (fun ⟨a, r, k⟩ => r.length) ([], xs, k0) ?_ ?_; (focus (exact ⟨rfl, ⟨by simp, Int.le_refl _, Int.le_refl _⟩, rfl, hf⟩)); rintro _ hN0 ⟨a, r, k⟩ hinv; (try dsimp only at hinv); obtain ⟨hR, ⟨hlen, hk, hkk⟩, hK, hF⟩ := hinv; replace hR := Lib.hid hR; replace hK := Lib.hid hK; rcases r with _ | ⟨x, r⟩ <;> (simp only [List.length_nil, List.length_cons] at hlen hk; (try (have hx := hF.head; have hF2 := hF.tail; have hx1 : x.pod.labels.length ≤ 1048576 := hx.1; have hx2 : x.pod.needs.length ≤ 1048576 := hx.2.1; have hx3 := hx.2.2.1; have hx4 : x.pod.tolers.length ≤ 1048576 := hx.2.2.2; have hnk := mkNk_rng x.pod.needs (k + 1 + 2 * (x.pod.labels.length : Int) + 1 + 1 + 1) hx3))); skip)) | ((with_reducible show Wk (boolK _ _ _ _)); first | (refine bk_ (fun h h' => ?_) (fun h h' => ?_))) | ((with_reducible show Wk (_ ∧ _)); first | (refine and_ ?_ ?_)) | ((with_reducible show Wk (retOkH _ _ _ _ _)); first | (refine rh_ [] ?_)) | (refine hN0.run ((a ++ [mkP1 x k], r, _)) [.abs 1 0, .abs 2 0, .abs 3 0] [0] ?_ ?_; (focus (exact ⟨mk_step hR.out rfl, ⟨by simp; omega, by show _ + 1099520016390 * (r.length : Int) ≤ _; omega, by show k0 ≤ _; omega⟩, hK.out, hF2⟩)); (focus (show r.length < (x :: r).length; simp))) | fail) <;> (try refine nm_ ?_))
  all_goals clear ex0 ex1 ex2 ex3 ex4 ex5 ex6 ex7 ex8 ex9 ex10 ex11 ex12 ex13 ex14 ex15 ex16 ex17 ex18 ex19
  all_goals (refine ⟨?_⟩)
  all_goals (try (first | contradiction | (exfalso; omega)))
  all_goals (have e := mk_end hR.out rfl; have ek := hK.out; subst e; first | rfl | (rw [← ek]; rfl) | trace_state)

theorem laws_markCluster_D (c : ClusterD) (k0 : Int) (h0 : 0 < k0) (h1 : k0 ≤ 1000000000) (hh : c.hosts.length ≤ 1048576) (hp : c.pods.length ≤ 1048576) (hfh : Few hostFew c.hosts) (hfp : Few placedFew c.pods) : SpecH Tryz.prog 13 [.agg [.own 0 0 c.hosts.length, .own 1 0 c.pods.length, .sc (.int .i64 c.next), .sc (.int .i64 c.w1), .sc (.int .i64 c.w2), .sc (.int .i64 c.w3)], .sc (.int .i64 k0)] [(0, ⟨63, 6, c.hosts.length, hostsT c.hosts⟩), (1, ⟨163, 9, c.pods.length, placedsT c.pods⟩)] 2 (fun d os' nb' => d = .sc (.int .i64 (mkPk c.pods (mkHk c.hosts k0))) ∧ os' = [(0, ⟨63, 6, c.hosts.length, hostsT (mkHd c.hosts k0)⟩), (1, ⟨163, 9, c.pods.length, placedsT (mkPd c.pods (mkHk c.hosts k0))⟩)] ∧ nb' = 2) := by
  have hr := mkHk_rng c.hosts k0 hfh
  refine spH_ (rs := [.tmp 4]) (nt := 14) Tryz.func13 rfl fun X hX => ?_
  refine nm_ ?_
  repeat' ((first | contradiction | (with_reducible exact tt_) | ((with_reducible show Wk (AwStepF _ _ _ _ _ _ _)); first | (refine awH_ rfl (laws_markHostS_D c.hosts k0 h0 (by omega) hh hfh) [0] ?_; rintro _ _ _ ⟨rfl, rfl, rfl⟩ _) | (refine awH_ rfl (laws_markPlacedS_D c.pods (mkHk c.hosts k0) (by omega) (by omega) hp hfp) [1] ?_; rintro _ _ _ ⟨rfl, rfl, rfl⟩ _)) | ((with_reducible show Wk (AwStep _ _ _ _ _)); first | (refine pln_ ?_)) | ((with_reducible show Wk (boolK _ _ _ _)); first | (refine bk_ (fun h h' => ?_) (fun h h' => ?_))) | ((with_reducible show Wk (_ ∧ _)); first | (refine and_ ?_ ?_)) | ((with_reducible show Wk (retOkH _ _ _ _ _)); first | (refine rh_ [] ?_)) | fail) <;> (try refine nm_ ?_))
  all_goals (refine ⟨?_⟩)
  all_goals first | rfl | exact ⟨rfl, rfl, rfl⟩ | exact ⟨rfl, rfl⟩ | trace_state

end Go.Proofs.YtidjjfjhmlndjaaGreatDoor
