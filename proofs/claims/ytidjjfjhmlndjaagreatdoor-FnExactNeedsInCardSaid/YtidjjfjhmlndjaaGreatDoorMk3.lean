/- Marks that are held. -/
import Derived.Test.YtidjjfjhmlndjaaGreatDoorMk2
namespace Go.Proofs.YtidjjfjhmlndjaaGreatDoor
open Go.RowKit
set_option linter.unusedVariables false
set_option linter.unusedSimpArgs false
set_option maxRecDepth 100000
set_option maxHeartbeats 1000000

/-! What stands at a place of the marks. -/
theorem mkW_at : ∀ (n : Nat) (k : Int) (i : Nat), i < n → (mkW n k).getD i default = markT (k + 1 * i).toNat
  | n + 1, k, 0, _ => by show markT k.toNat = _; rw [show k + 1 * ((0 : Nat) : Int) = k by omega]
  | n + 1, k, i + 1, h => by
    show (mkW n (k + 1)).getD i default = _
    rw [mkW_at n (k + 1) i (by omega), show k + 1 + 1 * (i : Int) = k + 1 * ((i + 1 : Nat) : Int) by omega]
theorem mkL_at : ∀ (n : Nat) (k : Int) (i : Nat), i < n → (mkL n k).getD i default = ⟨markT (k + 2 * i).toNat, markT (k + 2 * i + 1).toNat⟩
  | n + 1, k, 0, _ => by show (⟨markT k.toNat, markT (k + 1).toNat⟩ : LabelD) = _; rw [show k + 2 * ((0 : Nat) : Int) = k by omega]
  | n + 1, k, i + 1, h => by
    show (mkL n (k + 1 + 1)).getD i default = _
    rw [mkL_at n (k + 1 + 1) i (by omega), show k + 1 + 1 + 2 * (i : Int) = k + 2 * ((i + 1 : Nat) : Int) by omega]
theorem mkT_at : ∀ (n : Nat) (k : Int) (i : Nat), i < n → (mkT n k).getD i default = ⟨markT (k + 3 * i).toNat, markT (k + 3 * i + 1).toNat, k + 3 * i + 1 + 1⟩
  | n + 1, k, 0, _ => by show (⟨markT k.toNat, markT (k + 1).toNat, k + 1 + 1⟩ : TaintD) = _; rw [show k + 3 * ((0 : Nat) : Int) = k by omega]
  | n + 1, k, i + 1, h => by
    show (mkT n (k + 1 + 1 + 1)).getD i default = _
    rw [mkT_at n (k + 1 + 1 + 1) i (by omega), show k + 1 + 1 + 1 + 3 * (i : Int) = k + 3 * ((i + 1 : Nat) : Int) by omega]
theorem mkR_at : ∀ (n : Nat) (k : Int) (i : Nat), i < n → (mkR n k).getD i default = ⟨markT (k + 4 * i).toNat, (k + 4 * i + 1).tmod 3 == 0, markT (k + 4 * i + 1 + 1).toNat, k + 4 * i + 1 + 1 + 1⟩
  | n + 1, k, 0, _ => by show (⟨markT k.toNat, (k + 1).tmod 3 == 0, markT (k + 1 + 1).toNat, k + 1 + 1 + 1⟩ : TolerD) = _; rw [show k + 4 * ((0 : Nat) : Int) = k by omega]
  | n + 1, k, i + 1, h => by
    show (mkR n (k + 1 + 1 + 1 + 1)).getD i default = _
    rw [mkR_at n (k + 1 + 1 + 1 + 1) i (by omega), show k + 1 + 1 + 1 + 1 + 4 * (i : Int) = k + 4 * ((i + 1 : Nat) : Int) by omega]

theorem mkPk_rng : ∀ (r : List PlacedD) (k : Int), Few placedFew r → k ≤ mkPk r k ∧ mkPk r k ≤ k + 1099520016390 * (r.length : Int)
  | [], k, _ => ⟨Int.le_refl _, by show k ≤ k + 1099520016390 * ((0 : Nat) : Int); omega⟩
  | x :: r, k, h => by
    have h1 := mkPk_rng r (mkPk1 x k) h.tail
    have h2 : x.pod.labels.length ≤ 1048576 := h.head.1
    have h3 : x.pod.needs.length ≤ 1048576 := h.head.2.1
    have h4 := mkNk_rng x.pod.needs (k + 1 + 2 * (x.pod.labels.length : Int) + 1 + 1 + 1) h.head.2.2.1
    have h5 : x.pod.tolers.length ≤ 1048576 := h.head.2.2.2
    rw [mkPk, List.length_cons]
    unfold mkPk1 at *
    omega
theorem eqB_self (a : ByteArray) : eqB a a = true := beq_self_eq_true _
theorem at_drop {α : Type} [Inhabited α] {l t : List α} {x : α} {i : Nat} (h : l.drop i = x :: t) : l.getD i default = x ∧ l.drop (i + 1) = t := by
  have h1 : i < l.length := by
    have := congrArg List.length h
    simp at this
    omega
  rw [List.drop_eq_getElem_cons h1] at h
  injection h with h2 h3
  exact ⟨by rw [List.getD_eq_getElem?_getD, List.getElem?_eq_getElem h1]; exact h2, h3⟩
theorem mkHd_len : ∀ (r : List HostD) (k : Int), (mkHd r k).length = r.length
  | [], _ => rfl
  | x :: r, k => by rw [mkHd, List.length_cons, mkHd_len r, List.length_cons]
theorem mkPd_len : ∀ (r : List PlacedD) (k : Int), (mkPd r k).length = r.length
  | [], _ => rfl
  | x :: r, k => by rw [mkPd, List.length_cons, mkPd_len r, List.length_cons]

theorem laws_heldStringS_D (n : Nat) (k0 : Int) (h0 : 0 < k0) (h1 : k0 ≤ 1900000000000000000) (hn : n ≤ 4194304) : Spec Tryz.prog 15 [.sl n (strsD (mkW n k0)), .sc (.int .i64 k0)] (fun d => d = .sc (.int .i64 (k0 + 1 * (n : Int)))) := by
  have hat := mkW_at n k0; have hln := mkW_len n k0
  have ex0 := @mkW_len
  refine sp_ (rs := [.tmp 4]) (nt := 22) Tryz.func15 rfl fun X hX => ?_
  refine nm_ ?_
  repeat' ((first | contradiction | (with_reducible exact tt_) | ((with_reducible show Wk (AwStepF _ _ _ _ _ _ _)); first | (refine cl_ rfl _ _ (laws_markText_D _ (by omega) (by omega)) rfl rfl ?_; rintro _ ⟨rfl, hz⟩)) | ((with_reducible show Wk (AwStep _ _ _ _ _)); first | (refine pln_ ?_)) | ((with_reducible show Wk (AwCode _ _ _ _ _)); first | (refine wo_ (id := 4) [] [(0, true), (1, true), (2, true), (3, true), (4, true), (5, false), (6, true)] ?_) | (refine lpU_ 0x23 (ι := Nat × Int) (fun ⟨i, k⟩ => [(1, .sc (.int .i64 k)), (5, .sc (.int .i64 (i : Int)))]) (fun ⟨i, k⟩ => i ≤ n ∧ k = k0 + 1 * (i : Int)) (fun ⟨i, k⟩ => n - i) (0, k0) ?_ ?_; (focus (exact ⟨Nat.zero_le _, by omega⟩)); rintro _ hN0 ⟨i, k⟩ hinv; (try dsimp only at hinv); obtain ⟨hi, hk⟩ := hinv; by_cases hlt : i < n; have hx := hat i hlt; subst hk; skip)) | ((with_reducible show Wk (boolK _ _ _ _)); first | (refine bk_ (fun h h' => ?_) (fun h h' => ?_))) | ((with_reducible show Wk (_ ∧ _)); first | (refine and_ ?_ ?_)) | (refine hN0.go ((i + 1, _)) ?_ ?_; (focus (exact ⟨by show i + 1 ≤ n; omega, by show _ = k0 + 1 * ((i + 1 : Nat) : Int); omega⟩)); (focus (show n - (i + 1) < n - i; omega))) | fail) <;> (try refine nm_ ?_))
  all_goals clear ex0
  all_goals (refine ⟨?_⟩)
  all_goals first | contradiction | (exfalso; omega) | (exfalso; simp_all; done) | (obtain rfl : i = n := (by omega); rfl) | trace_state

theorem laws_heldLabelS_D (n : Nat) (k0 : Int) (h0 : 0 < k0) (h1 : k0 ≤ 1900000000000000000) (hn : n ≤ 1048576) : Spec Tryz.prog 88 [.sl n (labelsD (mkL n k0)), .sc (.int .i64 k0)] (fun d => d = .sc (.int .i64 (k0 + 2 * (n : Int)))) := by
  have hat := mkL_at n k0; have hln := mkL_len n k0
  have ex0 := @mkL_len
  refine sp_ (rs := [.tmp 4]) (nt := 33) Tryz.func88 rfl fun X hX => ?_
  refine nm_ ?_
  repeat' ((first | contradiction | (with_reducible exact tt_) | ((with_reducible show Wk (AwStepF _ _ _ _ _ _ _)); first | (refine cl_ rfl _ _ (laws_markText_D _ (by omega) (by omega)) rfl rfl ?_; rintro _ ⟨rfl, hz⟩)) | ((with_reducible show Wk (AwStep _ _ _ _ _)); first | (refine pln_ ?_)) | ((with_reducible show Wk (AwCode _ _ _ _ _)); first | (refine wo_ (id := 4) [] [(0, true), (1, true), (2, true), (3, true), (4, true), (5, true), (6, false), (7, true)] ?_) | (refine wo_ (id := 7) [] [(0, true), (1, true), (2, true), (3, true), (4, true), (5, true), (6, false), (7, true)] ?_) | (refine lpU_ 0x23 (ι := Nat × Int) (fun ⟨i, k⟩ => [(1, .sc (.int .i64 k)), (5, .sc (.int .i64 (i : Int)))]) (fun ⟨i, k⟩ => i ≤ n ∧ k = k0 + 2 * (i : Int)) (fun ⟨i, k⟩ => n - i) (0, k0) ?_ ?_; (focus (exact ⟨Nat.zero_le _, by omega⟩)); rintro _ hN0 ⟨i, k⟩ hinv; (try dsimp only at hinv); obtain ⟨hi, hk⟩ := hinv; by_cases hlt : i < n; have hx := hat i hlt; subst hk; skip)) | ((with_reducible show Wk (boolK _ _ _ _)); first | (refine bk_ (fun h h' => ?_) (fun h h' => ?_))) | ((with_reducible show Wk (_ ∧ _)); first | (refine and_ ?_ ?_)) | (refine hN0.go ((i + 1, _)) ?_ ?_; (focus (exact ⟨by show i + 1 ≤ n; omega, by show _ = k0 + 2 * ((i + 1 : Nat) : Int); omega⟩)); (focus (show n - (i + 1) < n - i; omega))) | fail) <;> (try refine nm_ ?_))
  all_goals clear ex0
  all_goals (refine ⟨?_⟩)
  all_goals first | contradiction | (exfalso; omega) | (exfalso; simp_all; done) | (obtain rfl : i = n := (by omega); rfl) | trace_state

theorem laws_heldTaintS_D (n : Nat) (k0 : Int) (h0 : 0 < k0) (h1 : k0 ≤ 1900000000000000000) (hn : n ≤ 1048576) : Spec Tryz.prog 89 [.sl n (taintsD (mkT n k0)), .sc (.int .i64 k0)] (fun d => d = .sc (.int .i64 (k0 + 3 * (n : Int)))) := by
  have hat := mkT_at n k0; have hln := mkT_len n k0
  have ex0 := @mkT_len
  refine sp_ (rs := [.tmp 4]) (nt := 42) Tryz.func89 rfl fun X hX => ?_
  refine nm_ ?_
  repeat' ((first | contradiction | (with_reducible exact tt_) | ((with_reducible show Wk (AwStepF _ _ _ _ _ _ _)); first | (refine cl_ rfl _ _ (laws_markText_D _ (by omega) (by omega)) rfl rfl ?_; rintro _ ⟨rfl, hz⟩)) | ((with_reducible show Wk (AwStep _ _ _ _ _)); first | (refine pln_ ?_)) | ((with_reducible show Wk (AwCode _ _ _ _ _)); first | (refine wo_ (id := 4) [] [(0, true), (1, true), (2, true), (3, true), (4, true), (5, true), (6, false), (7, true)] ?_) | (refine wo_ (id := 7) [] [(0, true), (1, true), (2, true), (3, true), (4, true), (5, true), (6, false), (7, true)] ?_) | (refine lpU_ 0x23 (ι := Nat × Int) (fun ⟨i, k⟩ => [(1, .sc (.int .i64 k)), (5, .sc (.int .i64 (i : Int)))]) (fun ⟨i, k⟩ => i ≤ n ∧ k = k0 + 3 * (i : Int)) (fun ⟨i, k⟩ => n - i) (0, k0) ?_ ?_; (focus (exact ⟨Nat.zero_le _, by omega⟩)); rintro _ hN0 ⟨i, k⟩ hinv; (try dsimp only at hinv); obtain ⟨hi, hk⟩ := hinv; by_cases hlt : i < n; have hx := hat i hlt; subst hk; skip)) | ((with_reducible show Wk (boolK _ _ _ _)); first | (refine bk_ (fun h h' => ?_) (fun h h' => ?_))) | ((with_reducible show Wk (_ ∧ _)); first | (refine and_ ?_ ?_)) | (refine hN0.go ((i + 1, _)) ?_ ?_; (focus (exact ⟨by show i + 1 ≤ n; omega, by show _ = k0 + 3 * ((i + 1 : Nat) : Int); omega⟩)); (focus (show n - (i + 1) < n - i; omega))) | fail) <;> (try refine nm_ ?_))
  all_goals clear ex0
  all_goals (refine ⟨?_⟩)
  all_goals first | contradiction | (exfalso; omega) | (exfalso; simp_all; done) | (obtain rfl : i = n := (by omega); rfl) | trace_state

theorem laws_heldNeedS_D (xs : List NeedD) (k0 : Int) (h0 : 0 < k0) (h1 : k0 ≤ 1500000000000000000) (hn : xs.length ≤ 1048576) (hf : Few needFew xs) : Spec Tryz.prog 25 [.sl xs.length (needsD (mkNd xs k0)), .sc (.int .i64 k0)] (fun d => d = .sc (.int .i64 (mkNk xs k0))) := by
  have hln := mkNd_len xs k0
  have ex0 := @mkNd_len; have ex1 := @mkHd_len; have ex2 := @mkPd_len; have ex3 := @mkW_len; have ex4 := @mkL_len; have ex5 := @mkT_len; have ex6 := @mkR_len; have ex7 := @eqB_self
  refine sp_ (rs := [.tmp 4]) (nt := 41) Tryz.func25 rfl fun X hX => ?_
  refine nm_ ?_
  repeat' ((first | contradiction | (with_reducible exact tt_) | ((with_reducible show Wk (AwStepF _ _ _ _ _ _ _)); first | (refine cl_ rfl _ _ (laws_markText_D _ (by omega) (by omega)) rfl rfl ?_; rintro _ ⟨rfl, hz⟩) | (refine cl_ rfl _ _ (laws_heldStringS_D _ _ (by first | assumption | omega) (by first | assumption | omega) (by first | assumption | omega)) rfl rfl ?_; rintro _ rfl)) | ((with_reducible show Wk (AwStep _ _ _ _ _)); first | (refine pln_ ?_)) | ((with_reducible show Wk (AwCode _ _ _ _ _)); first | (refine wo_ (id := 4) [] [(0, true), (1, true), (2, true), (3, true), (4, true), (5, true), (6, false), (7, true)] ?_) | (refine lpU_ 0x23 (ι := Nat × List NeedD × Int) (fun ⟨i, r, k⟩ => [(1, .sc (.int .i64 k)), (5, .sc (.int .i64 (i : Int)))]) (fun ⟨i, r, k⟩ => (mkNd xs k0).drop i = mkNd r k ∧ (i + r.length = xs.length ∧ k + 1048578 * (r.length : Int) ≤ k0 + 1048578 * (xs.length : Int) ∧ k0 ≤ k) ∧ mkNk r k = mkNk xs k0 ∧ Few needFew r) (fun ⟨i, r, k⟩ => r.length) (0, xs, k0) ?_ ?_; (focus (exact ⟨rfl, ⟨by simp, Int.le_refl _, Int.le_refl _⟩, rfl, hf⟩)); rintro _ hN0 ⟨i, r, k⟩ hinv; (try dsimp only at hinv); obtain ⟨hR, ⟨hlen, hk, hkk⟩, hK, hF⟩ := hinv; replace hK := Lib.hid hK; rcases r with _ | ⟨x, r⟩ <;> (simp only [List.length_nil, List.length_cons] at hlen hk; (try (have hx := hF.head; have hF2 := hF.tail; obtain ⟨hat, hdr⟩ := at_drop hR; replace hdr := Lib.hid hdr; replace hx : x.values.length ≤ 1048576 := hx)); replace hR := Lib.hid hR); skip)) | ((with_reducible show Wk (boolK _ _ _ _)); first | (refine bk_ (fun h h' => ?_) (fun h h' => ?_))) | ((with_reducible show Wk (_ ∧ _)); first | (refine and_ ?_ ?_)) | (refine hN0.go ((i + 1, r, _)) ?_ ?_; (focus (exact ⟨hdr.out, ⟨by show i + 1 + r.length = _; omega, by show _ + 1048578 * (r.length : Int) ≤ _; omega, by show k0 ≤ _; omega⟩, hK.out, hF2⟩)); (focus (show r.length < (x :: r).length; simp))) | fail) <;> (try refine nm_ ?_))
  all_goals clear ex0 ex1 ex2 ex3 ex4 ex5 ex6 ex7
  all_goals (refine ⟨?_⟩)
  all_goals (try (first | contradiction | (exfalso; omega) | (exfalso; simp_all; done)))
  all_goals (have ek := hK.out; first | (rw [← ek]; rfl) | trace_state)

end Go.Proofs.YtidjjfjhmlndjaaGreatDoor
