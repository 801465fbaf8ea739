/- Disks in the laws. -/
import Derived.Test.YtnicgfeajdjimaaGreatDk
import Derived.Test.YtnicgfeajdjimaaGreatCl8
import Derived.Test.YtnicgfeajdjimaaGreatCl9
import Derived.Test.YtnicgfeajdjimaaGreatCl10
import Derived.Test.YtnicgfeajdjimaaGreatMk1
import Derived.Test.YtnicgfeajdjimaaGreatNo
namespace Go.Proofs.YtnicgfeajdjimaaGreat
open Go.RowKit
set_option linter.unusedVariables false
set_option linter.unusedSimpArgs false
set_option maxRecDepth 100000
set_option maxHeartbeats 1000000

def FileD.raw (x : FileD) : Prop := strRaw x.name ∧ strRaw x.text ∧ intOk x.synced
theorem file_d : FileD.fine default := fileD_def
theorem fileCells_one (x : FileD) : (fileCells x).all D.one = true := rfl
theorem diskF_row {fs : List FileD} (h : rowFine FileD.fine fs) : DiskF fs ∧ fs.length ≤ 1048576 := ⟨⟨by have := h.1; omega, h.2⟩, h.1⟩
def filesMix (xs : List FileD) (k : Nat) : List D := filesD (xs.take k) ++ rowD [.sc (.string ⟨#[]⟩), .sc (.string ⟨#[]⟩), .sc (.int .i64 0)] (xs.length - k)
theorem filesMix_zero (xs : List FileD) : rowD [.sc (.string ⟨#[]⟩), .sc (.string ⟨#[]⟩), .sc (.int .i64 0)] xs.length = filesMix xs 0 := (mix_zero fileCells _ xs).symm
theorem filesMix_set (xs : List FileD) (k : Nat) (h : k < xs.length) : setL (filesMix xs k) (k * 3) (fileCells (xs.getD k default)) = filesMix xs (k + 1) := mix_set fileCells_len rfl xs k h
theorem filesMix_all (xs : List FileD) (k : Nat) (h : xs.length ≤ k) : filesMix xs k = filesD xs := mix_all _ _ xs k h
theorem filesMix_len (xs : List FileD) (k : Nat) (h : k ≤ xs.length) : (filesMix xs k).length = xs.length * 3 := by
  unfold filesMix
  rw [List.length_append, filesD_len, rowD_len, List.length_take, Nat.min_eq_left h]
  show k * 3 + (xs.length - k) * 3 = _
  rw [← Nat.add_mul]; congr 1; omega
theorem filesMix_rp (xs : List FileD) (k : Nat) : (filesMix xs k).all D.rp = true := by unfold filesMix; rw [List.all_append, filesD_rp, rowD_all rfl]; rfl
theorem filesMix_in (p : Nat → Bool) (xs : List FileD) (k : Nat) : (filesMix xs k).all (D.in1 p) = true := rps_in (filesMix_rp xs k) p
theorem filesMix_ren (f : Nat → Nat) (xs : List FileD) (k : Nat) : (filesMix xs k).map (D.ren1 f) = filesMix xs k := rps_ren (filesMix_rp xs k) f
theorem filesMix_frz (i : Nat) (x : Ob) (xs : List FileD) (k : Nat) : (filesMix xs k).map (D.frz1 i x) = filesMix xs k := rps_frz (filesMix_rp xs k) i x
theorem filesMix_lt (q : Nat) (xs : List FileD) (k : Nat) : (filesMix xs k).all (D.lt1 q) = true := rps_lt (filesMix_rp xs k) q

theorem laws_toFile_D (x : FileD) : Spec Tryz.prog 150 [.agg (fileCells x)] (fun d => d = .agg (fileCells x)) := by
  unfold fileCells
  refine sp_ (rs := [.cell 2 160]) (nt := 14) Tryz.func150 rfl fun X hX => ?_
  refine nm_ ?_
  repeat' ((first | contradiction | (with_reducible exact tt_) | ((with_reducible show Wk (AwStep _ _ _ _ _)); first | (refine pln_ ?_)) | ((with_reducible show Wk (boolK _ _ _ _)); first | (refine bk_ (fun h h' => ?_) (fun h h' => ?_))) | ((with_reducible show Wk (_ ∧ _)); first | (refine and_ ?_ ?_)) | fail) <;> (try refine nm_ ?_))
  all_goals (refine ⟨?_⟩)
  all_goals first | contradiction | rfl | (exfalso; omega) | trace_state

theorem laws_toFileS_D (fs : List FileD) (hn : fs.length ≤ 1048576) : SpecH Tryz.prog 73 [.sl fs.length (filesD fs)] [] 0 (fun d os' nb' => d = .own 0 0 fs.length ∧ os' = [(0, ⟨160, 3, (fs).length, filesD (fs)⟩)] ∧ nb' = 1) := by
  have ex0 := @filesMix_zero; have ex1 := @filesMix_set; have ex2 := @filesMix_all; have ex3 := @filesMix_len; have ex4 := @filesMix_rp; have ex5 := @filesMix_frz; have ex6 := @fileCells_one; have ex7 := @fileCells_len; have ex8 := @filesMix_in; have ex9 := @filesMix_ren; have ex10 := @filesMix_lt
  refine spH_ (rs := [.tmp 2]) (nt := 23) Tryz.func73 rfl fun X hX => ?_
  refine nm_ ?_
  repeat' ((first | contradiction | (with_reducible exact tt_) | ((with_reducible show Wk (AwStepF _ _ _ _ _ _ _)); first | (refine cl_ rfl _ _ (laws_toFile_D (fs.getD k default)) rfl rfl ?_; rintro _ rfl) | (refine mk0_ rfl ?_) | (refine mk_ rfl ?_)) | ((with_reducible show Wk (AwStep _ _ _ _ _)); first | (refine pln_ ?_)) | ((with_reducible show Wk (AwCode _ _ _ _ _)); first | (refine lpV_ (ι := Nat) [] [0] 0x19 (fun k => [(4, .sc (.int .i64 (k : Int)))]) (fun k => [(0, ⟨160, 3, fs.length, filesMix fs k⟩)]) (fun k => k ≤ fs.length) (fun k => fs.length - k) 0 ?_ ?_; (focus (omega)); rintro _ hN0 k hinv; (try dsimp only at hinv); have hk : k ≤ fs.length := hinv; skip)) | ((with_reducible show Wk (boolK _ _ _ _)); first | (refine bk_ (fun h h' => ?_) (fun h h' => ?_))) | ((with_reducible show Wk (_ ∧ _)); first | (refine and_ ?_ ?_)) | ((with_reducible show Wk (retOkH _ _ _ _ _)); first | (refine rh_ [0] ?_)) | (refine hN0.go (k + 1) [] [0] ?_ ?_; (focus (show k + 1 ≤ fs.length; omega)); (focus (show fs.length - (k + 1) < fs.length - k; omega))) | fail) <;> (try refine nm_ ?_))
  all_goals clear ex0 ex1 ex2 ex3 ex4 ex5 ex6 ex7 ex8 ex9 ex10
  all_goals (refine ⟨?_⟩)
  all_goals first | contradiction | (exfalso; omega) | exact ⟨rfl, rfl, rfl⟩ | trace_state

theorem laws_toDisk_D (fs : List FileD) (hn : fs.length ≤ 1048576) : SpecH Tryz.prog 15 [.agg [.sl fs.length (filesD fs)]] [] 0 (fun d os' nb' => d = .agg [.own 0 0 fs.length] ∧ os' = [(0, ⟨160, 3, (fs).length, filesD (fs)⟩)] ∧ nb' = 1) := by
  refine spH_ (rs := [.cell 2 35]) (nt := 9) Tryz.func15 rfl fun X hX => ?_
  refine nm_ ?_
  repeat' ((first | contradiction | (with_reducible exact tt_) | ((with_reducible show Wk (AwStepF _ _ _ _ _ _ _)); first | (refine awH_ rfl (laws_toFileS_D fs hn) [] ?_; rintro _ _ _ ⟨rfl, rfl, rfl⟩ _)) | ((with_reducible show Wk (AwStep _ _ _ _ _)); first | (refine pln_ ?_)) | ((with_reducible show Wk (boolK _ _ _ _)); first | (refine bk_ (fun h h' => ?_) (fun h h' => ?_))) | ((with_reducible show Wk (_ ∧ _)); first | (refine and_ ?_ ?_)) | ((with_reducible show Wk (retOkH _ _ _ _ _)); first | (refine rh_ [3] ?_)) | fail) <;> (try refine nm_ ?_))
  all_goals (refine ⟨?_⟩)
  all_goals first | contradiction | exact ⟨rfl, rfl, rfl⟩ | trace_state

theorem laws_szFile_D (x : FileD) (n : Int) (hn0 : 0 ≤ n) (hn1 : n ≤ 1048576) (hr : x.raw) : Spec Tryz.prog 146 [.agg (fileCells x), .sc (.int .i64 n)] (fun d => ∃ r : Int, d = .sc (.int .i64 r) ∧ -1 ≤ r ∧ r ≤ n ∧ (0 ≤ r → x.fine)) := by
  unfold fileCells; obtain ⟨q1, q2, q3⟩ := hr
  refine sp_ (rs := [.tmp 4]) (nt := 20) Tryz.func146 rfl fun X hX => ?_
  refine nm_ ?_
  repeat' ((first | contradiction | (with_reducible exact tt_) | ((with_reducible show Wk (AwStep _ _ _ _ _)); first | (refine pln_ ?_)) | ((with_reducible show Wk (boolK _ _ _ _)); first | (refine bk_ (fun h h' => ?_) (fun h h' => ?_))) | ((with_reducible show Wk (_ ∧ _)); first | (refine and_ ?_ ?_)) | fail) <;> (try refine nm_ ?_))
  all_goals (refine ⟨?_⟩)
  all_goals first | contradiction | (exact ⟨-1, rfl, by omega, by omega, fun h => absurd h (by decide)⟩) | (refine ⟨_, rfl, by omega, by omega, fun _ => ⟨by omega, by omega, q3.1, q3.2⟩⟩) | trace_state

theorem laws_szFileS_D (xs : List FileD) (n : Int) (hn0 : 0 ≤ n) (hn1 : n ≤ 1048576) (hr : rowRaw FileD.raw xs) : Spec Tryz.prog 68 [.sl xs.length (filesD xs), .sc (.int .i64 n)] (fun d => ∃ r : Int, d = .sc (.int .i64 r) ∧ -1 ≤ r ∧ r ≤ n ∧ (0 ≤ r → rowFine FileD.fine xs)) := by
  have hl := hr.1
  refine sp_ (rs := [.tmp 4]) (nt := 27) Tryz.func68 rfl fun X hX => ?_
  refine nm_ ?_
  repeat' ((first | contradiction | (with_reducible exact tt_) | ((with_reducible show Wk (AwStepF _ _ _ _ _ _ _)); first | (refine cl_ rfl _ _ (laws_szFile_D (xs.getD k default) m (by omega) (by omega) (hr.2 k)) rfl rfl ?_; rintro _ ⟨r1, rfl, ha1, hb1, hc1⟩)) | ((with_reducible show Wk (AwStep _ _ _ _ _)); first | (refine pln_ ?_)) | ((with_reducible show Wk (AwCode _ _ _ _ _)); first | (refine lpU_ 0x23 (ι := Nat × Int) (fun ⟨k, m⟩ => [(1, .sc (.int .i64 m)), (5, .sc (.int .i64 (k : Int)))]) (fun ⟨k, m⟩ => k ≤ xs.length ∧ (0 ≤ m ∧ m ≤ n - xs.length) ∧ ∀ j, j < k → FileD.fine (xs.getD j default)) (fun ⟨k, m⟩ => xs.length - k) (0, n - xs.length) ?_ ?_; (focus (exact ⟨by omega, by omega, fun j h => by omega⟩)); rintro _ hN0 ⟨k, m⟩ hinv; (try dsimp only at hinv); obtain ⟨hk, hm, hj⟩ := hinv; skip)) | ((with_reducible show Wk (boolK _ _ _ _)); first | (refine bk_ (fun h h' => ?_) (fun h h' => ?_))) | ((with_reducible show Wk (_ ∧ _)); first | (refine and_ ?_ ?_)) | (refine hN0.go ((k + 1, _)) ?_ ?_; (focus (exact ⟨by show k + 1 ≤ xs.length; omega, by show 0 ≤ _ ∧ _ ≤ n - (xs.length : Int); omega, row_step hj (hc1 (by omega))⟩)); (focus (show xs.length - (k + 1) < xs.length - k; omega))) | fail) <;> (try refine nm_ ?_))
  all_goals (refine ⟨?_⟩)
  all_goals first | contradiction | (exact ⟨-1, rfl, by omega, by omega, fun h => absurd h (by decide)⟩) | (refine ⟨_, rfl, by omega, by omega, fun _ => ⟨by omega, row_all file_d (by omega) hj⟩⟩) | trace_state

theorem laws_szDisk_D (xs : List FileD) (n : Int) (hn0 : 0 ≤ n) (hn1 : n ≤ 1048576) (hr : rowRaw FileD.raw xs) : Spec Tryz.prog 12 [.agg [.sl xs.length (filesD xs)], .sc (.int .i64 n)] (fun d => ∃ r : Int, d = .sc (.int .i64 r) ∧ -1 ≤ r ∧ r ≤ n ∧ (0 ≤ r → rowFine FileD.fine xs)) := by
  refine sp_ (rs := [.tmp 4]) (nt := 12) Tryz.func12 rfl fun X hX => ?_
  refine nm_ ?_
  repeat' ((first | contradiction | (with_reducible exact tt_) | ((with_reducible show Wk (AwStepF _ _ _ _ _ _ _)); first | (refine cl_ rfl _ _ (laws_szFileS_D xs _ (by omega) (by omega) hr) rfl rfl ?_; rintro _ ⟨r1, rfl, ha1, hb1, hc1⟩)) | ((with_reducible show Wk (AwStep _ _ _ _ _)); first | (refine pln_ ?_)) | ((with_reducible show Wk (boolK _ _ _ _)); first | (refine bk_ (fun h h' => ?_) (fun h h' => ?_))) | ((with_reducible show Wk (_ ∧ _)); first | (refine and_ ?_ ?_)) | fail) <;> (try refine nm_ ?_))
  all_goals (refine ⟨?_⟩)
  all_goals first | contradiction | (exact ⟨-1, rfl, by omega, by omega, fun h => absurd h (by decide)⟩) | (refine ⟨_, rfl, by omega, by omega, fun _ => hc1 (by omega)⟩) | (exact ⟨_, rfl, by omega, by omega⟩) | trace_state

theorem laws_eqFile_D (x : FileD) : Spec Tryz.prog 154 [.agg (fileCells x), .agg (fileCells x)] (fun d => d = .sc (.bool true)) := by
  unfold fileCells
  have ex0 := @eqB_refl
  refine sp_ (rs := [.tmp 4]) (nt := 20) Tryz.func154 rfl fun X hX => ?_
  refine nm_ ?_
  repeat' ((first | contradiction | (with_reducible exact tt_) | ((with_reducible show Wk (AwStep _ _ _ _ _)); first | (refine pln_ ?_)) | ((with_reducible show Wk (boolK _ _ _ _)); first | (refine bk_ (fun h h' => ?_) (fun h h' => ?_))) | ((with_reducible show Wk (_ ∧ _)); first | (refine and_ ?_ ?_)) | fail) <;> (try refine nm_ ?_))
  all_goals clear ex0
  all_goals (refine ⟨?_⟩)
  all_goals first | contradiction | rfl | (exfalso; omega) | trace_state

theorem laws_eqFileS_D (xs : List FileD) (hn : xs.length ≤ 9223372036854775807) : Spec Tryz.prog 78 [.sl xs.length (filesD xs), .sl xs.length (filesD xs)] (fun d => d = .sc (.bool true)) := by
  have ex0 := @eqB_refl
  refine sp_ (rs := [.tmp 4]) (nt := 27) Tryz.func78 rfl fun X hX => ?_
  refine nm_ ?_
  repeat' ((first | contradiction | (with_reducible exact tt_) | ((with_reducible show Wk (AwStepF _ _ _ _ _ _ _)); first | (refine cl_ rfl _ _ (laws_eqFile_D (xs.getD k default)) rfl rfl ?_; rintro _ rfl)) | ((with_reducible show Wk (AwStep _ _ _ _ _)); first | (refine pln_ ?_)) | ((with_reducible show Wk (AwCode _ _ _ _ _)); first | (refine wo_ (id := 6) [] [(0, true), (1, true), (2, true), (3, true), (4, true), (5, true), (6, true), (7, true), (8, false), (9, true)] ?_) | (refine lpU_ 0x23 (ι := Nat) (fun k => [(5, .sc (.int .i64 (k : Int)))]) (fun k => k ≤ xs.length) (fun k => xs.length - k) 0 ?_ ?_; (focus (omega)); rintro _ hN0 k hinv; (try dsimp only at hinv); have hk : k ≤ xs.length := hinv; skip)) | ((with_reducible show Wk (boolK _ _ _ _)); first | (refine bk_ (fun h h' => ?_) (fun h h' => ?_))) | ((with_reducible show Wk (_ ∧ _)); first | (refine and_ ?_ ?_)) | (refine hN0.go (k + 1) ?_ ?_; (focus (show k + 1 ≤ xs.length; omega)); (focus (show xs.length - (k + 1) < xs.length - k; omega))) | fail) <;> (try refine nm_ ?_))
  all_goals clear ex0
  all_goals (refine ⟨?_⟩)
  all_goals first | contradiction | rfl | (exfalso; omega) | trace_state

theorem laws_eqDisk_D (xs : List FileD) (hn : xs.length ≤ 9223372036854775807) : Spec Tryz.prog 18 [.agg [.sl xs.length (filesD xs)], .agg [.sl xs.length (filesD xs)]] (fun d => d = .sc (.bool true)) := by
  refine sp_ (rs := [.tmp 4]) (nt := 11) Tryz.func18 rfl fun X hX => ?_
  refine nm_ ?_
  repeat' ((first | contradiction | (with_reducible exact tt_) | ((with_reducible show Wk (AwStepF _ _ _ _ _ _ _)); first | (refine cl_ rfl _ _ (laws_eqFileS_D xs hn) rfl rfl ?_; rintro _ rfl)) | ((with_reducible show Wk (AwStep _ _ _ _ _)); first | (refine pln_ ?_)) | ((with_reducible show Wk (boolK _ _ _ _)); first | (refine bk_ (fun h h' => ?_) (fun h h' => ?_))) | ((with_reducible show Wk (_ ∧ _)); first | (refine and_ ?_ ?_)) | fail) <;> (try refine nm_ ?_))
  all_goals (refine ⟨?_⟩)
  all_goals first | contradiction | rfl | (exfalso; omega) | trace_state

theorem filesD_s0 (a : List FileD) (B : List D) (d : D) : (filesD a ++ B).set (a.length * 3) d = filesD a ++ B.set 0 d := set_at (filesD_len a) 0 d
theorem filesD_s1 (a : List FileD) (B : List D) (d : D) : (filesD a ++ B).set (a.length * 3 + 1) d = filesD a ++ B.set 1 d := set_at (filesD_len a) 1 d
theorem filesD_s2 (a : List FileD) (B : List D) (d : D) : (filesD a ++ B).set (a.length * 3 + 2) d = filesD a ++ B.set 2 d := set_at (filesD_len a) 2 d
theorem filesD_cons (x : FileD) (r : List FileD) : filesD (x :: r) = .sc (.string x.name) :: .sc (.string x.text) :: .sc (.int .i64 x.synced) :: filesD r := rfl
theorem filesD_mid (a : List FileD) (x : FileD) (B : List D) : filesD (a ++ [x]) ++ B = filesD a ++ (.sc (.string x.name) :: .sc (.string x.text) :: .sc (.int .i64 x.synced) :: B) := by
  unfold filesD; rw [flat_snoc, List.append_assoc]; rfl
def mkF : Nat → Int → List FileD
  | 0, _ => []
  | n + 1, k => ⟨markT k.toNat, markT (k + 1).toNat, k + 1 + 1⟩ :: mkF n (k + 1 + 1 + 1)
theorem mkF_len : ∀ (n : Nat) (k : Int), (mkF n k).length = n
  | 0, _ => rfl
  | n + 1, k => by rw [mkF, List.length_cons, mkF_len n]
theorem laws_markFileS_D (xs : List FileD) (k0 : Int) (h0 : 0 < k0) (h1 : k0 ≤ 100000000) (hn : xs.length ≤ 1048580) : SpecH Tryz.prog 82 [.own 0 0 xs.length, .sc (.int .i64 k0)] [(0, ⟨160, 3, xs.length, filesD xs⟩)] 1 (fun d os' nb' => d = .sc (.int .i64 (k0 + 3 * (xs.length : Int))) ∧ os' = [(0, ⟨160, 3, xs.length, filesD (mkF xs.length k0)⟩)] ∧ nb' = 1) := by
  have ex0 := @filesD_s0; have ex1 := @filesD_s1; have ex2 := @filesD_s2; have ex3 := @filesD_cons; have ex4 := @filesD_mid
  refine spH_ (rs := [.tmp 4]) (nt := 36) Tryz.func82 rfl fun X hX => ?_
  refine nm_ ?_
  repeat' ((first | contradiction | (with_reducible exact tt_) | ((with_reducible show Wk (AwStepF _ _ _ _ _ _ _)); first | (refine cl_ rfl _ _ (laws_markText_D _ (by omega) (by omega)) rfl rfl ?_; rintro _ ⟨rfl, hz⟩)) | ((with_reducible show Wk (AwStep _ _ _ _ _)); first | (refine pln_ ?_)) | ((with_reducible show Wk (AwCode _ _ _ _ _)); first | (refine lpK_ (ι := List FileD × List FileD × Int) [] [0] 0x23 (fun ⟨a, r, k⟩ => [(1, .sc (.int .i64 k)), (5, .sc (.int .i64 (a.length : Int)))]) (fun ⟨a, r, k⟩ => [(0, ⟨160, 3, xs.length, filesD a ++ filesD r⟩)]) (fun ⟨a, r, k⟩ => a ++ mkF r.length k = mkF xs.length k0 ∧ (a.length + r.length = xs.length ∧ k + 3 * (r.length : Int) = k0 + 3 * (xs.length : Int) ∧ k0 ≤ k)) (fun ⟨a, r, k⟩ => r.length) ([], xs, k0) ?_ ?_; (focus (exact ⟨rfl, by simp, rfl, Int.le_refl _⟩)); rintro _ hN0 ⟨a, r, k⟩ hinv; (try dsimp only at hinv); obtain ⟨hR, hlen, hk, hkk⟩ := hinv; replace hR := Lib.hid hR; rcases r with _ | ⟨x, r⟩ <;> (simp only [List.length_nil, List.length_cons] at hlen hk); skip)) | ((with_reducible show Wk (boolK _ _ _ _)); first | (refine bk_ (fun h h' => ?_) (fun h h' => ?_))) | ((with_reducible show Wk (_ ∧ _)); first | (refine and_ ?_ ?_)) | ((with_reducible show Wk (retOkH _ _ _ _ _)); first | (refine rh_ [] ?_)) | (refine hN0.run ((a ++ [⟨markT k.toNat, markT (k + 1).toNat, k + 1 + 1⟩], r, _)) [] [0] ?_ ?_; (focus (exact ⟨mk_step hR.out rfl, by simp; omega, by show _ + 3 * (r.length : Int) = _; omega, by show k0 ≤ _; omega⟩)); (focus (show r.length < (x :: r).length; simp))) | fail) <;> (try refine nm_ ?_))
  all_goals clear ex0 ex1 ex2 ex3 ex4
  all_goals (refine ⟨?_⟩)
  all_goals (try (first | contradiction | (exfalso; omega)))
  all_goals (have e := mk_end hR.out rfl; have ek : k = k0 + 3 * (xs.length : Int) := (by omega); subst e; first | rfl | (rw [ek]; done) | trace_state)

theorem laws_markDisk_D (xs : List FileD) (k0 : Int) (h0 : 0 < k0) (h1 : k0 ≤ 100000000) (hn : xs.length ≤ 1048580) : SpecH Tryz.prog 20 [.agg [.own 0 0 xs.length], .sc (.int .i64 k0)] [(0, ⟨160, 3, xs.length, filesD xs⟩)] 1 (fun d os' nb' => d = .sc (.int .i64 (k0 + 3 * (xs.length : Int))) ∧ os' = [(0, ⟨160, 3, xs.length, filesD (mkF xs.length k0)⟩)] ∧ nb' = 1) := by
  refine spH_ (rs := [.tmp 4]) (nt := 10) Tryz.func20 rfl fun X hX => ?_
  refine nm_ ?_
  repeat' ((first | contradiction | (with_reducible exact tt_) | ((with_reducible show Wk (AwStepF _ _ _ _ _ _ _)); first | (refine awH_ rfl (laws_markFileS_D xs k0 h0 h1 hn) [0] ?_; rintro _ _ _ ⟨rfl, rfl, rfl⟩ _)) | ((with_reducible show Wk (AwStep _ _ _ _ _)); first | (refine pln_ ?_)) | ((with_reducible show Wk (boolK _ _ _ _)); first | (refine bk_ (fun h h' => ?_) (fun h h' => ?_))) | ((with_reducible show Wk (_ ∧ _)); first | (refine and_ ?_ ?_)) | ((with_reducible show Wk (retOkH _ _ _ _ _)); first | (refine rh_ [] ?_)) | fail) <;> (try refine nm_ ?_))
  all_goals (refine ⟨?_⟩)
  all_goals first | contradiction | rfl | exact ⟨rfl, rfl, rfl⟩ | exact ⟨rfl, rfl⟩ | trace_state

end Go.Proofs.YtnicgfeajdjimaaGreat
