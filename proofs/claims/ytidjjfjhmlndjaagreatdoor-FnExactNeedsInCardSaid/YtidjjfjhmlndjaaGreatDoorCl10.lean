/- What is not too great is within bounds. -/
import Derived.Test.YtidjjfjhmlndjaaGreatDoorCl1
import Derived.Test.YtidjjfjhmlndjaaGreatDoorAwb
namespace Go.Proofs.YtidjjfjhmlndjaaGreatDoor
open Go.RowKit
set_option linter.unusedVariables false
set_option linter.unusedSimpArgs false
set_option maxRecDepth 100000
set_option maxHeartbeats 1000000

abbrev strRaw (s : ByteArray) : Prop := s.size ≤ 9223372036854775807
def rowRaw {α : Type} [Inhabited α] (P : α → Prop) (xs : List α) : Prop := xs.length ≤ 9223372036854775807 ∧ ∀ k, P (xs.getD k default)
def LabelD.raw (x : LabelD) : Prop := strRaw x.key ∧ strRaw x.value
def NeedD.raw (x : NeedD) : Prop := strRaw x.key ∧ intOk x.op ∧ rowRaw strRaw x.values
def TaintD.raw (x : TaintD) : Prop := strRaw x.key ∧ strRaw x.value ∧ intOk x.effect
def TolerD.raw (x : TolerD) : Prop := strRaw x.key ∧ strRaw x.value ∧ intOk x.effect
def PodD.raw (x : PodD) : Prop := strRaw x.name ∧ rowRaw LabelD.raw x.labels ∧ (intOk x.cpu ∧ intOk x.mem ∧ intOk x.rank) ∧ rowRaw NeedD.raw x.needs ∧ rowRaw TolerD.raw x.tolers
def HostD.raw (x : HostD) : Prop := strRaw x.name ∧ rowRaw LabelD.raw x.labels ∧ (intOk x.cpu ∧ intOk x.mem ∧ intOk x.slots) ∧ rowRaw TaintD.raw x.taints
def PlacedD.raw (x : PlacedD) : Prop := x.pod.raw ∧ strRaw x.on ∧ intOk x.seq
def ClusterD.raw (c : ClusterD) : Prop := rowRaw HostD.raw c.hosts ∧ rowRaw PlacedD.raw c.pods ∧ intOk c.next
def LabelD.fine (x : LabelD) : Prop := strOk x.key ∧ strOk x.value
structure PlacedD.fine (x : PlacedD) : Prop where
  pod : x.pod.fine
  on : strOk x.on
  seq : intOk x.seq
def rowFine {α : Type} [Inhabited α] (P : α → Prop) (xs : List α) : Prop := xs.length ≤ 1048576 ∧ ∀ k, P (xs.getD k default)
theorem row_all {α : Type} [Inhabited α] {P : α → Prop} {xs : List α} {k : Nat} (hd : P default) (hk : xs.length ≤ k) (h : ∀ j, j < k → P (xs.getD j default)) : ∀ j, P (xs.getD j default) := by
  intro j
  by_cases hj : j < k
  · exact h j hj
  · rw [List.getD_eq_getElem?_getD, List.getElem?_eq_none (by omega)]; exact hd
theorem row_step {α : Type} [Inhabited α] {P : α → Prop} {xs : List α} {k : Nat} (h : ∀ j, j < k → P (xs.getD j default)) (hk : P (xs.getD k default)) : ∀ j, j < k + 1 → P (xs.getD j default) := by
  intro j hj
  by_cases e : j = k
  · subst e; exact hk
  · exact h j (by omega)
theorem labels_fine {ls : List LabelD} (h : rowFine LabelD.fine ls) : labelsFine ls := ⟨h.1, fun k => (h.2 k).1, fun k => (h.2 k).2⟩
theorem int0 : intOk 0 := by decide
theorem nil_fine {α : Type} [Inhabited α] {P : α → Prop} (h : P default) : rowFine P ([] : List α) := ⟨by simp, fun k => by simpa using h⟩
theorem label_d : LabelD.fine default := ⟨by decide, by decide⟩
theorem need_d : NeedD.fine default := ⟨by decide, int0, by decide, fun k => by simp [show (default : NeedD).values = [] from rfl]; decide⟩
theorem taint_d : TaintD.fine default := ⟨by decide, by decide, int0⟩
theorem toler_d : TolerD.fine default := ⟨by decide, by decide, int0⟩
theorem pod_d : PodD.fine default := ⟨by decide, labels_fine (nil_fine label_d), int0, int0, int0, by decide, (nil_fine need_d).2, by decide, (nil_fine toler_d).2⟩
theorem host_d : HostD.fine default := ⟨by decide, labels_fine (nil_fine label_d), int0, int0, int0, by decide, (nil_fine taint_d).2⟩
theorem placed_d : PlacedD.fine default := ⟨pod_d, by decide, int0⟩
theorem str_d : strOk default := by decide

theorem laws_szLabel_D (x : LabelD) (n : Int) (hn0 : 0 ≤ n) (hn1 : n ≤ 1048576) (hr : x.raw) : Spec Tryz.prog 256 [.agg (labelCells x), .sc (.int .i64 n)] (fun d => ∃ r : Int, d = .sc (.int .i64 r) ∧ -1 ≤ r ∧ r ≤ n ∧ (0 ≤ r → x.fine)) := by
  unfold labelCells; obtain ⟨q1, q2⟩ := hr
  refine sp_ (rs := [.tmp 4]) (nt := 20) Tryz.func256 rfl fun X hX => ?_
  refine nm_ ?_
  repeat' ((first | contradiction | (with_reducible exact tt_) | ((with_reducible show Wk (AwStep _ _ _ _ _)); first | (refine pln_ ?_)) | ((with_reducible show Wk (boolK _ _ _ _)); first | (refine bk_ (fun h h' => ?_) (fun h h' => ?_))) | ((with_reducible show Wk (_ ∧ _)); first | (refine and_ ?_ ?_)) | fail) <;> (try refine nm_ ?_))
  all_goals (refine ⟨?_⟩)
  all_goals first | contradiction | (exact ⟨-1, rfl, by omega, by omega, fun h => absurd h (by decide)⟩) | (refine ⟨_, rfl, by omega, by omega, fun _ => ⟨by show _ ≤ _; omega, by show _ ≤ _; omega⟩⟩) | trace_state

theorem laws_szLabelS_D (xs : List LabelD) (n : Int) (hn0 : 0 ≤ n) (hn1 : n ≤ 1048576) (hr : rowRaw LabelD.raw xs) : Spec Tryz.prog 196 [.sl xs.length (labelsD xs), .sc (.int .i64 n)] (fun d => ∃ r : Int, d = .sc (.int .i64 r) ∧ -1 ≤ r ∧ r ≤ n ∧ (0 ≤ r → rowFine LabelD.fine xs)) := by
  have hl := hr.1
  refine sp_ (rs := [.tmp 4]) (nt := 27) Tryz.func196 rfl fun X hX => ?_
  refine nm_ ?_
  repeat' ((first | contradiction | (with_reducible exact tt_) | ((with_reducible show Wk (AwStepF _ _ _ _ _ _ _)); first | (refine cl_ rfl _ _ (laws_szLabel_D (xs.getD k default) m (by omega) (by omega) (hr.2 k)) rfl rfl ?_; rintro _ ⟨r1, rfl, ha1, hb1, hc1⟩)) | ((with_reducible show Wk (AwStep _ _ _ _ _)); first | (refine pln_ ?_)) | ((with_reducible show Wk (AwCode _ _ _ _ _)); first | (refine lpU_ 0x23 (ι := Nat × Int) (fun ⟨k, m⟩ => [(1, .sc (.int .i64 m)), (5, .sc (.int .i64 (k : Int)))]) (fun ⟨k, m⟩ => k ≤ xs.length ∧ (0 ≤ m ∧ m ≤ n - xs.length) ∧ ∀ j, j < k → LabelD.fine (xs.getD j default)) (fun ⟨k, m⟩ => xs.length - k) (0, n - xs.length) ?_ ?_; (focus (exact ⟨by omega, by omega, fun j h => by omega⟩)); rintro _ hN0 ⟨k, m⟩ hinv; (try dsimp only at hinv); obtain ⟨hk, hm, hj⟩ := hinv; skip)) | ((with_reducible show Wk (boolK _ _ _ _)); first | (refine bk_ (fun h h' => ?_) (fun h h' => ?_))) | ((with_reducible show Wk (_ ∧ _)); first | (refine and_ ?_ ?_)) | (refine hN0.go ((k + 1, _)) ?_ ?_; (focus (exact ⟨by show k + 1 ≤ xs.length; omega, by show 0 ≤ _ ∧ _ ≤ n - (xs.length : Int); omega, row_step hj (hc1 (by omega))⟩)); (focus (show xs.length - (k + 1) < xs.length - k; omega))) | fail) <;> (try refine nm_ ?_))
  all_goals (refine ⟨?_⟩)
  all_goals first | contradiction | (exact ⟨-1, rfl, by omega, by omega, fun h => absurd h (by decide)⟩) | (refine ⟨_, rfl, by omega, by omega, fun _ => ⟨by omega, row_all label_d (by omega) hj⟩⟩) | trace_state

theorem laws_szTaint_D (x : TaintD) (n : Int) (hn0 : 0 ≤ n) (hn1 : n ≤ 1048576) (hr : x.raw) : Spec Tryz.prog 257 [.agg (taintCells x), .sc (.int .i64 n)] (fun d => ∃ r : Int, d = .sc (.int .i64 r) ∧ -1 ≤ r ∧ r ≤ n ∧ (0 ≤ r → x.fine)) := by
  unfold taintCells; obtain ⟨q1, q2, q3⟩ := hr
  refine sp_ (rs := [.tmp 4]) (nt := 20) Tryz.func257 rfl fun X hX => ?_
  refine nm_ ?_
  repeat' ((first | contradiction | (with_reducible exact tt_) | ((with_reducible show Wk (AwStep _ _ _ _ _)); first | (refine pln_ ?_)) | ((with_reducible show Wk (boolK _ _ _ _)); first | (refine bk_ (fun h h' => ?_) (fun h h' => ?_))) | ((with_reducible show Wk (_ ∧ _)); first | (refine and_ ?_ ?_)) | fail) <;> (try refine nm_ ?_))
  all_goals (refine ⟨?_⟩)
  all_goals first | contradiction | (exact ⟨-1, rfl, by omega, by omega, fun h => absurd h (by decide)⟩) | (refine ⟨_, rfl, by omega, by omega, fun _ => ⟨by show _ ≤ _; omega, by show _ ≤ _; omega, q3⟩⟩) | trace_state

theorem laws_szTaintS_D (xs : List TaintD) (n : Int) (hn0 : 0 ≤ n) (hn1 : n ≤ 1048576) (hr : rowRaw TaintD.raw xs) : Spec Tryz.prog 197 [.sl xs.length (taintsD xs), .sc (.int .i64 n)] (fun d => ∃ r : Int, d = .sc (.int .i64 r) ∧ -1 ≤ r ∧ r ≤ n ∧ (0 ≤ r → rowFine TaintD.fine xs)) := by
  have hl := hr.1
  refine sp_ (rs := [.tmp 4]) (nt := 27) Tryz.func197 rfl fun X hX => ?_
  refine nm_ ?_
  repeat' ((first | contradiction | (with_reducible exact tt_) | ((with_reducible show Wk (AwStepF _ _ _ _ _ _ _)); first | (refine cl_ rfl _ _ (laws_szTaint_D (xs.getD k default) m (by omega) (by omega) (hr.2 k)) rfl rfl ?_; rintro _ ⟨r1, rfl, ha1, hb1, hc1⟩)) | ((with_reducible show Wk (AwStep _ _ _ _ _)); first | (refine pln_ ?_)) | ((with_reducible show Wk (AwCode _ _ _ _ _)); first | (refine lpU_ 0x23 (ι := Nat × Int) (fun ⟨k, m⟩ => [(1, .sc (.int .i64 m)), (5, .sc (.int .i64 (k : Int)))]) (fun ⟨k, m⟩ => k ≤ xs.length ∧ (0 ≤ m ∧ m ≤ n - xs.length) ∧ ∀ j, j < k → TaintD.fine (xs.getD j default)) (fun ⟨k, m⟩ => xs.length - k) (0, n - xs.length) ?_ ?_; (focus (exact ⟨by omega, by omega, fun j h => by omega⟩)); rintro _ hN0 ⟨k, m⟩ hinv; (try dsimp only at hinv); obtain ⟨hk, hm, hj⟩ := hinv; skip)) | ((with_reducible show Wk (boolK _ _ _ _)); first | (refine bk_ (fun h h' => ?_) (fun h h' => ?_))) | ((with_reducible show Wk (_ ∧ _)); first | (refine and_ ?_ ?_)) | (refine hN0.go ((k + 1, _)) ?_ ?_; (focus (exact ⟨by show k + 1 ≤ xs.length; omega, by show 0 ≤ _ ∧ _ ≤ n - (xs.length : Int); omega, row_step hj (hc1 (by omega))⟩)); (focus (show xs.length - (k + 1) < xs.length - k; omega))) | fail) <;> (try refine nm_ ?_))
  all_goals (refine ⟨?_⟩)
  all_goals first | contradiction | (exact ⟨-1, rfl, by omega, by omega, fun h => absurd h (by decide)⟩) | (refine ⟨_, rfl, by omega, by omega, fun _ => ⟨by omega, row_all taint_d (by omega) hj⟩⟩) | trace_state

theorem laws_szTolerance_D (x : TolerD) (n : Int) (hn0 : 0 ≤ n) (hn1 : n ≤ 1048576) (hr : x.raw) : Spec Tryz.prog 329 [.agg (tolerCells x), .sc (.int .i64 n)] (fun d => ∃ r : Int, d = .sc (.int .i64 r) ∧ -1 ≤ r ∧ r ≤ n ∧ (0 ≤ r → x.fine)) := by
  unfold tolerCells; obtain ⟨q1, q2, q3⟩ := hr
  refine sp_ (rs := [.tmp 4]) (nt := 20) Tryz.func329 rfl fun X hX => ?_
  refine nm_ ?_
  repeat' ((first | contradiction | (with_reducible exact tt_) | ((with_reducible show Wk (AwStep _ _ _ _ _)); first | (refine pln_ ?_)) | ((with_reducible show Wk (boolK _ _ _ _)); first | (refine bk_ (fun h h' => ?_) (fun h h' => ?_))) | ((with_reducible show Wk (_ ∧ _)); first | (refine and_ ?_ ?_)) | fail) <;> (try refine nm_ ?_))
  all_goals (refine ⟨?_⟩)
  all_goals first | contradiction | (exact ⟨-1, rfl, by omega, by omega, fun h => absurd h (by decide)⟩) | (refine ⟨_, rfl, by omega, by omega, fun _ => ⟨by show _ ≤ _; omega, by show _ ≤ _; omega, q3⟩⟩) | trace_state

theorem laws_szToleranceS_D (xs : List TolerD) (n : Int) (hn0 : 0 ≤ n) (hn1 : n ≤ 1048576) (hr : rowRaw TolerD.raw xs) : Spec Tryz.prog 259 [.sl xs.length (tolersD xs), .sc (.int .i64 n)] (fun d => ∃ r : Int, d = .sc (.int .i64 r) ∧ -1 ≤ r ∧ r ≤ n ∧ (0 ≤ r → rowFine TolerD.fine xs)) := by
  have hl := hr.1
  refine sp_ (rs := [.tmp 4]) (nt := 27) Tryz.func259 rfl fun X hX => ?_
  refine nm_ ?_
  repeat' ((first | contradiction | (with_reducible exact tt_) | ((with_reducible show Wk (AwStepF _ _ _ _ _ _ _)); first | (refine cl_ rfl _ _ (laws_szTolerance_D (xs.getD k default) m (by omega) (by omega) (hr.2 k)) rfl rfl ?_; rintro _ ⟨r1, rfl, ha1, hb1, hc1⟩)) | ((with_reducible show Wk (AwStep _ _ _ _ _)); first | (refine pln_ ?_)) | ((with_reducible show Wk (AwCode _ _ _ _ _)); first | (refine lpU_ 0x23 (ι := Nat × Int) (fun ⟨k, m⟩ => [(1, .sc (.int .i64 m)), (5, .sc (.int .i64 (k : Int)))]) (fun ⟨k, m⟩ => k ≤ xs.length ∧ (0 ≤ m ∧ m ≤ n - xs.length) ∧ ∀ j, j < k → TolerD.fine (xs.getD j default)) (fun ⟨k, m⟩ => xs.length - k) (0, n - xs.length) ?_ ?_; (focus (exact ⟨by omega, by omega, fun j h => by omega⟩)); rintro _ hN0 ⟨k, m⟩ hinv; (try dsimp only at hinv); obtain ⟨hk, hm, hj⟩ := hinv; skip)) | ((with_reducible show Wk (boolK _ _ _ _)); first | (refine bk_ (fun h h' => ?_) (fun h h' => ?_))) | ((with_reducible show Wk (_ ∧ _)); first | (refine and_ ?_ ?_)) | (refine hN0.go ((k + 1, _)) ?_ ?_; (focus (exact ⟨by show k + 1 ≤ xs.length; omega, by show 0 ≤ _ ∧ _ ≤ n - (xs.length : Int); omega, row_step hj (hc1 (by omega))⟩)); (focus (show xs.length - (k + 1) < xs.length - k; omega))) | fail) <;> (try refine nm_ ?_))
  all_goals (refine ⟨?_⟩)
  all_goals first | contradiction | (exact ⟨-1, rfl, by omega, by omega, fun h => absurd h (by decide)⟩) | (refine ⟨_, rfl, by omega, by omega, fun _ => ⟨by omega, row_all toler_d (by omega) hj⟩⟩) | trace_state

theorem laws_szStringS_D (xs : List ByteArray) (n : Int) (hn0 : 0 ≤ n) (hn1 : n ≤ 1048576) (hr : rowRaw strRaw xs) : Spec Tryz.prog 69 [.sl xs.length (strsD xs), .sc (.int .i64 n)] (fun d => ∃ r : Int, d = .sc (.int .i64 r) ∧ -1 ≤ r ∧ r ≤ n ∧ (0 ≤ r → rowFine strOk xs)) := by
  have hl := hr.1
  refine sp_ (rs := [.tmp 4]) (nt := 28) Tryz.func69 rfl fun X hX => ?_
  refine nm_ ?_
  repeat' ((first | contradiction | (with_reducible exact tt_) | ((with_reducible show Wk (AwStep _ _ _ _ _)); first | (refine pln_ ?_)) | ((with_reducible show Wk (AwCode _ _ _ _ _)); first | (refine lpU_ 0x23 (ι := Nat × Int) (fun ⟨k, m⟩ => [(1, .sc (.int .i64 m)), (5, .sc (.int .i64 (k : Int)))]) (fun ⟨k, m⟩ => k ≤ xs.length ∧ (0 ≤ m ∧ m ≤ n - xs.length) ∧ ∀ j, j < k → strOk (xs.getD j default)) (fun ⟨k, m⟩ => xs.length - k) (0, n - xs.length) ?_ ?_; (focus (exact ⟨by omega, by omega, fun j h => by omega⟩)); rintro _ hN0 ⟨k, m⟩ hinv; (try dsimp only at hinv); obtain ⟨hk, hm, hj⟩ := hinv; have hrk := hr.2 k; skip)) | ((with_reducible show Wk (boolK _ _ _ _)); first | (refine bk_ (fun h h' => ?_) (fun h h' => ?_))) | ((with_reducible show Wk (_ ∧ _)); first | (refine and_ ?_ ?_)) | (refine hN0.go ((k + 1, _)) ?_ ?_; (focus (exact ⟨by show k + 1 ≤ xs.length; omega, by show 0 ≤ _ ∧ _ ≤ n - (xs.length : Int); omega, row_step hj (by show (xs.getD k default).size ≤ 1048576; omega)⟩)); (focus (show xs.length - (k + 1) < xs.length - k; omega))) | fail) <;> (try refine nm_ ?_))
  all_goals (refine ⟨?_⟩)
  all_goals first | contradiction | (exact ⟨-1, rfl, by omega, by omega, fun h => absurd h (by decide)⟩) | (refine ⟨_, rfl, by omega, by omega, fun _ => ⟨by omega, row_all str_d (by omega) hj⟩⟩) | trace_state

theorem laws_szNeed_D (x : NeedD) (n : Int) (hn0 : 0 ≤ n) (hn1 : n ≤ 1048576) (hr : x.raw) : Spec Tryz.prog 328 [.agg (needCells x), .sc (.int .i64 n)] (fun d => ∃ r : Int, d = .sc (.int .i64 r) ∧ -1 ≤ r ∧ r ≤ n ∧ (0 ≤ r → x.fine)) := by
  unfold needCells; obtain ⟨q1, q2, q3⟩ := hr
  refine sp_ (rs := [.tmp 4]) (nt := 19) Tryz.func328 rfl fun X hX => ?_
  refine nm_ ?_
  repeat' ((first | contradiction | (with_reducible exact tt_) | ((with_reducible show Wk (AwStepF _ _ _ _ _ _ _)); first | (refine cl_ rfl _ _ (laws_szStringS_D x.values _ (by omega) (by omega) q3) rfl rfl ?_; rintro _ ⟨r1, rfl, ha1, hb1, hc1⟩)) | ((with_reducible show Wk (AwStep _ _ _ _ _)); first | (refine pln_ ?_)) | ((with_reducible show Wk (boolK _ _ _ _)); first | (refine bk_ (fun h h' => ?_) (fun h h' => ?_))) | ((with_reducible show Wk (_ ∧ _)); first | (refine and_ ?_ ?_)) | fail) <;> (try refine nm_ ?_))
  all_goals (refine ⟨?_⟩)
  all_goals first | contradiction | (exact ⟨-1, rfl, by omega, by omega, fun h => absurd h (by decide)⟩) | (refine ⟨_, rfl, by omega, by omega, fun _ => ⟨by show _ ≤ _; omega, q2, (hc1 (by omega)).1, (hc1 (by omega)).2⟩⟩) | trace_state

theorem laws_szNeedS_D (xs : List NeedD) (n : Int) (hn0 : 0 ≤ n) (hn1 : n ≤ 1048576) (hr : rowRaw NeedD.raw xs) : Spec Tryz.prog 258 [.sl xs.length (needsD xs), .sc (.int .i64 n)] (fun d => ∃ r : Int, d = .sc (.int .i64 r) ∧ -1 ≤ r ∧ r ≤ n ∧ (0 ≤ r → rowFine NeedD.fine xs)) := by
  have hl := hr.1
  refine sp_ (rs := [.tmp 4]) (nt := 27) Tryz.func258 rfl fun X hX => ?_
  refine nm_ ?_
  repeat' ((first | contradiction | (with_reducible exact tt_) | ((with_reducible show Wk (AwStepF _ _ _ _ _ _ _)); first | (refine cl_ rfl _ _ (laws_szNeed_D (xs.getD k default) m (by omega) (by omega) (hr.2 k)) rfl rfl ?_; rintro _ ⟨r1, rfl, ha1, hb1, hc1⟩)) | ((with_reducible show Wk (AwStep _ _ _ _ _)); first | (refine pln_ ?_)) | ((with_reducible show Wk (AwCode _ _ _ _ _)); first | (refine lpU_ 0x23 (ι := Nat × Int) (fun ⟨k, m⟩ => [(1, .sc (.int .i64 m)), (5, .sc (.int .i64 (k : Int)))]) (fun ⟨k, m⟩ => k ≤ xs.length ∧ (0 ≤ m ∧ m ≤ n - xs.length) ∧ ∀ j, j < k → NeedD.fine (xs.getD j default)) (fun ⟨k, m⟩ => xs.length - k) (0, n - xs.length) ?_ ?_; (focus (exact ⟨by omega, by omega, fun j h => by omega⟩)); rintro _ hN0 ⟨k, m⟩ hinv; (try dsimp only at hinv); obtain ⟨hk, hm, hj⟩ := hinv; skip)) | ((with_reducible show Wk (boolK _ _ _ _)); first | (refine bk_ (fun h h' => ?_) (fun h h' => ?_))) | ((with_reducible show Wk (_ ∧ _)); first | (refine and_ ?_ ?_)) | (refine hN0.go ((k + 1, _)) ?_ ?_; (focus (exact ⟨by show k + 1 ≤ xs.length; omega, by show 0 ≤ _ ∧ _ ≤ n - (xs.length : Int); omega, row_step hj (hc1 (by omega))⟩)); (focus (show xs.length - (k + 1) < xs.length - k; omega))) | fail) <;> (try refine nm_ ?_))
  all_goals (refine ⟨?_⟩)
  all_goals first | contradiction | (exact ⟨-1, rfl, by omega, by omega, fun h => absurd h (by decide)⟩) | (refine ⟨_, rfl, by omega, by omega, fun _ => ⟨by omega, row_all need_d (by omega) hj⟩⟩) | trace_state

theorem laws_szPod_D (x : PodD) (n : Int) (hn0 : 0 ≤ n) (hn1 : n ≤ 1048576) (hr : x.raw) : Spec Tryz.prog 198 [.agg (podCells x), .sc (.int .i64 n)] (fun d => ∃ r : Int, d = .sc (.int .i64 r) ∧ -1 ≤ r ∧ r ≤ n ∧ (0 ≤ r → x.fine)) := by
  unfold podCells; obtain ⟨q1, q2, ⟨q3, q4, q5⟩, q6, q7⟩ := hr
  refine sp_ (rs := [.tmp 4]) (nt := 31) Tryz.func198 rfl fun X hX => ?_
  refine nm_ ?_
  repeat' ((first | contradiction | (with_reducible exact tt_) | ((with_reducible show Wk (AwStepF _ _ _ _ _ _ _)); first | (refine cl_ rfl _ _ (laws_szLabelS_D x.labels _ (by omega) (by omega) q2) rfl rfl ?_; rintro _ ⟨r1, rfl, ha1, hb1, hc1⟩) | (refine cl_ rfl _ _ (laws_szNeedS_D x.needs _ (by omega) (by omega) q6) rfl rfl ?_; rintro _ ⟨r2, rfl, ha2, hb2, hc2⟩) | (refine cl_ rfl _ _ (laws_szToleranceS_D x.tolers _ (by omega) (by omega) q7) rfl rfl ?_; rintro _ ⟨r3, rfl, ha3, hb3, hc3⟩)) | ((with_reducible show Wk (AwStep _ _ _ _ _)); first | (refine pln_ ?_)) | ((with_reducible show Wk (boolK _ _ _ _)); first | (refine bk_ (fun h h' => ?_) (fun h h' => ?_))) | ((with_reducible show Wk (_ ∧ _)); first | (refine and_ ?_ ?_)) | fail) <;> (try refine nm_ ?_))
  all_goals (refine ⟨?_⟩)
  all_goals first | contradiction | (exact ⟨-1, rfl, by omega, by omega, fun h => absurd h (by decide)⟩) | (refine ⟨_, rfl, by omega, by omega, fun _ => ⟨by show _ ≤ _; omega, labels_fine (hc1 (by omega)), q3, q4, q5, (hc2 (by omega)).1, (hc2 (by omega)).2, (hc3 (by omega)).1, (hc3 (by omega)).2⟩⟩) | trace_state

theorem laws_szPlaced_D (x : PlacedD) (n : Int) (hn0 : 0 ≤ n) (hn1 : n ≤ 1048576) (hr : x.raw) : Spec Tryz.prog 102 [.agg (placedCells x), .sc (.int .i64 n)] (fun d => ∃ r : Int, d = .sc (.int .i64 r) ∧ -1 ≤ r ∧ r ≤ n ∧ (0 ≤ r → x.fine)) := by
  unfold placedCells; obtain ⟨q1, q2, q3⟩ := hr
  refine sp_ (rs := [.tmp 4]) (nt := 19) Tryz.func102 rfl fun X hX => ?_
  refine nm_ ?_
  repeat' ((first | contradiction | (with_reducible exact tt_) | ((with_reducible show Wk (AwStepF _ _ _ _ _ _ _)); first | (refine cl_ rfl _ _ (laws_szPod_D x.pod _ (by omega) (by omega) q1) rfl rfl ?_; rintro _ ⟨r1, rfl, ha1, hb1, hc1⟩)) | ((with_reducible show Wk (AwStep _ _ _ _ _)); first | (refine pln_ ?_)) | ((with_reducible show Wk (boolK _ _ _ _)); first | (refine bk_ (fun h h' => ?_) (fun h h' => ?_))) | ((with_reducible show Wk (_ ∧ _)); first | (refine and_ ?_ ?_)) | fail) <;> (try refine nm_ ?_))
  all_goals (refine ⟨?_⟩)
  all_goals first | contradiction | (exact ⟨-1, rfl, by omega, by omega, fun h => absurd h (by decide)⟩) | (refine ⟨_, rfl, by omega, by omega, fun _ => ⟨hc1 (by omega), by show _ ≤ _; omega, q3⟩⟩) | trace_state

theorem laws_szPlacedS_D (xs : List PlacedD) (n : Int) (hn0 : 0 ≤ n) (hn1 : n ≤ 1048576) (hr : rowRaw PlacedD.raw xs) : Spec Tryz.prog 44 [.sl xs.length (placedsD xs), .sc (.int .i64 n)] (fun d => ∃ r : Int, d = .sc (.int .i64 r) ∧ -1 ≤ r ∧ r ≤ n ∧ (0 ≤ r → rowFine PlacedD.fine xs)) := by
  have hl := hr.1
  refine sp_ (rs := [.tmp 4]) (nt := 27) Tryz.func44 rfl fun X hX => ?_
  refine nm_ ?_
  repeat' ((first | contradiction | (with_reducible exact tt_) | ((with_reducible show Wk (AwStepF _ _ _ _ _ _ _)); first | (refine cl_ rfl _ _ (laws_szPlaced_D (xs.getD k default) m (by omega) (by omega) (hr.2 k)) rfl rfl ?_; rintro _ ⟨r1, rfl, ha1, hb1, hc1⟩)) | ((with_reducible show Wk (AwStep _ _ _ _ _)); first | (refine pln_ ?_)) | ((with_reducible show Wk (AwCode _ _ _ _ _)); first | (refine lpU_ 0x23 (ι := Nat × Int) (fun ⟨k, m⟩ => [(1, .sc (.int .i64 m)), (5, .sc (.int .i64 (k : Int)))]) (fun ⟨k, m⟩ => k ≤ xs.length ∧ (0 ≤ m ∧ m ≤ n - xs.length) ∧ ∀ j, j < k → PlacedD.fine (xs.getD j default)) (fun ⟨k, m⟩ => xs.length - k) (0, n - xs.length) ?_ ?_; (focus (exact ⟨by omega, by omega, fun j h => by omega⟩)); rintro _ hN0 ⟨k, m⟩ hinv; (try dsimp only at hinv); obtain ⟨hk, hm, hj⟩ := hinv; skip)) | ((with_reducible show Wk (boolK _ _ _ _)); first | (refine bk_ (fun h h' => ?_) (fun h h' => ?_))) | ((with_reducible show Wk (_ ∧ _)); first | (refine and_ ?_ ?_)) | (refine hN0.go ((k + 1, _)) ?_ ?_; (focus (exact ⟨by show k + 1 ≤ xs.length; omega, by show 0 ≤ _ ∧ _ ≤ n - (xs.length : Int); omega, row_step hj (hc1 (by omega))⟩)); (focus (show xs.length - (k + 1) < xs.length - k; omega))) | fail) <;> (try refine nm_ ?_))
  all_goals (refine ⟨?_⟩)
  all_goals first | contradiction | (exact ⟨-1, rfl, by omega, by omega, fun h => absurd h (by decide)⟩) | (refine ⟨_, rfl, by omega, by omega, fun _ => ⟨by omega, row_all placed_d (by omega) hj⟩⟩) | trace_state

theorem laws_szHost_D (x : HostD) (n : Int) (hn0 : 0 ≤ n) (hn1 : n ≤ 1048576) (hr : x.raw) : Spec Tryz.prog 101 [.agg (hostCells x), .sc (.int .i64 n)] (fun d => ∃ r : Int, d = .sc (.int .i64 r) ∧ -1 ≤ r ∧ r ≤ n ∧ (0 ≤ r → x.fine)) := by
  unfold hostCells; obtain ⟨q1, q2, ⟨q3, q4, q5⟩, q6⟩ := hr
  refine sp_ (rs := [.tmp 4]) (nt := 25) Tryz.func101 rfl fun X hX => ?_
  refine nm_ ?_
  repeat' ((first | contradiction | (with_reducible exact tt_) | ((with_reducible show Wk (AwStepF _ _ _ _ _ _ _)); first | (refine cl_ rfl _ _ (laws_szLabelS_D x.labels _ (by omega) (by omega) q2) rfl rfl ?_; rintro _ ⟨r1, rfl, ha1, hb1, hc1⟩) | (refine cl_ rfl _ _ (laws_szTaintS_D x.taints _ (by omega) (by omega) q6) rfl rfl ?_; rintro _ ⟨r2, rfl, ha2, hb2, hc2⟩)) | ((with_reducible show Wk (AwStep _ _ _ _ _)); first | (refine pln_ ?_)) | ((with_reducible show Wk (boolK _ _ _ _)); first | (refine bk_ (fun h h' => ?_) (fun h h' => ?_))) | ((with_reducible show Wk (_ ∧ _)); first | (refine and_ ?_ ?_)) | fail) <;> (try refine nm_ ?_))
  all_goals (refine ⟨?_⟩)
  all_goals first | contradiction | (exact ⟨-1, rfl, by omega, by omega, fun h => absurd h (by decide)⟩) | (refine ⟨_, rfl, by omega, by omega, fun _ => ⟨by show _ ≤ _; omega, labels_fine (hc1 (by omega)), q3, q4, q5, (hc2 (by omega)).1, (hc2 (by omega)).2⟩⟩) | trace_state

theorem laws_szHostS_D (xs : List HostD) (n : Int) (hn0 : 0 ≤ n) (hn1 : n ≤ 1048576) (hr : rowRaw HostD.raw xs) : Spec Tryz.prog 43 [.sl xs.length (hostsD xs), .sc (.int .i64 n)] (fun d => ∃ r : Int, d = .sc (.int .i64 r) ∧ -1 ≤ r ∧ r ≤ n ∧ (0 ≤ r → rowFine HostD.fine xs)) := by
  have hl := hr.1
  refine sp_ (rs := [.tmp 4]) (nt := 27) Tryz.func43 rfl fun X hX => ?_
  refine nm_ ?_
  repeat' ((first | contradiction | (with_reducible exact tt_) | ((with_reducible show Wk (AwStepF _ _ _ _ _ _ _)); first | (refine cl_ rfl _ _ (laws_szHost_D (xs.getD k default) m (by omega) (by omega) (hr.2 k)) rfl rfl ?_; rintro _ ⟨r1, rfl, ha1, hb1, hc1⟩)) | ((with_reducible show Wk (AwStep _ _ _ _ _)); first | (refine pln_ ?_)) | ((with_reducible show Wk (AwCode _ _ _ _ _)); first | (refine lpU_ 0x23 (ι := Nat × Int) (fun ⟨k, m⟩ => [(1, .sc (.int .i64 m)), (5, .sc (.int .i64 (k : Int)))]) (fun ⟨k, m⟩ => k ≤ xs.length ∧ (0 ≤ m ∧ m ≤ n - xs.length) ∧ ∀ j, j < k → HostD.fine (xs.getD j default)) (fun ⟨k, m⟩ => xs.length - k) (0, n - xs.length) ?_ ?_; (focus (exact ⟨by omega, by omega, fun j h => by omega⟩)); rintro _ hN0 ⟨k, m⟩ hinv; (try dsimp only at hinv); obtain ⟨hk, hm, hj⟩ := hinv; skip)) | ((with_reducible show Wk (boolK _ _ _ _)); first | (refine bk_ (fun h h' => ?_) (fun h h' => ?_))) | ((with_reducible show Wk (_ ∧ _)); first | (refine and_ ?_ ?_)) | (refine hN0.go ((k + 1, _)) ?_ ?_; (focus (exact ⟨by show k + 1 ≤ xs.length; omega, by show 0 ≤ _ ∧ _ ≤ n - (xs.length : Int); omega, row_step hj (hc1 (by omega))⟩)); (focus (show xs.length - (k + 1) < xs.length - k; omega))) | fail) <;> (try refine nm_ ?_))
  all_goals (refine ⟨?_⟩)
  all_goals first | contradiction | (exact ⟨-1, rfl, by omega, by omega, fun h => absurd h (by decide)⟩) | (refine ⟨_, rfl, by omega, by omega, fun _ => ⟨by omega, row_all host_d (by omega) hj⟩⟩) | trace_state

theorem laws_szCluster_D (c : ClusterD) (n : Int) (hn0 : 0 ≤ n) (hn1 : n ≤ 1048576) (hr : c.raw) : Spec Tryz.prog 7 [c.d, .sc (.int .i64 n)] (fun d => ∃ r : Int, d = .sc (.int .i64 r) ∧ -1 ≤ r ∧ r ≤ n ∧ (0 ≤ r → c.fine)) := by
  unfold ClusterD.d; obtain ⟨q1, q2, q3⟩ := hr
  refine sp_ (rs := [.tmp 4]) (nt := 18) Tryz.func7 rfl fun X hX => ?_
  refine nm_ ?_
  repeat' ((first | contradiction | (with_reducible exact tt_) | ((with_reducible show Wk (AwStepF _ _ _ _ _ _ _)); first | (refine cl_ rfl _ _ (laws_szHostS_D c.hosts _ (by omega) (by omega) q1) rfl rfl ?_; rintro _ ⟨r1, rfl, ha1, hb1, hc1⟩) | (refine cl_ rfl _ _ (laws_szPlacedS_D c.pods _ (by omega) (by omega) q2) rfl rfl ?_; rintro _ ⟨r2, rfl, ha2, hb2, hc2⟩)) | ((with_reducible show Wk (AwStep _ _ _ _ _)); first | (refine pln_ ?_)) | ((with_reducible show Wk (boolK _ _ _ _)); first | (refine bk_ (fun h h' => ?_) (fun h h' => ?_))) | ((with_reducible show Wk (_ ∧ _)); first | (refine and_ ?_ ?_)) | fail) <;> (try refine nm_ ?_))
  all_goals (refine ⟨?_⟩)
  all_goals first | contradiction | (exact ⟨-1, rfl, by omega, by omega, fun h => absurd h (by decide)⟩) | (refine ⟨_, rfl, by omega, by omega, fun _ => ⟨(hc1 (by omega)).1, (hc1 (by omega)).2, (hc2 (by omega)).1, fun k => ((hc2 (by omega)).2 k).pod, fun k => ((hc2 (by omega)).2 k).on, fun k => ((hc2 (by omega)).2 k).seq, q3⟩⟩) | trace_state

end Go.Proofs.YtidjjfjhmlndjaaGreatDoor
