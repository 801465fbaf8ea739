/- Clusters are copied. -/
import Derived.Test.YtidjjfjhmlndjaaGreatDoorCl1
import Derived.Test.YtidjjfjhmlndjaaGreatDoorAwb
namespace Go.Proofs.YtidjjfjhmlndjaaGreatDoor
open Go.RowKit
set_option linter.unusedVariables false
set_option linter.unusedSimpArgs false
set_option maxRecDepth 100000
set_option maxHeartbeats 1000000

theorem rowD_all {z : List D} {q : D → Bool} (h : z.all q = true) : ∀ n, (rowD z n).all q = true
  | 0 => rfl
  | n + 1 => by rw [rowD, List.all_append, h, rowD_all h n]; rfl
theorem rowD_map (z : List D) (f : D → D) : ∀ n, (rowD z n).map f = rowD (z.map f) n
  | 0 => rfl
  | n + 1 => by rw [rowD, List.map_append, rowD_map z f n]; rfl
theorem setL_app : ∀ (ds A B : List D), ds.length ≤ B.length → setL (A ++ B) A.length ds = A ++ (ds ++ B.drop ds.length)
  | [], A, B, _ => by simp [setL]
  | d :: ds, A, [], h => by simp at h
  | d :: ds, A, b :: B, h => by
    rw [setL, List.set_append_right _ _ (Nat.le_refl _), Nat.sub_self, List.set_cons_zero]
    have := setL_app ds (A ++ [d]) B (by simpa using h)
    rw [List.length_append, List.length_singleton, List.append_assoc, List.append_assoc] at this
    simpa using this
/-- A row of which the first k are there, the others zero: the next is stored. -/
theorem mix_set {α : Type} [Inhabited α] {cells : α → List D} {size : Nat} (hs : ∀ x, (cells x).length = size) {z : List D} (hz : z.length = size) (xs : List α) (k : Nat) (h : k < xs.length) :
    setL (flatD cells (xs.take k) ++ rowD z (xs.length - k)) (k * size) (cells (xs.getD k default)) = flatD cells (xs.take (k + 1)) ++ rowD z (xs.length - (k + 1)) := by
  have hl : (flatD cells (xs.take k)).length = k * size := by rw [flat_len hs, List.length_take, Nat.min_eq_left (by omega)]
  have e : xs.length - k = (xs.length - (k + 1)) + 1 := by omega
  have h1 := setL_app (cells (xs.getD k default)) (flatD cells (xs.take k)) (rowD z (xs.length - k)) (by rw [hs, e, rowD, List.length_append, hz]; omega)
  rw [hl] at h1
  rw [h1, hs, take_snoc xs k h, flat_snoc, List.append_assoc, e, rowD, ← hz, List.drop_left]
theorem mix_zero {α : Type} (cells : α → List D) (z : List D) (xs : List α) : flatD cells (xs.take 0) ++ rowD z (xs.length - 0) = rowD z xs.length := by rw [List.take_zero, Nat.sub_zero]; rfl
theorem mix_all {α : Type} (cells : α → List D) (z : List D) (xs : List α) (k : Nat) (h : xs.length ≤ k) : flatD cells (xs.take k) ++ rowD z (xs.length - k) = flatD cells xs := by
  rw [List.take_of_length_le h, Nat.sub_eq_zero_of_le h]; simp [rowD]

def labelsMix (xs : List LabelD) (k : Nat) : List D := labelsD (xs.take k) ++ rowD [.sc (.string ⟨#[]⟩), .sc (.string ⟨#[]⟩)] (xs.length - k)
theorem labelsMix_zero (xs : List LabelD) : rowD [.sc (.string ⟨#[]⟩), .sc (.string ⟨#[]⟩)] xs.length = labelsMix xs 0 := (mix_zero labelCells _ xs).symm
theorem labelsMix_set (xs : List LabelD) (k : Nat) (h : k < xs.length) : setL (labelsMix xs k) (k * 2) (labelCells (xs.getD k default)) = labelsMix xs (k + 1) := mix_set labelCells_len rfl xs k h
theorem labelsMix_all (xs : List LabelD) (k : Nat) (h : xs.length ≤ k) : labelsMix xs k = labelsD xs := mix_all _ _ xs k h
theorem labelsMix_len (xs : List LabelD) (k : Nat) (h : k ≤ xs.length) : (labelsMix xs k).length = xs.length * 2 := by
  unfold labelsMix
  rw [List.length_append, labelsD_len, rowD_len, List.length_take, Nat.min_eq_left h]
  show k * 2 + (xs.length - k) * 2 = _
  rw [← Nat.add_mul]; congr 1; omega
theorem labelsMix_rp (xs : List LabelD) (k : Nat) : (labelsMix xs k).all D.rp = true := by unfold labelsMix; rw [List.all_append, labelsD_rp, rowD_all rfl]; rfl
theorem labelsMix_in (p : Nat → Bool) (xs : List LabelD) (k : Nat) : (labelsMix xs k).all (D.in1 p) = true := rps_in (labelsMix_rp xs k) p
theorem labelsMix_ren (f : Nat → Nat) (xs : List LabelD) (k : Nat) : (labelsMix xs k).map (D.ren1 f) = labelsMix xs k := rps_ren (labelsMix_rp xs k) f
theorem labelsMix_frz (i : Nat) (x : Ob) (xs : List LabelD) (k : Nat) : (labelsMix xs k).map (D.frz1 i x) = labelsMix xs k := rps_frz (labelsMix_rp xs k) i x
theorem labelsMix_lt (q : Nat) (xs : List LabelD) (k : Nat) : (labelsMix xs k).all (D.lt1 q) = true := rps_lt (labelsMix_rp xs k) q

def taintsMix (xs : List TaintD) (k : Nat) : List D := taintsD (xs.take k) ++ rowD [.sc (.string ⟨#[]⟩), .sc (.string ⟨#[]⟩), .sc (.int .i64 0)] (xs.length - k)
theorem taintsMix_zero (xs : List TaintD) : rowD [.sc (.string ⟨#[]⟩), .sc (.string ⟨#[]⟩), .sc (.int .i64 0)] xs.length = taintsMix xs 0 := (mix_zero taintCells _ xs).symm
theorem taintsMix_set (xs : List TaintD) (k : Nat) (h : k < xs.length) : setL (taintsMix xs k) (k * 3) (taintCells (xs.getD k default)) = taintsMix xs (k + 1) := mix_set taintCells_len rfl xs k h
theorem taintsMix_all (xs : List TaintD) (k : Nat) (h : xs.length ≤ k) : taintsMix xs k = taintsD xs := mix_all _ _ xs k h
theorem taintsMix_len (xs : List TaintD) (k : Nat) (h : k ≤ xs.length) : (taintsMix xs k).length = xs.length * 3 := by
  unfold taintsMix
  rw [List.length_append, taintsD_len, rowD_len, List.length_take, Nat.min_eq_left h]
  show k * 3 + (xs.length - k) * 3 = _
  rw [← Nat.add_mul]; congr 1; omega
theorem taintsMix_rp (xs : List TaintD) (k : Nat) : (taintsMix xs k).all D.rp = true := by unfold taintsMix; rw [List.all_append, taintsD_rp, rowD_all rfl]; rfl
theorem taintsMix_in (p : Nat → Bool) (xs : List TaintD) (k : Nat) : (taintsMix xs k).all (D.in1 p) = true := rps_in (taintsMix_rp xs k) p
theorem taintsMix_ren (f : Nat → Nat) (xs : List TaintD) (k : Nat) : (taintsMix xs k).map (D.ren1 f) = taintsMix xs k := rps_ren (taintsMix_rp xs k) f
theorem taintsMix_frz (i : Nat) (x : Ob) (xs : List TaintD) (k : Nat) : (taintsMix xs k).map (D.frz1 i x) = taintsMix xs k := rps_frz (taintsMix_rp xs k) i x
theorem taintsMix_lt (q : Nat) (xs : List TaintD) (k : Nat) : (taintsMix xs k).all (D.lt1 q) = true := rps_lt (taintsMix_rp xs k) q

def tolersMix (xs : List TolerD) (k : Nat) : List D := tolersD (xs.take k) ++ rowD [.sc (.string ⟨#[]⟩), .sc (.bool false), .sc (.string ⟨#[]⟩), .sc (.int .i64 0)] (xs.length - k)
theorem tolersMix_zero (xs : List TolerD) : rowD [.sc (.string ⟨#[]⟩), .sc (.bool false), .sc (.string ⟨#[]⟩), .sc (.int .i64 0)] xs.length = tolersMix xs 0 := (mix_zero tolerCells _ xs).symm
theorem tolersMix_set (xs : List TolerD) (k : Nat) (h : k < xs.length) : setL (tolersMix xs k) (k * 4) (tolerCells (xs.getD k default)) = tolersMix xs (k + 1) := mix_set tolerCells_len rfl xs k h
theorem tolersMix_all (xs : List TolerD) (k : Nat) (h : xs.length ≤ k) : tolersMix xs k = tolersD xs := mix_all _ _ xs k h
theorem tolersMix_len (xs : List TolerD) (k : Nat) (h : k ≤ xs.length) : (tolersMix xs k).length = xs.length * 4 := by
  unfold tolersMix
  rw [List.length_append, tolersD_len, rowD_len, List.length_take, Nat.min_eq_left h]
  show k * 4 + (xs.length - k) * 4 = _
  rw [← Nat.add_mul]; congr 1; omega
theorem tolersMix_rp (xs : List TolerD) (k : Nat) : (tolersMix xs k).all D.rp = true := by unfold tolersMix; rw [List.all_append, tolersD_rp, rowD_all rfl]; rfl
theorem tolersMix_in (p : Nat → Bool) (xs : List TolerD) (k : Nat) : (tolersMix xs k).all (D.in1 p) = true := rps_in (tolersMix_rp xs k) p
theorem tolersMix_ren (f : Nat → Nat) (xs : List TolerD) (k : Nat) : (tolersMix xs k).map (D.ren1 f) = tolersMix xs k := rps_ren (tolersMix_rp xs k) f
theorem tolersMix_frz (i : Nat) (x : Ob) (xs : List TolerD) (k : Nat) : (tolersMix xs k).map (D.frz1 i x) = tolersMix xs k := rps_frz (tolersMix_rp xs k) i x
theorem tolersMix_lt (q : Nat) (xs : List TolerD) (k : Nat) : (tolersMix xs k).all (D.lt1 q) = true := rps_lt (tolersMix_rp xs k) q

def needsMix (xs : List NeedD) (k : Nat) : List D := needsD (xs.take k) ++ rowD [.sc (.string ⟨#[]⟩), .sc (.int .i64 0), .sc (.slice none 0 0)] (xs.length - k)
theorem needsMix_zero (xs : List NeedD) : rowD [.sc (.string ⟨#[]⟩), .sc (.int .i64 0), .sc (.slice none 0 0)] xs.length = needsMix xs 0 := (mix_zero needCells _ xs).symm
theorem needsMix_set (xs : List NeedD) (k : Nat) (h : k < xs.length) : setL (needsMix xs k) (k * 3) (needCells (xs.getD k default)) = needsMix xs (k + 1) := mix_set needCells_len rfl xs k h
theorem needsMix_all (xs : List NeedD) (k : Nat) (h : xs.length ≤ k) : needsMix xs k = needsD xs := mix_all _ _ xs k h
theorem needsMix_len (xs : List NeedD) (k : Nat) (h : k ≤ xs.length) : (needsMix xs k).length = xs.length * 3 := by
  unfold needsMix
  rw [List.length_append, needsD_len, rowD_len, List.length_take, Nat.min_eq_left h]
  show k * 3 + (xs.length - k) * 3 = _
  rw [← Nat.add_mul]; congr 1; omega
theorem needsMix_rp (xs : List NeedD) (k : Nat) : (needsMix xs k).all D.rp = true := by unfold needsMix; rw [List.all_append, needsD_rp, rowD_all rfl]; rfl
theorem needsMix_in (p : Nat → Bool) (xs : List NeedD) (k : Nat) : (needsMix xs k).all (D.in1 p) = true := rps_in (needsMix_rp xs k) p
theorem needsMix_ren (f : Nat → Nat) (xs : List NeedD) (k : Nat) : (needsMix xs k).map (D.ren1 f) = needsMix xs k := rps_ren (needsMix_rp xs k) f
theorem needsMix_frz (i : Nat) (x : Ob) (xs : List NeedD) (k : Nat) : (needsMix xs k).map (D.frz1 i x) = needsMix xs k := rps_frz (needsMix_rp xs k) i x
theorem needsMix_lt (q : Nat) (xs : List NeedD) (k : Nat) : (needsMix xs k).all (D.lt1 q) = true := rps_lt (needsMix_rp xs k) q

def hostsMix (xs : List HostD) (k : Nat) : List D := hostsD (xs.take k) ++ rowD [.sc (.string ⟨#[]⟩), .sc (.slice none 0 0), .sc (.int .i64 0), .sc (.int .i64 0), .sc (.int .i64 0), .sc (.slice none 0 0)] (xs.length - k)
theorem hostsMix_zero (xs : List HostD) : rowD [.sc (.string ⟨#[]⟩), .sc (.slice none 0 0), .sc (.int .i64 0), .sc (.int .i64 0), .sc (.int .i64 0), .sc (.slice none 0 0)] xs.length = hostsMix xs 0 := (mix_zero hostCells _ xs).symm
theorem hostsMix_set (xs : List HostD) (k : Nat) (h : k < xs.length) : setL (hostsMix xs k) (k * 6) (hostCells (xs.getD k default)) = hostsMix xs (k + 1) := mix_set hostCells_len rfl xs k h
theorem hostsMix_all (xs : List HostD) (k : Nat) (h : xs.length ≤ k) : hostsMix xs k = hostsD xs := mix_all _ _ xs k h
theorem hostsMix_len (xs : List HostD) (k : Nat) (h : k ≤ xs.length) : (hostsMix xs k).length = xs.length * 6 := by
  unfold hostsMix
  rw [List.length_append, hostsD_len, rowD_len, List.length_take, Nat.min_eq_left h]
  show k * 6 + (xs.length - k) * 6 = _
  rw [← Nat.add_mul]; congr 1; omega
theorem hostsMix_rp (xs : List HostD) (k : Nat) : (hostsMix xs k).all D.rp = true := by unfold hostsMix; rw [List.all_append, hostsD_rp, rowD_all rfl]; rfl
theorem hostsMix_in (p : Nat → Bool) (xs : List HostD) (k : Nat) : (hostsMix xs k).all (D.in1 p) = true := rps_in (hostsMix_rp xs k) p
theorem hostsMix_ren (f : Nat → Nat) (xs : List HostD) (k : Nat) : (hostsMix xs k).map (D.ren1 f) = hostsMix xs k := rps_ren (hostsMix_rp xs k) f
theorem hostsMix_frz (i : Nat) (x : Ob) (xs : List HostD) (k : Nat) : (hostsMix xs k).map (D.frz1 i x) = hostsMix xs k := rps_frz (hostsMix_rp xs k) i x
theorem hostsMix_lt (q : Nat) (xs : List HostD) (k : Nat) : (hostsMix xs k).all (D.lt1 q) = true := rps_lt (hostsMix_rp xs k) q

def placedsMix (xs : List PlacedD) (k : Nat) : List D := placedsD (xs.take k) ++ rowD [.sc (.string ⟨#[]⟩), .sc (.slice none 0 0), .sc (.int .i64 0), .sc (.int .i64 0), .sc (.int .i64 0), .sc (.slice none 0 0), .sc (.slice none 0 0), .sc (.string ⟨#[]⟩), .sc (.int .i64 0)] (xs.length - k)
theorem placedsMix_zero (xs : List PlacedD) : rowD [.sc (.string ⟨#[]⟩), .sc (.slice none 0 0), .sc (.int .i64 0), .sc (.int .i64 0), .sc (.int .i64 0), .sc (.slice none 0 0), .sc (.slice none 0 0), .sc (.string ⟨#[]⟩), .sc (.int .i64 0)] xs.length = placedsMix xs 0 := (mix_zero placedCells _ xs).symm
theorem placedsMix_set (xs : List PlacedD) (k : Nat) (h : k < xs.length) : setL (placedsMix xs k) (k * 9) (placedCells (xs.getD k default)) = placedsMix xs (k + 1) := mix_set placedCells_len rfl xs k h
theorem placedsMix_all (xs : List PlacedD) (k : Nat) (h : xs.length ≤ k) : placedsMix xs k = placedsD xs := mix_all _ _ xs k h
theorem placedsMix_len (xs : List PlacedD) (k : Nat) (h : k ≤ xs.length) : (placedsMix xs k).length = xs.length * 9 := by
  unfold placedsMix
  rw [List.length_append, placedsD_len, rowD_len, List.length_take, Nat.min_eq_left h]
  show k * 9 + (xs.length - k) * 9 = _
  rw [← Nat.add_mul]; congr 1; omega
theorem placedsMix_rp (xs : List PlacedD) (k : Nat) : (placedsMix xs k).all D.rp = true := by unfold placedsMix; rw [List.all_append, placedsD_rp, rowD_all rfl]; rfl
theorem placedsMix_in (p : Nat → Bool) (xs : List PlacedD) (k : Nat) : (placedsMix xs k).all (D.in1 p) = true := rps_in (placedsMix_rp xs k) p
theorem placedsMix_ren (f : Nat → Nat) (xs : List PlacedD) (k : Nat) : (placedsMix xs k).map (D.ren1 f) = placedsMix xs k := rps_ren (placedsMix_rp xs k) f
theorem placedsMix_frz (i : Nat) (x : Ob) (xs : List PlacedD) (k : Nat) : (placedsMix xs k).map (D.frz1 i x) = placedsMix xs k := rps_frz (placedsMix_rp xs k) i x
theorem placedsMix_lt (q : Nat) (xs : List PlacedD) (k : Nat) : (placedsMix xs k).all (D.lt1 q) = true := rps_lt (placedsMix_rp xs k) q

def strsMix (xs : List ByteArray) (k : Nat) : List D := strsD (xs.take k) ++ rowD [.sc (.string ⟨#[]⟩)] (xs.length - k)
def oneCell (x : ByteArray) : List D := [.sc (.string x)]
theorem strsD_flat (xs : List ByteArray) : strsD xs = flatD oneCell xs := by unfold strsD flatD oneCell; induction xs with | nil => rfl | cons x r ih => simpa using ih
theorem strsMix_zero (xs : List ByteArray) : rowD [.sc (.string ⟨#[]⟩)] xs.length = strsMix xs 0 := by unfold strsMix; rw [strsD_flat]; exact (mix_zero oneCell _ xs).symm
theorem strsMix_set (xs : List ByteArray) (k : Nat) (h : k < xs.length) : setL (strsMix xs k) k [.sc (.string (xs.getD k default))] = strsMix xs (k + 1) := by
  unfold strsMix
  rw [strsD_flat, strsD_flat]
  have := mix_set (cells := oneCell) (fun _ => rfl) (z := [.sc (.string ⟨#[]⟩)]) rfl xs k h
  rw [Nat.mul_one] at this
  exact this
theorem strsMix_all (xs : List ByteArray) (k : Nat) (h : xs.length ≤ k) : strsMix xs k = strsD xs := by unfold strsMix; rw [strsD_flat, strsD_flat]; exact mix_all _ _ xs k h
theorem strsMix_len (xs : List ByteArray) (k : Nat) (h : k ≤ xs.length) : (strsMix xs k).length = xs.length := by
  unfold strsMix
  rw [List.length_append, strsD_len, rowD_len, List.length_take, Nat.min_eq_left h]
  simp; omega
theorem strsMix_rp (xs : List ByteArray) (k : Nat) : (strsMix xs k).all D.rp = true := by unfold strsMix; rw [List.all_append, strsD_rp, rowD_all rfl]; rfl
theorem strsMix_in (p : Nat → Bool) (xs : List ByteArray) (k : Nat) : (strsMix xs k).all (D.in1 p) = true := rps_in (strsMix_rp xs k) p
theorem strsMix_ren (f : Nat → Nat) (xs : List ByteArray) (k : Nat) : (strsMix xs k).map (D.ren1 f) = strsMix xs k := rps_ren (strsMix_rp xs k) f
theorem strsMix_frz (i : Nat) (x : Ob) (xs : List ByteArray) (k : Nat) : (strsMix xs k).map (D.frz1 i x) = strsMix xs k := rps_frz (strsMix_rp xs k) i x
theorem strsMix_lt (q : Nat) (xs : List ByteArray) (k : Nat) : (strsMix xs k).all (D.lt1 q) = true := rps_lt (strsMix_rp xs k) q

theorem labelCells_one (x : LabelD) : (labelCells x).all D.one = true := rfl
theorem taintCells_one (x : TaintD) : (taintCells x).all D.one = true := rfl
theorem tolerCells_one (x : TolerD) : (tolerCells x).all D.one = true := rfl
theorem needCells_one (x : NeedD) : (needCells x).all D.one = true := rfl
theorem hostCells_one (x : HostD) : (hostCells x).all D.one = true := rfl
theorem placedCells_one (x : PlacedD) : (placedCells x).all D.one = true := rfl

theorem laws_toLabel_D (x : LabelD) : Spec Tryz.prog 260 [.agg (labelCells x)] (fun d => d = .agg (labelCells x)) := by
  unfold labelCells
  refine sp_ (rs := [.cell 2 217]) (nt := 11) Tryz.func260 rfl fun X hX => ?_
  refine nm_ ?_
  repeat' ((first | contradiction | (with_reducible exact tt_) | ((with_reducible show Wk (AwStep _ _ _ _ _)); first | (refine pln_ ?_)) | ((with_reducible show Wk (boolK _ _ _ _)); first | (refine bk_ (fun h h' => ?_) (fun h h' => ?_))) | ((with_reducible show Wk (_ ∧ _)); first | (refine and_ ?_ ?_)) | fail) <;> (try refine nm_ ?_))
  all_goals (refine ⟨?_⟩)
  all_goals first | contradiction | rfl | (exfalso; omega) | trace_state

theorem laws_toLabelS_D (xs : List LabelD) (hn : xs.length ≤ 1048576) : Spec Tryz.prog 200 [.sl xs.length (labelsD xs)] (fun d => d = .sl xs.length (labelsD xs)) := by
  have ex0 := @labelsMix_zero; have ex1 := @labelsMix_set; have ex2 := @labelsMix_all; have ex3 := @labelsMix_len; have ex4 := @labelsMix_rp; have ex5 := @labelsMix_frz; have ex6 := @labelCells_one; have ex7 := @labelCells_len; have ex8 := @labelsMix_in; have ex9 := @labelsMix_ren; have ex10 := @labelsMix_lt
  refine spZ_ (rs := [.tmp 2]) (nt := 23) Tryz.func200 rfl fun X hX => ?_
  refine nm_ ?_
  repeat' ((first | contradiction | (with_reducible exact tt_) | ((with_reducible show Wk (AwStepF _ _ _ _ _ _ _)); first | (refine cl_ rfl _ _ (laws_toLabel_D (xs.getD k default)) rfl rfl ?_; rintro _ rfl) | (refine mk0_ rfl ?_) | (refine mk_ rfl ?_)) | ((with_reducible show Wk (AwStep _ _ _ _ _)); first | (refine pln_ ?_)) | ((with_reducible show Wk (AwCode _ _ _ _ _)); first | (refine lpV_ (ι := Nat) [] [0] 0x19 (fun k => [(4, .sc (.int .i64 (k : Int)))]) (fun k => [(0, ⟨217, 2, xs.length, labelsMix xs k⟩)]) (fun k => k ≤ xs.length) (fun k => xs.length - k) 0 ?_ ?_; (focus (omega)); rintro _ hN0 k hinv; (try dsimp only at hinv); have hk : k ≤ xs.length := hinv; skip)) | ((with_reducible show Wk (boolK _ _ _ _)); first | (refine bk_ (fun h h' => ?_) (fun h h' => ?_))) | ((with_reducible show Wk (_ ∧ _)); first | (refine and_ ?_ ?_)) | ((with_reducible show Wk (retOkZ _ _ _ _)); first | (refine rz_ [0] ?_) | (refine rz_ [] ?_)) | (refine hN0.go (k + 1) [] [0] ?_ ?_; (focus (show k + 1 ≤ xs.length; omega)); (focus (show xs.length - (k + 1) < xs.length - k; omega))) | fail) <;> (try refine nm_ ?_))
  all_goals clear ex0 ex1 ex2 ex3 ex4 ex5 ex6 ex7 ex8 ex9 ex10
  all_goals (refine ⟨?_⟩)
  all_goals first | contradiction | rfl | (exfalso; omega) | trace_state

theorem laws_toTaint_D (x : TaintD) : Spec Tryz.prog 261 [.agg (taintCells x)] (fun d => d = .agg (taintCells x)) := by
  unfold taintCells
  refine sp_ (rs := [.cell 2 118]) (nt := 14) Tryz.func261 rfl fun X hX => ?_
  refine nm_ ?_
  repeat' ((first | contradiction | (with_reducible exact tt_) | ((with_reducible show Wk (AwStep _ _ _ _ _)); first | (refine pln_ ?_)) | ((with_reducible show Wk (boolK _ _ _ _)); first | (refine bk_ (fun h h' => ?_) (fun h h' => ?_))) | ((with_reducible show Wk (_ ∧ _)); first | (refine and_ ?_ ?_)) | fail) <;> (try refine nm_ ?_))
  all_goals (refine ⟨?_⟩)
  all_goals first | contradiction | rfl | (exfalso; omega) | trace_state

theorem laws_toTaintS_D (xs : List TaintD) (hn : xs.length ≤ 1048576) : Spec Tryz.prog 201 [.sl xs.length (taintsD xs)] (fun d => d = .sl xs.length (taintsD xs)) := by
  have ex0 := @taintsMix_zero; have ex1 := @taintsMix_set; have ex2 := @taintsMix_all; have ex3 := @taintsMix_len; have ex4 := @taintsMix_rp; have ex5 := @taintsMix_frz; have ex6 := @taintCells_one; have ex7 := @taintCells_len; have ex8 := @taintsMix_in; have ex9 := @taintsMix_ren; have ex10 := @taintsMix_lt
  refine spZ_ (rs := [.tmp 2]) (nt := 23) Tryz.func201 rfl fun X hX => ?_
  refine nm_ ?_
  repeat' ((first | contradiction | (with_reducible exact tt_) | ((with_reducible show Wk (AwStepF _ _ _ _ _ _ _)); first | (refine cl_ rfl _ _ (laws_toTaint_D (xs.getD k default)) rfl rfl ?_; rintro _ rfl) | (refine mk0_ rfl ?_) | (refine mk_ rfl ?_)) | ((with_reducible show Wk (AwStep _ _ _ _ _)); first | (refine pln_ ?_)) | ((with_reducible show Wk (AwCode _ _ _ _ _)); first | (refine lpV_ (ι := Nat) [] [0] 0x19 (fun k => [(4, .sc (.int .i64 (k : Int)))]) (fun k => [(0, ⟨118, 3, xs.length, taintsMix xs k⟩)]) (fun k => k ≤ xs.length) (fun k => xs.length - k) 0 ?_ ?_; (focus (omega)); rintro _ hN0 k hinv; (try dsimp only at hinv); have hk : k ≤ xs.length := hinv; skip)) | ((with_reducible show Wk (boolK _ _ _ _)); first | (refine bk_ (fun h h' => ?_) (fun h h' => ?_))) | ((with_reducible show Wk (_ ∧ _)); first | (refine and_ ?_ ?_)) | ((with_reducible show Wk (retOkZ _ _ _ _)); first | (refine rz_ [0] ?_) | (refine rz_ [] ?_)) | (refine hN0.go (k + 1) [] [0] ?_ ?_; (focus (show k + 1 ≤ xs.length; omega)); (focus (show xs.length - (k + 1) < xs.length - k; omega))) | fail) <;> (try refine nm_ ?_))
  all_goals clear ex0 ex1 ex2 ex3 ex4 ex5 ex6 ex7 ex8 ex9 ex10
  all_goals (refine ⟨?_⟩)
  all_goals first | contradiction | rfl | (exfalso; omega) | trace_state

theorem laws_toTolerance_D (x : TolerD) : Spec Tryz.prog 331 [.agg (tolerCells x)] (fun d => d = .agg (tolerCells x)) := by
  unfold tolerCells
  refine sp_ (rs := [.cell 2 145]) (nt := 17) Tryz.func331 rfl fun X hX => ?_
  refine nm_ ?_
  repeat' ((first | contradiction | (with_reducible exact tt_) | ((with_reducible show Wk (AwStep _ _ _ _ _)); first | (refine pln_ ?_)) | ((with_reducible show Wk (boolK _ _ _ _)); first | (refine bk_ (fun h h' => ?_) (fun h h' => ?_))) | ((with_reducible show Wk (_ ∧ _)); first | (refine and_ ?_ ?_)) | fail) <;> (try refine nm_ ?_))
  all_goals (refine ⟨?_⟩)
  all_goals first | contradiction | rfl | (exfalso; omega) | trace_state

theorem laws_toToleranceS_D (xs : List TolerD) (hn : xs.length ≤ 1048576) : Spec Tryz.prog 263 [.sl xs.length (tolersD xs)] (fun d => d = .sl xs.length (tolersD xs)) := by
  have ex0 := @tolersMix_zero; have ex1 := @tolersMix_set; have ex2 := @tolersMix_all; have ex3 := @tolersMix_len; have ex4 := @tolersMix_rp; have ex5 := @tolersMix_frz; have ex6 := @tolerCells_one; have ex7 := @tolerCells_len; have ex8 := @tolersMix_in; have ex9 := @tolersMix_ren; have ex10 := @tolersMix_lt
  refine spZ_ (rs := [.tmp 2]) (nt := 23) Tryz.func263 rfl fun X hX => ?_
  refine nm_ ?_
  repeat' ((first | contradiction | (with_reducible exact tt_) | ((with_reducible show Wk (AwStepF _ _ _ _ _ _ _)); first | (refine cl_ rfl _ _ (laws_toTolerance_D (xs.getD k default)) rfl rfl ?_; rintro _ rfl) | (refine mk0_ rfl ?_) | (refine mk_ rfl ?_)) | ((with_reducible show Wk (AwStep _ _ _ _ _)); first | (refine pln_ ?_)) | ((with_reducible show Wk (AwCode _ _ _ _ _)); first | (refine lpV_ (ι := Nat) [] [0] 0x19 (fun k => [(4, .sc (.int .i64 (k : Int)))]) (fun k => [(0, ⟨145, 4, xs.length, tolersMix xs k⟩)]) (fun k => k ≤ xs.length) (fun k => xs.length - k) 0 ?_ ?_; (focus (omega)); rintro _ hN0 k hinv; (try dsimp only at hinv); have hk : k ≤ xs.length := hinv; skip)) | ((with_reducible show Wk (boolK _ _ _ _)); first | (refine bk_ (fun h h' => ?_) (fun h h' => ?_))) | ((with_reducible show Wk (_ ∧ _)); first | (refine and_ ?_ ?_)) | ((with_reducible show Wk (retOkZ _ _ _ _)); first | (refine rz_ [0] ?_) | (refine rz_ [] ?_)) | (refine hN0.go (k + 1) [] [0] ?_ ?_; (focus (show k + 1 ≤ xs.length; omega)); (focus (show xs.length - (k + 1) < xs.length - k; omega))) | fail) <;> (try refine nm_ ?_))
  all_goals clear ex0 ex1 ex2 ex3 ex4 ex5 ex6 ex7 ex8 ex9 ex10
  all_goals (refine ⟨?_⟩)
  all_goals first | contradiction | rfl | (exfalso; omega) | trace_state

theorem laws_toStringS_D (xs : List ByteArray) (hn : xs.length ≤ 1048576) : Spec Tryz.prog 76 [.sl xs.length (strsD xs)] (fun d => d = .sl xs.length (strsD xs)) := by
  have ex0 := @strsMix_zero; have ex1 := @strsMix_set; have ex2 := @strsMix_all; have ex3 := @strsMix_len; have ex4 := @strsMix_rp; have ex5 := @strsMix_frz; have ex6 := @strsMix_in; have ex7 := @strsMix_ren; have ex8 := @strsMix_lt
  refine spZ_ (rs := [.tmp 2]) (nt := 22) Tryz.func76 rfl fun X hX => ?_
  refine nm_ ?_
  repeat' ((first | contradiction | (with_reducible exact tt_) | ((with_reducible show Wk (AwStepF _ _ _ _ _ _ _)); first | (refine mk0_ rfl ?_) | (refine mk_ rfl ?_)) | ((with_reducible show Wk (AwStep _ _ _ _ _)); first | (refine pln_ ?_)) | ((with_reducible show Wk (AwCode _ _ _ _ _)); first | (refine lpV_ (ι := Nat) [] [0] 0x19 (fun k => [(4, .sc (.int .i64 (k : Int)))]) (fun k => [(0, ⟨9, 1, xs.length, strsMix xs k⟩)]) (fun k => k ≤ xs.length) (fun k => xs.length - k) 0 ?_ ?_; (focus (omega)); rintro _ hN0 k hinv; (try dsimp only at hinv); have hk : k ≤ xs.length := hinv; skip)) | ((with_reducible show Wk (boolK _ _ _ _)); first | (refine bk_ (fun h h' => ?_) (fun h h' => ?_))) | ((with_reducible show Wk (_ ∧ _)); first | (refine and_ ?_ ?_)) | ((with_reducible show Wk (retOkZ _ _ _ _)); first | (refine rz_ [0] ?_) | (refine rz_ [] ?_)) | (refine hN0.go (k + 1) [] [0] ?_ ?_; (focus (show k + 1 ≤ xs.length; omega)); (focus (show xs.length - (k + 1) < xs.length - k; omega))) | fail) <;> (try refine nm_ ?_))
  all_goals clear ex0 ex1 ex2 ex3 ex4 ex5 ex6 ex7 ex8
  all_goals (refine ⟨?_⟩)
  all_goals first | contradiction | rfl | (exfalso; omega) | trace_state

theorem laws_toNeed_D (x : NeedD) (hn : x.values.length ≤ 1048576) : Spec Tryz.prog 330 [.agg (needCells x)] (fun d => d = .agg (needCells x)) := by
  unfold needCells
  refine sp_ (rs := [.cell 2 103]) (nt := 15) Tryz.func330 rfl fun X hX => ?_
  refine nm_ ?_
  repeat' ((first | contradiction | (with_reducible exact tt_) | ((with_reducible show Wk (AwStepF _ _ _ _ _ _ _)); first | (refine cl_ rfl _ _ (laws_toStringS_D _ (by assumption)) rfl rfl ?_; rintro _ rfl)) | ((with_reducible show Wk (AwStep _ _ _ _ _)); first | (refine pln_ ?_)) | ((with_reducible show Wk (boolK _ _ _ _)); first | (refine bk_ (fun h h' => ?_) (fun h h' => ?_))) | ((with_reducible show Wk (_ ∧ _)); first | (refine and_ ?_ ?_)) | fail) <;> (try refine nm_ ?_))
  all_goals (refine ⟨?_⟩)
  all_goals first | contradiction | rfl | (exfalso; omega) | trace_state

theorem laws_toNeedS_D (xs : List NeedD) (hn : xs.length ≤ 1048576) (hv : ∀ k, (xs.getD k default).values.length ≤ 1048576) : Spec Tryz.prog 262 [.sl xs.length (needsD xs)] (fun d => d = .sl xs.length (needsD xs)) := by
  have ex0 := @needsMix_zero; have ex1 := @needsMix_set; have ex2 := @needsMix_all; have ex3 := @needsMix_len; have ex4 := @needsMix_rp; have ex5 := @needsMix_frz; have ex6 := @needCells_one; have ex7 := @needCells_len; have ex8 := @needsMix_in; have ex9 := @needsMix_ren; have ex10 := @needsMix_lt
  refine spZ_ (rs := [.tmp 2]) (nt := 23) Tryz.func262 rfl fun X hX => ?_
  refine nm_ ?_
  repeat' ((first | contradiction | (with_reducible exact tt_) | ((with_reducible show Wk (AwStepF _ _ _ _ _ _ _)); first | (refine cl_ rfl _ _ (laws_toNeed_D (xs.getD k default) (hv _)) rfl rfl ?_; rintro _ rfl) | (refine mk0_ rfl ?_) | (refine mk_ rfl ?_)) | ((with_reducible show Wk (AwStep _ _ _ _ _)); first | (refine pln_ ?_)) | ((with_reducible show Wk (AwCode _ _ _ _ _)); first | (refine lpV_ (ι := Nat) [] [0] 0x19 (fun k => [(4, .sc (.int .i64 (k : Int)))]) (fun k => [(0, ⟨103, 3, xs.length, needsMix xs k⟩)]) (fun k => k ≤ xs.length) (fun k => xs.length - k) 0 ?_ ?_; (focus (omega)); rintro _ hN0 k hinv; (try dsimp only at hinv); have hk : k ≤ xs.length := hinv; skip)) | ((with_reducible show Wk (boolK _ _ _ _)); first | (refine bk_ (fun h h' => ?_) (fun h h' => ?_))) | ((with_reducible show Wk (_ ∧ _)); first | (refine and_ ?_ ?_)) | ((with_reducible show Wk (retOkZ _ _ _ _)); first | (refine rz_ [0] ?_) | (refine rz_ [] ?_)) | (refine hN0.go (k + 1) [] [0] ?_ ?_; (focus (show k + 1 ≤ xs.length; omega)); (focus (show xs.length - (k + 1) < xs.length - k; omega))) | fail) <;> (try refine nm_ ?_))
  all_goals clear ex0 ex1 ex2 ex3 ex4 ex5 ex6 ex7 ex8 ex9 ex10
  all_goals (refine ⟨?_⟩)
  all_goals first | contradiction | rfl | (exfalso; omega) | trace_state

theorem laws_toPod_D (x : PodD) (hp : x.fine) : Spec Tryz.prog 202 [.agg (podCells x)] (fun d => d = .agg (podCells x)) := by
  unfold podCells
  refine sp_ (rs := [.cell 2 78]) (nt := 29) Tryz.func202 rfl fun X hX => ?_
  refine nm_ ?_
  repeat' ((first | contradiction | (with_reducible exact tt_) | ((with_reducible show Wk (AwStepF _ _ _ _ _ _ _)); first | (refine cl_ rfl _ _ (laws_toLabelS_D _ hp.labels.len) rfl rfl ?_; rintro _ rfl) | (refine cl_ rfl _ _ (laws_toNeedS_D _ hp.nlen fun k => (hp.need k).len) rfl rfl ?_; rintro _ rfl) | (refine cl_ rfl _ _ (laws_toToleranceS_D _ hp.tlen) rfl rfl ?_; rintro _ rfl)) | ((with_reducible show Wk (AwStep _ _ _ _ _)); first | (refine pln_ ?_)) | ((with_reducible show Wk (boolK _ _ _ _)); first | (refine bk_ (fun h h' => ?_) (fun h h' => ?_))) | ((with_reducible show Wk (_ ∧ _)); first | (refine and_ ?_ ?_)) | fail) <;> (try refine nm_ ?_))
  all_goals (refine ⟨?_⟩)
  all_goals first | contradiction | rfl | (exfalso; omega) | trace_state

theorem laws_toHost_D (x : HostD) (hp : x.fine) : Spec Tryz.prog 105 [.agg (hostCells x)] (fun d => d = .agg (hostCells x)) := by
  unfold hostCells
  refine sp_ (rs := [.cell 2 63]) (nt := 25) Tryz.func105 rfl fun X hX => ?_
  refine nm_ ?_
  repeat' ((first | contradiction | (with_reducible exact tt_) | ((with_reducible show Wk (AwStepF _ _ _ _ _ _ _)); first | (refine cl_ rfl _ _ (laws_toLabelS_D _ hp.labels.len) rfl rfl ?_; rintro _ rfl) | (refine cl_ rfl _ _ (laws_toTaintS_D _ hp.tlen) rfl rfl ?_; rintro _ rfl)) | ((with_reducible show Wk (AwStep _ _ _ _ _)); first | (refine pln_ ?_)) | ((with_reducible show Wk (boolK _ _ _ _)); first | (refine bk_ (fun h h' => ?_) (fun h h' => ?_))) | ((with_reducible show Wk (_ ∧ _)); first | (refine and_ ?_ ?_)) | fail) <;> (try refine nm_ ?_))
  all_goals (refine ⟨?_⟩)
  all_goals first | contradiction | rfl | (exfalso; omega) | trace_state

theorem laws_toPlaced_D (x : PlacedD) (hp : x.pod.fine) : Spec Tryz.prog 106 [.agg (placedCells x)] (fun d => d = .agg (placedCells x)) := by
  unfold placedCells
  refine sp_ (rs := [.cell 2 163]) (nt := 15) Tryz.func106 rfl fun X hX => ?_
  refine nm_ ?_
  repeat' ((first | contradiction | (with_reducible exact tt_) | ((with_reducible show Wk (AwStepF _ _ _ _ _ _ _)); first | (refine cl_ rfl _ _ (laws_toPod_D x.pod hp) rfl rfl ?_; rintro _ rfl)) | ((with_reducible show Wk (AwStep _ _ _ _ _)); first | (refine pln_ ?_)) | ((with_reducible show Wk (boolK _ _ _ _)); first | (refine bk_ (fun h h' => ?_) (fun h h' => ?_))) | ((with_reducible show Wk (_ ∧ _)); first | (refine and_ ?_ ?_)) | fail) <;> (try refine nm_ ?_))
  all_goals (refine ⟨?_⟩)
  all_goals first | contradiction | rfl | (exfalso; omega) | trace_state

theorem laws_toHostS_D (xs : List HostD) (hn : xs.length ≤ 1048576) (hv : ∀ k, (xs.getD k default).fine) : Spec Tryz.prog 48 [.sl xs.length (hostsD xs)] (fun d => d = .sl xs.length (hostsD xs)) := by
  have ex0 := @hostsMix_zero; have ex1 := @hostsMix_set; have ex2 := @hostsMix_all; have ex3 := @hostsMix_len; have ex4 := @hostsMix_rp; have ex5 := @hostsMix_frz; have ex6 := @hostCells_one; have ex7 := @hostCells_len; have ex8 := @hostsMix_in; have ex9 := @hostsMix_ren; have ex10 := @hostsMix_lt
  refine spZ_ (rs := [.tmp 2]) (nt := 23) Tryz.func48 rfl fun X hX => ?_
  refine nm_ ?_
  repeat' ((first | contradiction | (with_reducible exact tt_) | ((with_reducible show Wk (AwStepF _ _ _ _ _ _ _)); first | (refine cl_ rfl _ _ (laws_toHost_D (xs.getD k default) (hv _)) rfl rfl ?_; rintro _ rfl) | (refine mk0_ rfl ?_) | (refine mk_ rfl ?_)) | ((with_reducible show Wk (AwStep _ _ _ _ _)); first | (refine pln_ ?_)) | ((with_reducible show Wk (AwCode _ _ _ _ _)); first | (refine lpV_ (ι := Nat) [] [0] 0x19 (fun k => [(4, .sc (.int .i64 (k : Int)))]) (fun k => [(0, ⟨63, 6, xs.length, hostsMix xs k⟩)]) (fun k => k ≤ xs.length) (fun k => xs.length - k) 0 ?_ ?_; (focus (omega)); rintro _ hN0 k hinv; (try dsimp only at hinv); have hk : k ≤ xs.length := hinv; skip)) | ((with_reducible show Wk (boolK _ _ _ _)); first | (refine bk_ (fun h h' => ?_) (fun h h' => ?_))) | ((with_reducible show Wk (_ ∧ _)); first | (refine and_ ?_ ?_)) | ((with_reducible show Wk (retOkZ _ _ _ _)); first | (refine rz_ [0] ?_) | (refine rz_ [] ?_)) | (refine hN0.go (k + 1) [] [0] ?_ ?_; (focus (show k + 1 ≤ xs.length; omega)); (focus (show xs.length - (k + 1) < xs.length - k; omega))) | fail) <;> (try refine nm_ ?_))
  all_goals clear ex0 ex1 ex2 ex3 ex4 ex5 ex6 ex7 ex8 ex9 ex10
  all_goals (refine ⟨?_⟩)
  all_goals first | contradiction | rfl | (exfalso; omega) | trace_state

theorem laws_toPlacedS_D (xs : List PlacedD) (hn : xs.length ≤ 1048576) (hv : ∀ k, (xs.getD k default).pod.fine) : Spec Tryz.prog 49 [.sl xs.length (placedsD xs)] (fun d => d = .sl xs.length (placedsD xs)) := by
  have ex0 := @placedsMix_zero; have ex1 := @placedsMix_set; have ex2 := @placedsMix_all; have ex3 := @placedsMix_len; have ex4 := @placedsMix_rp; have ex5 := @placedsMix_frz; have ex6 := @placedCells_one; have ex7 := @placedCells_len; have ex8 := @placedsMix_in; have ex9 := @placedsMix_ren; have ex10 := @placedsMix_lt
  refine spZ_ (rs := [.tmp 2]) (nt := 23) Tryz.func49 rfl fun X hX => ?_
  refine nm_ ?_
  repeat' ((first | contradiction | (with_reducible exact tt_) | ((with_reducible show Wk (AwStepF _ _ _ _ _ _ _)); first | (refine cl_ rfl _ _ (laws_toPlaced_D (xs.getD k default) (hv _)) rfl rfl ?_; rintro _ rfl) | (refine mk0_ rfl ?_) | (refine mk_ rfl ?_)) | ((with_reducible show Wk (AwStep _ _ _ _ _)); first | (refine pln_ ?_)) | ((with_reducible show Wk (AwCode _ _ _ _ _)); first | (refine lpV_ (ι := Nat) [] [0] 0x19 (fun k => [(4, .sc (.int .i64 (k : Int)))]) (fun k => [(0, ⟨163, 9, xs.length, placedsMix xs k⟩)]) (fun k => k ≤ xs.length) (fun k => xs.length - k) 0 ?_ ?_; (focus (omega)); rintro _ hN0 k hinv; (try dsimp only at hinv); have hk : k ≤ xs.length := hinv; skip)) | ((with_reducible show Wk (boolK _ _ _ _)); first | (refine bk_ (fun h h' => ?_) (fun h h' => ?_))) | ((with_reducible show Wk (_ ∧ _)); first | (refine and_ ?_ ?_)) | ((with_reducible show Wk (retOkZ _ _ _ _)); first | (refine rz_ [0] ?_) | (refine rz_ [] ?_)) | (refine hN0.go (k + 1) [] [0] ?_ ?_; (focus (show k + 1 ≤ xs.length; omega)); (focus (show xs.length - (k + 1) < xs.length - k; omega))) | fail) <;> (try refine nm_ ?_))
  all_goals clear ex0 ex1 ex2 ex3 ex4 ex5 ex6 ex7 ex8 ex9 ex10
  all_goals (refine ⟨?_⟩)
  all_goals first | contradiction | rfl | (exfalso; omega) | trace_state

theorem laws_toWeights_D (x y z : Int) : Spec Tryz.prog 50 [.agg [.sc (.int .i64 x), .sc (.int .i64 y), .sc (.int .i64 z)]] (fun d => d = .agg [.sc (.int .i64 x), .sc (.int .i64 y), .sc (.int .i64 z)]) := by
  refine sp_ (rs := [.cell 2 33]) (nt := 14) Tryz.func50 rfl fun X hX => ?_
  refine nm_ ?_
  repeat' ((first | contradiction | (with_reducible exact tt_) | ((with_reducible show Wk (AwStep _ _ _ _ _)); first | (refine pln_ ?_)) | ((with_reducible show Wk (boolK _ _ _ _)); first | (refine bk_ (fun h h' => ?_) (fun h h' => ?_))) | ((with_reducible show Wk (_ ∧ _)); first | (refine and_ ?_ ?_)) | fail) <;> (try refine nm_ ?_))
  all_goals (refine ⟨?_⟩)
  all_goals first | contradiction | rfl | (exfalso; omega) | trace_state

theorem laws_toCluster_D (c : ClusterD) (hc : c.fine) : Spec Tryz.prog 9 [c.d] (fun d => d = c.d) := by
  unfold ClusterD.d
  refine sp_ (rs := [.cell 2 35]) (nt := 20) Tryz.func9 rfl fun X hX => ?_
  refine nm_ ?_
  repeat' ((first | contradiction | (with_reducible exact tt_) | ((with_reducible show Wk (AwStepF _ _ _ _ _ _ _)); first | (refine cl_ rfl _ _ (laws_toHostS_D _ hc.hlen hc.host) rfl rfl ?_; rintro _ rfl) | (refine cl_ rfl _ _ (laws_toPlacedS_D _ hc.plen hc.pod) rfl rfl ?_; rintro _ rfl) | (refine cl_ rfl _ _ (laws_toWeights_D _ _ _) rfl rfl ?_; rintro _ rfl)) | ((with_reducible show Wk (AwStep _ _ _ _ _)); first | (refine pln_ ?_)) | ((with_reducible show Wk (boolK _ _ _ _)); first | (refine bk_ (fun h h' => ?_) (fun h h' => ?_))) | ((with_reducible show Wk (_ ∧ _)); first | (refine and_ ?_ ?_)) | fail) <;> (try refine nm_ ?_))
  all_goals (refine ⟨?_⟩)
  all_goals first | contradiction | rfl | (exfalso; omega) | trace_state

end Go.Proofs.YtidjjfjhmlndjaaGreatDoor
