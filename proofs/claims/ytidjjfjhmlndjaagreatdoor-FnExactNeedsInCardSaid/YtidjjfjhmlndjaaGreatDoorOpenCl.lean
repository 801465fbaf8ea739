/- A cluster that comes in, opened. -/
import Derived.Test.YtidjjfjhmlndjaaGreatDoorOpen
import Derived.Test.YtidjjfjhmlndjaaGreatDoorCl10
namespace Go.Proofs.YtidjjfjhmlndjaaGreatDoor
open Go.RowKit Go.ChangeShapes Go.WideShapes

/-- Cells that read as data. -/
def CR (w : World) : List D → List Value → Prop
  | [], [] => True
  | d :: ds, v :: vs => (RepP (fun b => b < w.heap.size) w d v ∧ v.oneCell' = true) ∧ CR w ds vs
  | _, _ => False
theorem CR_at {w : World} : ∀ {ds : List D} {vs : List Value}, CR w ds vs → vs.length = ds.length ∧ ∀ (j : Nat) (d : D) (v : Value), ds[j]? = some d → vs[j]? = some v → RepP (fun b => b < w.heap.size) w d v ∧ v.oneCell' = true
  | [], [], _ => ⟨rfl, fun j d v h => by simp at h⟩
  | d :: ds, v :: vs, h => by
    obtain ⟨h1, h2⟩ := CR_at h.2
    refine ⟨by simp [h1], fun j e u he hu => ?_⟩
    rcases j with _ | j
    · simp only [List.getElem?_cons_zero, Option.some.injEq] at he hu
      subst he; subst hu
      exact h.1
    · exact h2 j e u (by simpa using he) (by simpa using hu)
  | [], _ :: _, h => h.elim
  | _ :: _, [], h => h.elim
theorem CR_app {w : World} : ∀ {a b : List D} {x y : List Value}, CR w a x → CR w b y → CR w (a ++ b) (x ++ y)
  | [], _, [], _, _, h => h
  | _ :: _, _, _ :: _, _, h, k => ⟨h.1, CR_app h.2 k⟩
  | [], _, _ :: _, _, h, _ => h.elim
  | _ :: _, _, [], _, h, _ => h.elim
theorem CR_str {w : World} (s : ByteArray) : RepP (fun b => b < w.heap.size) w (.sc (.string s)) (.string s) ∧ Value.oneCell' (.string s) = true := ⟨.sc _ rfl, rfl⟩
theorem CR_int {w : World} (n : Int) : RepP (fun b => b < w.heap.size) w (.sc (.int .i64 n)) (.int .i64 n) ∧ Value.oneCell' (.int .i64 n) = true := ⟨.sc _ rfl, rfl⟩
theorem CR_bool {w : World} (b : Bool) : RepP (fun b => b < w.heap.size) w (.sc (.bool b)) (.bool b) ∧ Value.oneCell' (.bool b) = true := ⟨.sc _ rfl, rfl⟩
theorem CR_sl {w : World} {n : Nat} {cs : List D} {v : Value} (h : RepP (fun b => b < w.heap.size) w (.sl n cs) v) : RepP (fun b => b < w.heap.size) w (.sl n cs) v ∧ v.oneCell' = true := ⟨h, by cases h; rfl⟩
/-- A row whose things read as data. -/
theorem rep_rows {α : Type} [Inhabited α] {cells : α → List D} {ok : α → Prop} {size : Nat} (hs : ∀ x, (cells x).length = size) (h0 : 0 < size) {w : World} {v : Value} {xs : List α} (h : SlR size (fun w _ cs x => CR w (cells x) cs ∧ ok x) w w.heap.size v xs) :
    RepP (fun b => b < w.heap.size) w (.sl xs.length (flatD cells xs)) v ∧ xs.length ≤ maxLen ∧ ∀ x ∈ xs, ok x := by
  obtain ⟨A, c, rfl, hn, hc, h⟩ := h
  obtain ⟨us, hul, hus⟩ := choose_list (p := fun j v => (∃ b o, A = some ⟨b, o, none⟩ ∧ b < w.heap.size ∧ w.cell? ⟨b, o + j, none⟩ = some v) ∧ ∀ d, (flatD cells xs)[j]? = some d → RepP (fun b => b < w.heap.size) w d v) (xs.length * size) (fun j hj => by
    have hi : j / size < xs.length := Nat.div_lt_of_lt_mul (by rw [Nat.mul_comm]; exact hj)
    have hm := Nat.mod_lt j h0
    have hjj : j / size * size + j % size = j := by rw [Nat.mul_comm]; exact Nat.div_add_mod j size
    obtain ⟨b, o, cs, hA, hb, hl, hcs, hx, _⟩ := h _ hi
    obtain ⟨h1, h2⟩ := CR_at hx
    have hlt : j % size < cs.length := by rw [hl]; exact hm
    refine ⟨cs[j % size], ⟨b, o, hA, hb, ?_⟩, fun d hd => ?_⟩
    · have h5 := hcs (j % size) hlt
      rw [Nat.add_assoc, hjj] at h5
      rw [h5, List.getElem?_eq_getElem hlt]
    · have h6 := flat_cell hs xs (j / size) (j % size) hi hm
      rw [hjj, hd] at h6
      have h7 : xs.getD (j / size) default = xs[j / size] := by simp [hi]
      rw [h7] at h6
      exact (h2 _ d _ h6.symm (List.getElem?_eq_getElem hlt)).1)
  refine ⟨.sl _ _ A c us (by rw [hul, flat_len hs]) hn hc (fun j u hu => ?_) (fun j d u hd hu => ?_), by omega, fun x hx => ?_⟩
  · obtain ⟨hj, rfl⟩ := List.getElem?_eq_some_iff.1 hu
    obtain ⟨⟨b, o, h1, h2, h3⟩, _⟩ := hus j hj
    exact ⟨b, o, h1, h2, h3⟩
  · obtain ⟨hj, rfl⟩ := List.getElem?_eq_some_iff.1 hu
    exact (hus j hj).2 d hd
  · obtain ⟨i, hi, rfl⟩ := List.getElem_of_mem hx
    obtain ⟨b, o, cs, _, _, _, _, _, h2⟩ := h i hi
    exact h2
theorem row_raw {α : Type} [Inhabited α] {ok : α → Prop} {xs : List α} (hd : ok default) (hl : xs.length ≤ maxLen) (h : ∀ x ∈ xs, ok x) : rowRaw ok xs := by
  refine ⟨by unfold maxLen at hl; omega, fun k => ?_⟩
  rw [List.getD_eq_getElem?_getD]
  cases e : xs[k]? with
  | none => exact hd
  | some x => exact h x (List.mem_of_getElem? e)
theorem raw_nil {α : Type} [Inhabited α] {P : α → Prop} (h : P default) : rowRaw P ([] : List α) := ⟨by simp, fun k => by simpa using h⟩
theorem label_r : LabelD.raw default := ⟨by decide, by decide⟩
theorem need_r : NeedD.raw default := ⟨by decide, int0, raw_nil (by decide)⟩
theorem taint_r : TaintD.raw default := ⟨by decide, by decide, int0⟩
theorem toler_r : TolerD.raw default := ⟨by decide, by decide, int0⟩
theorem pod_r : PodD.raw default := ⟨by decide, raw_nil label_r, ⟨int0, int0, int0⟩, raw_nil need_r, raw_nil toler_r⟩
theorem host_r : HostD.raw default := ⟨by decide, raw_nil label_r, ⟨int0, int0, int0⟩, raw_nil taint_r⟩
theorem placed_r : PlacedD.raw default := ⟨pod_r, by decide, int0⟩
theorem str_r : strRaw default := by decide
theorem ms {s : ByteArray} (h : s.size ≤ maxLen) : strRaw s := Nat.le_trans h (by unfold maxLen; omega)
theorem strs_flat (xs : List ByteArray) : strsD xs = flatD (fun x => [.sc (.string x)]) xs := by
  unfold strsD flatD
  induction xs with
  | nil => rfl
  | cons x r ih => simpa using ih
section
variable {H : Type} {enc : TypeId × Value → H} {w : World}
theorem ofString : Tryz.prog.cellsOf 9 = 1 := by kernel_rfl
theorem ofInt : Tryz.prog.cellsOf 3 = 1 := by kernel_rfl
theorem ofBool : Tryz.prog.cellsOf 4 = 1 := by kernel_rfl
theorem ofStrings : Tryz.prog.cellsOf 29 = 1 := by kernel_rfl
theorem rdb_strings {cs : List Value} (h : Rdb enc Tryz.prog w 29 cs) : ∃ (v : Value) (xs : List ByteArray), cs = [v] ∧ RepP (fun b => b < w.heap.size) w (.sl xs.length (strsD xs)) v ∧ rowRaw strRaw xs := by
  obtain ⟨v, xs, e, hr⟩ := rdb_slice (α := ByteArray) (R := fun w _ cs x => CR w [.sc (.string x)] cs ∧ strRaw x) Tryz.underlying29 ofString (by omega) (fun cs' h' => by
    obtain ⟨s, rfl, hs⟩ := rdb_string Tryz.underlying9 h'
    exact ⟨s, ⟨CR_str s, trivial⟩, ms hs⟩) h
  obtain ⟨h1, h2, h3⟩ := rep_rows (size := 1) (cells := fun x => [.sc (.string x)]) (fun _ => rfl) (by omega) hr
  refine ⟨v, xs, e, ?_, row_raw str_r h2 h3⟩
  rw [strs_flat]
  exact h1

theorem ofLabel : Tryz.prog.cellsOf 278 = 2 := by kernel_rfl
set_option maxRecDepth 100000 in
theorem rdb_Label {cs : List Value} (h : Rdb enc Tryz.prog w 278 cs) : ∃ x : LabelD, CR w (labelCells x) cs ∧ x.raw := by
  obtain ⟨hl, hf⟩ := rdb_struct Tryz.underlying278 h
  rw [ofLabel] at hl
  match cs, hl with
  | [c0, c1], _ =>
    have h0 : Rdb enc Tryz.prog w 9 (([c0, c1].drop 0).take (Tryz.prog.cellsOf 9)) := hf 0 _ rfl
    have h1 : Rdb enc Tryz.prog w 9 (([c0, c1].drop 1).take (Tryz.prog.cellsOf 9)) := hf 1 _ rfl
    rw [ofString] at h0
    rw [ofString] at h1
    obtain ⟨s0, e0, k0⟩ := rdb_string Tryz.underlying9 h0
    obtain ⟨s1, e1, k1⟩ := rdb_string Tryz.underlying9 h1
    obtain rfl : c0 = .string s0 := List.head_eq_of_cons_eq e0
    obtain rfl : c1 = .string s1 := List.head_eq_of_cons_eq e1
    exact ⟨⟨s0, s1⟩, ⟨CR_str s0, CR_str s1, trivial⟩, ⟨ms k0, ms k1⟩⟩

theorem ofSLabel : Tryz.prog.cellsOf 151 = 1 := by kernel_rfl
theorem rdb_SLabel {cs : List Value} (h : Rdb enc Tryz.prog w 151 cs) : ∃ (v : Value) (xs : List LabelD), cs = [v] ∧ RepP (fun b => b < w.heap.size) w (.sl xs.length (labelsD xs)) v ∧ rowRaw LabelD.raw xs := by
  obtain ⟨v, xs, e, hr⟩ := rdb_slice (α := LabelD) (R := fun w _ cs x => CR w (labelCells x) cs ∧ x.raw) Tryz.underlying151 ofLabel (by omega) (fun cs' h' => rdb_Label h') h
  obtain ⟨h1, h2, h3⟩ := rep_rows (cells := labelCells) labelCells_len (by omega) hr
  exact ⟨v, xs, e, h1, row_raw label_r h2 h3⟩

theorem ofTaint : Tryz.prog.cellsOf 280 = 3 := by kernel_rfl
set_option maxRecDepth 100000 in
theorem rdb_Taint {cs : List Value} (h : Rdb enc Tryz.prog w 280 cs) : ∃ x : TaintD, CR w (taintCells x) cs ∧ x.raw := by
  obtain ⟨hl, hf⟩ := rdb_struct Tryz.underlying280 h
  rw [ofTaint] at hl
  match cs, hl with
  | [c0, c1, c2], _ =>
    have h0 : Rdb enc Tryz.prog w 9 (([c0, c1, c2].drop 0).take (Tryz.prog.cellsOf 9)) := hf 0 _ rfl
    have h1 : Rdb enc Tryz.prog w 9 (([c0, c1, c2].drop 1).take (Tryz.prog.cellsOf 9)) := hf 1 _ rfl
    have h2 : Rdb enc Tryz.prog w 3 (([c0, c1, c2].drop 2).take (Tryz.prog.cellsOf 3)) := hf 2 _ rfl
    rw [ofString] at h0
    rw [ofString] at h1
    rw [ofInt] at h2
    obtain ⟨s0, e0, k0⟩ := rdb_string Tryz.underlying9 h0
    obtain ⟨s1, e1, k1⟩ := rdb_string Tryz.underlying9 h1
    obtain ⟨s2, e2, k2⟩ := rdb_int Tryz.underlying3 h2
    obtain rfl : c0 = .string s0 := List.head_eq_of_cons_eq e0
    obtain rfl : c1 = .string s1 := List.head_eq_of_cons_eq e1
    obtain rfl : c2 = .int .i64 s2 := List.head_eq_of_cons_eq e2
    exact ⟨⟨s0, s1, s2⟩, ⟨CR_str s0, CR_str s1, CR_int s2, trivial⟩, ⟨ms k0, ms k1, k2⟩⟩

theorem ofSTaint : Tryz.prog.cellsOf 152 = 1 := by kernel_rfl
theorem rdb_STaint {cs : List Value} (h : Rdb enc Tryz.prog w 152 cs) : ∃ (v : Value) (xs : List TaintD), cs = [v] ∧ RepP (fun b => b < w.heap.size) w (.sl xs.length (taintsD xs)) v ∧ rowRaw TaintD.raw xs := by
  obtain ⟨v, xs, e, hr⟩ := rdb_slice (α := TaintD) (R := fun w _ cs x => CR w (taintCells x) cs ∧ x.raw) Tryz.underlying152 ofTaint (by omega) (fun cs' h' => rdb_Taint h') h
  obtain ⟨h1, h2, h3⟩ := rep_rows (cells := taintCells) taintCells_len (by omega) hr
  exact ⟨v, xs, e, h1, row_raw taint_r h2 h3⟩

theorem ofTolerance : Tryz.prog.cellsOf 333 = 4 := by kernel_rfl
set_option maxRecDepth 100000 in
theorem rdb_Tolerance {cs : List Value} (h : Rdb enc Tryz.prog w 333 cs) : ∃ x : TolerD, CR w (tolerCells x) cs ∧ x.raw := by
  obtain ⟨hl, hf⟩ := rdb_struct Tryz.underlying333 h
  rw [ofTolerance] at hl
  match cs, hl with
  | [c0, c1, c2, c3], _ =>
    have h0 : Rdb enc Tryz.prog w 9 (([c0, c1, c2, c3].drop 0).take (Tryz.prog.cellsOf 9)) := hf 0 _ rfl
    have h1 : Rdb enc Tryz.prog w 4 (([c0, c1, c2, c3].drop 1).take (Tryz.prog.cellsOf 4)) := hf 1 _ rfl
    have h2 : Rdb enc Tryz.prog w 9 (([c0, c1, c2, c3].drop 2).take (Tryz.prog.cellsOf 9)) := hf 2 _ rfl
    have h3 : Rdb enc Tryz.prog w 3 (([c0, c1, c2, c3].drop 3).take (Tryz.prog.cellsOf 3)) := hf 3 _ rfl
    rw [ofString] at h0
    rw [ofBool] at h1
    rw [ofString] at h2
    rw [ofInt] at h3
    obtain ⟨s0, e0, k0⟩ := rdb_string Tryz.underlying9 h0
    obtain ⟨s1, e1⟩ := rdb_bool Tryz.underlying4 h1
    obtain ⟨s2, e2, k2⟩ := rdb_string Tryz.underlying9 h2
    obtain ⟨s3, e3, k3⟩ := rdb_int Tryz.underlying3 h3
    obtain rfl : c0 = .string s0 := List.head_eq_of_cons_eq e0
    obtain rfl : c1 = .bool s1 := List.head_eq_of_cons_eq e1
    obtain rfl : c2 = .string s2 := List.head_eq_of_cons_eq e2
    obtain rfl : c3 = .int .i64 s3 := List.head_eq_of_cons_eq e3
    exact ⟨⟨s0, s1, s2, s3⟩, ⟨CR_str s0, CR_bool s1, CR_str s2, CR_int s3, trivial⟩, ⟨ms k0, ms k2, k3⟩⟩

theorem ofSTolerance : Tryz.prog.cellsOf 157 = 1 := by kernel_rfl
theorem rdb_STolerance {cs : List Value} (h : Rdb enc Tryz.prog w 157 cs) : ∃ (v : Value) (xs : List TolerD), cs = [v] ∧ RepP (fun b => b < w.heap.size) w (.sl xs.length (tolersD xs)) v ∧ rowRaw TolerD.raw xs := by
  obtain ⟨v, xs, e, hr⟩ := rdb_slice (α := TolerD) (R := fun w _ cs x => CR w (tolerCells x) cs ∧ x.raw) Tryz.underlying157 ofTolerance (by omega) (fun cs' h' => rdb_Tolerance h') h
  obtain ⟨h1, h2, h3⟩ := rep_rows (cells := tolerCells) tolerCells_len (by omega) hr
  exact ⟨v, xs, e, h1, row_raw toler_r h2 h3⟩

theorem ofNeed : Tryz.prog.cellsOf 331 = 3 := by kernel_rfl
set_option maxRecDepth 100000 in
theorem rdb_Need {cs : List Value} (h : Rdb enc Tryz.prog w 331 cs) : ∃ x : NeedD, CR w (needCells x) cs ∧ x.raw := by
  obtain ⟨hl, hf⟩ := rdb_struct Tryz.underlying331 h
  rw [ofNeed] at hl
  match cs, hl with
  | [c0, c1, c2], _ =>
    have h0 : Rdb enc Tryz.prog w 9 (([c0, c1, c2].drop 0).take (Tryz.prog.cellsOf 9)) := hf 0 _ rfl
    have h1 : Rdb enc Tryz.prog w 3 (([c0, c1, c2].drop 1).take (Tryz.prog.cellsOf 3)) := hf 1 _ rfl
    have h2 : Rdb enc Tryz.prog w 29 (([c0, c1, c2].drop 2).take (Tryz.prog.cellsOf 29)) := hf 2 _ rfl
    rw [ofString] at h0
    rw [ofInt] at h1
    rw [ofStrings] at h2
    obtain ⟨s0, e0, k0⟩ := rdb_string Tryz.underlying9 h0
    obtain ⟨s1, e1, k1⟩ := rdb_int Tryz.underlying3 h1
    obtain ⟨v2, s2, e2, r2, k2⟩ := rdb_strings h2
    obtain rfl : c0 = .string s0 := List.head_eq_of_cons_eq e0
    obtain rfl : c1 = .int .i64 s1 := List.head_eq_of_cons_eq e1
    obtain rfl : c2 = v2 := List.head_eq_of_cons_eq e2
    exact ⟨⟨s0, s1, s2⟩, ⟨CR_str s0, CR_int s1, CR_sl r2, trivial⟩, ⟨ms k0, k1, k2⟩⟩

theorem ofSNeed : Tryz.prog.cellsOf 156 = 1 := by kernel_rfl
theorem rdb_SNeed {cs : List Value} (h : Rdb enc Tryz.prog w 156 cs) : ∃ (v : Value) (xs : List NeedD), cs = [v] ∧ RepP (fun b => b < w.heap.size) w (.sl xs.length (needsD xs)) v ∧ rowRaw NeedD.raw xs := by
  obtain ⟨v, xs, e, hr⟩ := rdb_slice (α := NeedD) (R := fun w _ cs x => CR w (needCells x) cs ∧ x.raw) Tryz.underlying156 ofNeed (by omega) (fun cs' h' => rdb_Need h') h
  obtain ⟨h1, h2, h3⟩ := rep_rows (cells := needCells) needCells_len (by omega) hr
  exact ⟨v, xs, e, h1, row_raw need_r h2 h3⟩

theorem ofPod : Tryz.prog.cellsOf 159 = 7 := by kernel_rfl
set_option maxRecDepth 100000 in
theorem rdb_Pod {cs : List Value} (h : Rdb enc Tryz.prog w 159 cs) : ∃ x : PodD, CR w (podCells x) cs ∧ x.raw := by
  obtain ⟨hl, hf⟩ := rdb_struct Tryz.underlying159 h
  rw [ofPod] at hl
  match cs, hl with
  | [c0, c1, c2, c3, c4, c5, c6], _ =>
    have h0 : Rdb enc Tryz.prog w 9 (([c0, c1, c2, c3, c4, c5, c6].drop 0).take (Tryz.prog.cellsOf 9)) := hf 0 _ rfl
    have h1 : Rdb enc Tryz.prog w 151 (([c0, c1, c2, c3, c4, c5, c6].drop 1).take (Tryz.prog.cellsOf 151)) := hf 1 _ rfl
    have h2 : Rdb enc Tryz.prog w 3 (([c0, c1, c2, c3, c4, c5, c6].drop 2).take (Tryz.prog.cellsOf 3)) := hf 2 _ rfl
    have h3 : Rdb enc Tryz.prog w 3 (([c0, c1, c2, c3, c4, c5, c6].drop 3).take (Tryz.prog.cellsOf 3)) := hf 3 _ rfl
    have h4 : Rdb enc Tryz.prog w 3 (([c0, c1, c2, c3, c4, c5, c6].drop 4).take (Tryz.prog.cellsOf 3)) := hf 4 _ rfl
    have h5 : Rdb enc Tryz.prog w 156 (([c0, c1, c2, c3, c4, c5, c6].drop 5).take (Tryz.prog.cellsOf 156)) := hf 5 _ rfl
    have h6 : Rdb enc Tryz.prog w 157 (([c0, c1, c2, c3, c4, c5, c6].drop 6).take (Tryz.prog.cellsOf 157)) := hf 6 _ rfl
    rw [ofString] at h0
    rw [ofSLabel] at h1
    rw [ofInt] at h2
    rw [ofInt] at h3
    rw [ofInt] at h4
    rw [ofSNeed] at h5
    rw [ofSTolerance] at h6
    obtain ⟨s0, e0, k0⟩ := rdb_string Tryz.underlying9 h0
    obtain ⟨v1, s1, e1, r1, k1⟩ := rdb_SLabel h1
    obtain ⟨s2, e2, k2⟩ := rdb_int Tryz.underlying3 h2
    obtain ⟨s3, e3, k3⟩ := rdb_int Tryz.underlying3 h3
    obtain ⟨s4, e4, k4⟩ := rdb_int Tryz.underlying3 h4
    obtain ⟨v5, s5, e5, r5, k5⟩ := rdb_SNeed h5
    obtain ⟨v6, s6, e6, r6, k6⟩ := rdb_STolerance h6
    obtain rfl : c0 = .string s0 := List.head_eq_of_cons_eq e0
    obtain rfl : c1 = v1 := List.head_eq_of_cons_eq e1
    obtain rfl : c2 = .int .i64 s2 := List.head_eq_of_cons_eq e2
    obtain rfl : c3 = .int .i64 s3 := List.head_eq_of_cons_eq e3
    obtain rfl : c4 = .int .i64 s4 := List.head_eq_of_cons_eq e4
    obtain rfl : c5 = v5 := List.head_eq_of_cons_eq e5
    obtain rfl : c6 = v6 := List.head_eq_of_cons_eq e6
    exact ⟨⟨s0, s1, s2, s3, s4, s5, s6⟩, ⟨CR_str s0, CR_sl r1, CR_int s2, CR_int s3, CR_int s4, CR_sl r5, CR_sl r6, trivial⟩, ⟨ms k0, k1, ⟨k2, k3, k4⟩, k5, k6⟩⟩

theorem ofHost : Tryz.prog.cellsOf 154 = 6 := by kernel_rfl
set_option maxRecDepth 100000 in
theorem rdb_Host {cs : List Value} (h : Rdb enc Tryz.prog w 154 cs) : ∃ x : HostD, CR w (hostCells x) cs ∧ x.raw := by
  obtain ⟨hl, hf⟩ := rdb_struct Tryz.underlying154 h
  rw [ofHost] at hl
  match cs, hl with
  | [c0, c1, c2, c3, c4, c5], _ =>
    have h0 : Rdb enc Tryz.prog w 9 (([c0, c1, c2, c3, c4, c5].drop 0).take (Tryz.prog.cellsOf 9)) := hf 0 _ rfl
    have h1 : Rdb enc Tryz.prog w 151 (([c0, c1, c2, c3, c4, c5].drop 1).take (Tryz.prog.cellsOf 151)) := hf 1 _ rfl
    have h2 : Rdb enc Tryz.prog w 3 (([c0, c1, c2, c3, c4, c5].drop 2).take (Tryz.prog.cellsOf 3)) := hf 2 _ rfl
    have h3 : Rdb enc Tryz.prog w 3 (([c0, c1, c2, c3, c4, c5].drop 3).take (Tryz.prog.cellsOf 3)) := hf 3 _ rfl
    have h4 : Rdb enc Tryz.prog w 3 (([c0, c1, c2, c3, c4, c5].drop 4).take (Tryz.prog.cellsOf 3)) := hf 4 _ rfl
    have h5 : Rdb enc Tryz.prog w 152 (([c0, c1, c2, c3, c4, c5].drop 5).take (Tryz.prog.cellsOf 152)) := hf 5 _ rfl
    rw [ofString] at h0
    rw [ofSLabel] at h1
    rw [ofInt] at h2
    rw [ofInt] at h3
    rw [ofInt] at h4
    rw [ofSTaint] at h5
    obtain ⟨s0, e0, k0⟩ := rdb_string Tryz.underlying9 h0
    obtain ⟨v1, s1, e1, r1, k1⟩ := rdb_SLabel h1
    obtain ⟨s2, e2, k2⟩ := rdb_int Tryz.underlying3 h2
    obtain ⟨s3, e3, k3⟩ := rdb_int Tryz.underlying3 h3
    obtain ⟨s4, e4, k4⟩ := rdb_int Tryz.underlying3 h4
    obtain ⟨v5, s5, e5, r5, k5⟩ := rdb_STaint h5
    obtain rfl : c0 = .string s0 := List.head_eq_of_cons_eq e0
    obtain rfl : c1 = v1 := List.head_eq_of_cons_eq e1
    obtain rfl : c2 = .int .i64 s2 := List.head_eq_of_cons_eq e2
    obtain rfl : c3 = .int .i64 s3 := List.head_eq_of_cons_eq e3
    obtain rfl : c4 = .int .i64 s4 := List.head_eq_of_cons_eq e4
    obtain rfl : c5 = v5 := List.head_eq_of_cons_eq e5
    exact ⟨⟨s0, s1, s2, s3, s4, s5⟩, ⟨CR_str s0, CR_sl r1, CR_int s2, CR_int s3, CR_int s4, CR_sl r5, trivial⟩, ⟨ms k0, k1, ⟨k2, k3, k4⟩, k5⟩⟩

theorem ofSHost : Tryz.prog.cellsOf 22 = 1 := by kernel_rfl
theorem rdb_SHost {cs : List Value} (h : Rdb enc Tryz.prog w 22 cs) : ∃ (v : Value) (xs : List HostD), cs = [v] ∧ RepP (fun b => b < w.heap.size) w (.sl xs.length (hostsD xs)) v ∧ rowRaw HostD.raw xs := by
  obtain ⟨v, xs, e, hr⟩ := rdb_slice (α := HostD) (R := fun w _ cs x => CR w (hostCells x) cs ∧ x.raw) Tryz.underlying22 ofHost (by omega) (fun cs' h' => rdb_Host h') h
  obtain ⟨h1, h2, h3⟩ := rep_rows (cells := hostCells) hostCells_len (by omega) hr
  exact ⟨v, xs, e, h1, row_raw host_r h2 h3⟩

theorem ofPlaced : Tryz.prog.cellsOf 161 = 9 := by kernel_rfl
set_option maxRecDepth 100000 in
theorem rdb_Placed {cs : List Value} (h : Rdb enc Tryz.prog w 161 cs) : ∃ x : PlacedD, CR w (placedCells x) cs ∧ x.raw := by
  obtain ⟨hl, hf⟩ := rdb_struct Tryz.underlying161 h
  rw [ofPlaced] at hl
  match cs, hl with
  | [c0, c1, c2, c3, c4, c5, c6, c7, c8], _ =>
    have h0 : Rdb enc Tryz.prog w 159 (([c0, c1, c2, c3, c4, c5, c6, c7, c8].drop 0).take (Tryz.prog.cellsOf 159)) := hf 0 _ rfl
    have h1 : Rdb enc Tryz.prog w 9 (([c0, c1, c2, c3, c4, c5, c6, c7, c8].drop 7).take (Tryz.prog.cellsOf 9)) := hf 1 _ rfl
    have h2 : Rdb enc Tryz.prog w 3 (([c0, c1, c2, c3, c4, c5, c6, c7, c8].drop 8).take (Tryz.prog.cellsOf 3)) := hf 2 _ rfl
    rw [ofPod] at h0
    rw [ofString] at h1
    rw [ofInt] at h2
    obtain ⟨s0, r0, k0⟩ := rdb_Pod h0
    obtain ⟨s1, e1, k1⟩ := rdb_string Tryz.underlying9 h1
    obtain ⟨s2, e2, k2⟩ := rdb_int Tryz.underlying3 h2
    obtain rfl : c7 = .string s1 := List.head_eq_of_cons_eq e1
    obtain rfl : c8 = .int .i64 s2 := List.head_eq_of_cons_eq e2
    exact ⟨⟨s0, s1, s2⟩, CR_app r0 ⟨CR_str s1, CR_int s2, trivial⟩, ⟨k0, ms k1, k2⟩⟩

theorem ofSPlaced : Tryz.prog.cellsOf 23 = 1 := by kernel_rfl
theorem rdb_SPlaced {cs : List Value} (h : Rdb enc Tryz.prog w 23 cs) : ∃ (v : Value) (xs : List PlacedD), cs = [v] ∧ RepP (fun b => b < w.heap.size) w (.sl xs.length (placedsD xs)) v ∧ rowRaw PlacedD.raw xs := by
  obtain ⟨v, xs, e, hr⟩ := rdb_slice (α := PlacedD) (R := fun w _ cs x => CR w (placedCells x) cs ∧ x.raw) Tryz.underlying23 ofPlaced (by omega) (fun cs' h' => rdb_Placed h') h
  obtain ⟨h1, h2, h3⟩ := rep_rows (cells := placedCells) placedCells_len (by omega) hr
  exact ⟨v, xs, e, h1, row_raw placed_r h2 h3⟩

theorem ofWeights : Tryz.prog.cellsOf 25 = 3 := by kernel_rfl
theorem ofCluster : Tryz.prog.cellsOf 27 = 6 := by kernel_rfl
def ClusterD.cells (c : ClusterD) : List D := [.sl c.hosts.length (hostsD c.hosts), .sl c.pods.length (placedsD c.pods), .sc (.int .i64 c.next), .sc (.int .i64 c.w1), .sc (.int .i64 c.w2), .sc (.int .i64 c.w3)]
set_option maxRecDepth 100000 in
theorem rdb_Cluster {cs : List Value} (h : Rdb enc Tryz.prog w 27 cs) : ∃ c : ClusterD, CR w c.cells cs ∧ c.raw := by
  obtain ⟨hl, hf⟩ := rdb_struct Tryz.underlying27 h
  rw [ofCluster] at hl
  match cs, hl with
  | [c0, c1, c2, c3, c4, c5], _ =>
    have h0 : Rdb enc Tryz.prog w 22 (([c0, c1, c2, c3, c4, c5].drop 0).take (Tryz.prog.cellsOf 22)) := hf 0 _ rfl
    have h1 : Rdb enc Tryz.prog w 23 (([c0, c1, c2, c3, c4, c5].drop 1).take (Tryz.prog.cellsOf 23)) := hf 1 _ rfl
    have h2 : Rdb enc Tryz.prog w 3 (([c0, c1, c2, c3, c4, c5].drop 2).take (Tryz.prog.cellsOf 3)) := hf 2 _ rfl
    have h3 : Rdb enc Tryz.prog w 25 (([c0, c1, c2, c3, c4, c5].drop 3).take (Tryz.prog.cellsOf 25)) := hf 3 _ rfl
    rw [ofSHost] at h0
    rw [ofSPlaced] at h1
    rw [ofInt] at h2
    rw [ofWeights] at h3
    obtain ⟨v0, s0, e0, r0, k0⟩ := rdb_SHost h0
    obtain ⟨v1, s1, e1, r1, k1⟩ := rdb_SPlaced h1
    obtain ⟨s2, e2, k2⟩ := rdb_int Tryz.underlying3 h2
    obtain ⟨_, hw⟩ := rdb_struct Tryz.underlying25 h3
    have w0 : Rdb enc Tryz.prog w 3 (([c3, c4, c5].drop 0).take (Tryz.prog.cellsOf 3)) := hw 0 _ rfl
    have w1 : Rdb enc Tryz.prog w 3 (([c3, c4, c5].drop 1).take (Tryz.prog.cellsOf 3)) := hw 1 _ rfl
    have w2 : Rdb enc Tryz.prog w 3 (([c3, c4, c5].drop 2).take (Tryz.prog.cellsOf 3)) := hw 2 _ rfl
    rw [ofInt] at w0 w1 w2
    obtain ⟨s3, e3, _⟩ := rdb_int Tryz.underlying3 w0
    obtain ⟨s4, e4, _⟩ := rdb_int Tryz.underlying3 w1
    obtain ⟨s5, e5, _⟩ := rdb_int Tryz.underlying3 w2
    obtain rfl : c0 = v0 := List.head_eq_of_cons_eq e0
    obtain rfl : c1 = v1 := List.head_eq_of_cons_eq e1
    obtain rfl : c2 = .int .i64 s2 := List.head_eq_of_cons_eq e2
    obtain rfl : c3 = .int .i64 s3 := List.head_eq_of_cons_eq e3
    obtain rfl : c4 = .int .i64 s4 := List.head_eq_of_cons_eq e4
    obtain rfl : c5 = .int .i64 s5 := List.head_eq_of_cons_eq e5
    exact ⟨⟨s0, s1, s2, s3, s4, s5⟩, ⟨CR_sl r0, CR_sl r1, CR_int s2, CR_int s3, CR_int s4, CR_int s5, trivial⟩, k0, k1, k2⟩
/-- What a cluster that comes in reads as. -/
def ClusterR (w : World) (v : Value) (c : ClusterD) : Prop := Rep (roEnv fun b => b < w.heap.size) w c.d v ∧ c.raw
set_option maxRecDepth 100000 in
theorem open_Cluster {v : Value} {d : DataW H} {p : List MemPlace} {base : Nat} (hv : Value.okWide Tryz.prog w .any base 27 v) (h : DataW.Trod enc Tryz.prog w 0 (fun _ => true) true 27 v d p) :
    ∃ (c : ClusterD), ClusterR w v c := by
  obtain ⟨cs, rfl, _⟩ := okWide_struct Tryz.underlying27 hv
  obtain ⟨c, hr, hk⟩ := rdb_Cluster (rdb_of_trod h)
  refine ⟨c, ⟨cs.toList, by simp, ?_, fun j d v hd hv => ?_⟩, hk⟩
  · have := (CR_at hr).1
    simpa [Value.cells, ClusterD.cells] using this
  · have h2 := (CR_at hr).2 j d v hd (by simpa [Value.cells] using hv)
    exact ⟨h2.1.to1.1, h2.2⟩
set_option maxRecDepth 100000 in
theorem open_I {v : Value} {d : DataW H} {p : List MemPlace} {base : Nat} (_hv : Value.okWide Tryz.prog w .any base 3 v) (h : DataW.Trod enc Tryz.prog w 0 (fun _ => true) true 3 v d p) :
    ∃ n : Int, v = .int .i64 n ∧ -9223372036854775808 ≤ n ∧ n ≤ 9223372036854775807 := by
  obtain ⟨n, rfl, _, _, h1⟩ := open_int Tryz.underlying3 _hv h
  refine ⟨n, rfl, ?_⟩
  simpa [Lit.wf, IntKind.min, IntKind.max, IntKind.signed, IntKind.bits] using h1
end
end Go.Proofs.YtidjjfjhmlndjaaGreatDoor
