/- An act that comes in, opened (seat .D). -/
import Derived.Test.YtepachoampdhiaaDoorOpenLines
import Derived.Test.YtepachoampdhiaaDoorActs5
namespace Go.Proofs.YtepachoampdhiaaDoor
open Go.RowKit Go.ChangeShapes Go.WideShapes
def intCells (n : Int) : List Value := [.int .i64 n]
def IntOk (n : Int) : Prop := -9223372036854775808 ≤ n ∧ n ≤ 9223372036854775807
theorem int_one : ∀ (x : Int), ∀ v ∈ intCells x, v.oneCell' = true := by
  intro x v hv
  simp [intCells] at hv
  subst hv
  rfl
theorem enc_ints (ks : List Int) : enc intCells ks = intsD ks := by
  induction ks with
  | nil => rfl
  | cons k r ih => simpa [enc, intsD, intCells] using ih
structure ActD.in64 (a : ActD) : Prop where
  text : a.text.size ≤ 9223372036854775807
  name : a.name.size ≤ 9223372036854775807
  keeps : a.keeps.length ≤ 9223372036854775807
def ActR (w : World) (cs : List Value) (a : ActD) : Prop := Rep (roEnv fun b => b < w.heap.size) w a.d (.agg cs.toArray) ∧ a.in64
section
variable {H : Type} {enc : TypeId × Value → H} {w : World}
theorem cellsOfLAct : Tryd.prog.cellsOf 41 = 10 := by kernel_rfl
theorem cellsOfLWeights : Tryd.prog.cellsOf 38 = 3 := by kernel_rfl
theorem cellsOfInts : Tryd.prog.cellsOf 39 = 1 := by kernel_rfl
set_option maxRecDepth 100000 in
theorem rdb_LAct {cs : List Value} (h : Rdb enc Tryd.prog w 41 cs) : ∃ a : ActD, ActR w cs a := by
  obtain ⟨hl, hf⟩ := rdb_struct Tryd.underlying41 h
  rw [cellsOfLAct] at hl
  match cs, hl with
  | [c0, c1, c2, c3, c4, c5, c6, c7, c8, c9], _ =>
    have h0 : Rdb enc Tryd.prog w 3 (([c0, c1, c2, c3, c4, c5, c6, c7, c8, c9].drop 0).take (Tryd.prog.cellsOf 3)) := hf 0 _ rfl
    have h1 : Rdb enc Tryd.prog w 3 (([c0, c1, c2, c3, c4, c5, c6, c7, c8, c9].drop 1).take (Tryd.prog.cellsOf 3)) := hf 1 _ rfl
    have h2 : Rdb enc Tryd.prog w 9 (([c0, c1, c2, c3, c4, c5, c6, c7, c8, c9].drop 2).take (Tryd.prog.cellsOf 9)) := hf 2 _ rfl
    have h3 : Rdb enc Tryd.prog w 9 (([c0, c1, c2, c3, c4, c5, c6, c7, c8, c9].drop 3).take (Tryd.prog.cellsOf 9)) := hf 3 _ rfl
    have h4 : Rdb enc Tryd.prog w 38 (([c0, c1, c2, c3, c4, c5, c6, c7, c8, c9].drop 4).take (Tryd.prog.cellsOf 38)) := hf 4 _ rfl
    have h7 : Rdb enc Tryd.prog w 3 (([c0, c1, c2, c3, c4, c5, c6, c7, c8, c9].drop 7).take (Tryd.prog.cellsOf 3)) := hf 5 _ rfl
    have h8 : Rdb enc Tryd.prog w 3 (([c0, c1, c2, c3, c4, c5, c6, c7, c8, c9].drop 8).take (Tryd.prog.cellsOf 3)) := hf 6 _ rfl
    have h9 : Rdb enc Tryd.prog w 39 (([c0, c1, c2, c3, c4, c5, c6, c7, c8, c9].drop 9).take (Tryd.prog.cellsOf 39)) := hf 7 _ rfl
    rw [cellsLString] at h2 h3
    rw [cellsLInt] at h0 h1 h7 h8
    rw [cellsOfLWeights] at h4
    rw [cellsOfInts] at h9
    obtain ⟨s0, e0, _⟩ := rdb_int Tryd.underlying3 h0
    obtain ⟨s1, e1, _⟩ := rdb_int Tryd.underlying3 h1
    obtain ⟨s2, e2, k2⟩ := rdb_string Tryd.underlying9 h2
    obtain ⟨s3, e3, k3⟩ := rdb_string Tryd.underlying9 h3
    obtain ⟨s7, e7, _⟩ := rdb_int Tryd.underlying3 h7
    obtain ⟨s8, e8, _⟩ := rdb_int Tryd.underlying3 h8
    obtain ⟨_, hw⟩ := rdb_struct Tryd.underlying38 h4
    have w0 : Rdb enc Tryd.prog w 3 (([c4, c5, c6].drop 0).take (Tryd.prog.cellsOf 3)) := hw 0 _ rfl
    have w1 : Rdb enc Tryd.prog w 3 (([c4, c5, c6].drop 1).take (Tryd.prog.cellsOf 3)) := hw 1 _ rfl
    have w2 : Rdb enc Tryd.prog w 3 (([c4, c5, c6].drop 2).take (Tryd.prog.cellsOf 3)) := hw 2 _ rfl
    rw [cellsLInt] at w0 w1 w2
    obtain ⟨s4, e4, _⟩ := rdb_int Tryd.underlying3 w0
    obtain ⟨s5, e5, _⟩ := rdb_int Tryd.underlying3 w1
    obtain ⟨s6, e6, _⟩ := rdb_int Tryd.underlying3 w2
    obtain ⟨u, is, e9, k9⟩ := rdb_slice (α := Int) (R := Flat intCells IntOk) Tryd.underlying39 cellsLInt (by omega) (fun cs' h' => by
      obtain ⟨n, e, g1, g2⟩ := rdb_int Tryd.underlying3 h'
      exact ⟨n, e, g1, g2⟩) h9
    obtain rfl : c0 = .int .i64 s0 := List.head_eq_of_cons_eq e0
    obtain rfl : c1 = .int .i64 s1 := List.head_eq_of_cons_eq e1
    obtain rfl : c2 = .string s2 := List.head_eq_of_cons_eq e2
    obtain rfl : c3 = .string s3 := List.head_eq_of_cons_eq e3
    obtain rfl : c4 = .int .i64 s4 := List.head_eq_of_cons_eq e4
    obtain rfl : c5 = .int .i64 s5 := List.head_eq_of_cons_eq e5
    obtain rfl : c6 = .int .i64 s6 := List.head_eq_of_cons_eq e6
    obtain rfl : c7 = .int .i64 s7 := List.head_eq_of_cons_eq e7
    obtain rfl : c8 = .int .i64 s8 := List.head_eq_of_cons_eq e8
    obtain rfl : c9 = u := List.head_eq_of_cons_eq e9
    have hr := rep_sl (cells := intCells) (size := 1) (fun _ => rfl) int_one k9 (E := roEnv fun b => b < w.heap.size) fun b hb => hb
    rw [enc_ints] at hr
    have hlen : is.length ≤ maxLen := by obtain ⟨A, c, _, hc, hm, _⟩ := k9; omega
    unfold maxLen at k2 k3 hlen
    refine ⟨⟨s0, s1, s2, s3, s4, s5, s6, s7, s8, is⟩, ⟨_, rfl, rfl, fun j d v hd hv => ?_⟩, by show s2.size ≤ _; omega, by show s3.size ≤ _; omega, by show is.length ≤ _; omega⟩
    have hs : ∀ {x y : Value}, y = x → x.oneCell' = true → Rep1 (roEnv fun b => b < w.heap.size) w (.sc x) y ∧ y.oneCell' = true := fun h1 h2 => by subst h1; exact ⟨⟨rfl, h2⟩, h2⟩
    rcases j with _ | _ | _ | _ | _ | _ | _ | _ | _ | _ | j <;> simp only [List.getElem?_cons_zero, List.getElem?_cons_succ, List.getElem?_nil, Option.some.injEq, reduceCtorEq] at hd hv
    case succ.succ.succ.succ.succ.succ.succ.succ.succ.zero => subst hd; subst hv; exact ⟨hr, by cases hr; rfl⟩
    all_goals (subst hd; subst hv; exact hs rfl rfl)
set_option maxRecDepth 100000 in
theorem open_Act {v : Value} {d : DataW H} {p : List MemPlace} {base : Nat} (hv : Value.okWide Tryd.prog w .any base 41 v) (h : DataW.Trod enc Tryd.prog w 0 (fun _ => true) true 41 v d p) :
    ∃ (cs : List Value) (a : ActD), v = .agg cs.toArray ∧ ActR w cs a := by
  obtain ⟨cs, rfl, _⟩ := okWide_struct Tryd.underlying41 hv
  obtain ⟨a, hr⟩ := rdb_LAct (rdb_of_trod h)
  exact ⟨cs.toList, a, by simp, by simpa [Value.cells] using hr⟩
end
end Go.Proofs.YtepachoampdhiaaDoor
