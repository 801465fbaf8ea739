/- A fault, a reply that comes in, opened. -/
import Derived.Test.YtepachoampdhiaaDoorOpen
import Derived.Test.YtepachoampdhiaaDoorLines
namespace Go.Proofs.YtepachoampdhiaaDoor
open Go.RowKit Go.ChangeShapes Go.WideShapes
section
variable {H : Type} {enc : TypeId × Value → H} {w : World}
def i64ok (n : Int) : Prop := -9223372036854775808 ≤ n ∧ n ≤ 9223372036854775807
theorem cellsLInt : Tryd.prog.cellsOf 3 = 1 := by kernel_rfl
theorem cellsLString : Tryd.prog.cellsOf 9 = 1 := by kernel_rfl
theorem cellsLFault : Tryd.prog.cellsOf 23 = 3 := by kernel_rfl
theorem cellsLReply : Tryd.prog.cellsOf 30 = 6 := by kernel_rfl
theorem rep_flat {E : Env} {vs : List Value} (h1 : ∀ v ∈ vs, v.oneCell' = true) : Rep E w (.agg (vs.map .sc)) (.agg vs.toArray) := by
  refine ⟨vs, rfl, by simp, fun j d v hd hv => ?_⟩
  rw [List.getElem?_map, hv] at hd
  injection hd with hd
  subst hd
  have := h1 v (List.mem_of_getElem? hv)
  exact ⟨⟨rfl, this⟩, this⟩
def FaultD.vs (f : FaultD) : List Value := [.int .i64 f.code, .int .i64 f.pos, .string f.path]
def FaultD.v (f : FaultD) : Value := .agg f.vs.toArray
def FaultD.in64 (f : FaultD) : Prop := i64ok f.code ∧ i64ok f.pos ∧ f.path.size ≤ 9223372036854775807
theorem rdb_Fault {cs : List Value} (h : Rdb enc Tryd.prog w 23 cs) : ∃ f : FaultD, cs = f.vs ∧ f.in64 := by
  obtain ⟨hl, hf⟩ := rdb_struct Tryd.underlying23 h
  rw [cellsLFault] at hl
  match cs, hl with
  | [c0, c1, c2], _ =>
    have h0 : Rdb enc Tryd.prog w 3 (([c0, c1, c2].drop 0).take (Tryd.prog.cellsOf 3)) := hf 0 _ rfl
    have h1 : Rdb enc Tryd.prog w 3 (([c0, c1, c2].drop 1).take (Tryd.prog.cellsOf 3)) := hf 1 _ rfl
    have h2 : Rdb enc Tryd.prog w 9 (([c0, c1, c2].drop 2).take (Tryd.prog.cellsOf 9)) := hf 2 _ rfl
    rw [cellsLInt] at h0 h1
    rw [cellsLString] at h2
    obtain ⟨s0, e0, k0⟩ := rdb_int Tryd.underlying3 h0
    obtain ⟨s1, e1, k1⟩ := rdb_int Tryd.underlying3 h1
    obtain ⟨s2, e2, k2⟩ := rdb_string Tryd.underlying9 h2
    obtain rfl : c0 = .int .i64 s0 := List.head_eq_of_cons_eq e0
    obtain rfl : c1 = .int .i64 s1 := List.head_eq_of_cons_eq e1
    obtain rfl : c2 = .string s2 := List.head_eq_of_cons_eq e2
    unfold maxLen at k2
    exact ⟨⟨s0, s1, s2⟩, rfl, k0, k1, by show s2.size ≤ _; omega⟩
theorem open_Fault {v : Value} {d : DataW H} {p : List MemPlace} {base : Nat} (hv : Value.okWide Tryd.prog w .any base 23 v) (h : DataW.Trod enc Tryd.prog w 0 (fun _ => true) true 23 v d p) :
    ∃ f : FaultD, v = f.v ∧ f.in64 ∧ Rep (roEnv fun b => b < w.heap.size) w (.agg f.cells) f.v := by
  obtain ⟨cs, rfl, _⟩ := okWide_struct Tryd.underlying23 hv
  obtain ⟨f, hf, hk⟩ := rdb_Fault (rdb_of_trod h)
  refine ⟨f, ?_, hk, rep_flat (vs := f.vs) (by simp [FaultD.vs, oc_int, oc_str])⟩
  have : cs.toList = f.vs := by simpa [Value.cells] using hf
  show Value.agg cs = .agg f.vs.toArray
  rw [← this]
def ReplyD.vs (r : ReplyD) : List Value := [.int .i64 r.code, .int .i64 r.fault.code, .int .i64 r.fault.pos, .string r.fault.path, .string r.pod, .string r.host]
def ReplyD.v (r : ReplyD) : Value := .agg r.vs.toArray
def ReplyD.in64 (r : ReplyD) : Prop := i64ok r.code ∧ i64ok r.fault.code ∧ i64ok r.fault.pos ∧ r.fault.path.size ≤ 9223372036854775807 ∧ r.pod.size ≤ 9223372036854775807 ∧ r.host.size ≤ 9223372036854775807
theorem open_Reply {v : Value} {d : DataW H} {p : List MemPlace} {base : Nat} (hv : Value.okWide Tryd.prog w .any base 30 v) (h : DataW.Trod enc Tryd.prog w 0 (fun _ => true) true 30 v d p) :
    ∃ r : ReplyD, v = r.v ∧ r.in64 ∧ Rep (roEnv fun b => b < w.heap.size) w (.agg r.cells) r.v := by
  obtain ⟨cs, rfl, _⟩ := okWide_struct Tryd.underlying30 hv
  have key : ∀ {cs : List Value}, Rdb enc Tryd.prog w 30 cs → ∃ r : ReplyD, cs = r.vs ∧ r.in64 := by
    intro cs h
    obtain ⟨hl, hf⟩ := rdb_struct Tryd.underlying30 h
    rw [cellsLReply] at hl
    match cs, hl with
    | [c0, c1, c2, c3, c4, c5], _ =>
      have h0 : Rdb enc Tryd.prog w 3 (([c0, c1, c2, c3, c4, c5].drop 0).take (Tryd.prog.cellsOf 3)) := hf 0 _ rfl
      have h1 : Rdb enc Tryd.prog w 23 (([c0, c1, c2, c3, c4, c5].drop 1).take (Tryd.prog.cellsOf 23)) := hf 1 _ rfl
      have h4 : Rdb enc Tryd.prog w 9 (([c0, c1, c2, c3, c4, c5].drop 4).take (Tryd.prog.cellsOf 9)) := hf 2 _ rfl
      have h5 : Rdb enc Tryd.prog w 9 (([c0, c1, c2, c3, c4, c5].drop 5).take (Tryd.prog.cellsOf 9)) := hf 3 _ rfl
      rw [cellsLInt] at h0
      rw [cellsLFault] at h1
      rw [cellsLString] at h4 h5
      obtain ⟨s0, e0, k0⟩ := rdb_int Tryd.underlying3 h0
      obtain ⟨f, e1, k1, k2, k3⟩ := rdb_Fault h1
      obtain ⟨s4, e4, k4⟩ := rdb_string Tryd.underlying9 h4
      obtain ⟨s5, e5, k5⟩ := rdb_string Tryd.underlying9 h5
      obtain rfl : c0 = .int .i64 s0 := List.head_eq_of_cons_eq e0
      obtain rfl : c4 = .string s4 := List.head_eq_of_cons_eq e4
      obtain rfl : c5 = .string s5 := List.head_eq_of_cons_eq e5
      have e1' : [c1, c2, c3] = f.vs := e1
      simp only [FaultD.vs, List.cons.injEq, and_true] at e1'
      obtain ⟨rfl, rfl, rfl⟩ := e1'
      unfold maxLen at k4 k5
      exact ⟨⟨s0, f, s4, s5⟩, rfl, k0, k1, k2, k3, by show s4.size ≤ _; omega, by show s5.size ≤ _; omega⟩
  obtain ⟨r, hr, hk⟩ := key (rdb_of_trod h)
  refine ⟨r, ?_, hk, rep_flat (vs := r.vs) (by simp [ReplyD.vs, oc_int, oc_str])⟩
  have : cs.toList = r.vs := by simpa [Value.cells] using hr
  show Value.agg cs = .agg r.vs.toArray
  rw [← this]
end
end Go.Proofs.YtepachoampdhiaaDoor
