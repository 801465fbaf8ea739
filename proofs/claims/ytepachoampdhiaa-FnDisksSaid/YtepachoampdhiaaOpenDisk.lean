/- A disk that comes in, opened. -/
import Derived.Test.YtepachoampdhiaaOpen
import Derived.Test.YtepachoampdhiaaDiskA
namespace Go.Proofs.Ytepachoampdhiaa
open Go.RowKit Go.ChangeShapes Go.WideShapes

theorem cellsOfString : Try.prog.cellsOf 9 = 1 := by kernel_rfl
theorem cellsOfInt : Try.prog.cellsOf 3 = 1 := by kernel_rfl

section
variable {H : Type} {enc : TypeId × Value → H} {w : World}
theorem cellsOfLFile : Try.prog.cellsOf 108 = 3 := by kernel_rfl
set_option maxRecDepth 100000 in
theorem rdb_File {cs : List Value} (h : Rdb enc Try.prog w 108 cs) : ∃ f : FileD, Flat FileD.cells FileD.ok w w.heap.size cs f := by
  obtain ⟨hl, hf⟩ := rdb_struct Try.underlying108 h
  rw [cellsOfLFile] at hl
  match cs, hl with
  | [a, b, c], _ =>
    have h0 : Rdb enc Try.prog w 9 (([a, b, c].drop 0).take (Try.prog.cellsOf 9)) := hf 0 _ rfl
    have h1 : Rdb enc Try.prog w 9 (([a, b, c].drop 1).take (Try.prog.cellsOf 9)) := hf 1 _ rfl
    have h2 : Rdb enc Try.prog w 3 (([a, b, c].drop 2).take (Try.prog.cellsOf 3)) := hf 2 _ rfl
    rw [cellsOfString] at h0 h1
    rw [cellsOfInt] at h2
    obtain ⟨s0, e0, k0⟩ := rdb_string Try.underlying9 h0
    obtain ⟨s1, e1, k1⟩ := rdb_string Try.underlying9 h1
    obtain ⟨s2, e2, k2⟩ := rdb_int Try.underlying3 h2
    obtain rfl : a = .string s0 := List.head_eq_of_cons_eq e0
    obtain rfl : b = .string s1 := List.head_eq_of_cons_eq e1
    obtain rfl : c = .int .i64 s2 := List.head_eq_of_cons_eq e2
    exact ⟨⟨s0, s1, s2⟩, rfl, k0, k1, k2⟩
theorem cellsOfLDisk : Try.prog.cellsOf 24 = 1 := by kernel_rfl
theorem cellsOfLFileS : Try.prog.cellsOf 22 = 1 := by kernel_rfl
set_option maxRecDepth 100000 in
theorem rdb_Disk {cs : List Value} (h : Rdb enc Try.prog w 24 cs) : ∃ (v : Value) (fs : List FileD), cs = [v] ∧ FilesR w w.heap.size v fs := by
  obtain ⟨hl, hf⟩ := rdb_struct Try.underlying24 h
  rw [cellsOfLDisk] at hl
  match cs, hl with
  | [a], _ =>
    have h0 : Rdb enc Try.prog w 22 (([a].drop 0).take (Try.prog.cellsOf 22)) := hf 0 _ rfl
    rw [cellsOfLFileS] at h0
    exact rdb_slice Try.underlying22 cellsOfLFile (by omega) (fun cs' h' => rdb_File h') h0
theorem files_ok {B : Nat} {v : Value} {fs : List FileD} (h : FilesR w B v fs) : ∀ f ∈ fs, f.ok := by
  obtain ⟨A, c, _, _, _, h⟩ := h
  intro f hf
  obtain ⟨i, hi, rfl⟩ := List.getElem_of_mem hf
  obtain ⟨b, o, cs, _, _, _, _, h⟩ := h i hi
  exact h.2
set_option maxRecDepth 100000 in
/-- An argument of type Disk. -/
theorem open_Disk {v : Value} {d : DataW H} {p : List MemPlace} {base : Nat} (hv : Value.okWide Try.prog w .any base 24 v) (h : DataW.Trod enc Try.prog w 0 (fun _ => true) true 24 v d p) :
    ∃ (u : Value) (fs : List FileD), v = .agg #[u] ∧ FilesR w w.heap.size u fs := by
  obtain ⟨cs, rfl, _⟩ := okWide_struct Try.underlying24 hv
  obtain ⟨u, fs, hc, hr⟩ := rdb_Disk (rdb_of_trod h)
  refine ⟨u, fs, ?_, hr⟩
  obtain ⟨l⟩ := cs
  simp only [Value.cells] at hc
  rw [show l = [u] from hc]
set_option maxRecDepth 100000 in
theorem open_Str {v : Value} {d : DataW H} {p : List MemPlace} {base : Nat} (hv : Value.okWide Try.prog w .any base 9 v) (h : DataW.Trod enc Try.prog w 0 (fun _ => true) true 9 v d p) :
    ∃ s : ByteArray, v = .string s ∧ s.size ≤ maxLen := by
  obtain ⟨s, rfl, _, _, hs⟩ := Go.ChangeMaps.open_string Try.underlying9 hv h
  exact ⟨s, rfl, hs⟩
end
end Go.Proofs.Ytepachoampdhiaa
