/- Disks and worlds that come in, opened. -/
import Derived.Test.YtnicgfeajdjimaaGreatOpenCl
import Derived.Test.YtnicgfeajdjimaaGreatDk2
namespace Go.Proofs.YtnicgfeajdjimaaGreat
open Go.RowKit Go.ChangeShapes Go.WideShapes

theorem file_r : FileD.raw default := ⟨by decide, by decide, int0⟩
section
variable {H : Type} {enc : TypeId × Value → H} {w : World}
theorem ofFile : Tryz.prog.cellsOf 165 = 3 := by kernel_rfl
set_option maxRecDepth 100000 in
theorem rdb_File {cs : List Value} (h : Rdb enc Tryz.prog w 165 cs) : ∃ x : FileD, CR w (fileCells x) cs ∧ x.raw := by
  obtain ⟨hl, hf⟩ := rdb_struct Tryz.underlying165 h
  rw [ofFile] at hl
  match cs, hl with
  | [c0, c1, c2], _ =>
    have h0 : Rdb enc Tryz.prog w 9 (([c0, c1, c2].drop 0).take (Tryz.prog.cellsOf 9)) := hf 0 _ rfl
    have h1 : Rdb enc Tryz.prog w 9 (([c0, c1, c2].drop 1).take (Tryz.prog.cellsOf 9)) := hf 1 _ rfl
    have h2 : Rdb enc Tryz.prog w 3 (([c0, c1, c2].drop 2).take (Tryz.prog.cellsOf 3)) := hf 2 _ rfl
    rw [ofString] at h0
    rw [ofString] at h1
    rw [ofInt] at h2
    obtain ⟨s0, e0, k0⟩ := rdb_string Tryz.underlying9 h0
    obtain ⟨s1, e1, k1⟩ := rdb_string Tryz.underlying9 h1
    obtain ⟨s2, e2, k2⟩ := rdb_int Tryz.underlying3 h2
    obtain rfl : c0 = .string s0 := List.head_eq_of_cons_eq e0
    obtain rfl : c1 = .string s1 := List.head_eq_of_cons_eq e1
    obtain rfl : c2 = .int .i64 s2 := List.head_eq_of_cons_eq e2
    exact ⟨⟨s0, s1, s2⟩, ⟨CR_str s0, CR_str s1, CR_int s2, trivial⟩, ⟨ms k0, ms k1, k2⟩⟩

theorem ofSFile : Tryz.prog.cellsOf 22 = 1 := by kernel_rfl
theorem rdb_SFile {cs : List Value} (h : Rdb enc Tryz.prog w 22 cs) : ∃ (v : Value) (xs : List FileD), cs = [v] ∧ RepP (fun b => b < w.heap.size) w (.sl xs.length (filesD xs)) v ∧ rowRaw FileD.raw xs := by
  obtain ⟨v, xs, e, hr⟩ := rdb_slice (α := FileD) (R := fun w _ cs x => CR w (fileCells x) cs ∧ x.raw) Tryz.underlying22 ofFile (by omega) (fun cs' h' => rdb_File h') h
  obtain ⟨h1, h2, h3⟩ := rep_rows (cells := fileCells) fileCells_len (by omega) hr
  exact ⟨v, xs, e, h1, row_raw file_r h2 h3⟩

theorem ofDisk : Tryz.prog.cellsOf 24 = 1 := by kernel_rfl
def diskCells (fs : List FileD) : List D := [.sl fs.length (filesD fs)]
set_option maxRecDepth 100000 in
theorem rdb_Disk {cs : List Value} (h : Rdb enc Tryz.prog w 24 cs) : ∃ fs : List FileD, CR w (diskCells fs) cs ∧ rowRaw FileD.raw fs := by
  obtain ⟨hl, hf⟩ := rdb_struct Tryz.underlying24 h
  rw [ofDisk] at hl
  match cs, hl with
  | [c0], _ =>
    have h0 : Rdb enc Tryz.prog w 22 (([c0].drop 0).take (Tryz.prog.cellsOf 22)) := hf 0 _ rfl
    rw [ofSFile] at h0
    obtain ⟨v0, s0, e0, r0, k0⟩ := rdb_SFile h0
    obtain rfl : c0 = v0 := List.head_eq_of_cons_eq e0
    exact ⟨s0, ⟨CR_sl r0, trivial⟩, k0⟩
/-- What a disk that comes in reads as. -/
def DiskR (w : World) (v : Value) (fs : List FileD) : Prop := Rep (roEnv fun b => b < w.heap.size) w (.agg [.sl fs.length (filesD fs)]) v ∧ rowRaw FileD.raw fs
set_option maxRecDepth 100000 in
theorem open_Disk {v : Value} {d : DataW H} {p : List MemPlace} {base : Nat} (hv : Value.okWide Tryz.prog w .any base 24 v) (h : DataW.Trod enc Tryz.prog w 0 (fun _ => true) true 24 v d p) :
    ∃ (fs : List FileD), DiskR w v fs := by
  obtain ⟨cs, rfl, _⟩ := okWide_struct Tryz.underlying24 hv
  obtain ⟨fs, hr, hk⟩ := rdb_Disk (rdb_of_trod h)
  refine ⟨fs, ⟨cs.toList, by simp, ?_, fun j d v hd hv => ?_⟩, hk⟩
  · have := (CR_at hr).1
    simpa [Value.cells, diskCells] using this
  · have h2 := (CR_at hr).2 j d v hd (by simpa [Value.cells] using hv)
    exact ⟨h2.1.to1.1, h2.2⟩
theorem ofWorld : Tryz.prog.cellsOf 73 = 14 := by kernel_rfl
def worldCells (c l : ClusterD) (fs : List FileD) (ev : Bool) : List D := c.cells ++ (diskCells fs ++ (l.cells ++ [.sc (.bool ev)]))
set_option maxRecDepth 100000 in
theorem rdb_World {cs : List Value} (h : Rdb enc Tryz.prog w 73 cs) : ∃ (c l : ClusterD) (fs : List FileD) (ev : Bool), CR w (worldCells c l fs ev) cs ∧ c.raw ∧ l.raw ∧ rowRaw FileD.raw fs := by
  obtain ⟨hl, hf⟩ := rdb_struct Tryz.underlying73 h
  rw [ofWorld] at hl
  match cs, hl with
  | [c0, c1, c2, c3, c4, c5, c6, c7, c8, c9, c10, c11, c12, c13], _ =>
    have h0 : Rdb enc Tryz.prog w 30 (([c0, c1, c2, c3, c4, c5, c6, c7, c8, c9, c10, c11, c12, c13].drop 0).take (Tryz.prog.cellsOf 30)) := hf 0 _ rfl
    have h1 : Rdb enc Tryz.prog w 24 (([c0, c1, c2, c3, c4, c5, c6, c7, c8, c9, c10, c11, c12, c13].drop 6).take (Tryz.prog.cellsOf 24)) := hf 1 _ rfl
    have h2 : Rdb enc Tryz.prog w 30 (([c0, c1, c2, c3, c4, c5, c6, c7, c8, c9, c10, c11, c12, c13].drop 7).take (Tryz.prog.cellsOf 30)) := hf 2 _ rfl
    have h3 : Rdb enc Tryz.prog w 4 (([c0, c1, c2, c3, c4, c5, c6, c7, c8, c9, c10, c11, c12, c13].drop 13).take (Tryz.prog.cellsOf 4)) := hf 3 _ rfl
    rw [ofCluster] at h0 h2
    rw [ofDisk] at h1
    rw [ofBool] at h3
    obtain ⟨c, r0, k0⟩ := rdb_Cluster h0
    obtain ⟨fs, r1, k1⟩ := rdb_Disk h1
    obtain ⟨l, r2, k2⟩ := rdb_Cluster h2
    obtain ⟨s3, e3⟩ := rdb_bool Tryz.underlying4 h3
    obtain rfl : c13 = .bool s3 := List.head_eq_of_cons_eq e3
    exact ⟨c, l, fs, s3, CR_app r0 (CR_app r1 (CR_app r2 ⟨CR_bool s3, trivial⟩)), k0, k2, k1⟩
/-- What a world that comes in reads as. -/
def WorldR (w : World) (v : Value) (c l : ClusterD) (fs : List FileD) (ev : Bool) : Prop := Rep (roEnv fun b => b < w.heap.size) w (.agg (worldCells c l fs ev)) v ∧ c.raw ∧ l.raw ∧ rowRaw FileD.raw fs
set_option maxRecDepth 100000 in
theorem open_World {v : Value} {d : DataW H} {p : List MemPlace} {base : Nat} (hv : Value.okWide Tryz.prog w .any base 73 v) (h : DataW.Trod enc Tryz.prog w 0 (fun _ => true) true 73 v d p) :
    ∃ (c l : ClusterD) (fs : List FileD) (ev : Bool), WorldR w v c l fs ev := by
  obtain ⟨cs, rfl, _⟩ := okWide_struct Tryz.underlying73 hv
  obtain ⟨c, l, fs, ev, hr, hk⟩ := rdb_World (rdb_of_trod h)
  refine ⟨c, l, fs, ev, ⟨cs.toList, by simp, ?_, fun j d v hd hv => ?_⟩, hk⟩
  · have := (CR_at hr).1
    simpa [Value.cells] using this
  · have h2 := (CR_at hr).2 j d v hd (by simpa [Value.cells] using hv)
    exact ⟨h2.1.to1.1, h2.2⟩
end
end Go.Proofs.YtnicgfeajdjimaaGreat
