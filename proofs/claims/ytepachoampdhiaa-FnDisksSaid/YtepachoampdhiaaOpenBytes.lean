/- A slice of bytes that comes in, opened. -/
import Derived.Test.YtepachoampdhiaaOpenDisk
import Derived.Test.YtepachoampdhiaaAwFalls
namespace Go.Proofs.Ytepachoampdhiaa
open Go.RowKit Go.ChangeShapes Go.WideShapes
def u8Cells (n : Int) : List Value := [.int .u8 n]
theorem u8Cells_len (n : Int) : (u8Cells n).length = 1 := rfl
theorem u8Cells_one : ∀ (x : Int), ∀ v ∈ u8Cells x, v.oneCell' = true := by
  intro x v hv
  simp [u8Cells] at hv
  subst hv
  rfl
theorem bytes_enc (ns : List Int) : enc u8Cells ns = bytesD ns := by
  induction ns with
  | nil => rfl
  | cons k ks ih => show .sc (.int .u8 k) :: enc u8Cells ks = _; rw [ih]; rfl
theorem cellsU8 : Try.prog.cellsOf 5 = 1 := by kernel_rfl
set_option maxRecDepth 100000 in
theorem open_Bytes {H : Type} {enc : TypeId × Value → H} {w : World} {v : Value} {d : DataW H} {p : List MemPlace} {base : Nat} (hv : Value.okWide Try.prog w .any base 61 v) (h : DataW.Trod enc Try.prog w 0 (fun _ => true) true 61 v d p) :
    ∃ ns : List Int, ns.length ≤ 9223372036854775807 ∧ Rep (roEnv fun b => b < w.heap.size) w (.sl ns.length (bytesD ns)) v := by
  obtain ⟨a, n, c, rfl⟩ := okWide_slice Try.underlying61 hv
  obtain ⟨u, ns, e, hs⟩ := rdb_slice (α := Int) (R := Flat u8Cells fun n => 0 ≤ n ∧ n ≤ 255) Try.underlying61 cellsU8 (by omega) (fun cs' h' => by
    obtain ⟨n, e, g⟩ := rdb_u8 Try.underlying5 h'
    exact ⟨n, e, g⟩) (rdb_of_trod h)
  have hu : Value.slice a n c = u := by simpa [Value.cells] using e
  subst hu
  have hr := rep_sl u8Cells_len u8Cells_one hs (E := roEnv fun b => b < w.heap.size) fun b hb => hb
  rw [bytes_enc] at hr
  obtain ⟨A, c', _, hc, hm, _⟩ := hs
  unfold maxLen at hm
  exact ⟨ns, by omega, hr⟩
end Go.Proofs.Ytepachoampdhiaa
