/- The table of the library that the row lists: what the condition gives, and a world that meets it. -/
import Derived.Test.YtidjjfjhmlndjaaGreatDoorAwa
import Derived.Test.YtidjjfjhmlndjaaGreatDoorRows
import Derived.LaidMore
import Derived.Stop.LaidErr
namespace Go.Proofs.YtidjjfjhmlndjaaGreatDoor
open Go.RowKit Go.ChangeShapes Go.WideShapes Go.ChangeAt

def seatLaid : List (String × DataW Unit) := [("math/bits.deBruijn32tab", Rows.laid_math_bits_deBruijn32tab), ("math/bits.deBruijn64tab", Rows.laid_math_bits_deBruijn64tab), ("internal/strconv.uint64pow10", Rows.laid_internal_strconv_uint64pow10)]
theorem gTabType : (Tryz.prog.globals[1]?).map (·.type) = some 364 := by kernel_rfl
theorem cellsTab : Tryz.prog.cellsOf 364 = 20 := by kernel_rfl
theorem cellsU64 : Tryz.prog.cellsOf 304 = 1 := by kernel_rfl
theorem pow_data : Rows.laid_internal_strconv_uint64pow10 (H := Unit) = Lib.tabData .u64 Lib.pow10Tab := by kernel_rfl
theorem lt_var {W : World} {P : Program} {nm : String} {g : Nat} {cs : Array Value} (hg : P.globalNamed nm = some g) (h : W.var? P nm = some cs) : g < W.heap.size := by
  unfold World.var? at h
  rw [hg] at h
  simp only [Option.bind_some] at h
  rcases Nat.lt_or_ge g W.heap.size with h2 | h2
  · exact h2
  · rw [Array.getElem?_eq_none h2] at h; cases h
/-- Where the tables lie they are older than whatever the call makes. -/
theorem tt_laid {W : World} (h : laidMetH Tryz.prog seatLaid W) : TT (fun b => b < W.heap.size) W.heap := by
  rw [MakeChecks.laidMetH_plain _ _ _ (by kernel_rfl)] at h
  have h3 := h.tail.tail
  unfold seatLaid at h3
  have t1 : Lib.TabIs Tryz.prog W "internal/strconv.uint64pow10" .u64 Lib.pow10Tab := Lib.tabIs_of_head gTab gTabType Tryz.underlying364 Tryz.underlying304 cellsU64 cellsTab (by rw [← pow_data]; exact h3)
  exact ⟨⟨lt_var gTab t1, W, rfl, t1⟩, trivial, trivial⟩
/-- A world for the witness: the door's own run leaves it. -/
noncomputable def laidWorld (os : Os) : World := World.doorLaid Tryz.prog 86 os
end Go.Proofs.YtidjjfjhmlndjaaGreatDoor
