/- The tables and the error variables of the library that the seat's row lists: what the condition gives, and a world that meets it. -/
import Derived.Test.YtidjjfjhmlndjaaDoorAwa
import Derived.Test.YtidjjfjhmlndjaaDoorRows
import Derived.LaidMore
import Derived.Stop.LaidErr
import Derived.Lib.AtoiErrMem
namespace Go.Proofs.YtidjjfjhmlndjaaDoor
open Go.RowKit Go.ChangeShapes Go.WideShapes Go.ChangeAt

theorem iface_var {P : Program} {n nm : String} {d : DataW Unit} {r : List (String × DataW Unit)} {W : World} {g : Nat} {ti : TypeId} {ms : Array (String × TypeId)}
    (h : laidMet P ((n, .iface nm d) :: r) W) (hg : P.globalNamed n = some g) (ht : (P.globals[g]?).map (·.type) = some ti) (hi : P.underlying ti = some (.interface ms)) : ∃ u v, W.cell? ⟨g, 0, none⟩ = some (.iface u v) := by
  obtain ⟨ps, ⟨g0, t0, cs0, f0, p0, q0, hg0, ht0, hv0, hd0, _, e0⟩, _, hrows⟩ := h
  obtain rfl := Option.some.inj (hg.symm.trans hg0)
  obtain rfl := Option.some.inj (ht.symm.trans ht0)
  obtain ⟨f1, u, v, hc, _, _⟩ := iface_of_trod hi hd0
  refine ⟨u, v, ?_⟩
  have h1 := World.var?_cell hg0 hv0 0
  obtain ⟨l⟩ := cs0
  simp only at hc
  subst hc
  simpa using h1
def seatLaid : List (String × DataW Unit) := [("math/bits.deBruijn32tab", Rows.laid_math_bits_deBruijn32tab), ("math/bits.deBruijn64tab", Rows.laid_math_bits_deBruijn64tab), ("internal/strconv.uint64pow10", Rows.laid_internal_strconv_uint64pow10), ("strconv.ErrRange", Rows.laid_strconv_ErrRange), ("strconv.ErrSyntax", Rows.laid_strconv_ErrSyntax), ("unicode.White_Space", Rows.laid_unicode_White_Space), ("strings.asciiSpace", Rows.laid_strings_asciiSpace)]
theorem gTabType : (Tryd.prog.globals[5]?).map (·.type) = some 117 := by kernel_rfl
theorem cellsTab : Tryd.prog.cellsOf 117 = 20 := by kernel_rfl
theorem cellsU64 : Tryd.prog.cellsOf 104 = 1 := by kernel_rfl
theorem gSpcType : (Tryd.prog.globals[0]?).map (·.type) = some 58 := by kernel_rfl
theorem cellsSpc : Tryd.prog.cellsOf 58 = 256 := by kernel_rfl
theorem cellsU8 : Tryd.prog.cellsOf 5 = 1 := by kernel_rfl
theorem gSyn : Tryd.prog.globalNamed "strconv.ErrSyntax" = some 3 := by kernel_rfl
theorem gRan : Tryd.prog.globalNamed "strconv.ErrRange" = some 4 := by kernel_rfl
theorem gSynType : (Tryd.prog.globals[3]?).map (·.type) = some 67 := by kernel_rfl
theorem gRanType : (Tryd.prog.globals[4]?).map (·.type) = some 67 := by kernel_rfl
theorem undErr : Tryd.prog.underlying 67 = some (.interface (Tryd.prog.methodsAt 67)) := by kernel_rfl
theorem spc_data : Rows.laid_strings_asciiSpace (H := Unit) = Lib.tabData .u8 Lib.asciiSpaceTab := by kernel_rfl
theorem pow_data : Rows.laid_internal_strconv_uint64pow10 (H := Unit) = Lib.tabData .u64 Lib.pow10Tab := by kernel_rfl
theorem lt_var {W : World} {P : Program} {nm : String} {g : Nat} {cs : Array Value} (hg : P.globalNamed nm = some g) (h : W.var? P nm = some cs) : g < W.heap.size := by
  unfold World.var? at h
  rw [hg] at h
  simp only [Option.bind_some] at h
  rcases Nat.lt_or_ge g W.heap.size with h2 | h2
  · exact h2
  · rw [Array.getElem?_eq_none h2] at h; cases h
/-- Where the tables lie they are older than whatever the call makes. -/
theorem tt_laid {W : World} (h : laidMetH Tryd.prog seatLaid W) : TT (fun b => b < W.heap.size) W.heap := by
  rw [MakeChecks.laidMetH_plain _ _ _ (by kernel_rfl)] at h
  have h3 := h.tail.tail
  have h4 := h3.tail
  have h5 := h4.tail
  have h7 := h5.tail.tail
  unfold seatLaid at h3 h4 h5 h7
  have t1 : Lib.TabIs Tryd.prog W "internal/strconv.uint64pow10" .u64 Lib.pow10Tab := Lib.tabIs_of_head gTab gTabType Tryd.underlying117 Tryd.underlying104 cellsU64 cellsTab (by rw [← pow_data]; exact h3)
  have t2 : Lib.TabIs Tryd.prog W "strings.asciiSpace" .u8 Lib.asciiSpaceTab := Lib.tabIs_of_head gSpc gSpcType Tryd.underlying58 Tryd.underlying5 cellsU8 cellsSpc (by rw [← spc_data]; exact h7)
  obtain ⟨u, v, e4⟩ := iface_var (g := 4) h4 gRan gRanType undErr
  obtain ⟨u2, v2, e5⟩ := iface_var (g := 3) h5 gSyn gSynType undErr
  exact ⟨⟨lt_var gTab t1, W, rfl, t1⟩, ⟨lt_var gSpc t2, W, rfl, t2⟩, ⟨Lib.lt_of_cell e5, W, rfl, _, e5, .inr ⟨u2, v2, rfl⟩⟩, ⟨Lib.lt_of_cell e4, W, rfl, _, e4, .inr ⟨u, v, rfl⟩⟩⟩
/-- A world for the witness: the door's own run leaves it. -/
noncomputable def laidWorld (os : Os) : World := World.doorLaid Tryd.prog 86 os
end Go.Proofs.YtidjjfjhmlndjaaDoor
