/- The kinds of the fields of flat structs. -/
import Derived.Test.YtgelpicbnbpooaaGreatAwb
import Derived.Test.YtgelpicbnbpooaaGreatAwTy
namespace Go.Proofs.YtgelpicbnbpooaaGreat
open Go.RowKit

theorem fq28 : eqT Tryz.prog 28 = some [.i, .i, .i] := by kernel_rfl
theorem fq46 : eqT Tryz.prog 46 = some [.i, .i, .i] := by kernel_rfl
theorem fq96 : eqT Tryz.prog 96 = some [.s, .i, .b] := by kernel_rfl
theorem fq118 : eqT Tryz.prog 118 = some [.s, .i] := by kernel_rfl
theorem fq131 : eqT Tryz.prog 131 = some [.i, .s] := by kernel_rfl
theorem fq169 : eqT Tryz.prog 169 = some [.s, .s, .i] := by kernel_rfl
theorem fq176 : eqT Tryz.prog 176 = some [.s, .s] := by kernel_rfl
theorem fq201 : eqT Tryz.prog 201 = some [.s, .s, .i] := by kernel_rfl
theorem fq230 : eqT Tryz.prog 230 = some [.s, .s, .i] := by kernel_rfl
theorem fq233 : eqT Tryz.prog 233 = some [.s, .b, .s, .i] := by kernel_rfl
theorem fq309 : eqT Tryz.prog 309 = some [.s, .s] := by kernel_rfl
theorem fq311 : eqT Tryz.prog 311 = some [.s, .s, .i] := by kernel_rfl
theorem fq345 : eqT Tryz.prog 345 = some [.s, .b, .s, .i] := by kernel_rfl
end Go.Proofs.YtgelpicbnbpooaaGreat
