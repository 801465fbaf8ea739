/- The kinds of the fields of flat structs. -/
import Derived.Test.YtemaanibghedlaaGreatAwEq
import Derived.Test.YtemaanibghedlaaGreatAwTy
namespace Go.Proofs.YtemaanibghedlaaGreat
open Go.RowKit

theorem fq28 : eqT Tryz.prog 28 = some [.i, .i, .i] := by kernel_rfl
theorem fq35 : eqT Tryz.prog 35 = some [.i, .i, .i] := by kernel_rfl
theorem fq100 : eqT Tryz.prog 100 = some [.s, .i, .b] := by kernel_rfl
theorem fq107 : eqT Tryz.prog 107 = some [.s, .i] := by kernel_rfl
theorem fq117 : eqT Tryz.prog 117 = some [.i, .s] := by kernel_rfl
theorem fq154 : eqT Tryz.prog 154 = some [.s, .s] := by kernel_rfl
theorem fq179 : eqT Tryz.prog 179 = some [.s, .s, .i] := by kernel_rfl
theorem fq180 : eqT Tryz.prog 180 = some [.s, .s, .i] := by kernel_rfl
theorem fq186 : eqT Tryz.prog 186 = some [.s, .s, .i] := by kernel_rfl
theorem fq188 : eqT Tryz.prog 188 = some [.s, .b, .s, .i] := by kernel_rfl
theorem fq213 : eqT Tryz.prog 213 = some [.s, .s] := by kernel_rfl
theorem fq215 : eqT Tryz.prog 215 = some [.s, .s, .i] := by kernel_rfl
theorem fq243 : eqT Tryz.prog 243 = some [.s, .b, .s, .i] := by kernel_rfl
end Go.Proofs.YtemaanibghedlaaGreat
