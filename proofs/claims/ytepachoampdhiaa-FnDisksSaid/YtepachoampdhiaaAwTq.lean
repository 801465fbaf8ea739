/- The kinds of the fields of flat structs. -/
import Derived.Test.YtepachoampdhiaaAwEq
import Derived.Test.YtepachoampdhiaaAwTy
namespace Go.Proofs.Ytepachoampdhiaa
open Go.RowKit

theorem fq34 : eqT Try.prog 34 = some [.i, .i, .i] := by kernel_rfl
theorem fq40 : eqT Try.prog 40 = some [.i, .i, .i] := by kernel_rfl
theorem fq66 : eqT Try.prog 66 = some [.s, .s, .i] := by kernel_rfl
theorem fq108 : eqT Try.prog 108 = some [.s, .s, .i] := by kernel_rfl
theorem fq146 : eqT Try.prog 146 = some [.s, .s] := by kernel_rfl
theorem fq148 : eqT Try.prog 148 = some [.s, .s, .i] := by kernel_rfl
theorem fq153 : eqT Try.prog 153 = some [.s, .b, .s, .i] := by kernel_rfl
end Go.Proofs.Ytepachoampdhiaa
