/- The kinds of the fields of flat structs. -/
import Derived.Test.YtepachoampdhiaaDoorAwEq
import Derived.Test.YtepachoampdhiaaDoorAwTy
namespace Go.Proofs.YtepachoampdhiaaDoor
open Go.RowKit

theorem fq23 : eqT Tryd.prog 23 = some [.i, .i, .s] := by kernel_rfl
theorem fq26 : eqT Tryd.prog 26 = some [.i, .i, .s] := by kernel_rfl
theorem fq38 : eqT Tryd.prog 38 = some [.i, .i, .i] := by kernel_rfl
theorem fq44 : eqT Tryd.prog 44 = some [.i, .i, .i] := by kernel_rfl
end Go.Proofs.YtepachoampdhiaaDoor
