/- The kinds of the fields of flat structs. -/
import Derived.Test.YtidjjfjhmlndjaaDoorAwb
import Derived.Test.YtidjjfjhmlndjaaDoorAwTy
namespace Go.Proofs.YtidjjfjhmlndjaaDoor
open Go.RowKit

theorem fq23 : eqT Tryd.prog 23 = some [.i, .i, .i] := by kernel_rfl
end Go.Proofs.YtidjjfjhmlndjaaDoor
