/- AwTq (what is wanted of them). -/
import Derived.Test.YtidjjfjhmlndjaaGreatDoorVAwb
import Derived.Test.YtidjjfjhmlndjaaGreatDoorVAwTy
namespace Go.Proofs.YtidjjfjhmlndjaaGreatDoor
open Go.RowKit
theorem fq25:eqT Tryz.prog 25=some [.i,.i,.i]:=by kernel_rfl
theorem fq33:eqT Tryz.prog 33=some [.i,.i,.i]:=by kernel_rfl
theorem fq46:eqT Tryz.prog 46=some [.i,.i,.s]:=by kernel_rfl
theorem fq118:eqT Tryz.prog 118=some [.s,.s,.i]:=by kernel_rfl
theorem fq145:eqT Tryz.prog 145=some [.s,.b,.s,.i]:=by kernel_rfl
theorem fq217:eqT Tryz.prog 217=some [.s,.s]:=by kernel_rfl
theorem fq278:eqT Tryz.prog 278=some [.s,.s]:=by kernel_rfl
theorem fq280:eqT Tryz.prog 280=some [.s,.s,.i]:=by kernel_rfl
theorem fq333:eqT Tryz.prog 333=some [.s,.b,.s,.i]:=by kernel_rfl
end Go.Proofs.YtidjjfjhmlndjaaGreatDoor
