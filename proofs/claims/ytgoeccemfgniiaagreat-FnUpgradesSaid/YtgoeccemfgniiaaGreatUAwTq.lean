/- AwTq (what is wanted of them). -/
import Derived.Test.YtgoeccemfgniiaaGreatUAwb
import Derived.Test.YtgoeccemfgniiaaGreatUAwTy
namespace Go.Proofs.YtgoeccemfgniiaaGreat
open Go.RowKit
theorem fq28:eqT Tryz.prog 28=some [.i,.i,.i]:=by kernel_rfl
theorem fq41:eqT Tryz.prog 41=some [.i,.i,.i]:=by kernel_rfl
theorem fq134:eqT Tryz.prog 134=some [.i,.s]:=by kernel_rfl
theorem fq145:eqT Tryz.prog 145=some [.s,.i]:=by kernel_rfl
theorem fq160:eqT Tryz.prog 160=some [.s,.s,.i]:=by kernel_rfl
theorem fq165:eqT Tryz.prog 165=some [.s,.s,.i]:=by kernel_rfl
theorem fq207:eqT Tryz.prog 207=some [.s,.s,.i]:=by kernel_rfl
theorem fq210:eqT Tryz.prog 210=some [.s,.b,.s,.i]:=by kernel_rfl
theorem fq222:eqT Tryz.prog 222=some [.s,.s]:=by kernel_rfl
theorem fq239:eqT Tryz.prog 239=some [.s,.i,.b]:=by kernel_rfl
theorem fq299:eqT Tryz.prog 299=some [.s,.s]:=by kernel_rfl
theorem fq301:eqT Tryz.prog 301=some [.s,.s,.i]:=by kernel_rfl
theorem fq342:eqT Tryz.prog 342=some [.s,.b,.s,.i]:=by kernel_rfl
end Go.Proofs.YtgoeccemfgniiaaGreat
