/- A string turned into bytes of one's own. -/
import Derived.Test.YtidjjfjhmlndjaaGreatDoorNo
namespace Go.Proofs.YtidjjfjhmlndjaaGreatDoor
open Go.RowKit
set_option linter.unusedVariables false
set_option linter.unusedSimpArgs false
set_option maxRecDepth 100000
set_option maxHeartbeats 1000000

theorem stb_ {X : Ctx} {P : Program} {o : Oper} {s : St} {wr : List Nat} {nb : Nat} {src dst : TypeId} {x : Operand} {K : St → Prop} (ho : o.op = .convert src dst x) (h : Wk (stepK (stbS P s o src dst (s.ev x)) K False)) : Wk (AwStepF X P o s wr nb K) := ⟨stbGF ho h.out⟩
theorem sli_u8 : sliU8 Tryz.prog 74 = some 5 := by kernel_rfl
theorem not_str : isStr Tryz.prog 74 = false := by kernel_rfl
theorem intk_uint : intK Tryz.prog 250 = some IntKind.u64 := by kernel_rfl
theorem und_str : (Tryz.prog.underlying 9).isSome = true := by kernel_rfl
theorem stb_str {s : St} {o : Oper} {t : ByteArray} (h : t.size ≤ 9223372036854775807) : stbS Tryz.prog s o 9 74 (.sc (.string t)) = some ((s.newOb ⟨1000000, 1, t.size, u8D (strB t)⟩).put o.dst (.own s.nb 0 t.size)) := by
  unfold stbS stbD
  have h1 := und_str
  cases hu : Tryz.prog.underlying 9 with
  | none => rw [hu] at h1; cases h1
  | some u => simp only [sli_u8, h, if_true]

end Go.Proofs.YtidjjfjhmlndjaaGreatDoor
