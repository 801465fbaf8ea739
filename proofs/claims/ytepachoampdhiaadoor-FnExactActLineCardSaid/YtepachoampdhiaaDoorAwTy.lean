/- What the types say. -/
import Derived.Test.YtepachoampdhiaaDoorAwP
import Derived.Test.YtepachoampdhiaaDoorRows
namespace Go.Proofs.YtepachoampdhiaaDoor
open Go.RowKit

theorem ty2 : tyK Tryd.prog 2 = some (false, 1) := by kernel_rfl
theorem ze2 : zeroK Tryd.prog 2 = some (Value.int .i64 0) := by kernel_rfl
theorem st2 : isStr Tryd.prog 2 = false := by kernel_rfl
theorem ik2 : intK Tryd.prog 2 = some .i64 := by kernel_rfl
theorem ty3 : tyK Tryd.prog 3 = some (false, 1) := by kernel_rfl
theorem ze3 : zeroK Tryd.prog 3 = some (Value.int .i64 0) := by kernel_rfl
theorem st3 : isStr Tryd.prog 3 = false := by kernel_rfl
theorem ik3 : intK Tryd.prog 3 = some .i64 := by kernel_rfl
theorem ty4 : tyK Tryd.prog 4 = some (false, 1) := by kernel_rfl
theorem ze4 : zeroK Tryd.prog 4 = some (Value.bool false) := by kernel_rfl
theorem st4 : isStr Tryd.prog 4 = false := by kernel_rfl
theorem bo4 : isBool Tryd.prog 4 = true := by kernel_rfl
theorem ty5 : tyK Tryd.prog 5 = some (false, 1) := by kernel_rfl
theorem ze5 : zeroK Tryd.prog 5 = some (Value.int .u8 0) := by kernel_rfl
theorem st5 : isStr Tryd.prog 5 = false := by kernel_rfl
theorem ik5 : intK Tryd.prog 5 = some .u8 := by kernel_rfl
theorem ty9 : tyK Tryd.prog 9 = some (false, 1) := by kernel_rfl
theorem ze9 : zeroK Tryd.prog 9 = some (Value.string ⟨#[]⟩) := by kernel_rfl
theorem st9 : isStr Tryd.prog 9 = true := by kernel_rfl
theorem ty12 : tyK Tryd.prog 12 = some (false, 1) := by kernel_rfl
theorem st12 : isStr Tryd.prog 12 = false := by kernel_rfl
theorem ty21 : tyK Tryd.prog 21 = some (false, 1) := by kernel_rfl
theorem st21 : isStr Tryd.prog 21 = false := by kernel_rfl
theorem ik21 : intK Tryd.prog 21 = some .i32 := by kernel_rfl
theorem ty23 : tyK Tryd.prog 23 = some (true, 3) := by kernel_rfl
theorem fl23_0 : fldK Tryd.prog 23 0 = some 0 := by kernel_rfl
theorem fl23_1 : fldK Tryd.prog 23 1 = some 1 := by kernel_rfl
theorem fl23_2 : fldK Tryd.prog 23 2 = some 2 := by kernel_rfl
theorem pl23 : placesK Tryd.prog 23 = some [(0, 1), (1, 1), (2, 1)] := by kernel_rfl
theorem ze23 : zeroK Tryd.prog 23 = some (.agg #[Value.int .i64 0, Value.int .i64 0, Value.string ⟨#[]⟩]) := by kernel_rfl
theorem ty26 : tyK Tryd.prog 26 = some (true, 3) := by kernel_rfl
theorem fl26_0 : fldK Tryd.prog 26 0 = some 0 := by kernel_rfl
theorem fl26_1 : fldK Tryd.prog 26 1 = some 1 := by kernel_rfl
theorem fl26_2 : fldK Tryd.prog 26 2 = some 2 := by kernel_rfl
theorem pl26 : placesK Tryd.prog 26 = some [(0, 1), (1, 1), (2, 1)] := by kernel_rfl
theorem ze26 : zeroK Tryd.prog 26 = some (.agg #[Value.int .i64 0, Value.int .i64 0, Value.string ⟨#[]⟩]) := by kernel_rfl
theorem ty30 : tyK Tryd.prog 30 = some (true, 6) := by kernel_rfl
theorem fl30_0 : fldK Tryd.prog 30 0 = some 0 := by kernel_rfl
theorem fl30_1 : fldK Tryd.prog 30 1 = some 1 := by kernel_rfl
theorem fl30_2 : fldK Tryd.prog 30 2 = some 4 := by kernel_rfl
theorem fl30_3 : fldK Tryd.prog 30 3 = some 5 := by kernel_rfl
theorem pl30 : placesK Tryd.prog 30 = some [(0, 1), (1, 3), (4, 1), (5, 1)] := by kernel_rfl
theorem ze30 : zeroK Tryd.prog 30 = some (.agg #[Value.int .i64 0, Value.int .i64 0, Value.int .i64 0, Value.string ⟨#[]⟩, Value.string ⟨#[]⟩, Value.string ⟨#[]⟩]) := by kernel_rfl
theorem ty34 : tyK Tryd.prog 34 = some (true, 6) := by kernel_rfl
theorem fl34_0 : fldK Tryd.prog 34 0 = some 0 := by kernel_rfl
theorem fl34_1 : fldK Tryd.prog 34 1 = some 1 := by kernel_rfl
theorem fl34_2 : fldK Tryd.prog 34 2 = some 4 := by kernel_rfl
theorem fl34_3 : fldK Tryd.prog 34 3 = some 5 := by kernel_rfl
theorem pl34 : placesK Tryd.prog 34 = some [(0, 1), (1, 3), (4, 1), (5, 1)] := by kernel_rfl
theorem ze34 : zeroK Tryd.prog 34 = some (.agg #[Value.int .i64 0, Value.int .i64 0, Value.int .i64 0, Value.string ⟨#[]⟩, Value.string ⟨#[]⟩, Value.string ⟨#[]⟩]) := by kernel_rfl
theorem ty38 : tyK Tryd.prog 38 = some (true, 3) := by kernel_rfl
theorem fl38_0 : fldK Tryd.prog 38 0 = some 0 := by kernel_rfl
theorem fl38_1 : fldK Tryd.prog 38 1 = some 1 := by kernel_rfl
theorem fl38_2 : fldK Tryd.prog 38 2 = some 2 := by kernel_rfl
theorem pl38 : placesK Tryd.prog 38 = some [(0, 1), (1, 1), (2, 1)] := by kernel_rfl
theorem ze38 : zeroK Tryd.prog 38 = some (.agg #[Value.int .i64 0, Value.int .i64 0, Value.int .i64 0]) := by kernel_rfl
theorem ty39 : tyK Tryd.prog 39 = some (false, 1) := by kernel_rfl
theorem ze39 : zeroK Tryd.prog 39 = some (.slice none 0 0) := by kernel_rfl
theorem el39 : elemK Tryd.prog 39 = some (3, 1) := by kernel_rfl
theorem ty41 : tyK Tryd.prog 41 = some (true, 10) := by kernel_rfl
theorem fl41_0 : fldK Tryd.prog 41 0 = some 0 := by kernel_rfl
theorem fl41_1 : fldK Tryd.prog 41 1 = some 1 := by kernel_rfl
theorem fl41_2 : fldK Tryd.prog 41 2 = some 2 := by kernel_rfl
theorem fl41_3 : fldK Tryd.prog 41 3 = some 3 := by kernel_rfl
theorem fl41_4 : fldK Tryd.prog 41 4 = some 4 := by kernel_rfl
theorem fl41_5 : fldK Tryd.prog 41 5 = some 7 := by kernel_rfl
theorem fl41_6 : fldK Tryd.prog 41 6 = some 8 := by kernel_rfl
theorem fl41_7 : fldK Tryd.prog 41 7 = some 9 := by kernel_rfl
theorem pl41 : placesK Tryd.prog 41 = some [(0, 1), (1, 1), (2, 1), (3, 1), (4, 3), (7, 1), (8, 1), (9, 1)] := by kernel_rfl
theorem ze41 : zeroK Tryd.prog 41 = some (.agg #[Value.int .i64 0, Value.int .i64 0, Value.string ⟨#[]⟩, Value.string ⟨#[]⟩, Value.int .i64 0, Value.int .i64 0, Value.int .i64 0, Value.int .i64 0, Value.int .i64 0, Value.slice none 0 0]) := by kernel_rfl
theorem ty44 : tyK Tryd.prog 44 = some (true, 3) := by kernel_rfl
theorem fl44_0 : fldK Tryd.prog 44 0 = some 0 := by kernel_rfl
theorem fl44_1 : fldK Tryd.prog 44 1 = some 1 := by kernel_rfl
theorem fl44_2 : fldK Tryd.prog 44 2 = some 2 := by kernel_rfl
theorem pl44 : placesK Tryd.prog 44 = some [(0, 1), (1, 1), (2, 1)] := by kernel_rfl
theorem ze44 : zeroK Tryd.prog 44 = some (.agg #[Value.int .i64 0, Value.int .i64 0, Value.int .i64 0]) := by kernel_rfl
theorem ty46 : tyK Tryd.prog 46 = some (true, 10) := by kernel_rfl
theorem fl46_0 : fldK Tryd.prog 46 0 = some 0 := by kernel_rfl
theorem fl46_1 : fldK Tryd.prog 46 1 = some 1 := by kernel_rfl
theorem fl46_2 : fldK Tryd.prog 46 2 = some 2 := by kernel_rfl
theorem fl46_3 : fldK Tryd.prog 46 3 = some 3 := by kernel_rfl
theorem fl46_4 : fldK Tryd.prog 46 4 = some 4 := by kernel_rfl
theorem fl46_5 : fldK Tryd.prog 46 5 = some 7 := by kernel_rfl
theorem fl46_6 : fldK Tryd.prog 46 6 = some 8 := by kernel_rfl
theorem fl46_7 : fldK Tryd.prog 46 7 = some 9 := by kernel_rfl
theorem pl46 : placesK Tryd.prog 46 = some [(0, 1), (1, 1), (2, 1), (3, 1), (4, 3), (7, 1), (8, 1), (9, 1)] := by kernel_rfl
theorem ze46 : zeroK Tryd.prog 46 = some (.agg #[Value.int .i64 0, Value.int .i64 0, Value.string ⟨#[]⟩, Value.string ⟨#[]⟩, Value.int .i64 0, Value.int .i64 0, Value.int .i64 0, Value.int .i64 0, Value.int .i64 0, Value.slice none 0 0]) := by kernel_rfl
theorem ty54 : tyK Tryd.prog 54 = some (false, 1) := by kernel_rfl
theorem ze54 : zeroK Tryd.prog 54 = some (.slice none 0 0) := by kernel_rfl
theorem el54 : elemK Tryd.prog 54 = some (9, 1) := by kernel_rfl
theorem ty66 : tyK Tryd.prog 66 = some (false, 1) := by kernel_rfl
theorem ze66 : zeroK Tryd.prog 66 = some (.slice none 0 0) := by kernel_rfl
theorem el66 : elemK Tryd.prog 66 = some (5, 1) := by kernel_rfl
theorem bs66 : u8Ty Tryd.prog 66 9 = true := by kernel_rfl
theorem ty83 : tyK Tryd.prog 83 = some (false, 1) := by kernel_rfl
theorem st83 : isStr Tryd.prog 83 = false := by kernel_rfl
theorem ik83 : intK Tryd.prog 83 = some .u64 := by kernel_rfl
theorem ty91 : tyK Tryd.prog 91 = some (false, 1) := by kernel_rfl
theorem st91 : isStr Tryd.prog 91 = false := by kernel_rfl
theorem ik91 : intK Tryd.prog 91 = some .u32 := by kernel_rfl
theorem ap3 : appK Tryd.prog 3 1 = some 8 := by kernel_rfl
theorem ap5 : appK Tryd.prog 5 1 = some 1 := by kernel_rfl
theorem ap9 : appK Tryd.prog 9 1 = some 16 := by kernel_rfl
theorem mixed : Tryd.prog.follows .mixedOrders = true := by kernel_rfl
end Go.Proofs.YtepachoampdhiaaDoor
