/- What the types say. -/
import Derived.Test.YtidjjfjhmlndjaaDoorAwb
import Derived.Test.YtidjjfjhmlndjaaDoorProg
namespace Go.Proofs.YtidjjfjhmlndjaaDoor
open Go.RowKit

theorem ty2 : tyK Tryd.prog 2 = some (false, 1) := by kernel_rfl
theorem ze2 : zeroK Tryd.prog 2 = some (Value.int .i64 0) := by kernel_rfl
theorem st2 : isStr Tryd.prog 2 = false := by kernel_rfl
theorem ik2 : intK Tryd.prog 2 = some .i64 := by kernel_rfl
theorem ty3 : tyK Tryd.prog 3 = some (false, 1) := by kernel_rfl
theorem ze3 : zeroK Tryd.prog 3 = some (Value.int .i64 0) := by kernel_rfl
theorem st3 : isStr Tryd.prog 3 = false := by kernel_rfl
theorem ik3 : intK Tryd.prog 3 = some .i64 := by kernel_rfl
theorem ty4 : tyK Tryd.prog 4 = some (false, 1) := by kernel_rfl
theorem ze4 : zeroK Tryd.prog 4 = some (Value.bool false) := by kernel_rfl
theorem st4 : isStr Tryd.prog 4 = false := by kernel_rfl
theorem bo4 : isBool Tryd.prog 4 = true := by kernel_rfl
theorem ty5 : tyK Tryd.prog 5 = some (false, 1) := by kernel_rfl
theorem ze5 : zeroK Tryd.prog 5 = some (Value.int .u8 0) := by kernel_rfl
theorem st5 : isStr Tryd.prog 5 = false := by kernel_rfl
theorem ik5 : intK Tryd.prog 5 = some .u8 := by kernel_rfl
theorem ty9 : tyK Tryd.prog 9 = some (false, 1) := by kernel_rfl
theorem ze9 : zeroK Tryd.prog 9 = some (Value.string ⟨#[]⟩) := by kernel_rfl
theorem st9 : isStr Tryd.prog 9 = true := by kernel_rfl
theorem ty12 : tyK Tryd.prog 12 = some (false, 1) := by kernel_rfl
theorem st12 : isStr Tryd.prog 12 = false := by kernel_rfl
theorem ty21 : tyK Tryd.prog 21 = some (false, 1) := by kernel_rfl
theorem st21 : isStr Tryd.prog 21 = false := by kernel_rfl
theorem ik21 : intK Tryd.prog 21 = some .i32 := by kernel_rfl
theorem ty23 : tyK Tryd.prog 23 = some (true, 3) := by kernel_rfl
theorem fl23_0 : fldK Tryd.prog 23 0 = some 0 := by kernel_rfl
theorem fl23_1 : fldK Tryd.prog 23 1 = some 1 := by kernel_rfl
theorem fl23_2 : fldK Tryd.prog 23 2 = some 2 := by kernel_rfl
theorem pl23 : placesK Tryd.prog 23 = some [(0, 1), (1, 1), (2, 1)] := by kernel_rfl
theorem ze23 : zeroK Tryd.prog 23 = some (.agg #[Value.int .i64 0, Value.int .i64 0, Value.int .i64 0]) := by kernel_rfl
theorem ty24 : tyK Tryd.prog 24 = some (false, 1) := by kernel_rfl
theorem ze24 : zeroK Tryd.prog 24 = some (.slice none 0 0) := by kernel_rfl
theorem el24 : elemK Tryd.prog 24 = some (3, 1) := by kernel_rfl
theorem ty26 : tyK Tryd.prog 26 = some (true, 10) := by kernel_rfl
theorem fl26_0 : fldK Tryd.prog 26 0 = some 0 := by kernel_rfl
theorem fl26_1 : fldK Tryd.prog 26 1 = some 1 := by kernel_rfl
theorem fl26_2 : fldK Tryd.prog 26 2 = some 2 := by kernel_rfl
theorem fl26_3 : fldK Tryd.prog 26 3 = some 3 := by kernel_rfl
theorem fl26_4 : fldK Tryd.prog 26 4 = some 4 := by kernel_rfl
theorem fl26_5 : fldK Tryd.prog 26 5 = some 7 := by kernel_rfl
theorem fl26_6 : fldK Tryd.prog 26 6 = some 8 := by kernel_rfl
theorem fl26_7 : fldK Tryd.prog 26 7 = some 9 := by kernel_rfl
theorem pl26 : placesK Tryd.prog 26 = some [(0, 1), (1, 1), (2, 1), (3, 1), (4, 3), (7, 1), (8, 1), (9, 1)] := by kernel_rfl
theorem ze26 : zeroK Tryd.prog 26 = some (.agg #[Value.int .i64 0, Value.int .i64 0, Value.string ⟨#[]⟩, Value.string ⟨#[]⟩, Value.int .i64 0, Value.int .i64 0, Value.int .i64 0, Value.int .i64 0, Value.int .i64 0, Value.slice none 0 0]) := by kernel_rfl
theorem ty32 : tyK Tryd.prog 32 = some (false, 1) := by kernel_rfl
theorem ze32 : zeroK Tryd.prog 32 = some (.slice none 0 0) := by kernel_rfl
theorem el32 : elemK Tryd.prog 32 = some (9, 1) := by kernel_rfl
theorem ty48 : tyK Tryd.prog 48 = some (false, 1) := by kernel_rfl
theorem ze48 : zeroK Tryd.prog 48 = some (.slice none 0 0) := by kernel_rfl
theorem el48 : elemK Tryd.prog 48 = some (5, 1) := by kernel_rfl
theorem bs48 : u8Ty Tryd.prog 48 9 = true := by kernel_rfl
theorem ty74 : tyK Tryd.prog 74 = some (false, 1) := by kernel_rfl
theorem st74 : isStr Tryd.prog 74 = false := by kernel_rfl
theorem ik74 : intK Tryd.prog 74 = some .u32 := by kernel_rfl
theorem ty104 : tyK Tryd.prog 104 = some (false, 1) := by kernel_rfl
theorem st104 : isStr Tryd.prog 104 = false := by kernel_rfl
theorem ik104 : intK Tryd.prog 104 = some .u64 := by kernel_rfl
theorem ap3 : appK Tryd.prog 3 1 = some 8 := by kernel_rfl
theorem ap5 : appK Tryd.prog 5 1 = some 1 := by kernel_rfl
theorem ap9 : appK Tryd.prog 9 1 = some 16 := by kernel_rfl
theorem mixed : Tryd.prog.follows .mixedOrders = true := by kernel_rfl
end Go.Proofs.YtidjjfjhmlndjaaDoor
