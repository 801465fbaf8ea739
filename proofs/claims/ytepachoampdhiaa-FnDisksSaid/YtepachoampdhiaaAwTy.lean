/- What the types say. -/
import Derived.Test.YtepachoampdhiaaAwP
import Derived.Test.YtepachoampdhiaaRows
namespace Go.Proofs.Ytepachoampdhiaa
open Go.RowKit

theorem ty2 : tyK Try.prog 2 = some (false, 1) := by kernel_rfl
theorem ze2 : zeroK Try.prog 2 = some (Value.int .i64 0) := by kernel_rfl
theorem st2 : isStr Try.prog 2 = false := by kernel_rfl
theorem ik2 : intK Try.prog 2 = some .i64 := by kernel_rfl
theorem ty3 : tyK Try.prog 3 = some (false, 1) := by kernel_rfl
theorem ze3 : zeroK Try.prog 3 = some (Value.int .i64 0) := by kernel_rfl
theorem st3 : isStr Try.prog 3 = false := by kernel_rfl
theorem ik3 : intK Try.prog 3 = some .i64 := by kernel_rfl
theorem ty4 : tyK Try.prog 4 = some (false, 1) := by kernel_rfl
theorem ze4 : zeroK Try.prog 4 = some (Value.bool false) := by kernel_rfl
theorem st4 : isStr Try.prog 4 = false := by kernel_rfl
theorem bo4 : isBool Try.prog 4 = true := by kernel_rfl
theorem ty5 : tyK Try.prog 5 = some (false, 1) := by kernel_rfl
theorem ze5 : zeroK Try.prog 5 = some (Value.int .u8 0) := by kernel_rfl
theorem st5 : isStr Try.prog 5 = false := by kernel_rfl
theorem ik5 : intK Try.prog 5 = some .u8 := by kernel_rfl
theorem ty9 : tyK Try.prog 9 = some (false, 1) := by kernel_rfl
theorem ze9 : zeroK Try.prog 9 = some (Value.string ⟨#[]⟩) := by kernel_rfl
theorem st9 : isStr Try.prog 9 = true := by kernel_rfl
theorem ty12 : tyK Try.prog 12 = some (false, 1) := by kernel_rfl
theorem st12 : isStr Try.prog 12 = false := by kernel_rfl
theorem ty21 : tyK Try.prog 21 = some (false, 1) := by kernel_rfl
theorem st21 : isStr Try.prog 21 = false := by kernel_rfl
theorem ik21 : intK Try.prog 21 = some .i32 := by kernel_rfl
theorem ty22 : tyK Try.prog 22 = some (false, 1) := by kernel_rfl
theorem ze22 : zeroK Try.prog 22 = some (.slice none 0 0) := by kernel_rfl
theorem el22 : elemK Try.prog 22 = some (108, 3) := by kernel_rfl
theorem ty24 : tyK Try.prog 24 = some (true, 1) := by kernel_rfl
theorem fl24_0 : fldK Try.prog 24 0 = some 0 := by kernel_rfl
theorem pl24 : placesK Try.prog 24 = some [(0, 1)] := by kernel_rfl
theorem ze24 : zeroK Try.prog 24 = some (.agg #[Value.slice none 0 0]) := by kernel_rfl
theorem ty27 : tyK Try.prog 27 = some (false, 1) := by kernel_rfl
theorem ze27 : zeroK Try.prog 27 = some (.slice none 0 0) := by kernel_rfl
theorem el27 : elemK Try.prog 27 = some (66, 3) := by kernel_rfl
theorem ty29 : tyK Try.prog 29 = some (true, 1) := by kernel_rfl
theorem fl29_0 : fldK Try.prog 29 0 = some 0 := by kernel_rfl
theorem pl29 : placesK Try.prog 29 = some [(0, 1)] := by kernel_rfl
theorem ze29 : zeroK Try.prog 29 = some (.agg #[Value.slice none 0 0]) := by kernel_rfl
theorem ty34 : tyK Try.prog 34 = some (true, 3) := by kernel_rfl
theorem fl34_0 : fldK Try.prog 34 0 = some 0 := by kernel_rfl
theorem fl34_1 : fldK Try.prog 34 1 = some 1 := by kernel_rfl
theorem fl34_2 : fldK Try.prog 34 2 = some 2 := by kernel_rfl
theorem pl34 : placesK Try.prog 34 = some [(0, 1), (1, 1), (2, 1)] := by kernel_rfl
theorem ze34 : zeroK Try.prog 34 = some (.agg #[Value.int .i64 0, Value.int .i64 0, Value.int .i64 0]) := by kernel_rfl
theorem ty35 : tyK Try.prog 35 = some (false, 1) := by kernel_rfl
theorem ze35 : zeroK Try.prog 35 = some (.slice none 0 0) := by kernel_rfl
theorem el35 : elemK Try.prog 35 = some (3, 1) := by kernel_rfl
theorem ty37 : tyK Try.prog 37 = some (true, 10) := by kernel_rfl
theorem fl37_0 : fldK Try.prog 37 0 = some 0 := by kernel_rfl
theorem fl37_1 : fldK Try.prog 37 1 = some 1 := by kernel_rfl
theorem fl37_2 : fldK Try.prog 37 2 = some 2 := by kernel_rfl
theorem fl37_3 : fldK Try.prog 37 3 = some 3 := by kernel_rfl
theorem fl37_4 : fldK Try.prog 37 4 = some 4 := by kernel_rfl
theorem fl37_5 : fldK Try.prog 37 5 = some 7 := by kernel_rfl
theorem fl37_6 : fldK Try.prog 37 6 = some 8 := by kernel_rfl
theorem fl37_7 : fldK Try.prog 37 7 = some 9 := by kernel_rfl
theorem pl37 : placesK Try.prog 37 = some [(0, 1), (1, 1), (2, 1), (3, 1), (4, 3), (7, 1), (8, 1), (9, 1)] := by kernel_rfl
theorem ze37 : zeroK Try.prog 37 = some (.agg #[Value.int .i64 0, Value.int .i64 0, Value.string ⟨#[]⟩, Value.string ⟨#[]⟩, Value.int .i64 0, Value.int .i64 0, Value.int .i64 0, Value.int .i64 0, Value.int .i64 0, Value.slice none 0 0]) := by kernel_rfl
theorem ty40 : tyK Try.prog 40 = some (true, 3) := by kernel_rfl
theorem fl40_0 : fldK Try.prog 40 0 = some 0 := by kernel_rfl
theorem fl40_1 : fldK Try.prog 40 1 = some 1 := by kernel_rfl
theorem fl40_2 : fldK Try.prog 40 2 = some 2 := by kernel_rfl
theorem pl40 : placesK Try.prog 40 = some [(0, 1), (1, 1), (2, 1)] := by kernel_rfl
theorem ze40 : zeroK Try.prog 40 = some (.agg #[Value.int .i64 0, Value.int .i64 0, Value.int .i64 0]) := by kernel_rfl
theorem ty42 : tyK Try.prog 42 = some (true, 10) := by kernel_rfl
theorem fl42_0 : fldK Try.prog 42 0 = some 0 := by kernel_rfl
theorem fl42_1 : fldK Try.prog 42 1 = some 1 := by kernel_rfl
theorem fl42_2 : fldK Try.prog 42 2 = some 2 := by kernel_rfl
theorem fl42_3 : fldK Try.prog 42 3 = some 3 := by kernel_rfl
theorem fl42_4 : fldK Try.prog 42 4 = some 4 := by kernel_rfl
theorem fl42_5 : fldK Try.prog 42 5 = some 7 := by kernel_rfl
theorem fl42_6 : fldK Try.prog 42 6 = some 8 := by kernel_rfl
theorem fl42_7 : fldK Try.prog 42 7 = some 9 := by kernel_rfl
theorem pl42 : placesK Try.prog 42 = some [(0, 1), (1, 1), (2, 1), (3, 1), (4, 3), (7, 1), (8, 1), (9, 1)] := by kernel_rfl
theorem ze42 : zeroK Try.prog 42 = some (.agg #[Value.int .i64 0, Value.int .i64 0, Value.string ⟨#[]⟩, Value.string ⟨#[]⟩, Value.int .i64 0, Value.int .i64 0, Value.int .i64 0, Value.int .i64 0, Value.int .i64 0, Value.slice none 0 0]) := by kernel_rfl
theorem ty61 : tyK Try.prog 61 = some (false, 1) := by kernel_rfl
theorem ze61 : zeroK Try.prog 61 = some (.slice none 0 0) := by kernel_rfl
theorem el61 : elemK Try.prog 61 = some (5, 1) := by kernel_rfl
theorem bs61 : u8Ty Try.prog 61 9 = true := by kernel_rfl
theorem ty66 : tyK Try.prog 66 = some (true, 3) := by kernel_rfl
theorem fl66_0 : fldK Try.prog 66 0 = some 0 := by kernel_rfl
theorem fl66_1 : fldK Try.prog 66 1 = some 1 := by kernel_rfl
theorem fl66_2 : fldK Try.prog 66 2 = some 2 := by kernel_rfl
theorem pl66 : placesK Try.prog 66 = some [(0, 1), (1, 1), (2, 1)] := by kernel_rfl
theorem ze66 : zeroK Try.prog 66 = some (.agg #[Value.string ⟨#[]⟩, Value.string ⟨#[]⟩, Value.int .i64 0]) := by kernel_rfl
theorem ty71 : tyK Try.prog 71 = some (false, 1) := by kernel_rfl
theorem ze71 : zeroK Try.prog 71 = some (.slice none 0 0) := by kernel_rfl
theorem el71 : elemK Try.prog 71 = some (130, 6) := by kernel_rfl
theorem ty72 : tyK Try.prog 72 = some (false, 1) := by kernel_rfl
theorem ze72 : zeroK Try.prog 72 = some (.slice none 0 0) := by kernel_rfl
theorem el72 : elemK Try.prog 72 = some (137, 9) := by kernel_rfl
theorem ty74 : tyK Try.prog 74 = some (true, 6) := by kernel_rfl
theorem fl74_0 : fldK Try.prog 74 0 = some 0 := by kernel_rfl
theorem fl74_1 : fldK Try.prog 74 1 = some 1 := by kernel_rfl
theorem fl74_2 : fldK Try.prog 74 2 = some 2 := by kernel_rfl
theorem fl74_3 : fldK Try.prog 74 3 = some 3 := by kernel_rfl
theorem pl74 : placesK Try.prog 74 = some [(0, 1), (1, 1), (2, 1), (3, 3)] := by kernel_rfl
theorem ze74 : zeroK Try.prog 74 = some (.agg #[Value.slice none 0 0, Value.slice none 0 0, Value.int .i64 0, Value.int .i64 0, Value.int .i64 0, Value.int .i64 0]) := by kernel_rfl
theorem ty76 : tyK Try.prog 76 = some (true, 14) := by kernel_rfl
theorem fl76_0 : fldK Try.prog 76 0 = some 0 := by kernel_rfl
theorem fl76_1 : fldK Try.prog 76 1 = some 6 := by kernel_rfl
theorem fl76_2 : fldK Try.prog 76 2 = some 7 := by kernel_rfl
theorem fl76_3 : fldK Try.prog 76 3 = some 13 := by kernel_rfl
theorem pl76 : placesK Try.prog 76 = some [(0, 6), (6, 1), (7, 6), (13, 1)] := by kernel_rfl
theorem ze76 : zeroK Try.prog 76 = some (.agg #[Value.slice none 0 0, Value.slice none 0 0, Value.int .i64 0, Value.int .i64 0, Value.int .i64 0, Value.int .i64 0, Value.slice none 0 0, Value.slice none 0 0, Value.slice none 0 0, Value.int .i64 0, Value.int .i64 0, Value.int .i64 0, Value.int .i64 0, Value.bool false]) := by kernel_rfl
theorem ty108 : tyK Try.prog 108 = some (true, 3) := by kernel_rfl
theorem fl108_0 : fldK Try.prog 108 0 = some 0 := by kernel_rfl
theorem fl108_1 : fldK Try.prog 108 1 = some 1 := by kernel_rfl
theorem fl108_2 : fldK Try.prog 108 2 = some 2 := by kernel_rfl
theorem pl108 : placesK Try.prog 108 = some [(0, 1), (1, 1), (2, 1)] := by kernel_rfl
theorem ze108 : zeroK Try.prog 108 = some (.agg #[Value.string ⟨#[]⟩, Value.string ⟨#[]⟩, Value.int .i64 0]) := by kernel_rfl
theorem ty115 : tyK Try.prog 115 = some (true, 3) := by kernel_rfl
theorem fl115_0 : fldK Try.prog 115 0 = some 0 := by kernel_rfl
theorem fl115_1 : fldK Try.prog 115 1 = some 1 := by kernel_rfl
theorem fl115_2 : fldK Try.prog 115 2 = some 2 := by kernel_rfl
theorem pl115 : placesK Try.prog 115 = some [(0, 1), (1, 1), (2, 1)] := by kernel_rfl
theorem ze115 : zeroK Try.prog 115 = some (.agg #[Value.slice none 0 0, Value.int .i64 0, Value.int .i64 0]) := by kernel_rfl
theorem ty117 : tyK Try.prog 117 = some (false, 1) := by kernel_rfl
theorem ze117 : zeroK Try.prog 117 = some (.slice none 0 0) := by kernel_rfl
theorem el117 : elemK Try.prog 117 = some (9, 1) := by kernel_rfl
theorem ty127 : tyK Try.prog 127 = some (false, 1) := by kernel_rfl
theorem ze127 : zeroK Try.prog 127 = some (.slice none 0 0) := by kernel_rfl
theorem el127 : elemK Try.prog 127 = some (146, 2) := by kernel_rfl
theorem ty128 : tyK Try.prog 128 = some (false, 1) := by kernel_rfl
theorem ze128 : zeroK Try.prog 128 = some (.slice none 0 0) := by kernel_rfl
theorem el128 : elemK Try.prog 128 = some (148, 3) := by kernel_rfl
theorem ty130 : tyK Try.prog 130 = some (true, 6) := by kernel_rfl
theorem fl130_0 : fldK Try.prog 130 0 = some 0 := by kernel_rfl
theorem fl130_1 : fldK Try.prog 130 1 = some 1 := by kernel_rfl
theorem fl130_2 : fldK Try.prog 130 2 = some 2 := by kernel_rfl
theorem fl130_3 : fldK Try.prog 130 3 = some 3 := by kernel_rfl
theorem fl130_4 : fldK Try.prog 130 4 = some 4 := by kernel_rfl
theorem fl130_5 : fldK Try.prog 130 5 = some 5 := by kernel_rfl
theorem pl130 : placesK Try.prog 130 = some [(0, 1), (1, 1), (2, 1), (3, 1), (4, 1), (5, 1)] := by kernel_rfl
theorem ze130 : zeroK Try.prog 130 = some (.agg #[Value.string ⟨#[]⟩, Value.slice none 0 0, Value.int .i64 0, Value.int .i64 0, Value.int .i64 0, Value.slice none 0 0]) := by kernel_rfl
theorem ty132 : tyK Try.prog 132 = some (false, 1) := by kernel_rfl
theorem ze132 : zeroK Try.prog 132 = some (.slice none 0 0) := by kernel_rfl
theorem el132 : elemK Try.prog 132 = some (150, 3) := by kernel_rfl
theorem ty133 : tyK Try.prog 133 = some (false, 1) := by kernel_rfl
theorem ze133 : zeroK Try.prog 133 = some (.slice none 0 0) := by kernel_rfl
theorem el133 : elemK Try.prog 133 = some (153, 4) := by kernel_rfl
theorem ty135 : tyK Try.prog 135 = some (true, 7) := by kernel_rfl
theorem fl135_0 : fldK Try.prog 135 0 = some 0 := by kernel_rfl
theorem fl135_1 : fldK Try.prog 135 1 = some 1 := by kernel_rfl
theorem fl135_2 : fldK Try.prog 135 2 = some 2 := by kernel_rfl
theorem fl135_3 : fldK Try.prog 135 3 = some 3 := by kernel_rfl
theorem fl135_4 : fldK Try.prog 135 4 = some 4 := by kernel_rfl
theorem fl135_5 : fldK Try.prog 135 5 = some 5 := by kernel_rfl
theorem fl135_6 : fldK Try.prog 135 6 = some 6 := by kernel_rfl
theorem pl135 : placesK Try.prog 135 = some [(0, 1), (1, 1), (2, 1), (3, 1), (4, 1), (5, 1), (6, 1)] := by kernel_rfl
theorem ze135 : zeroK Try.prog 135 = some (.agg #[Value.string ⟨#[]⟩, Value.slice none 0 0, Value.int .i64 0, Value.int .i64 0, Value.int .i64 0, Value.slice none 0 0, Value.slice none 0 0]) := by kernel_rfl
theorem ty137 : tyK Try.prog 137 = some (true, 9) := by kernel_rfl
theorem fl137_0 : fldK Try.prog 137 0 = some 0 := by kernel_rfl
theorem fl137_1 : fldK Try.prog 137 1 = some 7 := by kernel_rfl
theorem fl137_2 : fldK Try.prog 137 2 = some 8 := by kernel_rfl
theorem pl137 : placesK Try.prog 137 = some [(0, 7), (7, 1), (8, 1)] := by kernel_rfl
theorem ze137 : zeroK Try.prog 137 = some (.agg #[Value.string ⟨#[]⟩, Value.slice none 0 0, Value.int .i64 0, Value.int .i64 0, Value.int .i64 0, Value.slice none 0 0, Value.slice none 0 0, Value.string ⟨#[]⟩, Value.int .i64 0]) := by kernel_rfl
theorem ty146 : tyK Try.prog 146 = some (true, 2) := by kernel_rfl
theorem fl146_0 : fldK Try.prog 146 0 = some 0 := by kernel_rfl
theorem fl146_1 : fldK Try.prog 146 1 = some 1 := by kernel_rfl
theorem pl146 : placesK Try.prog 146 = some [(0, 1), (1, 1)] := by kernel_rfl
theorem ze146 : zeroK Try.prog 146 = some (.agg #[Value.string ⟨#[]⟩, Value.string ⟨#[]⟩]) := by kernel_rfl
theorem ty148 : tyK Try.prog 148 = some (true, 3) := by kernel_rfl
theorem fl148_0 : fldK Try.prog 148 0 = some 0 := by kernel_rfl
theorem fl148_1 : fldK Try.prog 148 1 = some 1 := by kernel_rfl
theorem fl148_2 : fldK Try.prog 148 2 = some 2 := by kernel_rfl
theorem pl148 : placesK Try.prog 148 = some [(0, 1), (1, 1), (2, 1)] := by kernel_rfl
theorem ze148 : zeroK Try.prog 148 = some (.agg #[Value.string ⟨#[]⟩, Value.string ⟨#[]⟩, Value.int .i64 0]) := by kernel_rfl
theorem ty150 : tyK Try.prog 150 = some (true, 3) := by kernel_rfl
theorem fl150_0 : fldK Try.prog 150 0 = some 0 := by kernel_rfl
theorem fl150_1 : fldK Try.prog 150 1 = some 1 := by kernel_rfl
theorem fl150_2 : fldK Try.prog 150 2 = some 2 := by kernel_rfl
theorem pl150 : placesK Try.prog 150 = some [(0, 1), (1, 1), (2, 1)] := by kernel_rfl
theorem ze150 : zeroK Try.prog 150 = some (.agg #[Value.string ⟨#[]⟩, Value.int .i64 0, Value.slice none 0 0]) := by kernel_rfl
theorem ty153 : tyK Try.prog 153 = some (true, 4) := by kernel_rfl
theorem fl153_0 : fldK Try.prog 153 0 = some 0 := by kernel_rfl
theorem fl153_1 : fldK Try.prog 153 1 = some 1 := by kernel_rfl
theorem fl153_2 : fldK Try.prog 153 2 = some 2 := by kernel_rfl
theorem fl153_3 : fldK Try.prog 153 3 = some 3 := by kernel_rfl
theorem pl153 : placesK Try.prog 153 = some [(0, 1), (1, 1), (2, 1), (3, 1)] := by kernel_rfl
theorem ze153 : zeroK Try.prog 153 = some (.agg #[Value.string ⟨#[]⟩, Value.bool false, Value.string ⟨#[]⟩, Value.int .i64 0]) := by kernel_rfl
theorem ty168 : tyK Try.prog 168 = some (false, 1) := by kernel_rfl
theorem st168 : isStr Try.prog 168 = false := by kernel_rfl
theorem ik168 : intK Try.prog 168 = some .u32 := by kernel_rfl
theorem ap3 : appK Try.prog 3 1 = some 8 := by kernel_rfl
theorem ap5 : appK Try.prog 5 1 = some 1 := by kernel_rfl
theorem ap9 : appK Try.prog 9 1 = some 16 := by kernel_rfl
theorem ap66 : appK Try.prog 66 3 = some 40 := by kernel_rfl
theorem ap108 : appK Try.prog 108 3 = some 40 := by kernel_rfl
theorem ap130 : appK Try.prog 130 6 = some 88 := by kernel_rfl
theorem ap137 : appK Try.prog 137 9 = some 136 := by kernel_rfl
theorem ap146 : appK Try.prog 146 2 = some 32 := by kernel_rfl
theorem ap148 : appK Try.prog 148 3 = some 40 := by kernel_rfl
theorem ap150 : appK Try.prog 150 3 = some 48 := by kernel_rfl
theorem ap153 : appK Try.prog 153 4 = some 48 := by kernel_rfl
theorem mixed : Try.prog.follows .mixedOrders = true := by kernel_rfl
end Go.Proofs.Ytepachoampdhiaa
