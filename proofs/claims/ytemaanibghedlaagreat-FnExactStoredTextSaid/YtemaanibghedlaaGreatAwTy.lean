/- What the types say. -/
import Derived.Test.YtemaanibghedlaaGreatAwMap
import Derived.Test.YtemaanibghedlaaGreatProg
namespace Go.Proofs.YtemaanibghedlaaGreat
open Go.RowKit

theorem ty2 : tyK Tryz.prog 2 = some (false, 1) := by kernel_rfl
theorem ze2 : zeroK Tryz.prog 2 = some (Value.int .i64 0) := by kernel_rfl
theorem st2 : isStr Tryz.prog 2 = false := by kernel_rfl
theorem ik2 : intK Tryz.prog 2 = some .i64 := by kernel_rfl
theorem ty3 : tyK Tryz.prog 3 = some (false, 1) := by kernel_rfl
theorem ze3 : zeroK Tryz.prog 3 = some (Value.int .i64 0) := by kernel_rfl
theorem st3 : isStr Tryz.prog 3 = false := by kernel_rfl
theorem ik3 : intK Tryz.prog 3 = some .i64 := by kernel_rfl
theorem ty4 : tyK Tryz.prog 4 = some (false, 1) := by kernel_rfl
theorem ze4 : zeroK Tryz.prog 4 = some (Value.bool false) := by kernel_rfl
theorem st4 : isStr Tryz.prog 4 = false := by kernel_rfl
theorem bo4 : isBool Tryz.prog 4 = true := by kernel_rfl
theorem ty5 : tyK Tryz.prog 5 = some (false, 1) := by kernel_rfl
theorem ze5 : zeroK Tryz.prog 5 = some (Value.int .u8 0) := by kernel_rfl
theorem st5 : isStr Tryz.prog 5 = false := by kernel_rfl
theorem ik5 : intK Tryz.prog 5 = some .u8 := by kernel_rfl
theorem ty9 : tyK Tryz.prog 9 = some (false, 1) := by kernel_rfl
theorem ze9 : zeroK Tryz.prog 9 = some (Value.string ⟨#[]⟩) := by kernel_rfl
theorem st9 : isStr Tryz.prog 9 = true := by kernel_rfl
theorem ty12 : tyK Tryz.prog 12 = some (false, 1) := by kernel_rfl
theorem st12 : isStr Tryz.prog 12 = false := by kernel_rfl
theorem ty21 : tyK Tryz.prog 21 = some (false, 1) := by kernel_rfl
theorem st21 : isStr Tryz.prog 21 = false := by kernel_rfl
theorem ik21 : intK Tryz.prog 21 = some .i32 := by kernel_rfl
theorem ty25 : tyK Tryz.prog 25 = some (false, 1) := by kernel_rfl
theorem ze25 : zeroK Tryz.prog 25 = some (.slice none 0 0) := by kernel_rfl
theorem el25 : elemK Tryz.prog 25 = some (133, 6) := by kernel_rfl
theorem ty26 : tyK Tryz.prog 26 = some (false, 1) := by kernel_rfl
theorem ze26 : zeroK Tryz.prog 26 = some (.slice none 0 0) := by kernel_rfl
theorem el26 : elemK Tryz.prog 26 = some (140, 9) := by kernel_rfl
theorem ty28 : tyK Tryz.prog 28 = some (true, 3) := by kernel_rfl
theorem fl28_0 : fldK Tryz.prog 28 0 = some 0 := by kernel_rfl
theorem fl28_1 : fldK Tryz.prog 28 1 = some 1 := by kernel_rfl
theorem fl28_2 : fldK Tryz.prog 28 2 = some 2 := by kernel_rfl
theorem pl28 : placesK Tryz.prog 28 = some [(0, 1), (1, 1), (2, 1)] := by kernel_rfl
theorem ze28 : zeroK Tryz.prog 28 = some (.agg #[Value.int .i64 0, Value.int .i64 0, Value.int .i64 0]) := by kernel_rfl
theorem ty30 : tyK Tryz.prog 30 = some (true, 6) := by kernel_rfl
theorem fl30_0 : fldK Tryz.prog 30 0 = some 0 := by kernel_rfl
theorem fl30_1 : fldK Tryz.prog 30 1 = some 1 := by kernel_rfl
theorem fl30_2 : fldK Tryz.prog 30 2 = some 2 := by kernel_rfl
theorem fl30_3 : fldK Tryz.prog 30 3 = some 3 := by kernel_rfl
theorem pl30 : placesK Tryz.prog 30 = some [(0, 1), (1, 1), (2, 1), (3, 3)] := by kernel_rfl
theorem ze30 : zeroK Tryz.prog 30 = some (.agg #[Value.slice none 0 0, Value.slice none 0 0, Value.int .i64 0, Value.int .i64 0, Value.int .i64 0, Value.int .i64 0]) := by kernel_rfl
theorem ty33 : tyK Tryz.prog 33 = some (false, 1) := by kernel_rfl
theorem ze33 : zeroK Tryz.prog 33 = some (.slice none 0 0) := by kernel_rfl
theorem el33 : elemK Tryz.prog 33 = some (85, 6) := by kernel_rfl
theorem ty34 : tyK Tryz.prog 34 = some (false, 1) := by kernel_rfl
theorem ze34 : zeroK Tryz.prog 34 = some (.slice none 0 0) := by kernel_rfl
theorem el34 : elemK Tryz.prog 34 = some (93, 9) := by kernel_rfl
theorem ty35 : tyK Tryz.prog 35 = some (true, 3) := by kernel_rfl
theorem fl35_0 : fldK Tryz.prog 35 0 = some 0 := by kernel_rfl
theorem fl35_1 : fldK Tryz.prog 35 1 = some 1 := by kernel_rfl
theorem fl35_2 : fldK Tryz.prog 35 2 = some 2 := by kernel_rfl
theorem pl35 : placesK Tryz.prog 35 = some [(0, 1), (1, 1), (2, 1)] := by kernel_rfl
theorem ze35 : zeroK Tryz.prog 35 = some (.agg #[Value.int .i64 0, Value.int .i64 0, Value.int .i64 0]) := by kernel_rfl
theorem ty37 : tyK Tryz.prog 37 = some (true, 6) := by kernel_rfl
theorem fl37_0 : fldK Tryz.prog 37 0 = some 0 := by kernel_rfl
theorem fl37_1 : fldK Tryz.prog 37 1 = some 1 := by kernel_rfl
theorem fl37_2 : fldK Tryz.prog 37 2 = some 2 := by kernel_rfl
theorem fl37_3 : fldK Tryz.prog 37 3 = some 3 := by kernel_rfl
theorem pl37 : placesK Tryz.prog 37 = some [(0, 1), (1, 1), (2, 1), (3, 3)] := by kernel_rfl
theorem ze37 : zeroK Tryz.prog 37 = some (.agg #[Value.slice none 0 0, Value.slice none 0 0, Value.int .i64 0, Value.int .i64 0, Value.int .i64 0, Value.int .i64 0]) := by kernel_rfl
theorem ty55 : tyK Tryz.prog 55 = some (false, 1) := by kernel_rfl
theorem ze55 : zeroK Tryz.prog 55 = some (.slice none 0 0) := by kernel_rfl
theorem el55 : elemK Tryz.prog 55 = some (179, 3) := by kernel_rfl
theorem ty57 : tyK Tryz.prog 57 = some (true, 1) := by kernel_rfl
theorem fl57_0 : fldK Tryz.prog 57 0 = some 0 := by kernel_rfl
theorem pl57 : placesK Tryz.prog 57 = some [(0, 1)] := by kernel_rfl
theorem ze57 : zeroK Tryz.prog 57 = some (.agg #[Value.slice none 0 0]) := by kernel_rfl
theorem ty59 : tyK Tryz.prog 59 = some (false, 1) := by kernel_rfl
theorem ze59 : zeroK Tryz.prog 59 = some (.slice none 0 0) := by kernel_rfl
theorem el59 : elemK Tryz.prog 59 = some (180, 3) := by kernel_rfl
theorem ty61 : tyK Tryz.prog 61 = some (true, 1) := by kernel_rfl
theorem fl61_0 : fldK Tryz.prog 61 0 = some 0 := by kernel_rfl
theorem pl61 : placesK Tryz.prog 61 = some [(0, 1)] := by kernel_rfl
theorem ze61 : zeroK Tryz.prog 61 = some (.agg #[Value.slice none 0 0]) := by kernel_rfl
theorem ty82 : tyK Tryz.prog 82 = some (false, 1) := by kernel_rfl
theorem ze82 : zeroK Tryz.prog 82 = some (.slice none 0 0) := by kernel_rfl
theorem el82 : elemK Tryz.prog 82 = some (154, 2) := by kernel_rfl
theorem ty83 : tyK Tryz.prog 83 = some (false, 1) := by kernel_rfl
theorem ze83 : zeroK Tryz.prog 83 = some (.slice none 0 0) := by kernel_rfl
theorem el83 : elemK Tryz.prog 83 = some (186, 3) := by kernel_rfl
theorem ty85 : tyK Tryz.prog 85 = some (true, 6) := by kernel_rfl
theorem fl85_0 : fldK Tryz.prog 85 0 = some 0 := by kernel_rfl
theorem fl85_1 : fldK Tryz.prog 85 1 = some 1 := by kernel_rfl
theorem fl85_2 : fldK Tryz.prog 85 2 = some 2 := by kernel_rfl
theorem fl85_3 : fldK Tryz.prog 85 3 = some 3 := by kernel_rfl
theorem fl85_4 : fldK Tryz.prog 85 4 = some 4 := by kernel_rfl
theorem fl85_5 : fldK Tryz.prog 85 5 = some 5 := by kernel_rfl
theorem pl85 : placesK Tryz.prog 85 = some [(0, 1), (1, 1), (2, 1), (3, 1), (4, 1), (5, 1)] := by kernel_rfl
theorem ze85 : zeroK Tryz.prog 85 = some (.agg #[Value.string ⟨#[]⟩, Value.slice none 0 0, Value.int .i64 0, Value.int .i64 0, Value.int .i64 0, Value.slice none 0 0]) := by kernel_rfl
theorem ty88 : tyK Tryz.prog 88 = some (false, 1) := by kernel_rfl
theorem ze88 : zeroK Tryz.prog 88 = some (.slice none 0 0) := by kernel_rfl
theorem el88 : elemK Tryz.prog 88 = some (96, 3) := by kernel_rfl
theorem ty89 : tyK Tryz.prog 89 = some (false, 1) := by kernel_rfl
theorem ze89 : zeroK Tryz.prog 89 = some (.slice none 0 0) := by kernel_rfl
theorem el89 : elemK Tryz.prog 89 = some (188, 4) := by kernel_rfl
theorem ty91 : tyK Tryz.prog 91 = some (true, 7) := by kernel_rfl
theorem fl91_0 : fldK Tryz.prog 91 0 = some 0 := by kernel_rfl
theorem fl91_1 : fldK Tryz.prog 91 1 = some 1 := by kernel_rfl
theorem fl91_2 : fldK Tryz.prog 91 2 = some 2 := by kernel_rfl
theorem fl91_3 : fldK Tryz.prog 91 3 = some 3 := by kernel_rfl
theorem fl91_4 : fldK Tryz.prog 91 4 = some 4 := by kernel_rfl
theorem fl91_5 : fldK Tryz.prog 91 5 = some 5 := by kernel_rfl
theorem fl91_6 : fldK Tryz.prog 91 6 = some 6 := by kernel_rfl
theorem pl91 : placesK Tryz.prog 91 = some [(0, 1), (1, 1), (2, 1), (3, 1), (4, 1), (5, 1), (6, 1)] := by kernel_rfl
theorem ze91 : zeroK Tryz.prog 91 = some (.agg #[Value.string ⟨#[]⟩, Value.slice none 0 0, Value.int .i64 0, Value.int .i64 0, Value.int .i64 0, Value.slice none 0 0, Value.slice none 0 0]) := by kernel_rfl
theorem ty93 : tyK Tryz.prog 93 = some (true, 9) := by kernel_rfl
theorem fl93_0 : fldK Tryz.prog 93 0 = some 0 := by kernel_rfl
theorem fl93_1 : fldK Tryz.prog 93 1 = some 7 := by kernel_rfl
theorem fl93_2 : fldK Tryz.prog 93 2 = some 8 := by kernel_rfl
theorem pl93 : placesK Tryz.prog 93 = some [(0, 7), (7, 1), (8, 1)] := by kernel_rfl
theorem ze93 : zeroK Tryz.prog 93 = some (.agg #[Value.string ⟨#[]⟩, Value.slice none 0 0, Value.int .i64 0, Value.int .i64 0, Value.int .i64 0, Value.slice none 0 0, Value.slice none 0 0, Value.string ⟨#[]⟩, Value.int .i64 0]) := by kernel_rfl
theorem ty94 : tyK Tryz.prog 94 = some (false, 1) := by kernel_rfl
theorem ze94 : zeroK Tryz.prog 94 = some (.slice none 0 0) := by kernel_rfl
theorem el94 : elemK Tryz.prog 94 = some (9, 1) := by kernel_rfl
theorem ty96 : tyK Tryz.prog 96 = some (true, 3) := by kernel_rfl
theorem fl96_0 : fldK Tryz.prog 96 0 = some 0 := by kernel_rfl
theorem fl96_1 : fldK Tryz.prog 96 1 = some 1 := by kernel_rfl
theorem fl96_2 : fldK Tryz.prog 96 2 = some 2 := by kernel_rfl
theorem pl96 : placesK Tryz.prog 96 = some [(0, 1), (1, 1), (2, 1)] := by kernel_rfl
theorem ze96 : zeroK Tryz.prog 96 = some (.agg #[Value.string ⟨#[]⟩, Value.int .i64 0, Value.slice none 0 0]) := by kernel_rfl
theorem ty100 : tyK Tryz.prog 100 = some (true, 3) := by kernel_rfl
theorem fl100_0 : fldK Tryz.prog 100 0 = some 0 := by kernel_rfl
theorem fl100_1 : fldK Tryz.prog 100 1 = some 1 := by kernel_rfl
theorem fl100_2 : fldK Tryz.prog 100 2 = some 2 := by kernel_rfl
theorem pl100 : placesK Tryz.prog 100 = some [(0, 1), (1, 1), (2, 1)] := by kernel_rfl
theorem ze100 : zeroK Tryz.prog 100 = some (.agg #[Value.string ⟨#[]⟩, Value.int .i64 0, Value.bool false]) := by kernel_rfl
theorem ty107 : tyK Tryz.prog 107 = some (true, 2) := by kernel_rfl
theorem fl107_0 : fldK Tryz.prog 107 0 = some 0 := by kernel_rfl
theorem fl107_1 : fldK Tryz.prog 107 1 = some 1 := by kernel_rfl
theorem pl107 : placesK Tryz.prog 107 = some [(0, 1), (1, 1)] := by kernel_rfl
theorem ze107 : zeroK Tryz.prog 107 = some (.agg #[Value.string ⟨#[]⟩, Value.int .i64 0]) := by kernel_rfl
theorem ty117 : tyK Tryz.prog 117 = some (true, 2) := by kernel_rfl
theorem fl117_0 : fldK Tryz.prog 117 0 = some 0 := by kernel_rfl
theorem fl117_1 : fldK Tryz.prog 117 1 = some 1 := by kernel_rfl
theorem pl117 : placesK Tryz.prog 117 = some [(0, 1), (1, 1)] := by kernel_rfl
theorem ze117 : zeroK Tryz.prog 117 = some (.agg #[Value.int .i64 0, Value.string ⟨#[]⟩]) := by kernel_rfl
theorem ty130 : tyK Tryz.prog 130 = some (false, 1) := by kernel_rfl
theorem ze130 : zeroK Tryz.prog 130 = some (.slice none 0 0) := by kernel_rfl
theorem el130 : elemK Tryz.prog 130 = some (213, 2) := by kernel_rfl
theorem ty131 : tyK Tryz.prog 131 = some (false, 1) := by kernel_rfl
theorem ze131 : zeroK Tryz.prog 131 = some (.slice none 0 0) := by kernel_rfl
theorem el131 : elemK Tryz.prog 131 = some (215, 3) := by kernel_rfl
theorem ty133 : tyK Tryz.prog 133 = some (true, 6) := by kernel_rfl
theorem fl133_0 : fldK Tryz.prog 133 0 = some 0 := by kernel_rfl
theorem fl133_1 : fldK Tryz.prog 133 1 = some 1 := by kernel_rfl
theorem fl133_2 : fldK Tryz.prog 133 2 = some 2 := by kernel_rfl
theorem fl133_3 : fldK Tryz.prog 133 3 = some 3 := by kernel_rfl
theorem fl133_4 : fldK Tryz.prog 133 4 = some 4 := by kernel_rfl
theorem fl133_5 : fldK Tryz.prog 133 5 = some 5 := by kernel_rfl
theorem pl133 : placesK Tryz.prog 133 = some [(0, 1), (1, 1), (2, 1), (3, 1), (4, 1), (5, 1)] := by kernel_rfl
theorem ze133 : zeroK Tryz.prog 133 = some (.agg #[Value.string ⟨#[]⟩, Value.slice none 0 0, Value.int .i64 0, Value.int .i64 0, Value.int .i64 0, Value.slice none 0 0]) := by kernel_rfl
theorem ty135 : tyK Tryz.prog 135 = some (false, 1) := by kernel_rfl
theorem ze135 : zeroK Tryz.prog 135 = some (.slice none 0 0) := by kernel_rfl
theorem el135 : elemK Tryz.prog 135 = some (241, 3) := by kernel_rfl
theorem ty136 : tyK Tryz.prog 136 = some (false, 1) := by kernel_rfl
theorem ze136 : zeroK Tryz.prog 136 = some (.slice none 0 0) := by kernel_rfl
theorem el136 : elemK Tryz.prog 136 = some (243, 4) := by kernel_rfl
theorem ty138 : tyK Tryz.prog 138 = some (true, 7) := by kernel_rfl
theorem fl138_0 : fldK Tryz.prog 138 0 = some 0 := by kernel_rfl
theorem fl138_1 : fldK Tryz.prog 138 1 = some 1 := by kernel_rfl
theorem fl138_2 : fldK Tryz.prog 138 2 = some 2 := by kernel_rfl
theorem fl138_3 : fldK Tryz.prog 138 3 = some 3 := by kernel_rfl
theorem fl138_4 : fldK Tryz.prog 138 4 = some 4 := by kernel_rfl
theorem fl138_5 : fldK Tryz.prog 138 5 = some 5 := by kernel_rfl
theorem fl138_6 : fldK Tryz.prog 138 6 = some 6 := by kernel_rfl
theorem pl138 : placesK Tryz.prog 138 = some [(0, 1), (1, 1), (2, 1), (3, 1), (4, 1), (5, 1), (6, 1)] := by kernel_rfl
theorem ze138 : zeroK Tryz.prog 138 = some (.agg #[Value.string ⟨#[]⟩, Value.slice none 0 0, Value.int .i64 0, Value.int .i64 0, Value.int .i64 0, Value.slice none 0 0, Value.slice none 0 0]) := by kernel_rfl
theorem ty140 : tyK Tryz.prog 140 = some (true, 9) := by kernel_rfl
theorem fl140_0 : fldK Tryz.prog 140 0 = some 0 := by kernel_rfl
theorem fl140_1 : fldK Tryz.prog 140 1 = some 7 := by kernel_rfl
theorem fl140_2 : fldK Tryz.prog 140 2 = some 8 := by kernel_rfl
theorem pl140 : placesK Tryz.prog 140 = some [(0, 7), (7, 1), (8, 1)] := by kernel_rfl
theorem ze140 : zeroK Tryz.prog 140 = some (.agg #[Value.string ⟨#[]⟩, Value.slice none 0 0, Value.int .i64 0, Value.int .i64 0, Value.int .i64 0, Value.slice none 0 0, Value.slice none 0 0, Value.string ⟨#[]⟩, Value.int .i64 0]) := by kernel_rfl
theorem ty152 : tyK Tryz.prog 152 = some (false, 1) := by kernel_rfl
theorem ze152 : zeroK Tryz.prog 152 = some (.slice none 0 0) := by kernel_rfl
theorem el152 : elemK Tryz.prog 152 = some (5, 1) := by kernel_rfl
theorem bs152 : u8Ty Tryz.prog 152 9 = true := by kernel_rfl
theorem ty154 : tyK Tryz.prog 154 = some (true, 2) := by kernel_rfl
theorem fl154_0 : fldK Tryz.prog 154 0 = some 0 := by kernel_rfl
theorem fl154_1 : fldK Tryz.prog 154 1 = some 1 := by kernel_rfl
theorem pl154 : placesK Tryz.prog 154 = some [(0, 1), (1, 1)] := by kernel_rfl
theorem ze154 : zeroK Tryz.prog 154 = some (.agg #[Value.string ⟨#[]⟩, Value.string ⟨#[]⟩]) := by kernel_rfl
theorem ty179 : tyK Tryz.prog 179 = some (true, 3) := by kernel_rfl
theorem fl179_0 : fldK Tryz.prog 179 0 = some 0 := by kernel_rfl
theorem fl179_1 : fldK Tryz.prog 179 1 = some 1 := by kernel_rfl
theorem fl179_2 : fldK Tryz.prog 179 2 = some 2 := by kernel_rfl
theorem pl179 : placesK Tryz.prog 179 = some [(0, 1), (1, 1), (2, 1)] := by kernel_rfl
theorem ze179 : zeroK Tryz.prog 179 = some (.agg #[Value.string ⟨#[]⟩, Value.string ⟨#[]⟩, Value.int .i64 0]) := by kernel_rfl
theorem ty180 : tyK Tryz.prog 180 = some (true, 3) := by kernel_rfl
theorem fl180_0 : fldK Tryz.prog 180 0 = some 0 := by kernel_rfl
theorem fl180_1 : fldK Tryz.prog 180 1 = some 1 := by kernel_rfl
theorem fl180_2 : fldK Tryz.prog 180 2 = some 2 := by kernel_rfl
theorem pl180 : placesK Tryz.prog 180 = some [(0, 1), (1, 1), (2, 1)] := by kernel_rfl
theorem ze180 : zeroK Tryz.prog 180 = some (.agg #[Value.string ⟨#[]⟩, Value.string ⟨#[]⟩, Value.int .i64 0]) := by kernel_rfl
theorem ty186 : tyK Tryz.prog 186 = some (true, 3) := by kernel_rfl
theorem fl186_0 : fldK Tryz.prog 186 0 = some 0 := by kernel_rfl
theorem fl186_1 : fldK Tryz.prog 186 1 = some 1 := by kernel_rfl
theorem fl186_2 : fldK Tryz.prog 186 2 = some 2 := by kernel_rfl
theorem pl186 : placesK Tryz.prog 186 = some [(0, 1), (1, 1), (2, 1)] := by kernel_rfl
theorem ze186 : zeroK Tryz.prog 186 = some (.agg #[Value.string ⟨#[]⟩, Value.string ⟨#[]⟩, Value.int .i64 0]) := by kernel_rfl
theorem ty188 : tyK Tryz.prog 188 = some (true, 4) := by kernel_rfl
theorem fl188_0 : fldK Tryz.prog 188 0 = some 0 := by kernel_rfl
theorem fl188_1 : fldK Tryz.prog 188 1 = some 1 := by kernel_rfl
theorem fl188_2 : fldK Tryz.prog 188 2 = some 2 := by kernel_rfl
theorem fl188_3 : fldK Tryz.prog 188 3 = some 3 := by kernel_rfl
theorem pl188 : placesK Tryz.prog 188 = some [(0, 1), (1, 1), (2, 1), (3, 1)] := by kernel_rfl
theorem ze188 : zeroK Tryz.prog 188 = some (.agg #[Value.string ⟨#[]⟩, Value.bool false, Value.string ⟨#[]⟩, Value.int .i64 0]) := by kernel_rfl
theorem ty196 : tyK Tryz.prog 196 = some (false, 1) := by kernel_rfl
theorem ze196 : zeroK Tryz.prog 196 = some (.slice none 0 0) := by kernel_rfl
theorem el196 : elemK Tryz.prog 196 = some (91, 7) := by kernel_rfl
theorem ty213 : tyK Tryz.prog 213 = some (true, 2) := by kernel_rfl
theorem fl213_0 : fldK Tryz.prog 213 0 = some 0 := by kernel_rfl
theorem fl213_1 : fldK Tryz.prog 213 1 = some 1 := by kernel_rfl
theorem pl213 : placesK Tryz.prog 213 = some [(0, 1), (1, 1)] := by kernel_rfl
theorem ze213 : zeroK Tryz.prog 213 = some (.agg #[Value.string ⟨#[]⟩, Value.string ⟨#[]⟩]) := by kernel_rfl
theorem ty215 : tyK Tryz.prog 215 = some (true, 3) := by kernel_rfl
theorem fl215_0 : fldK Tryz.prog 215 0 = some 0 := by kernel_rfl
theorem fl215_1 : fldK Tryz.prog 215 1 = some 1 := by kernel_rfl
theorem fl215_2 : fldK Tryz.prog 215 2 = some 2 := by kernel_rfl
theorem pl215 : placesK Tryz.prog 215 = some [(0, 1), (1, 1), (2, 1)] := by kernel_rfl
theorem ze215 : zeroK Tryz.prog 215 = some (.agg #[Value.string ⟨#[]⟩, Value.string ⟨#[]⟩, Value.int .i64 0]) := by kernel_rfl
theorem ty225 : tyK Tryz.prog 225 = some (false, 1) := by kernel_rfl
theorem ze225 : zeroK Tryz.prog 225 = some (.slice none 0 0) := by kernel_rfl
theorem el225 : elemK Tryz.prog 225 = some (3, 1) := by kernel_rfl
theorem ty241 : tyK Tryz.prog 241 = some (true, 3) := by kernel_rfl
theorem fl241_0 : fldK Tryz.prog 241 0 = some 0 := by kernel_rfl
theorem fl241_1 : fldK Tryz.prog 241 1 = some 1 := by kernel_rfl
theorem fl241_2 : fldK Tryz.prog 241 2 = some 2 := by kernel_rfl
theorem pl241 : placesK Tryz.prog 241 = some [(0, 1), (1, 1), (2, 1)] := by kernel_rfl
theorem ze241 : zeroK Tryz.prog 241 = some (.agg #[Value.string ⟨#[]⟩, Value.int .i64 0, Value.slice none 0 0]) := by kernel_rfl
theorem ty243 : tyK Tryz.prog 243 = some (true, 4) := by kernel_rfl
theorem fl243_0 : fldK Tryz.prog 243 0 = some 0 := by kernel_rfl
theorem fl243_1 : fldK Tryz.prog 243 1 = some 1 := by kernel_rfl
theorem fl243_2 : fldK Tryz.prog 243 2 = some 2 := by kernel_rfl
theorem fl243_3 : fldK Tryz.prog 243 3 = some 3 := by kernel_rfl
theorem pl243 : placesK Tryz.prog 243 = some [(0, 1), (1, 1), (2, 1), (3, 1)] := by kernel_rfl
theorem ze243 : zeroK Tryz.prog 243 = some (.agg #[Value.string ⟨#[]⟩, Value.bool false, Value.string ⟨#[]⟩, Value.int .i64 0]) := by kernel_rfl
theorem ty262 : tyK Tryz.prog 262 = some (false, 1) := by kernel_rfl
theorem st262 : isStr Tryz.prog 262 = false := by kernel_rfl
theorem ik262 : intK Tryz.prog 262 = some .u32 := by kernel_rfl
theorem ap3 : appK Tryz.prog 3 1 = some 8 := by kernel_rfl
theorem ap5 : appK Tryz.prog 5 1 = some 1 := by kernel_rfl
theorem ap9 : appK Tryz.prog 9 1 = some 16 := by kernel_rfl
theorem ap85 : appK Tryz.prog 85 6 = some 88 := by kernel_rfl
theorem ap91 : appK Tryz.prog 91 7 = some 112 := by kernel_rfl
theorem ap93 : appK Tryz.prog 93 9 = some 136 := by kernel_rfl
theorem ap96 : appK Tryz.prog 96 3 = some 48 := by kernel_rfl
theorem ap133 : appK Tryz.prog 133 6 = some 88 := by kernel_rfl
theorem ap140 : appK Tryz.prog 140 9 = some 136 := by kernel_rfl
theorem ap154 : appK Tryz.prog 154 2 = some 32 := by kernel_rfl
theorem ap179 : appK Tryz.prog 179 3 = some 40 := by kernel_rfl
theorem ap180 : appK Tryz.prog 180 3 = some 40 := by kernel_rfl
theorem ap186 : appK Tryz.prog 186 3 = some 40 := by kernel_rfl
theorem ap188 : appK Tryz.prog 188 4 = some 48 := by kernel_rfl
theorem ap213 : appK Tryz.prog 213 2 = some 32 := by kernel_rfl
theorem ap215 : appK Tryz.prog 215 3 = some 40 := by kernel_rfl
theorem ap241 : appK Tryz.prog 241 3 = some 48 := by kernel_rfl
theorem ap243 : appK Tryz.prog 243 4 = some 48 := by kernel_rfl
theorem mixed : Tryz.prog.follows .mixedOrders = true := by kernel_rfl
end Go.Proofs.YtemaanibghedlaaGreat
