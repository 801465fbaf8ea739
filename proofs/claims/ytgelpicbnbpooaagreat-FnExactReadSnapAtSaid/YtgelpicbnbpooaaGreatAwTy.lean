/- What the types say. -/
import Derived.Test.YtgelpicbnbpooaaGreatAwb
import Derived.Test.YtgelpicbnbpooaaGreatProg
namespace Go.Proofs.YtgelpicbnbpooaaGreat
open Go.RowKit

theorem ty2 : tyK Tryz.prog 2 = some (false, 1) := by kernel_rfl
theorem ze2 : zeroK Tryz.prog 2 = some (Value.int .i64 0) := by kernel_rfl
theorem st2 : isStr Tryz.prog 2 = false := by kernel_rfl
theorem ik2 : intK Tryz.prog 2 = some .i64 := by kernel_rfl
theorem ty3 : tyK Tryz.prog 3 = some (false, 1) := by kernel_rfl
theorem ze3 : zeroK Tryz.prog 3 = some (Value.int .i64 0) := by kernel_rfl
theorem st3 : isStr Tryz.prog 3 = false := by kernel_rfl
theorem ik3 : intK Tryz.prog 3 = some .i64 := by kernel_rfl
theorem ty4 : tyK Tryz.prog 4 = some (false, 1) := by kernel_rfl
theorem ze4 : zeroK Tryz.prog 4 = some (Value.bool false) := by kernel_rfl
theorem st4 : isStr Tryz.prog 4 = false := by kernel_rfl
theorem bo4 : isBool Tryz.prog 4 = true := by kernel_rfl
theorem ty5 : tyK Tryz.prog 5 = some (false, 1) := by kernel_rfl
theorem ze5 : zeroK Tryz.prog 5 = some (Value.int .u8 0) := by kernel_rfl
theorem st5 : isStr Tryz.prog 5 = false := by kernel_rfl
theorem ik5 : intK Tryz.prog 5 = some .u8 := by kernel_rfl
theorem ty9 : tyK Tryz.prog 9 = some (false, 1) := by kernel_rfl
theorem ze9 : zeroK Tryz.prog 9 = some (Value.string ⟨#[]⟩) := by kernel_rfl
theorem st9 : isStr Tryz.prog 9 = true := by kernel_rfl
theorem ty12 : tyK Tryz.prog 12 = some (false, 1) := by kernel_rfl
theorem st12 : isStr Tryz.prog 12 = false := by kernel_rfl
theorem ty21 : tyK Tryz.prog 21 = some (false, 1) := by kernel_rfl
theorem st21 : isStr Tryz.prog 21 = false := by kernel_rfl
theorem ik21 : intK Tryz.prog 21 = some .i32 := by kernel_rfl
theorem ty25 : tyK Tryz.prog 25 = some (false, 1) := by kernel_rfl
theorem ze25 : zeroK Tryz.prog 25 = some (.slice none 0 0) := by kernel_rfl
theorem el25 : elemK Tryz.prog 25 = some (104, 6) := by kernel_rfl
theorem ty26 : tyK Tryz.prog 26 = some (false, 1) := by kernel_rfl
theorem ze26 : zeroK Tryz.prog 26 = some (.slice none 0 0) := by kernel_rfl
theorem el26 : elemK Tryz.prog 26 = some (111, 9) := by kernel_rfl
theorem ty28 : tyK Tryz.prog 28 = some (true, 3) := by kernel_rfl
theorem fl28_0 : fldK Tryz.prog 28 0 = some 0 := by kernel_rfl
theorem fl28_1 : fldK Tryz.prog 28 1 = some 1 := by kernel_rfl
theorem fl28_2 : fldK Tryz.prog 28 2 = some 2 := by kernel_rfl
theorem pl28 : placesK Tryz.prog 28 = some [(0, 1), (1, 1), (2, 1)] := by kernel_rfl
theorem ze28 : zeroK Tryz.prog 28 = some (.agg #[Value.int .i64 0, Value.int .i64 0, Value.int .i64 0]) := by kernel_rfl
theorem ty30 : tyK Tryz.prog 30 = some (true, 6) := by kernel_rfl
theorem fl30_0 : fldK Tryz.prog 30 0 = some 0 := by kernel_rfl
theorem fl30_1 : fldK Tryz.prog 30 1 = some 1 := by kernel_rfl
theorem fl30_2 : fldK Tryz.prog 30 2 = some 2 := by kernel_rfl
theorem fl30_3 : fldK Tryz.prog 30 3 = some 3 := by kernel_rfl
theorem pl30 : placesK Tryz.prog 30 = some [(0, 1), (1, 1), (2, 1), (3, 3)] := by kernel_rfl
theorem ze30 : zeroK Tryz.prog 30 = some (.agg #[Value.slice none 0 0, Value.slice none 0 0, Value.int .i64 0, Value.int .i64 0, Value.int .i64 0, Value.int .i64 0]) := by kernel_rfl
theorem ty41 : tyK Tryz.prog 41 = some (false, 1) := by kernel_rfl
theorem ze41 : zeroK Tryz.prog 41 = some (.slice none 0 0) := by kernel_rfl
theorem el41 : elemK Tryz.prog 41 = some (201, 3) := by kernel_rfl
theorem ty43 : tyK Tryz.prog 43 = some (true, 1) := by kernel_rfl
theorem fl43_0 : fldK Tryz.prog 43 0 = some 0 := by kernel_rfl
theorem pl43 : placesK Tryz.prog 43 = some [(0, 1)] := by kernel_rfl
theorem ze43 : zeroK Tryz.prog 43 = some (.agg #[Value.slice none 0 0]) := by kernel_rfl
theorem ty44 : tyK Tryz.prog 44 = some (false, 1) := by kernel_rfl
theorem ze44 : zeroK Tryz.prog 44 = some (.slice none 0 0) := by kernel_rfl
theorem el44 : elemK Tryz.prog 44 = some (206, 6) := by kernel_rfl
theorem ty45 : tyK Tryz.prog 45 = some (false, 1) := by kernel_rfl
theorem ze45 : zeroK Tryz.prog 45 = some (.slice none 0 0) := by kernel_rfl
theorem el45 : elemK Tryz.prog 45 = some (213, 9) := by kernel_rfl
theorem ty46 : tyK Tryz.prog 46 = some (true, 3) := by kernel_rfl
theorem fl46_0 : fldK Tryz.prog 46 0 = some 0 := by kernel_rfl
theorem fl46_1 : fldK Tryz.prog 46 1 = some 1 := by kernel_rfl
theorem fl46_2 : fldK Tryz.prog 46 2 = some 2 := by kernel_rfl
theorem pl46 : placesK Tryz.prog 46 = some [(0, 1), (1, 1), (2, 1)] := by kernel_rfl
theorem ze46 : zeroK Tryz.prog 46 = some (.agg #[Value.int .i64 0, Value.int .i64 0, Value.int .i64 0]) := by kernel_rfl
theorem ty48 : tyK Tryz.prog 48 = some (true, 6) := by kernel_rfl
theorem fl48_0 : fldK Tryz.prog 48 0 = some 0 := by kernel_rfl
theorem fl48_1 : fldK Tryz.prog 48 1 = some 1 := by kernel_rfl
theorem fl48_2 : fldK Tryz.prog 48 2 = some 2 := by kernel_rfl
theorem fl48_3 : fldK Tryz.prog 48 3 = some 3 := by kernel_rfl
theorem pl48 : placesK Tryz.prog 48 = some [(0, 1), (1, 1), (2, 1), (3, 3)] := by kernel_rfl
theorem ze48 : zeroK Tryz.prog 48 = some (.agg #[Value.slice none 0 0, Value.slice none 0 0, Value.int .i64 0, Value.int .i64 0, Value.int .i64 0, Value.int .i64 0]) := by kernel_rfl
theorem ty51 : tyK Tryz.prog 51 = some (false, 1) := by kernel_rfl
theorem ze51 : zeroK Tryz.prog 51 = some (.slice none 0 0) := by kernel_rfl
theorem el51 : elemK Tryz.prog 51 = some (169, 3) := by kernel_rfl
theorem ty53 : tyK Tryz.prog 53 = some (true, 1) := by kernel_rfl
theorem fl53_0 : fldK Tryz.prog 53 0 = some 0 := by kernel_rfl
theorem pl53 : placesK Tryz.prog 53 = some [(0, 1)] := by kernel_rfl
theorem ze53 : zeroK Tryz.prog 53 = some (.agg #[Value.slice none 0 0]) := by kernel_rfl
theorem ty63 : tyK Tryz.prog 63 = some (false, 1) := by kernel_rfl
theorem ze63 : zeroK Tryz.prog 63 = some (.slice none 0 0) := by kernel_rfl
theorem el63 : elemK Tryz.prog 63 = some (5, 1) := by kernel_rfl
theorem bs63 : u8Ty Tryz.prog 63 9 = true := by kernel_rfl
theorem ty69 : tyK Tryz.prog 69 = some (false, 1) := by kernel_rfl
theorem ze69 : zeroK Tryz.prog 69 = some (.slice none 0 0) := by kernel_rfl
theorem el69 : elemK Tryz.prog 69 = some (3, 1) := by kernel_rfl
theorem ty77 : tyK Tryz.prog 77 = some (true, 14) := by kernel_rfl
theorem fl77_0 : fldK Tryz.prog 77 0 = some 0 := by kernel_rfl
theorem fl77_1 : fldK Tryz.prog 77 1 = some 6 := by kernel_rfl
theorem fl77_2 : fldK Tryz.prog 77 2 = some 7 := by kernel_rfl
theorem fl77_3 : fldK Tryz.prog 77 3 = some 13 := by kernel_rfl
theorem pl77 : placesK Tryz.prog 77 = some [(0, 6), (6, 1), (7, 6), (13, 1)] := by kernel_rfl
theorem ze77 : zeroK Tryz.prog 77 = some (.agg #[Value.slice none 0 0, Value.slice none 0 0, Value.int .i64 0, Value.int .i64 0, Value.int .i64 0, Value.int .i64 0, Value.slice none 0 0, Value.slice none 0 0, Value.slice none 0 0, Value.int .i64 0, Value.int .i64 0, Value.int .i64 0, Value.int .i64 0, Value.bool false]) := by kernel_rfl
theorem ty81 : tyK Tryz.prog 81 = some (true, 14) := by kernel_rfl
theorem fl81_0 : fldK Tryz.prog 81 0 = some 0 := by kernel_rfl
theorem fl81_1 : fldK Tryz.prog 81 1 = some 6 := by kernel_rfl
theorem fl81_2 : fldK Tryz.prog 81 2 = some 7 := by kernel_rfl
theorem fl81_3 : fldK Tryz.prog 81 3 = some 13 := by kernel_rfl
theorem pl81 : placesK Tryz.prog 81 = some [(0, 6), (6, 1), (7, 6), (13, 1)] := by kernel_rfl
theorem ze81 : zeroK Tryz.prog 81 = some (.agg #[Value.slice none 0 0, Value.slice none 0 0, Value.int .i64 0, Value.int .i64 0, Value.int .i64 0, Value.int .i64 0, Value.slice none 0 0, Value.slice none 0 0, Value.slice none 0 0, Value.int .i64 0, Value.int .i64 0, Value.int .i64 0, Value.int .i64 0, Value.bool false]) := by kernel_rfl
theorem ty96 : tyK Tryz.prog 96 = some (true, 3) := by kernel_rfl
theorem fl96_0 : fldK Tryz.prog 96 0 = some 0 := by kernel_rfl
theorem fl96_1 : fldK Tryz.prog 96 1 = some 1 := by kernel_rfl
theorem fl96_2 : fldK Tryz.prog 96 2 = some 2 := by kernel_rfl
theorem pl96 : placesK Tryz.prog 96 = some [(0, 1), (1, 1), (2, 1)] := by kernel_rfl
theorem ze96 : zeroK Tryz.prog 96 = some (.agg #[Value.string ⟨#[]⟩, Value.int .i64 0, Value.bool false]) := by kernel_rfl
theorem ty101 : tyK Tryz.prog 101 = some (false, 1) := by kernel_rfl
theorem ze101 : zeroK Tryz.prog 101 = some (.slice none 0 0) := by kernel_rfl
theorem el101 : elemK Tryz.prog 101 = some (176, 2) := by kernel_rfl
theorem ty102 : tyK Tryz.prog 102 = some (false, 1) := by kernel_rfl
theorem ze102 : zeroK Tryz.prog 102 = some (.slice none 0 0) := by kernel_rfl
theorem el102 : elemK Tryz.prog 102 = some (230, 3) := by kernel_rfl
theorem ty104 : tyK Tryz.prog 104 = some (true, 6) := by kernel_rfl
theorem fl104_0 : fldK Tryz.prog 104 0 = some 0 := by kernel_rfl
theorem fl104_1 : fldK Tryz.prog 104 1 = some 1 := by kernel_rfl
theorem fl104_2 : fldK Tryz.prog 104 2 = some 2 := by kernel_rfl
theorem fl104_3 : fldK Tryz.prog 104 3 = some 3 := by kernel_rfl
theorem fl104_4 : fldK Tryz.prog 104 4 = some 4 := by kernel_rfl
theorem fl104_5 : fldK Tryz.prog 104 5 = some 5 := by kernel_rfl
theorem pl104 : placesK Tryz.prog 104 = some [(0, 1), (1, 1), (2, 1), (3, 1), (4, 1), (5, 1)] := by kernel_rfl
theorem ze104 : zeroK Tryz.prog 104 = some (.agg #[Value.string ⟨#[]⟩, Value.slice none 0 0, Value.int .i64 0, Value.int .i64 0, Value.int .i64 0, Value.slice none 0 0]) := by kernel_rfl
theorem ty106 : tyK Tryz.prog 106 = some (false, 1) := by kernel_rfl
theorem ze106 : zeroK Tryz.prog 106 = some (.slice none 0 0) := by kernel_rfl
theorem el106 : elemK Tryz.prog 106 = some (114, 3) := by kernel_rfl
theorem ty107 : tyK Tryz.prog 107 = some (false, 1) := by kernel_rfl
theorem ze107 : zeroK Tryz.prog 107 = some (.slice none 0 0) := by kernel_rfl
theorem el107 : elemK Tryz.prog 107 = some (233, 4) := by kernel_rfl
theorem ty109 : tyK Tryz.prog 109 = some (true, 7) := by kernel_rfl
theorem fl109_0 : fldK Tryz.prog 109 0 = some 0 := by kernel_rfl
theorem fl109_1 : fldK Tryz.prog 109 1 = some 1 := by kernel_rfl
theorem fl109_2 : fldK Tryz.prog 109 2 = some 2 := by kernel_rfl
theorem fl109_3 : fldK Tryz.prog 109 3 = some 3 := by kernel_rfl
theorem fl109_4 : fldK Tryz.prog 109 4 = some 4 := by kernel_rfl
theorem fl109_5 : fldK Tryz.prog 109 5 = some 5 := by kernel_rfl
theorem fl109_6 : fldK Tryz.prog 109 6 = some 6 := by kernel_rfl
theorem pl109 : placesK Tryz.prog 109 = some [(0, 1), (1, 1), (2, 1), (3, 1), (4, 1), (5, 1), (6, 1)] := by kernel_rfl
theorem ze109 : zeroK Tryz.prog 109 = some (.agg #[Value.string ⟨#[]⟩, Value.slice none 0 0, Value.int .i64 0, Value.int .i64 0, Value.int .i64 0, Value.slice none 0 0, Value.slice none 0 0]) := by kernel_rfl
theorem ty111 : tyK Tryz.prog 111 = some (true, 9) := by kernel_rfl
theorem fl111_0 : fldK Tryz.prog 111 0 = some 0 := by kernel_rfl
theorem fl111_1 : fldK Tryz.prog 111 1 = some 7 := by kernel_rfl
theorem fl111_2 : fldK Tryz.prog 111 2 = some 8 := by kernel_rfl
theorem pl111 : placesK Tryz.prog 111 = some [(0, 7), (7, 1), (8, 1)] := by kernel_rfl
theorem ze111 : zeroK Tryz.prog 111 = some (.agg #[Value.string ⟨#[]⟩, Value.slice none 0 0, Value.int .i64 0, Value.int .i64 0, Value.int .i64 0, Value.slice none 0 0, Value.slice none 0 0, Value.string ⟨#[]⟩, Value.int .i64 0]) := by kernel_rfl
theorem ty112 : tyK Tryz.prog 112 = some (false, 1) := by kernel_rfl
theorem ze112 : zeroK Tryz.prog 112 = some (.slice none 0 0) := by kernel_rfl
theorem el112 : elemK Tryz.prog 112 = some (9, 1) := by kernel_rfl
theorem ty114 : tyK Tryz.prog 114 = some (true, 3) := by kernel_rfl
theorem fl114_0 : fldK Tryz.prog 114 0 = some 0 := by kernel_rfl
theorem fl114_1 : fldK Tryz.prog 114 1 = some 1 := by kernel_rfl
theorem fl114_2 : fldK Tryz.prog 114 2 = some 2 := by kernel_rfl
theorem pl114 : placesK Tryz.prog 114 = some [(0, 1), (1, 1), (2, 1)] := by kernel_rfl
theorem ze114 : zeroK Tryz.prog 114 = some (.agg #[Value.string ⟨#[]⟩, Value.int .i64 0, Value.slice none 0 0]) := by kernel_rfl
theorem ty118 : tyK Tryz.prog 118 = some (true, 2) := by kernel_rfl
theorem fl118_0 : fldK Tryz.prog 118 0 = some 0 := by kernel_rfl
theorem fl118_1 : fldK Tryz.prog 118 1 = some 1 := by kernel_rfl
theorem pl118 : placesK Tryz.prog 118 = some [(0, 1), (1, 1)] := by kernel_rfl
theorem ze118 : zeroK Tryz.prog 118 = some (.agg #[Value.string ⟨#[]⟩, Value.int .i64 0]) := by kernel_rfl
theorem ty131 : tyK Tryz.prog 131 = some (true, 2) := by kernel_rfl
theorem fl131_0 : fldK Tryz.prog 131 0 = some 0 := by kernel_rfl
theorem fl131_1 : fldK Tryz.prog 131 1 = some 1 := by kernel_rfl
theorem pl131 : placesK Tryz.prog 131 = some [(0, 1), (1, 1)] := by kernel_rfl
theorem ze131 : zeroK Tryz.prog 131 = some (.agg #[Value.int .i64 0, Value.string ⟨#[]⟩]) := by kernel_rfl
theorem ty169 : tyK Tryz.prog 169 = some (true, 3) := by kernel_rfl
theorem fl169_0 : fldK Tryz.prog 169 0 = some 0 := by kernel_rfl
theorem fl169_1 : fldK Tryz.prog 169 1 = some 1 := by kernel_rfl
theorem fl169_2 : fldK Tryz.prog 169 2 = some 2 := by kernel_rfl
theorem pl169 : placesK Tryz.prog 169 = some [(0, 1), (1, 1), (2, 1)] := by kernel_rfl
theorem ze169 : zeroK Tryz.prog 169 = some (.agg #[Value.string ⟨#[]⟩, Value.string ⟨#[]⟩, Value.int .i64 0]) := by kernel_rfl
theorem ty176 : tyK Tryz.prog 176 = some (true, 2) := by kernel_rfl
theorem fl176_0 : fldK Tryz.prog 176 0 = some 0 := by kernel_rfl
theorem fl176_1 : fldK Tryz.prog 176 1 = some 1 := by kernel_rfl
theorem pl176 : placesK Tryz.prog 176 = some [(0, 1), (1, 1)] := by kernel_rfl
theorem ze176 : zeroK Tryz.prog 176 = some (.agg #[Value.string ⟨#[]⟩, Value.string ⟨#[]⟩]) := by kernel_rfl
theorem ty201 : tyK Tryz.prog 201 = some (true, 3) := by kernel_rfl
theorem fl201_0 : fldK Tryz.prog 201 0 = some 0 := by kernel_rfl
theorem fl201_1 : fldK Tryz.prog 201 1 = some 1 := by kernel_rfl
theorem fl201_2 : fldK Tryz.prog 201 2 = some 2 := by kernel_rfl
theorem pl201 : placesK Tryz.prog 201 = some [(0, 1), (1, 1), (2, 1)] := by kernel_rfl
theorem ze201 : zeroK Tryz.prog 201 = some (.agg #[Value.string ⟨#[]⟩, Value.string ⟨#[]⟩, Value.int .i64 0]) := by kernel_rfl
theorem ty203 : tyK Tryz.prog 203 = some (false, 1) := by kernel_rfl
theorem ze203 : zeroK Tryz.prog 203 = some (.slice none 0 0) := by kernel_rfl
theorem el203 : elemK Tryz.prog 203 = some (309, 2) := by kernel_rfl
theorem ty204 : tyK Tryz.prog 204 = some (false, 1) := by kernel_rfl
theorem ze204 : zeroK Tryz.prog 204 = some (.slice none 0 0) := by kernel_rfl
theorem el204 : elemK Tryz.prog 204 = some (311, 3) := by kernel_rfl
theorem ty206 : tyK Tryz.prog 206 = some (true, 6) := by kernel_rfl
theorem fl206_0 : fldK Tryz.prog 206 0 = some 0 := by kernel_rfl
theorem fl206_1 : fldK Tryz.prog 206 1 = some 1 := by kernel_rfl
theorem fl206_2 : fldK Tryz.prog 206 2 = some 2 := by kernel_rfl
theorem fl206_3 : fldK Tryz.prog 206 3 = some 3 := by kernel_rfl
theorem fl206_4 : fldK Tryz.prog 206 4 = some 4 := by kernel_rfl
theorem fl206_5 : fldK Tryz.prog 206 5 = some 5 := by kernel_rfl
theorem pl206 : placesK Tryz.prog 206 = some [(0, 1), (1, 1), (2, 1), (3, 1), (4, 1), (5, 1)] := by kernel_rfl
theorem ze206 : zeroK Tryz.prog 206 = some (.agg #[Value.string ⟨#[]⟩, Value.slice none 0 0, Value.int .i64 0, Value.int .i64 0, Value.int .i64 0, Value.slice none 0 0]) := by kernel_rfl
theorem ty208 : tyK Tryz.prog 208 = some (false, 1) := by kernel_rfl
theorem ze208 : zeroK Tryz.prog 208 = some (.slice none 0 0) := by kernel_rfl
theorem el208 : elemK Tryz.prog 208 = some (343, 3) := by kernel_rfl
theorem ty209 : tyK Tryz.prog 209 = some (false, 1) := by kernel_rfl
theorem ze209 : zeroK Tryz.prog 209 = some (.slice none 0 0) := by kernel_rfl
theorem el209 : elemK Tryz.prog 209 = some (345, 4) := by kernel_rfl
theorem ty211 : tyK Tryz.prog 211 = some (true, 7) := by kernel_rfl
theorem fl211_0 : fldK Tryz.prog 211 0 = some 0 := by kernel_rfl
theorem fl211_1 : fldK Tryz.prog 211 1 = some 1 := by kernel_rfl
theorem fl211_2 : fldK Tryz.prog 211 2 = some 2 := by kernel_rfl
theorem fl211_3 : fldK Tryz.prog 211 3 = some 3 := by kernel_rfl
theorem fl211_4 : fldK Tryz.prog 211 4 = some 4 := by kernel_rfl
theorem fl211_5 : fldK Tryz.prog 211 5 = some 5 := by kernel_rfl
theorem fl211_6 : fldK Tryz.prog 211 6 = some 6 := by kernel_rfl
theorem pl211 : placesK Tryz.prog 211 = some [(0, 1), (1, 1), (2, 1), (3, 1), (4, 1), (5, 1), (6, 1)] := by kernel_rfl
theorem ze211 : zeroK Tryz.prog 211 = some (.agg #[Value.string ⟨#[]⟩, Value.slice none 0 0, Value.int .i64 0, Value.int .i64 0, Value.int .i64 0, Value.slice none 0 0, Value.slice none 0 0]) := by kernel_rfl
theorem ty213 : tyK Tryz.prog 213 = some (true, 9) := by kernel_rfl
theorem fl213_0 : fldK Tryz.prog 213 0 = some 0 := by kernel_rfl
theorem fl213_1 : fldK Tryz.prog 213 1 = some 7 := by kernel_rfl
theorem fl213_2 : fldK Tryz.prog 213 2 = some 8 := by kernel_rfl
theorem pl213 : placesK Tryz.prog 213 = some [(0, 7), (7, 1), (8, 1)] := by kernel_rfl
theorem ze213 : zeroK Tryz.prog 213 = some (.agg #[Value.string ⟨#[]⟩, Value.slice none 0 0, Value.int .i64 0, Value.int .i64 0, Value.int .i64 0, Value.slice none 0 0, Value.slice none 0 0, Value.string ⟨#[]⟩, Value.int .i64 0]) := by kernel_rfl
theorem ty220 : tyK Tryz.prog 220 = some (true, 3) := by kernel_rfl
theorem fl220_0 : fldK Tryz.prog 220 0 = some 0 := by kernel_rfl
theorem fl220_1 : fldK Tryz.prog 220 1 = some 1 := by kernel_rfl
theorem fl220_2 : fldK Tryz.prog 220 2 = some 2 := by kernel_rfl
theorem pl220 : placesK Tryz.prog 220 = some [(0, 1), (1, 1), (2, 1)] := by kernel_rfl
theorem ze220 : zeroK Tryz.prog 220 = some (.agg #[Value.slice none 0 0, Value.int .i64 0, Value.int .i64 0]) := by kernel_rfl
theorem ty230 : tyK Tryz.prog 230 = some (true, 3) := by kernel_rfl
theorem fl230_0 : fldK Tryz.prog 230 0 = some 0 := by kernel_rfl
theorem fl230_1 : fldK Tryz.prog 230 1 = some 1 := by kernel_rfl
theorem fl230_2 : fldK Tryz.prog 230 2 = some 2 := by kernel_rfl
theorem pl230 : placesK Tryz.prog 230 = some [(0, 1), (1, 1), (2, 1)] := by kernel_rfl
theorem ze230 : zeroK Tryz.prog 230 = some (.agg #[Value.string ⟨#[]⟩, Value.string ⟨#[]⟩, Value.int .i64 0]) := by kernel_rfl
theorem ty233 : tyK Tryz.prog 233 = some (true, 4) := by kernel_rfl
theorem fl233_0 : fldK Tryz.prog 233 0 = some 0 := by kernel_rfl
theorem fl233_1 : fldK Tryz.prog 233 1 = some 1 := by kernel_rfl
theorem fl233_2 : fldK Tryz.prog 233 2 = some 2 := by kernel_rfl
theorem fl233_3 : fldK Tryz.prog 233 3 = some 3 := by kernel_rfl
theorem pl233 : placesK Tryz.prog 233 = some [(0, 1), (1, 1), (2, 1), (3, 1)] := by kernel_rfl
theorem ze233 : zeroK Tryz.prog 233 = some (.agg #[Value.string ⟨#[]⟩, Value.bool false, Value.string ⟨#[]⟩, Value.int .i64 0]) := by kernel_rfl
theorem ty250 : tyK Tryz.prog 250 = some (true, 14) := by kernel_rfl
theorem fl250_0 : fldK Tryz.prog 250 0 = some 0 := by kernel_rfl
theorem fl250_1 : fldK Tryz.prog 250 1 = some 1 := by kernel_rfl
theorem fl250_2 : fldK Tryz.prog 250 2 = some 8 := by kernel_rfl
theorem pl250 : placesK Tryz.prog 250 = some [(0, 1), (1, 7), (8, 6)] := by kernel_rfl
theorem ze250 : zeroK Tryz.prog 250 = some (.agg #[Value.int .i64 0, Value.string ⟨#[]⟩, Value.slice none 0 0, Value.int .i64 0, Value.int .i64 0, Value.int .i64 0, Value.slice none 0 0, Value.slice none 0 0, Value.string ⟨#[]⟩, Value.slice none 0 0, Value.int .i64 0, Value.int .i64 0, Value.int .i64 0, Value.slice none 0 0]) := by kernel_rfl
theorem ty252 : tyK Tryz.prog 252 = some (true, 19) := by kernel_rfl
theorem fl252_0 : fldK Tryz.prog 252 0 = some 0 := by kernel_rfl
theorem fl252_1 : fldK Tryz.prog 252 1 = some 1 := by kernel_rfl
theorem fl252_2 : fldK Tryz.prog 252 2 = some 2 := by kernel_rfl
theorem fl252_3 : fldK Tryz.prog 252 3 = some 16 := by kernel_rfl
theorem pl252 : placesK Tryz.prog 252 = some [(0, 1), (1, 1), (2, 14), (16, 3)] := by kernel_rfl
theorem ze252 : zeroK Tryz.prog 252 = some (.agg #[Value.int .i64 0, Value.string ⟨#[]⟩, Value.int .i64 0, Value.string ⟨#[]⟩, Value.slice none 0 0, Value.int .i64 0, Value.int .i64 0, Value.int .i64 0, Value.slice none 0 0, Value.slice none 0 0, Value.string ⟨#[]⟩, Value.slice none 0 0, Value.int .i64 0, Value.int .i64 0, Value.int .i64 0, Value.slice none 0 0, Value.int .i64 0, Value.int .i64 0, Value.int .i64 0]) := by kernel_rfl
theorem ty261 : tyK Tryz.prog 261 = some (false, 1) := by kernel_rfl
theorem ze261 : zeroK Tryz.prog 261 = some (.slice none 0 0) := by kernel_rfl
theorem el261 : elemK Tryz.prog 261 = some (109, 7) := by kernel_rfl
theorem ty309 : tyK Tryz.prog 309 = some (true, 2) := by kernel_rfl
theorem fl309_0 : fldK Tryz.prog 309 0 = some 0 := by kernel_rfl
theorem fl309_1 : fldK Tryz.prog 309 1 = some 1 := by kernel_rfl
theorem pl309 : placesK Tryz.prog 309 = some [(0, 1), (1, 1)] := by kernel_rfl
theorem ze309 : zeroK Tryz.prog 309 = some (.agg #[Value.string ⟨#[]⟩, Value.string ⟨#[]⟩]) := by kernel_rfl
theorem ty311 : tyK Tryz.prog 311 = some (true, 3) := by kernel_rfl
theorem fl311_0 : fldK Tryz.prog 311 0 = some 0 := by kernel_rfl
theorem fl311_1 : fldK Tryz.prog 311 1 = some 1 := by kernel_rfl
theorem fl311_2 : fldK Tryz.prog 311 2 = some 2 := by kernel_rfl
theorem pl311 : placesK Tryz.prog 311 = some [(0, 1), (1, 1), (2, 1)] := by kernel_rfl
theorem ze311 : zeroK Tryz.prog 311 = some (.agg #[Value.string ⟨#[]⟩, Value.string ⟨#[]⟩, Value.int .i64 0]) := by kernel_rfl
theorem ty343 : tyK Tryz.prog 343 = some (true, 3) := by kernel_rfl
theorem fl343_0 : fldK Tryz.prog 343 0 = some 0 := by kernel_rfl
theorem fl343_1 : fldK Tryz.prog 343 1 = some 1 := by kernel_rfl
theorem fl343_2 : fldK Tryz.prog 343 2 = some 2 := by kernel_rfl
theorem pl343 : placesK Tryz.prog 343 = some [(0, 1), (1, 1), (2, 1)] := by kernel_rfl
theorem ze343 : zeroK Tryz.prog 343 = some (.agg #[Value.string ⟨#[]⟩, Value.int .i64 0, Value.slice none 0 0]) := by kernel_rfl
theorem ty345 : tyK Tryz.prog 345 = some (true, 4) := by kernel_rfl
theorem fl345_0 : fldK Tryz.prog 345 0 = some 0 := by kernel_rfl
theorem fl345_1 : fldK Tryz.prog 345 1 = some 1 := by kernel_rfl
theorem fl345_2 : fldK Tryz.prog 345 2 = some 2 := by kernel_rfl
theorem fl345_3 : fldK Tryz.prog 345 3 = some 3 := by kernel_rfl
theorem pl345 : placesK Tryz.prog 345 = some [(0, 1), (1, 1), (2, 1), (3, 1)] := by kernel_rfl
theorem ze345 : zeroK Tryz.prog 345 = some (.agg #[Value.string ⟨#[]⟩, Value.bool false, Value.string ⟨#[]⟩, Value.int .i64 0]) := by kernel_rfl
theorem ty359 : tyK Tryz.prog 359 = some (false, 1) := by kernel_rfl
theorem st359 : isStr Tryz.prog 359 = false := by kernel_rfl
theorem ik359 : intK Tryz.prog 359 = some .u64 := by kernel_rfl
theorem ty379 : tyK Tryz.prog 379 = some (false, 1) := by kernel_rfl
theorem st379 : isStr Tryz.prog 379 = false := by kernel_rfl
theorem ik379 : intK Tryz.prog 379 = some .u32 := by kernel_rfl
theorem ap3 : appK Tryz.prog 3 1 = some 8 := by kernel_rfl
theorem ap5 : appK Tryz.prog 5 1 = some 1 := by kernel_rfl
theorem ap9 : appK Tryz.prog 9 1 = some 16 := by kernel_rfl
theorem ap104 : appK Tryz.prog 104 6 = some 88 := by kernel_rfl
theorem ap109 : appK Tryz.prog 109 7 = some 112 := by kernel_rfl
theorem ap111 : appK Tryz.prog 111 9 = some 136 := by kernel_rfl
theorem ap114 : appK Tryz.prog 114 3 = some 48 := by kernel_rfl
theorem ap169 : appK Tryz.prog 169 3 = some 40 := by kernel_rfl
theorem ap176 : appK Tryz.prog 176 2 = some 32 := by kernel_rfl
theorem ap201 : appK Tryz.prog 201 3 = some 40 := by kernel_rfl
theorem ap206 : appK Tryz.prog 206 6 = some 88 := by kernel_rfl
theorem ap213 : appK Tryz.prog 213 9 = some 136 := by kernel_rfl
theorem ap230 : appK Tryz.prog 230 3 = some 40 := by kernel_rfl
theorem ap233 : appK Tryz.prog 233 4 = some 48 := by kernel_rfl
theorem ap309 : appK Tryz.prog 309 2 = some 32 := by kernel_rfl
theorem ap311 : appK Tryz.prog 311 3 = some 40 := by kernel_rfl
theorem ap343 : appK Tryz.prog 343 3 = some 48 := by kernel_rfl
theorem ap345 : appK Tryz.prog 345 4 = some 48 := by kernel_rfl
theorem mixed : Tryz.prog.follows .mixedOrders = true := by kernel_rfl
end Go.Proofs.YtgelpicbnbpooaaGreat
