/- AwTy (what is wanted of them). -/
import Derived.Test.YtgoeccemfgniiaaGreatUAwb
import Derived.Test.YtgoeccemfgniiaaGreatProg
namespace Go.Proofs.YtgoeccemfgniiaaGreat
open Go.RowKit
theorem ty2:tyK Tryz.prog 2=some (false,1):=by kernel_rfl
theorem ze2:zeroK Tryz.prog 2=some (Value.int .i64 0):=by kernel_rfl
theorem st2:isStr Tryz.prog 2=false:=by kernel_rfl
theorem ik2:intK Tryz.prog 2=some .i64:=by kernel_rfl
theorem ty3:tyK Tryz.prog 3=some (false,1):=by kernel_rfl
theorem ze3:zeroK Tryz.prog 3=some (Value.int .i64 0):=by kernel_rfl
theorem st3:isStr Tryz.prog 3=false:=by kernel_rfl
theorem ik3:intK Tryz.prog 3=some .i64:=by kernel_rfl
theorem ty4:tyK Tryz.prog 4=some (false,1):=by kernel_rfl
theorem ze4:zeroK Tryz.prog 4=some (Value.bool false):=by kernel_rfl
theorem st4:isStr Tryz.prog 4=false:=by kernel_rfl
theorem bo4:isBool Tryz.prog 4=true:=by kernel_rfl
theorem ty5:tyK Tryz.prog 5=some (false,1):=by kernel_rfl
theorem ze5:zeroK Tryz.prog 5=some (Value.int .u8 0):=by kernel_rfl
theorem st5:isStr Tryz.prog 5=false:=by kernel_rfl
theorem ik5:intK Tryz.prog 5=some .u8:=by kernel_rfl
theorem ty9:tyK Tryz.prog 9=some (false,1):=by kernel_rfl
theorem ze9:zeroK Tryz.prog 9=some (Value.string ⟨#[]⟩):=by kernel_rfl
theorem st9:isStr Tryz.prog 9=true:=by kernel_rfl
theorem ty12:tyK Tryz.prog 12=some (false,1):=by kernel_rfl
theorem st12:isStr Tryz.prog 12=false:=by kernel_rfl
theorem ty21:tyK Tryz.prog 21=some (false,1):=by kernel_rfl
theorem st21:isStr Tryz.prog 21=false:=by kernel_rfl
theorem ik21:intK Tryz.prog 21=some .i32:=by kernel_rfl
theorem ty22:tyK Tryz.prog 22=some (false,1):=by kernel_rfl
theorem ze22:zeroK Tryz.prog 22=some (.slice none 0 0):=by kernel_rfl
theorem el22:elemK Tryz.prog 22=some (165,3):=by kernel_rfl
theorem ty24:tyK Tryz.prog 24=some (true,1):=by kernel_rfl
theorem fl24_0:fldK Tryz.prog 24 0=some 0:=by kernel_rfl
theorem pl24:placesK Tryz.prog 24=some [(0,1)]:=by kernel_rfl
theorem ze24:zeroK Tryz.prog 24=some (.agg #[Value.slice none 0 0]):=by kernel_rfl
theorem ty25:tyK Tryz.prog 25=some (false,1):=by kernel_rfl
theorem ze25:zeroK Tryz.prog 25=some (.slice none 0 0):=by kernel_rfl
theorem el25:elemK Tryz.prog 25=some (170,6):=by kernel_rfl
theorem ty26:tyK Tryz.prog 26=some (false,1):=by kernel_rfl
theorem ze26:zeroK Tryz.prog 26=some (.slice none 0 0):=by kernel_rfl
theorem el26:elemK Tryz.prog 26=some (177,9):=by kernel_rfl
theorem ty28:tyK Tryz.prog 28=some (true,3):=by kernel_rfl
theorem fl28_0:fldK Tryz.prog 28 0=some 0:=by kernel_rfl
theorem fl28_1:fldK Tryz.prog 28 1=some 1:=by kernel_rfl
theorem fl28_2:fldK Tryz.prog 28 2=some 2:=by kernel_rfl
theorem pl28:placesK Tryz.prog 28=some [(0,1),(1,1),(2,1)]:=by kernel_rfl
theorem ze28:zeroK Tryz.prog 28=some (.agg #[Value.int .i64 0,Value.int .i64 0,Value.int .i64 0]):=by kernel_rfl
theorem ty30:tyK Tryz.prog 30=some (true,6):=by kernel_rfl
theorem fl30_0:fldK Tryz.prog 30 0=some 0:=by kernel_rfl
theorem fl30_1:fldK Tryz.prog 30 1=some 1:=by kernel_rfl
theorem fl30_2:fldK Tryz.prog 30 2=some 2:=by kernel_rfl
theorem fl30_3:fldK Tryz.prog 30 3=some 3:=by kernel_rfl
theorem pl30:placesK Tryz.prog 30=some [(0,1),(1,1),(2,1),(3,3)]:=by kernel_rfl
theorem ze30:zeroK Tryz.prog 30=some (.agg #[Value.slice none 0 0,Value.slice none 0 0,Value.int .i64 0,Value.int .i64 0,Value.int .i64 0,Value.int .i64 0]):=by kernel_rfl
theorem ty33:tyK Tryz.prog 33=some (false,1):=by kernel_rfl
theorem ze33:zeroK Tryz.prog 33=some (.slice none 0 0):=by kernel_rfl
theorem el33:elemK Tryz.prog 33=some (160,3):=by kernel_rfl
theorem ty35:tyK Tryz.prog 35=some (true,1):=by kernel_rfl
theorem fl35_0:fldK Tryz.prog 35 0=some 0:=by kernel_rfl
theorem pl35:placesK Tryz.prog 35=some [(0,1)]:=by kernel_rfl
theorem ze35:zeroK Tryz.prog 35=some (.agg #[Value.slice none 0 0]):=by kernel_rfl
theorem ty39:tyK Tryz.prog 39=some (false,1):=by kernel_rfl
theorem ze39:zeroK Tryz.prog 39=some (.slice none 0 0):=by kernel_rfl
theorem el39:elemK Tryz.prog 39=some (119,6):=by kernel_rfl
theorem ty40:tyK Tryz.prog 40=some (false,1):=by kernel_rfl
theorem ze40:zeroK Tryz.prog 40=some (.slice none 0 0):=by kernel_rfl
theorem el40:elemK Tryz.prog 40=some (125,9):=by kernel_rfl
theorem ty41:tyK Tryz.prog 41=some (true,3):=by kernel_rfl
theorem fl41_0:fldK Tryz.prog 41 0=some 0:=by kernel_rfl
theorem fl41_1:fldK Tryz.prog 41 1=some 1:=by kernel_rfl
theorem fl41_2:fldK Tryz.prog 41 2=some 2:=by kernel_rfl
theorem pl41:placesK Tryz.prog 41=some [(0,1),(1,1),(2,1)]:=by kernel_rfl
theorem ze41:zeroK Tryz.prog 41=some (.agg #[Value.int .i64 0,Value.int .i64 0,Value.int .i64 0]):=by kernel_rfl
theorem ty43:tyK Tryz.prog 43=some (true,6):=by kernel_rfl
theorem fl43_0:fldK Tryz.prog 43 0=some 0:=by kernel_rfl
theorem fl43_1:fldK Tryz.prog 43 1=some 1:=by kernel_rfl
theorem fl43_2:fldK Tryz.prog 43 2=some 2:=by kernel_rfl
theorem fl43_3:fldK Tryz.prog 43 3=some 3:=by kernel_rfl
theorem pl43:placesK Tryz.prog 43=some [(0,1),(1,1),(2,1),(3,3)]:=by kernel_rfl
theorem ze43:zeroK Tryz.prog 43=some (.agg #[Value.slice none 0 0,Value.slice none 0 0,Value.int .i64 0,Value.int .i64 0,Value.int .i64 0,Value.int .i64 0]):=by kernel_rfl
theorem ty53:tyK Tryz.prog 53=some (false,1):=by kernel_rfl
theorem ze53:zeroK Tryz.prog 53=some (.slice none 0 0):=by kernel_rfl
theorem el53:elemK Tryz.prog 53=some (5,1):=by kernel_rfl
theorem bs53:u8Ty Tryz.prog 53 9=true:=by kernel_rfl
theorem ty61:tyK Tryz.prog 61=some (false,1):=by kernel_rfl
theorem ze61:zeroK Tryz.prog 61=some (.slice none 0 0):=by kernel_rfl
theorem el61:elemK Tryz.prog 61=some (3,1):=by kernel_rfl
theorem ty73:tyK Tryz.prog 73=some (true,14):=by kernel_rfl
theorem fl73_0:fldK Tryz.prog 73 0=some 0:=by kernel_rfl
theorem fl73_1:fldK Tryz.prog 73 1=some 6:=by kernel_rfl
theorem fl73_2:fldK Tryz.prog 73 2=some 7:=by kernel_rfl
theorem fl73_3:fldK Tryz.prog 73 3=some 13:=by kernel_rfl
theorem pl73:placesK Tryz.prog 73=some [(0,6),(6,1),(7,6),(13,1)]:=by kernel_rfl
theorem ze73:zeroK Tryz.prog 73=some (.agg #[Value.slice none 0 0,Value.slice none 0 0,Value.int .i64 0,Value.int .i64 0,Value.int .i64 0,Value.int .i64 0,Value.slice none 0 0,Value.slice none 0 0,Value.slice none 0 0,Value.int .i64 0,Value.int .i64 0,Value.int .i64 0,Value.int .i64 0,Value.bool false]):=by kernel_rfl
theorem ty77:tyK Tryz.prog 77=some (true,14):=by kernel_rfl
theorem fl77_0:fldK Tryz.prog 77 0=some 0:=by kernel_rfl
theorem fl77_1:fldK Tryz.prog 77 1=some 6:=by kernel_rfl
theorem fl77_2:fldK Tryz.prog 77 2=some 7:=by kernel_rfl
theorem fl77_3:fldK Tryz.prog 77 3=some 13:=by kernel_rfl
theorem pl77:placesK Tryz.prog 77=some [(0,6),(6,1),(7,6),(13,1)]:=by kernel_rfl
theorem ze77:zeroK Tryz.prog 77=some (.agg #[Value.slice none 0 0,Value.slice none 0 0,Value.int .i64 0,Value.int .i64 0,Value.int .i64 0,Value.int .i64 0,Value.slice none 0 0,Value.slice none 0 0,Value.slice none 0 0,Value.int .i64 0,Value.int .i64 0,Value.int .i64 0,Value.int .i64 0,Value.bool false]):=by kernel_rfl
theorem ty116:tyK Tryz.prog 116=some (false,1):=by kernel_rfl
theorem ze116:zeroK Tryz.prog 116=some (.slice none 0 0):=by kernel_rfl
theorem el116:elemK Tryz.prog 116=some (222,2):=by kernel_rfl
theorem ty117:tyK Tryz.prog 117=some (false,1):=by kernel_rfl
theorem ze117:zeroK Tryz.prog 117=some (.slice none 0 0):=by kernel_rfl
theorem el117:elemK Tryz.prog 117=some (207,3):=by kernel_rfl
theorem ty119:tyK Tryz.prog 119=some (true,6):=by kernel_rfl
theorem fl119_0:fldK Tryz.prog 119 0=some 0:=by kernel_rfl
theorem fl119_1:fldK Tryz.prog 119 1=some 1:=by kernel_rfl
theorem fl119_2:fldK Tryz.prog 119 2=some 2:=by kernel_rfl
theorem fl119_3:fldK Tryz.prog 119 3=some 3:=by kernel_rfl
theorem fl119_4:fldK Tryz.prog 119 4=some 4:=by kernel_rfl
theorem fl119_5:fldK Tryz.prog 119 5=some 5:=by kernel_rfl
theorem pl119:placesK Tryz.prog 119=some [(0,1),(1,1),(2,1),(3,1),(4,1),(5,1)]:=by kernel_rfl
theorem ze119:zeroK Tryz.prog 119=some (.agg #[Value.string ⟨#[]⟩,Value.slice none 0 0,Value.int .i64 0,Value.int .i64 0,Value.int .i64 0,Value.slice none 0 0]):=by kernel_rfl
theorem ty120:tyK Tryz.prog 120=some (false,1):=by kernel_rfl
theorem ze120:zeroK Tryz.prog 120=some (.slice none 0 0):=by kernel_rfl
theorem el120:elemK Tryz.prog 120=some (143,3):=by kernel_rfl
theorem ty121:tyK Tryz.prog 121=some (false,1):=by kernel_rfl
theorem ze121:zeroK Tryz.prog 121=some (.slice none 0 0):=by kernel_rfl
theorem el121:elemK Tryz.prog 121=some (210,4):=by kernel_rfl
theorem ty123:tyK Tryz.prog 123=some (true,7):=by kernel_rfl
theorem fl123_0:fldK Tryz.prog 123 0=some 0:=by kernel_rfl
theorem fl123_1:fldK Tryz.prog 123 1=some 1:=by kernel_rfl
theorem fl123_2:fldK Tryz.prog 123 2=some 2:=by kernel_rfl
theorem fl123_3:fldK Tryz.prog 123 3=some 3:=by kernel_rfl
theorem fl123_4:fldK Tryz.prog 123 4=some 4:=by kernel_rfl
theorem fl123_5:fldK Tryz.prog 123 5=some 5:=by kernel_rfl
theorem fl123_6:fldK Tryz.prog 123 6=some 6:=by kernel_rfl
theorem pl123:placesK Tryz.prog 123=some [(0,1),(1,1),(2,1),(3,1),(4,1),(5,1),(6,1)]:=by kernel_rfl
theorem ze123:zeroK Tryz.prog 123=some (.agg #[Value.string ⟨#[]⟩,Value.slice none 0 0,Value.int .i64 0,Value.int .i64 0,Value.int .i64 0,Value.slice none 0 0,Value.slice none 0 0]):=by kernel_rfl
theorem ty125:tyK Tryz.prog 125=some (true,9):=by kernel_rfl
theorem fl125_0:fldK Tryz.prog 125 0=some 0:=by kernel_rfl
theorem fl125_1:fldK Tryz.prog 125 1=some 7:=by kernel_rfl
theorem fl125_2:fldK Tryz.prog 125 2=some 8:=by kernel_rfl
theorem pl125:placesK Tryz.prog 125=some [(0,7),(7,1),(8,1)]:=by kernel_rfl
theorem ze125:zeroK Tryz.prog 125=some (.agg #[Value.string ⟨#[]⟩,Value.slice none 0 0,Value.int .i64 0,Value.int .i64 0,Value.int .i64 0,Value.slice none 0 0,Value.slice none 0 0,Value.string ⟨#[]⟩,Value.int .i64 0]):=by kernel_rfl
theorem ty134:tyK Tryz.prog 134=some (true,2):=by kernel_rfl
theorem fl134_0:fldK Tryz.prog 134 0=some 0:=by kernel_rfl
theorem fl134_1:fldK Tryz.prog 134 1=some 1:=by kernel_rfl
theorem pl134:placesK Tryz.prog 134=some [(0,1),(1,1)]:=by kernel_rfl
theorem ze134:zeroK Tryz.prog 134=some (.agg #[Value.int .i64 0,Value.string ⟨#[]⟩]):=by kernel_rfl
theorem ty141:tyK Tryz.prog 141=some (false,1):=by kernel_rfl
theorem ze141:zeroK Tryz.prog 141=some (.slice none 0 0):=by kernel_rfl
theorem el141:elemK Tryz.prog 141=some (9,1):=by kernel_rfl
theorem ty143:tyK Tryz.prog 143=some (true,3):=by kernel_rfl
theorem fl143_0:fldK Tryz.prog 143 0=some 0:=by kernel_rfl
theorem fl143_1:fldK Tryz.prog 143 1=some 1:=by kernel_rfl
theorem fl143_2:fldK Tryz.prog 143 2=some 2:=by kernel_rfl
theorem pl143:placesK Tryz.prog 143=some [(0,1),(1,1),(2,1)]:=by kernel_rfl
theorem ze143:zeroK Tryz.prog 143=some (.agg #[Value.string ⟨#[]⟩,Value.int .i64 0,Value.slice none 0 0]):=by kernel_rfl
theorem ty145:tyK Tryz.prog 145=some (true,2):=by kernel_rfl
theorem fl145_0:fldK Tryz.prog 145 0=some 0:=by kernel_rfl
theorem fl145_1:fldK Tryz.prog 145 1=some 1:=by kernel_rfl
theorem pl145:placesK Tryz.prog 145=some [(0,1),(1,1)]:=by kernel_rfl
theorem ze145:zeroK Tryz.prog 145=some (.agg #[Value.string ⟨#[]⟩,Value.int .i64 0]):=by kernel_rfl
theorem ty160:tyK Tryz.prog 160=some (true,3):=by kernel_rfl
theorem fl160_0:fldK Tryz.prog 160 0=some 0:=by kernel_rfl
theorem fl160_1:fldK Tryz.prog 160 1=some 1:=by kernel_rfl
theorem fl160_2:fldK Tryz.prog 160 2=some 2:=by kernel_rfl
theorem pl160:placesK Tryz.prog 160=some [(0,1),(1,1),(2,1)]:=by kernel_rfl
theorem ze160:zeroK Tryz.prog 160=some (.agg #[Value.string ⟨#[]⟩,Value.string ⟨#[]⟩,Value.int .i64 0]):=by kernel_rfl
theorem ty165:tyK Tryz.prog 165=some (true,3):=by kernel_rfl
theorem fl165_0:fldK Tryz.prog 165 0=some 0:=by kernel_rfl
theorem fl165_1:fldK Tryz.prog 165 1=some 1:=by kernel_rfl
theorem fl165_2:fldK Tryz.prog 165 2=some 2:=by kernel_rfl
theorem pl165:placesK Tryz.prog 165=some [(0,1),(1,1),(2,1)]:=by kernel_rfl
theorem ze165:zeroK Tryz.prog 165=some (.agg #[Value.string ⟨#[]⟩,Value.string ⟨#[]⟩,Value.int .i64 0]):=by kernel_rfl
theorem ty167:tyK Tryz.prog 167=some (false,1):=by kernel_rfl
theorem ze167:zeroK Tryz.prog 167=some (.slice none 0 0):=by kernel_rfl
theorem el167:elemK Tryz.prog 167=some (299,2):=by kernel_rfl
theorem ty168:tyK Tryz.prog 168=some (false,1):=by kernel_rfl
theorem ze168:zeroK Tryz.prog 168=some (.slice none 0 0):=by kernel_rfl
theorem el168:elemK Tryz.prog 168=some (301,3):=by kernel_rfl
theorem ty170:tyK Tryz.prog 170=some (true,6):=by kernel_rfl
theorem fl170_0:fldK Tryz.prog 170 0=some 0:=by kernel_rfl
theorem fl170_1:fldK Tryz.prog 170 1=some 1:=by kernel_rfl
theorem fl170_2:fldK Tryz.prog 170 2=some 2:=by kernel_rfl
theorem fl170_3:fldK Tryz.prog 170 3=some 3:=by kernel_rfl
theorem fl170_4:fldK Tryz.prog 170 4=some 4:=by kernel_rfl
theorem fl170_5:fldK Tryz.prog 170 5=some 5:=by kernel_rfl
theorem pl170:placesK Tryz.prog 170=some [(0,1),(1,1),(2,1),(3,1),(4,1),(5,1)]:=by kernel_rfl
theorem ze170:zeroK Tryz.prog 170=some (.agg #[Value.string ⟨#[]⟩,Value.slice none 0 0,Value.int .i64 0,Value.int .i64 0,Value.int .i64 0,Value.slice none 0 0]):=by kernel_rfl
theorem ty172:tyK Tryz.prog 172=some (false,1):=by kernel_rfl
theorem ze172:zeroK Tryz.prog 172=some (.slice none 0 0):=by kernel_rfl
theorem el172:elemK Tryz.prog 172=some (340,3):=by kernel_rfl
theorem ty173:tyK Tryz.prog 173=some (false,1):=by kernel_rfl
theorem ze173:zeroK Tryz.prog 173=some (.slice none 0 0):=by kernel_rfl
theorem el173:elemK Tryz.prog 173=some (342,4):=by kernel_rfl
theorem ty175:tyK Tryz.prog 175=some (true,7):=by kernel_rfl
theorem fl175_0:fldK Tryz.prog 175 0=some 0:=by kernel_rfl
theorem fl175_1:fldK Tryz.prog 175 1=some 1:=by kernel_rfl
theorem fl175_2:fldK Tryz.prog 175 2=some 2:=by kernel_rfl
theorem fl175_3:fldK Tryz.prog 175 3=some 3:=by kernel_rfl
theorem fl175_4:fldK Tryz.prog 175 4=some 4:=by kernel_rfl
theorem fl175_5:fldK Tryz.prog 175 5=some 5:=by kernel_rfl
theorem fl175_6:fldK Tryz.prog 175 6=some 6:=by kernel_rfl
theorem pl175:placesK Tryz.prog 175=some [(0,1),(1,1),(2,1),(3,1),(4,1),(5,1),(6,1)]:=by kernel_rfl
theorem ze175:zeroK Tryz.prog 175=some (.agg #[Value.string ⟨#[]⟩,Value.slice none 0 0,Value.int .i64 0,Value.int .i64 0,Value.int .i64 0,Value.slice none 0 0,Value.slice none 0 0]):=by kernel_rfl
theorem ty177:tyK Tryz.prog 177=some (true,9):=by kernel_rfl
theorem fl177_0:fldK Tryz.prog 177 0=some 0:=by kernel_rfl
theorem fl177_1:fldK Tryz.prog 177 1=some 7:=by kernel_rfl
theorem fl177_2:fldK Tryz.prog 177 2=some 8:=by kernel_rfl
theorem pl177:placesK Tryz.prog 177=some [(0,7),(7,1),(8,1)]:=by kernel_rfl
theorem ze177:zeroK Tryz.prog 177=some (.agg #[Value.string ⟨#[]⟩,Value.slice none 0 0,Value.int .i64 0,Value.int .i64 0,Value.int .i64 0,Value.slice none 0 0,Value.slice none 0 0,Value.string ⟨#[]⟩,Value.int .i64 0]):=by kernel_rfl
theorem ty189:tyK Tryz.prog 189=some (true,3):=by kernel_rfl
theorem fl189_0:fldK Tryz.prog 189 0=some 0:=by kernel_rfl
theorem fl189_1:fldK Tryz.prog 189 1=some 1:=by kernel_rfl
theorem fl189_2:fldK Tryz.prog 189 2=some 2:=by kernel_rfl
theorem pl189:placesK Tryz.prog 189=some [(0,1),(1,1),(2,1)]:=by kernel_rfl
theorem ze189:zeroK Tryz.prog 189=some (.agg #[Value.slice none 0 0,Value.int .i64 0,Value.int .i64 0]):=by kernel_rfl
theorem ty207:tyK Tryz.prog 207=some (true,3):=by kernel_rfl
theorem fl207_0:fldK Tryz.prog 207 0=some 0:=by kernel_rfl
theorem fl207_1:fldK Tryz.prog 207 1=some 1:=by kernel_rfl
theorem fl207_2:fldK Tryz.prog 207 2=some 2:=by kernel_rfl
theorem pl207:placesK Tryz.prog 207=some [(0,1),(1,1),(2,1)]:=by kernel_rfl
theorem ze207:zeroK Tryz.prog 207=some (.agg #[Value.string ⟨#[]⟩,Value.string ⟨#[]⟩,Value.int .i64 0]):=by kernel_rfl
theorem ty210:tyK Tryz.prog 210=some (true,4):=by kernel_rfl
theorem fl210_0:fldK Tryz.prog 210 0=some 0:=by kernel_rfl
theorem fl210_1:fldK Tryz.prog 210 1=some 1:=by kernel_rfl
theorem fl210_2:fldK Tryz.prog 210 2=some 2:=by kernel_rfl
theorem fl210_3:fldK Tryz.prog 210 3=some 3:=by kernel_rfl
theorem pl210:placesK Tryz.prog 210=some [(0,1),(1,1),(2,1),(3,1)]:=by kernel_rfl
theorem ze210:zeroK Tryz.prog 210=some (.agg #[Value.string ⟨#[]⟩,Value.bool false,Value.string ⟨#[]⟩,Value.int .i64 0]):=by kernel_rfl
theorem ty222:tyK Tryz.prog 222=some (true,2):=by kernel_rfl
theorem fl222_0:fldK Tryz.prog 222 0=some 0:=by kernel_rfl
theorem fl222_1:fldK Tryz.prog 222 1=some 1:=by kernel_rfl
theorem pl222:placesK Tryz.prog 222=some [(0,1),(1,1)]:=by kernel_rfl
theorem ze222:zeroK Tryz.prog 222=some (.agg #[Value.string ⟨#[]⟩,Value.string ⟨#[]⟩]):=by kernel_rfl
theorem ty239:tyK Tryz.prog 239=some (true,3):=by kernel_rfl
theorem fl239_0:fldK Tryz.prog 239 0=some 0:=by kernel_rfl
theorem fl239_1:fldK Tryz.prog 239 1=some 1:=by kernel_rfl
theorem fl239_2:fldK Tryz.prog 239 2=some 2:=by kernel_rfl
theorem pl239:placesK Tryz.prog 239=some [(0,1),(1,1),(2,1)]:=by kernel_rfl
theorem ze239:zeroK Tryz.prog 239=some (.agg #[Value.string ⟨#[]⟩,Value.int .i64 0,Value.bool false]):=by kernel_rfl
theorem ty247:tyK Tryz.prog 247=some (true,14):=by kernel_rfl
theorem fl247_0:fldK Tryz.prog 247 0=some 0:=by kernel_rfl
theorem fl247_1:fldK Tryz.prog 247 1=some 1:=by kernel_rfl
theorem fl247_2:fldK Tryz.prog 247 2=some 8:=by kernel_rfl
theorem pl247:placesK Tryz.prog 247=some [(0,1),(1,7),(8,6)]:=by kernel_rfl
theorem ze247:zeroK Tryz.prog 247=some (.agg #[Value.int .i64 0,Value.string ⟨#[]⟩,Value.slice none 0 0,Value.int .i64 0,Value.int .i64 0,Value.int .i64 0,Value.slice none 0 0,Value.slice none 0 0,Value.string ⟨#[]⟩,Value.slice none 0 0,Value.int .i64 0,Value.int .i64 0,Value.int .i64 0,Value.slice none 0 0]):=by kernel_rfl
theorem ty249:tyK Tryz.prog 249=some (true,19):=by kernel_rfl
theorem fl249_0:fldK Tryz.prog 249 0=some 0:=by kernel_rfl
theorem fl249_1:fldK Tryz.prog 249 1=some 1:=by kernel_rfl
theorem fl249_2:fldK Tryz.prog 249 2=some 2:=by kernel_rfl
theorem fl249_3:fldK Tryz.prog 249 3=some 16:=by kernel_rfl
theorem pl249:placesK Tryz.prog 249=some [(0,1),(1,1),(2,14),(16,3)]:=by kernel_rfl
theorem ze249:zeroK Tryz.prog 249=some (.agg #[Value.int .i64 0,Value.string ⟨#[]⟩,Value.int .i64 0,Value.string ⟨#[]⟩,Value.slice none 0 0,Value.int .i64 0,Value.int .i64 0,Value.int .i64 0,Value.slice none 0 0,Value.slice none 0 0,Value.string ⟨#[]⟩,Value.slice none 0 0,Value.int .i64 0,Value.int .i64 0,Value.int .i64 0,Value.slice none 0 0,Value.int .i64 0,Value.int .i64 0,Value.int .i64 0]):=by kernel_rfl
theorem ty276:tyK Tryz.prog 276=some (false,1):=by kernel_rfl
theorem ze276:zeroK Tryz.prog 276=some (.slice none 0 0):=by kernel_rfl
theorem el276:elemK Tryz.prog 276=some (123,7):=by kernel_rfl
theorem ty299:tyK Tryz.prog 299=some (true,2):=by kernel_rfl
theorem fl299_0:fldK Tryz.prog 299 0=some 0:=by kernel_rfl
theorem fl299_1:fldK Tryz.prog 299 1=some 1:=by kernel_rfl
theorem pl299:placesK Tryz.prog 299=some [(0,1),(1,1)]:=by kernel_rfl
theorem ze299:zeroK Tryz.prog 299=some (.agg #[Value.string ⟨#[]⟩,Value.string ⟨#[]⟩]):=by kernel_rfl
theorem ty301:tyK Tryz.prog 301=some (true,3):=by kernel_rfl
theorem fl301_0:fldK Tryz.prog 301 0=some 0:=by kernel_rfl
theorem fl301_1:fldK Tryz.prog 301 1=some 1:=by kernel_rfl
theorem fl301_2:fldK Tryz.prog 301 2=some 2:=by kernel_rfl
theorem pl301:placesK Tryz.prog 301=some [(0,1),(1,1),(2,1)]:=by kernel_rfl
theorem ze301:zeroK Tryz.prog 301=some (.agg #[Value.string ⟨#[]⟩,Value.string ⟨#[]⟩,Value.int .i64 0]):=by kernel_rfl
theorem ty340:tyK Tryz.prog 340=some (true,3):=by kernel_rfl
theorem fl340_0:fldK Tryz.prog 340 0=some 0:=by kernel_rfl
theorem fl340_1:fldK Tryz.prog 340 1=some 1:=by kernel_rfl
theorem fl340_2:fldK Tryz.prog 340 2=some 2:=by kernel_rfl
theorem pl340:placesK Tryz.prog 340=some [(0,1),(1,1),(2,1)]:=by kernel_rfl
theorem ze340:zeroK Tryz.prog 340=some (.agg #[Value.string ⟨#[]⟩,Value.int .i64 0,Value.slice none 0 0]):=by kernel_rfl
theorem ty342:tyK Tryz.prog 342=some (true,4):=by kernel_rfl
theorem fl342_0:fldK Tryz.prog 342 0=some 0:=by kernel_rfl
theorem fl342_1:fldK Tryz.prog 342 1=some 1:=by kernel_rfl
theorem fl342_2:fldK Tryz.prog 342 2=some 2:=by kernel_rfl
theorem fl342_3:fldK Tryz.prog 342 3=some 3:=by kernel_rfl
theorem pl342:placesK Tryz.prog 342=some [(0,1),(1,1),(2,1),(3,1)]:=by kernel_rfl
theorem ze342:zeroK Tryz.prog 342=some (.agg #[Value.string ⟨#[]⟩,Value.bool false,Value.string ⟨#[]⟩,Value.int .i64 0]):=by kernel_rfl
theorem ty358:tyK Tryz.prog 358=some (false,1):=by kernel_rfl
theorem st358:isStr Tryz.prog 358=false:=by kernel_rfl
theorem ik358:intK Tryz.prog 358=some .u64:=by kernel_rfl
theorem ty378:tyK Tryz.prog 378=some (false,1):=by kernel_rfl
theorem st378:isStr Tryz.prog 378=false:=by kernel_rfl
theorem ik378:intK Tryz.prog 378=some .u32:=by kernel_rfl
theorem ap3:appK Tryz.prog 3 1=some 8:=by kernel_rfl
theorem ap5:appK Tryz.prog 5 1=some 1:=by kernel_rfl
theorem ap9:appK Tryz.prog 9 1=some 16:=by kernel_rfl
theorem ap119:appK Tryz.prog 119 6=some 88:=by kernel_rfl
theorem ap123:appK Tryz.prog 123 7=some 112:=by kernel_rfl
theorem ap125:appK Tryz.prog 125 9=some 136:=by kernel_rfl
theorem ap143:appK Tryz.prog 143 3=some 48:=by kernel_rfl
theorem ap160:appK Tryz.prog 160 3=some 40:=by kernel_rfl
theorem ap165:appK Tryz.prog 165 3=some 40:=by kernel_rfl
theorem ap170:appK Tryz.prog 170 6=some 88:=by kernel_rfl
theorem ap177:appK Tryz.prog 177 9=some 136:=by kernel_rfl
theorem ap207:appK Tryz.prog 207 3=some 40:=by kernel_rfl
theorem ap210:appK Tryz.prog 210 4=some 48:=by kernel_rfl
theorem ap222:appK Tryz.prog 222 2=some 32:=by kernel_rfl
theorem ap299:appK Tryz.prog 299 2=some 32:=by kernel_rfl
theorem ap301:appK Tryz.prog 301 3=some 40:=by kernel_rfl
theorem ap340:appK Tryz.prog 340 3=some 48:=by kernel_rfl
theorem ap342:appK Tryz.prog 342 4=some 48:=by kernel_rfl
theorem mixed:Tryz.prog.follows .mixedOrders=true:=by kernel_rfl
end Go.Proofs.YtgoeccemfgniiaaGreat
