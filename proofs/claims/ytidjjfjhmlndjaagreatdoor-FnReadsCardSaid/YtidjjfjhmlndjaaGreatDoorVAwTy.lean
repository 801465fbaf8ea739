/- AwTy, AwTq (what is wanted of them). -/
import Derived.Test.YtidjjfjhmlndjaaGreatDoorVAwb
import Derived.Test.YtidjjfjhmlndjaaGreatDoorProg
namespace Go.Proofs.YtidjjfjhmlndjaaGreatDoor
open Go.RowKit
theorem ty2:tyK Tryz.prog 2=some (false,1):=by kernel_rfl
theorem ze2:zeroK Tryz.prog 2=some (Value.int .i64 0):=by kernel_rfl
theorem st2:isStr Tryz.prog 2=false:=by kernel_rfl
theorem ik2:intK Tryz.prog 2=some .i64:=by kernel_rfl
theorem ty3:tyK Tryz.prog 3=some (false,1):=by kernel_rfl
theorem ze3:zeroK Tryz.prog 3=some (Value.int .i64 0):=by kernel_rfl
theorem st3:isStr Tryz.prog 3=false:=by kernel_rfl
theorem ik3:intK Tryz.prog 3=some .i64:=by kernel_rfl
theorem ty4:tyK Tryz.prog 4=some (false,1):=by kernel_rfl
theorem ze4:zeroK Tryz.prog 4=some (Value.bool false):=by kernel_rfl
theorem st4:isStr Tryz.prog 4=false:=by kernel_rfl
theorem bo4:isBool Tryz.prog 4=true:=by kernel_rfl
theorem ty5:tyK Tryz.prog 5=some (false,1):=by kernel_rfl
theorem ze5:zeroK Tryz.prog 5=some (Value.int .u8 0):=by kernel_rfl
theorem st5:isStr Tryz.prog 5=false:=by kernel_rfl
theorem ik5:intK Tryz.prog 5=some .u8:=by kernel_rfl
theorem ty9:tyK Tryz.prog 9=some (false,1):=by kernel_rfl
theorem ze9:zeroK Tryz.prog 9=some (Value.string ⟨#[]⟩):=by kernel_rfl
theorem st9:isStr Tryz.prog 9=true:=by kernel_rfl
theorem ty12:tyK Tryz.prog 12=some (false,1):=by kernel_rfl
theorem st12:isStr Tryz.prog 12=false:=by kernel_rfl
theorem ty21:tyK Tryz.prog 21=some (false,1):=by kernel_rfl
theorem st21:isStr Tryz.prog 21=false:=by kernel_rfl
theorem ik21:intK Tryz.prog 21=some .i32:=by kernel_rfl
theorem ty22:tyK Tryz.prog 22=some (false,1):=by kernel_rfl
theorem ze22:zeroK Tryz.prog 22=some (.slice none 0 0):=by kernel_rfl
theorem el22:elemK Tryz.prog 22=some (154,6):=by kernel_rfl
theorem ty23:tyK Tryz.prog 23=some (false,1):=by kernel_rfl
theorem ze23:zeroK Tryz.prog 23=some (.slice none 0 0):=by kernel_rfl
theorem el23:elemK Tryz.prog 23=some (161,9):=by kernel_rfl
theorem ty25:tyK Tryz.prog 25=some (true,3):=by kernel_rfl
theorem fl25_0:fldK Tryz.prog 25 0=some 0:=by kernel_rfl
theorem fl25_1:fldK Tryz.prog 25 1=some 1:=by kernel_rfl
theorem fl25_2:fldK Tryz.prog 25 2=some 2:=by kernel_rfl
theorem pl25:placesK Tryz.prog 25=some [(0,1),(1,1),(2,1)]:=by kernel_rfl
theorem ze25:zeroK Tryz.prog 25=some (.agg #[Value.int .i64 0,Value.int .i64 0,Value.int .i64 0]):=by kernel_rfl
theorem ty27:tyK Tryz.prog 27=some (true,6):=by kernel_rfl
theorem fl27_0:fldK Tryz.prog 27 0=some 0:=by kernel_rfl
theorem fl27_1:fldK Tryz.prog 27 1=some 1:=by kernel_rfl
theorem fl27_2:fldK Tryz.prog 27 2=some 2:=by kernel_rfl
theorem fl27_3:fldK Tryz.prog 27 3=some 3:=by kernel_rfl
theorem pl27:placesK Tryz.prog 27=some [(0,1),(1,1),(2,1),(3,3)]:=by kernel_rfl
theorem ze27:zeroK Tryz.prog 27=some (.agg #[Value.slice none 0 0,Value.slice none 0 0,Value.int .i64 0,Value.int .i64 0,Value.int .i64 0,Value.int .i64 0]):=by kernel_rfl
theorem ty29:tyK Tryz.prog 29=some (false,1):=by kernel_rfl
theorem ze29:zeroK Tryz.prog 29=some (.slice none 0 0):=by kernel_rfl
theorem el29:elemK Tryz.prog 29=some (9,1):=by kernel_rfl
theorem ty31:tyK Tryz.prog 31=some (false,1):=by kernel_rfl
theorem ze31:zeroK Tryz.prog 31=some (.slice none 0 0):=by kernel_rfl
theorem el31:elemK Tryz.prog 31=some (63,6):=by kernel_rfl
theorem ty32:tyK Tryz.prog 32=some (false,1):=by kernel_rfl
theorem ze32:zeroK Tryz.prog 32=some (.slice none 0 0):=by kernel_rfl
theorem el32:elemK Tryz.prog 32=some (163,9):=by kernel_rfl
theorem ty33:tyK Tryz.prog 33=some (true,3):=by kernel_rfl
theorem fl33_0:fldK Tryz.prog 33 0=some 0:=by kernel_rfl
theorem fl33_1:fldK Tryz.prog 33 1=some 1:=by kernel_rfl
theorem fl33_2:fldK Tryz.prog 33 2=some 2:=by kernel_rfl
theorem pl33:placesK Tryz.prog 33=some [(0,1),(1,1),(2,1)]:=by kernel_rfl
theorem ze33:zeroK Tryz.prog 33=some (.agg #[Value.int .i64 0,Value.int .i64 0,Value.int .i64 0]):=by kernel_rfl
theorem ty35:tyK Tryz.prog 35=some (true,6):=by kernel_rfl
theorem fl35_0:fldK Tryz.prog 35 0=some 0:=by kernel_rfl
theorem fl35_1:fldK Tryz.prog 35 1=some 1:=by kernel_rfl
theorem fl35_2:fldK Tryz.prog 35 2=some 2:=by kernel_rfl
theorem fl35_3:fldK Tryz.prog 35 3=some 3:=by kernel_rfl
theorem pl35:placesK Tryz.prog 35=some [(0,1),(1,1),(2,1),(3,3)]:=by kernel_rfl
theorem ze35:zeroK Tryz.prog 35=some (.agg #[Value.slice none 0 0,Value.slice none 0 0,Value.int .i64 0,Value.int .i64 0,Value.int .i64 0,Value.int .i64 0]):=by kernel_rfl
theorem ty42:tyK Tryz.prog 42=some (false,1):=by kernel_rfl
theorem ze42:zeroK Tryz.prog 42=some (.slice none 0 0):=by kernel_rfl
theorem el42:elemK Tryz.prog 42=some (58,6):=by kernel_rfl
theorem ty44:tyK Tryz.prog 44=some (false,1):=by kernel_rfl
theorem ze44:zeroK Tryz.prog 44=some (.slice none 0 0):=by kernel_rfl
theorem el44:elemK Tryz.prog 44=some (103,3):=by kernel_rfl
theorem ty46:tyK Tryz.prog 46=some (true,3):=by kernel_rfl
theorem fl46_0:fldK Tryz.prog 46 0=some 0:=by kernel_rfl
theorem fl46_1:fldK Tryz.prog 46 1=some 1:=by kernel_rfl
theorem fl46_2:fldK Tryz.prog 46 2=some 2:=by kernel_rfl
theorem pl46:placesK Tryz.prog 46=some [(0,1),(1,1),(2,1)]:=by kernel_rfl
theorem ze46:zeroK Tryz.prog 46=some (.agg #[Value.int .i64 0,Value.int .i64 0,Value.string ⟨#[]⟩]):=by kernel_rfl
theorem ty49:tyK Tryz.prog 49=some (false,1):=by kernel_rfl
theorem ze49:zeroK Tryz.prog 49=some (.slice none 0 0):=by kernel_rfl
theorem el49:elemK Tryz.prog 49=some (67,6):=by kernel_rfl
theorem ty58:tyK Tryz.prog 58=some (true,6):=by kernel_rfl
theorem fl58_0:fldK Tryz.prog 58 0=some 0:=by kernel_rfl
theorem fl58_1:fldK Tryz.prog 58 1=some 1:=by kernel_rfl
theorem fl58_2:fldK Tryz.prog 58 2=some 2:=by kernel_rfl
theorem fl58_3:fldK Tryz.prog 58 3=some 3:=by kernel_rfl
theorem fl58_4:fldK Tryz.prog 58 4=some 4:=by kernel_rfl
theorem fl58_5:fldK Tryz.prog 58 5=some 5:=by kernel_rfl
theorem pl58:placesK Tryz.prog 58=some [(0,1),(1,1),(2,1),(3,1),(4,1),(5,1)]:=by kernel_rfl
theorem ze58:zeroK Tryz.prog 58=some (.agg #[Value.int .i64 0,Value.bool false,Value.int .i64 0,Value.string ⟨#[]⟩,Value.slice none 0 0,Value.slice none 0 0]):=by kernel_rfl
theorem ty60:tyK Tryz.prog 60=some (false,1):=by kernel_rfl
theorem ze60:zeroK Tryz.prog 60=some (.slice none 0 0):=by kernel_rfl
theorem el60:elemK Tryz.prog 60=some (217,2):=by kernel_rfl
theorem ty61:tyK Tryz.prog 61=some (false,1):=by kernel_rfl
theorem ze61:zeroK Tryz.prog 61=some (.slice none 0 0):=by kernel_rfl
theorem el61:elemK Tryz.prog 61=some (118,3):=by kernel_rfl
theorem ty63:tyK Tryz.prog 63=some (true,6):=by kernel_rfl
theorem fl63_0:fldK Tryz.prog 63 0=some 0:=by kernel_rfl
theorem fl63_1:fldK Tryz.prog 63 1=some 1:=by kernel_rfl
theorem fl63_2:fldK Tryz.prog 63 2=some 2:=by kernel_rfl
theorem fl63_3:fldK Tryz.prog 63 3=some 3:=by kernel_rfl
theorem fl63_4:fldK Tryz.prog 63 4=some 4:=by kernel_rfl
theorem fl63_5:fldK Tryz.prog 63 5=some 5:=by kernel_rfl
theorem pl63:placesK Tryz.prog 63=some [(0,1),(1,1),(2,1),(3,1),(4,1),(5,1)]:=by kernel_rfl
theorem ze63:zeroK Tryz.prog 63=some (.agg #[Value.string ⟨#[]⟩,Value.slice none 0 0,Value.int .i64 0,Value.int .i64 0,Value.int .i64 0,Value.slice none 0 0]):=by kernel_rfl
theorem ty67:tyK Tryz.prog 67=some (true,6):=by kernel_rfl
theorem fl67_0:fldK Tryz.prog 67 0=some 0:=by kernel_rfl
theorem fl67_1:fldK Tryz.prog 67 1=some 1:=by kernel_rfl
theorem fl67_2:fldK Tryz.prog 67 2=some 2:=by kernel_rfl
theorem fl67_3:fldK Tryz.prog 67 3=some 3:=by kernel_rfl
theorem fl67_4:fldK Tryz.prog 67 4=some 4:=by kernel_rfl
theorem fl67_5:fldK Tryz.prog 67 5=some 5:=by kernel_rfl
theorem pl67:placesK Tryz.prog 67=some [(0,1),(1,1),(2,1),(3,1),(4,1),(5,1)]:=by kernel_rfl
theorem ze67:zeroK Tryz.prog 67=some (.agg #[Value.int .i64 0,Value.bool false,Value.int .i64 0,Value.string ⟨#[]⟩,Value.slice none 0 0,Value.slice none 0 0]):=by kernel_rfl
theorem ty74:tyK Tryz.prog 74=some (false,1):=by kernel_rfl
theorem ze74:zeroK Tryz.prog 74=some (.slice none 0 0):=by kernel_rfl
theorem el74:elemK Tryz.prog 74=some (5,1):=by kernel_rfl
theorem bs74:u8Ty Tryz.prog 74 9=true:=by kernel_rfl
theorem ty76:tyK Tryz.prog 76=some (false,1):=by kernel_rfl
theorem ze76:zeroK Tryz.prog 76=some (.slice none 0 0):=by kernel_rfl
theorem el76:elemK Tryz.prog 76=some (145,4):=by kernel_rfl
theorem ty78:tyK Tryz.prog 78=some (true,7):=by kernel_rfl
theorem fl78_0:fldK Tryz.prog 78 0=some 0:=by kernel_rfl
theorem fl78_1:fldK Tryz.prog 78 1=some 1:=by kernel_rfl
theorem fl78_2:fldK Tryz.prog 78 2=some 2:=by kernel_rfl
theorem fl78_3:fldK Tryz.prog 78 3=some 3:=by kernel_rfl
theorem fl78_4:fldK Tryz.prog 78 4=some 4:=by kernel_rfl
theorem fl78_5:fldK Tryz.prog 78 5=some 5:=by kernel_rfl
theorem fl78_6:fldK Tryz.prog 78 6=some 6:=by kernel_rfl
theorem pl78:placesK Tryz.prog 78=some [(0,1),(1,1),(2,1),(3,1),(4,1),(5,1),(6,1)]:=by kernel_rfl
theorem ze78:zeroK Tryz.prog 78=some (.agg #[Value.string ⟨#[]⟩,Value.slice none 0 0,Value.int .i64 0,Value.int .i64 0,Value.int .i64 0,Value.slice none 0 0,Value.slice none 0 0]):=by kernel_rfl
theorem ty80:tyK Tryz.prog 80=some (true,14):=by kernel_rfl
theorem fl80_0:fldK Tryz.prog 80 0=some 0:=by kernel_rfl
theorem fl80_1:fldK Tryz.prog 80 1=some 1:=by kernel_rfl
theorem fl80_2:fldK Tryz.prog 80 2=some 8:=by kernel_rfl
theorem pl80:placesK Tryz.prog 80=some [(0,1),(1,7),(8,6)]:=by kernel_rfl
theorem ze80:zeroK Tryz.prog 80=some (.agg #[Value.int .i64 0,Value.string ⟨#[]⟩,Value.slice none 0 0,Value.int .i64 0,Value.int .i64 0,Value.int .i64 0,Value.slice none 0 0,Value.slice none 0 0,Value.string ⟨#[]⟩,Value.slice none 0 0,Value.int .i64 0,Value.int .i64 0,Value.int .i64 0,Value.slice none 0 0]):=by kernel_rfl
theorem ty103:tyK Tryz.prog 103=some (true,3):=by kernel_rfl
theorem fl103_0:fldK Tryz.prog 103 0=some 0:=by kernel_rfl
theorem fl103_1:fldK Tryz.prog 103 1=some 1:=by kernel_rfl
theorem fl103_2:fldK Tryz.prog 103 2=some 2:=by kernel_rfl
theorem pl103:placesK Tryz.prog 103=some [(0,1),(1,1),(2,1)]:=by kernel_rfl
theorem ze103:zeroK Tryz.prog 103=some (.agg #[Value.string ⟨#[]⟩,Value.int .i64 0,Value.slice none 0 0]):=by kernel_rfl
theorem ty118:tyK Tryz.prog 118=some (true,3):=by kernel_rfl
theorem fl118_0:fldK Tryz.prog 118 0=some 0:=by kernel_rfl
theorem fl118_1:fldK Tryz.prog 118 1=some 1:=by kernel_rfl
theorem fl118_2:fldK Tryz.prog 118 2=some 2:=by kernel_rfl
theorem pl118:placesK Tryz.prog 118=some [(0,1),(1,1),(2,1)]:=by kernel_rfl
theorem ze118:zeroK Tryz.prog 118=some (.agg #[Value.string ⟨#[]⟩,Value.string ⟨#[]⟩,Value.int .i64 0]):=by kernel_rfl
theorem ty125:tyK Tryz.prog 125=some (true,10):=by kernel_rfl
theorem fl125_0:fldK Tryz.prog 125 0=some 0:=by kernel_rfl
theorem fl125_1:fldK Tryz.prog 125 1=some 6:=by kernel_rfl
theorem fl125_2:fldK Tryz.prog 125 2=some 7:=by kernel_rfl
theorem pl125:placesK Tryz.prog 125=some [(0,6),(6,1),(7,3)]:=by kernel_rfl
theorem ze125:zeroK Tryz.prog 125=some (.agg #[Value.int .i64 0,Value.bool false,Value.int .i64 0,Value.string ⟨#[]⟩,Value.slice none 0 0,Value.slice none 0 0,Value.string ⟨#[]⟩,Value.int .i64 0,Value.int .i64 0,Value.string ⟨#[]⟩]):=by kernel_rfl
theorem ty145:tyK Tryz.prog 145=some (true,4):=by kernel_rfl
theorem fl145_0:fldK Tryz.prog 145 0=some 0:=by kernel_rfl
theorem fl145_1:fldK Tryz.prog 145 1=some 1:=by kernel_rfl
theorem fl145_2:fldK Tryz.prog 145 2=some 2:=by kernel_rfl
theorem fl145_3:fldK Tryz.prog 145 3=some 3:=by kernel_rfl
theorem pl145:placesK Tryz.prog 145=some [(0,1),(1,1),(2,1),(3,1)]:=by kernel_rfl
theorem ze145:zeroK Tryz.prog 145=some (.agg #[Value.string ⟨#[]⟩,Value.bool false,Value.string ⟨#[]⟩,Value.int .i64 0]):=by kernel_rfl
theorem ty151:tyK Tryz.prog 151=some (false,1):=by kernel_rfl
theorem ze151:zeroK Tryz.prog 151=some (.slice none 0 0):=by kernel_rfl
theorem el151:elemK Tryz.prog 151=some (278,2):=by kernel_rfl
theorem ty152:tyK Tryz.prog 152=some (false,1):=by kernel_rfl
theorem ze152:zeroK Tryz.prog 152=some (.slice none 0 0):=by kernel_rfl
theorem el152:elemK Tryz.prog 152=some (280,3):=by kernel_rfl
theorem ty154:tyK Tryz.prog 154=some (true,6):=by kernel_rfl
theorem fl154_0:fldK Tryz.prog 154 0=some 0:=by kernel_rfl
theorem fl154_1:fldK Tryz.prog 154 1=some 1:=by kernel_rfl
theorem fl154_2:fldK Tryz.prog 154 2=some 2:=by kernel_rfl
theorem fl154_3:fldK Tryz.prog 154 3=some 3:=by kernel_rfl
theorem fl154_4:fldK Tryz.prog 154 4=some 4:=by kernel_rfl
theorem fl154_5:fldK Tryz.prog 154 5=some 5:=by kernel_rfl
theorem pl154:placesK Tryz.prog 154=some [(0,1),(1,1),(2,1),(3,1),(4,1),(5,1)]:=by kernel_rfl
theorem ze154:zeroK Tryz.prog 154=some (.agg #[Value.string ⟨#[]⟩,Value.slice none 0 0,Value.int .i64 0,Value.int .i64 0,Value.int .i64 0,Value.slice none 0 0]):=by kernel_rfl
theorem ty156:tyK Tryz.prog 156=some (false,1):=by kernel_rfl
theorem ze156:zeroK Tryz.prog 156=some (.slice none 0 0):=by kernel_rfl
theorem el156:elemK Tryz.prog 156=some (331,3):=by kernel_rfl
theorem ty157:tyK Tryz.prog 157=some (false,1):=by kernel_rfl
theorem ze157:zeroK Tryz.prog 157=some (.slice none 0 0):=by kernel_rfl
theorem el157:elemK Tryz.prog 157=some (333,4):=by kernel_rfl
theorem ty159:tyK Tryz.prog 159=some (true,7):=by kernel_rfl
theorem fl159_0:fldK Tryz.prog 159 0=some 0:=by kernel_rfl
theorem fl159_1:fldK Tryz.prog 159 1=some 1:=by kernel_rfl
theorem fl159_2:fldK Tryz.prog 159 2=some 2:=by kernel_rfl
theorem fl159_3:fldK Tryz.prog 159 3=some 3:=by kernel_rfl
theorem fl159_4:fldK Tryz.prog 159 4=some 4:=by kernel_rfl
theorem fl159_5:fldK Tryz.prog 159 5=some 5:=by kernel_rfl
theorem fl159_6:fldK Tryz.prog 159 6=some 6:=by kernel_rfl
theorem pl159:placesK Tryz.prog 159=some [(0,1),(1,1),(2,1),(3,1),(4,1),(5,1),(6,1)]:=by kernel_rfl
theorem ze159:zeroK Tryz.prog 159=some (.agg #[Value.string ⟨#[]⟩,Value.slice none 0 0,Value.int .i64 0,Value.int .i64 0,Value.int .i64 0,Value.slice none 0 0,Value.slice none 0 0]):=by kernel_rfl
theorem ty161:tyK Tryz.prog 161=some (true,9):=by kernel_rfl
theorem fl161_0:fldK Tryz.prog 161 0=some 0:=by kernel_rfl
theorem fl161_1:fldK Tryz.prog 161 1=some 7:=by kernel_rfl
theorem fl161_2:fldK Tryz.prog 161 2=some 8:=by kernel_rfl
theorem pl161:placesK Tryz.prog 161=some [(0,7),(7,1),(8,1)]:=by kernel_rfl
theorem ze161:zeroK Tryz.prog 161=some (.agg #[Value.string ⟨#[]⟩,Value.slice none 0 0,Value.int .i64 0,Value.int .i64 0,Value.int .i64 0,Value.slice none 0 0,Value.slice none 0 0,Value.string ⟨#[]⟩,Value.int .i64 0]):=by kernel_rfl
theorem ty163:tyK Tryz.prog 163=some (true,9):=by kernel_rfl
theorem fl163_0:fldK Tryz.prog 163 0=some 0:=by kernel_rfl
theorem fl163_1:fldK Tryz.prog 163 1=some 7:=by kernel_rfl
theorem fl163_2:fldK Tryz.prog 163 2=some 8:=by kernel_rfl
theorem pl163:placesK Tryz.prog 163=some [(0,7),(7,1),(8,1)]:=by kernel_rfl
theorem ze163:zeroK Tryz.prog 163=some (.agg #[Value.string ⟨#[]⟩,Value.slice none 0 0,Value.int .i64 0,Value.int .i64 0,Value.int .i64 0,Value.slice none 0 0,Value.slice none 0 0,Value.string ⟨#[]⟩,Value.int .i64 0]):=by kernel_rfl
theorem ty164:tyK Tryz.prog 164=some (false,1):=by kernel_rfl
theorem ze164:zeroK Tryz.prog 164=some (.slice none 0 0):=by kernel_rfl
theorem el164:elemK Tryz.prog 164=some (3,1):=by kernel_rfl
theorem ty217:tyK Tryz.prog 217=some (true,2):=by kernel_rfl
theorem fl217_0:fldK Tryz.prog 217 0=some 0:=by kernel_rfl
theorem fl217_1:fldK Tryz.prog 217 1=some 1:=by kernel_rfl
theorem pl217:placesK Tryz.prog 217=some [(0,1),(1,1)]:=by kernel_rfl
theorem ze217:zeroK Tryz.prog 217=some (.agg #[Value.string ⟨#[]⟩,Value.string ⟨#[]⟩]):=by kernel_rfl
theorem ty223:tyK Tryz.prog 223=some (true,3):=by kernel_rfl
theorem fl223_0:fldK Tryz.prog 223 0=some 0:=by kernel_rfl
theorem fl223_1:fldK Tryz.prog 223 1=some 1:=by kernel_rfl
theorem fl223_2:fldK Tryz.prog 223 2=some 2:=by kernel_rfl
theorem pl223:placesK Tryz.prog 223=some [(0,1),(1,1),(2,1)]:=by kernel_rfl
theorem ze223:zeroK Tryz.prog 223=some (.agg #[Value.slice none 0 0,Value.int .i64 0,Value.int .i64 0]):=by kernel_rfl
theorem ty278:tyK Tryz.prog 278=some (true,2):=by kernel_rfl
theorem fl278_0:fldK Tryz.prog 278 0=some 0:=by kernel_rfl
theorem fl278_1:fldK Tryz.prog 278 1=some 1:=by kernel_rfl
theorem pl278:placesK Tryz.prog 278=some [(0,1),(1,1)]:=by kernel_rfl
theorem ze278:zeroK Tryz.prog 278=some (.agg #[Value.string ⟨#[]⟩,Value.string ⟨#[]⟩]):=by kernel_rfl
theorem ty280:tyK Tryz.prog 280=some (true,3):=by kernel_rfl
theorem fl280_0:fldK Tryz.prog 280 0=some 0:=by kernel_rfl
theorem fl280_1:fldK Tryz.prog 280 1=some 1:=by kernel_rfl
theorem fl280_2:fldK Tryz.prog 280 2=some 2:=by kernel_rfl
theorem pl280:placesK Tryz.prog 280=some [(0,1),(1,1),(2,1)]:=by kernel_rfl
theorem ze280:zeroK Tryz.prog 280=some (.agg #[Value.string ⟨#[]⟩,Value.string ⟨#[]⟩,Value.int .i64 0]):=by kernel_rfl
theorem ty302:tyK Tryz.prog 302=some (false,1):=by kernel_rfl
theorem st302:isStr Tryz.prog 302=false:=by kernel_rfl
theorem ik302:intK Tryz.prog 302=some .u32:=by kernel_rfl
theorem ty304:tyK Tryz.prog 304=some (false,1):=by kernel_rfl
theorem st304:isStr Tryz.prog 304=false:=by kernel_rfl
theorem ik304:intK Tryz.prog 304=some .u64:=by kernel_rfl
theorem ty331:tyK Tryz.prog 331=some (true,3):=by kernel_rfl
theorem fl331_0:fldK Tryz.prog 331 0=some 0:=by kernel_rfl
theorem fl331_1:fldK Tryz.prog 331 1=some 1:=by kernel_rfl
theorem fl331_2:fldK Tryz.prog 331 2=some 2:=by kernel_rfl
theorem pl331:placesK Tryz.prog 331=some [(0,1),(1,1),(2,1)]:=by kernel_rfl
theorem ze331:zeroK Tryz.prog 331=some (.agg #[Value.string ⟨#[]⟩,Value.int .i64 0,Value.slice none 0 0]):=by kernel_rfl
theorem ty333:tyK Tryz.prog 333=some (true,4):=by kernel_rfl
theorem fl333_0:fldK Tryz.prog 333 0=some 0:=by kernel_rfl
theorem fl333_1:fldK Tryz.prog 333 1=some 1:=by kernel_rfl
theorem fl333_2:fldK Tryz.prog 333 2=some 2:=by kernel_rfl
theorem fl333_3:fldK Tryz.prog 333 3=some 3:=by kernel_rfl
theorem pl333:placesK Tryz.prog 333=some [(0,1),(1,1),(2,1),(3,1)]:=by kernel_rfl
theorem ze333:zeroK Tryz.prog 333=some (.agg #[Value.string ⟨#[]⟩,Value.bool false,Value.string ⟨#[]⟩,Value.int .i64 0]):=by kernel_rfl
theorem ap3:appK Tryz.prog 3 1=some 8:=by kernel_rfl
theorem ap5:appK Tryz.prog 5 1=some 1:=by kernel_rfl
theorem ap9:appK Tryz.prog 9 1=some 16:=by kernel_rfl
theorem ap58:appK Tryz.prog 58 6=some 88:=by kernel_rfl
theorem ap63:appK Tryz.prog 63 6=some 88:=by kernel_rfl
theorem ap67:appK Tryz.prog 67 6=some 88:=by kernel_rfl
theorem ap103:appK Tryz.prog 103 3=some 48:=by kernel_rfl
theorem ap118:appK Tryz.prog 118 3=some 40:=by kernel_rfl
theorem ap145:appK Tryz.prog 145 4=some 48:=by kernel_rfl
theorem ap154:appK Tryz.prog 154 6=some 88:=by kernel_rfl
theorem ap161:appK Tryz.prog 161 9=some 136:=by kernel_rfl
theorem ap163:appK Tryz.prog 163 9=some 136:=by kernel_rfl
theorem ap217:appK Tryz.prog 217 2=some 32:=by kernel_rfl
theorem ap278:appK Tryz.prog 278 2=some 32:=by kernel_rfl
theorem ap280:appK Tryz.prog 280 3=some 40:=by kernel_rfl
theorem ap331:appK Tryz.prog 331 3=some 48:=by kernel_rfl
theorem ap333:appK Tryz.prog 333 4=some 48:=by kernel_rfl
theorem mixed:Tryz.prog.follows .mixedOrders=true:=by kernel_rfl
end Go.Proofs.YtidjjfjhmlndjaaGreatDoor
namespace Go.Proofs.YtidjjfjhmlndjaaGreatDoor
open Go.RowKit
theorem fq25:eqT Tryz.prog 25=some [.i,.i,.i]:=by kernel_rfl
theorem fq33:eqT Tryz.prog 33=some [.i,.i,.i]:=by kernel_rfl
theorem fq46:eqT Tryz.prog 46=some [.i,.i,.s]:=by kernel_rfl
theorem fq118:eqT Tryz.prog 118=some [.s,.s,.i]:=by kernel_rfl
theorem fq145:eqT Tryz.prog 145=some [.s,.b,.s,.i]:=by kernel_rfl
theorem fq217:eqT Tryz.prog 217=some [.s,.s]:=by kernel_rfl
theorem fq278:eqT Tryz.prog 278=some [.s,.s]:=by kernel_rfl
theorem fq280:eqT Tryz.prog 280=some [.s,.s,.i]:=by kernel_rfl
theorem fq333:eqT Tryz.prog 333=some [.s,.b,.s,.i]:=by kernel_rfl
end Go.Proofs.YtidjjfjhmlndjaaGreatDoor
