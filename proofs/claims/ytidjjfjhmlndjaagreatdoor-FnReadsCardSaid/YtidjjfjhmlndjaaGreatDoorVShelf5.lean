/- Shelf5 (what is wanted of them). -/
import Derived.Shelf.Lays
import Derived.Shelf.Sort.Plain
import Derived.Shelf.Slices.In.SortNone
import Derived.Shelf.Slices.CompactS
import Derived.Test.YtidjjfjhmlndjaaGreatDoorProg
namespace Go.Proofs
open Go.Shelf
def Tryz.lays190_ren:Go.Shelf.Ren:=⟨fun|190=>132|125=>217|258=>216|128=>282|129=>283|302=>273|303=>274|304=>275|305=>276|306=>277|307=>278|308=>279|309=>280|310=>281|333=>336|329=>337|330=>338|334=>339|335=>340|336=>341|344=>364|n=>n,fun|31=>29|9=>9|3=>3|46=>250|0=>0|51=>302|53=>304|4=>4|183=>296|182=>295|131=>258|5=>5|218=>337|222=>341|228=>356|229=>256|n=>n,fun|n=>n⟩
theorem Tryz.lays190 : Go.Proofs.Lays.n190 Tryz.prog Tryz.lays190_ren := {
  mixed:=by kernel_rfl
  f125:=Tryz.func217.trans (congrArg some (by kernel_rfl))
  f128:=Tryz.func282.trans (congrArg some (by kernel_rfl))
  f129:=Tryz.func283.trans (congrArg some (by kernel_rfl))
  f190:=Tryz.func132.trans (congrArg some (by kernel_rfl))
  f258:=Tryz.func216.trans (congrArg some (by kernel_rfl))
  f302:=Tryz.func273.trans (congrArg some (by kernel_rfl))
  f303:=Tryz.func274.trans (congrArg some (by kernel_rfl))
  f304:=Tryz.func275.trans (congrArg some (by kernel_rfl))
  f305:=Tryz.func276.trans (congrArg some (by kernel_rfl))
  f306:=Tryz.func277.trans (congrArg some (by kernel_rfl))
  f307:=Tryz.func278.trans (congrArg some (by kernel_rfl))
  f308:=Tryz.func279.trans (congrArg some (by kernel_rfl))
  f309:=Tryz.func280.trans (congrArg some (by kernel_rfl))
  f310:=Tryz.func281.trans (congrArg some (by kernel_rfl))
  f329:=Tryz.func337.trans (congrArg some (by kernel_rfl))
  f330:=Tryz.func338.trans (congrArg some (by kernel_rfl))
  f333:=Tryz.func336.trans (congrArg some (by kernel_rfl))
  f334:=Tryz.func339.trans (congrArg some (by kernel_rfl))
  f335:=Tryz.func340.trans (congrArg some (by kernel_rfl))
  f336:=Tryz.func341.trans (congrArg some (by kernel_rfl))
  f344:=Tryz.func364.trans (congrArg some (by kernel_rfl))
  t0:=Tryz.underlying0
  a0:=Tryz.isAgg0
  z0:=Tryz.sizeOf0
  v0:=Tryz.zeroValue0
  t3:=Tryz.underlying3
  a3:=Tryz.isAgg3
  z3:=Tryz.sizeOf3
  v3:=Tryz.zeroValue3
  t4:=Tryz.underlying4
  a4:=Tryz.isAgg4
  z4:=Tryz.sizeOf4
  v4:=Tryz.zeroValue4
  t5:=Tryz.underlying5
  a5:=Tryz.isAgg5
  z5:=Tryz.sizeOf5
  v5:=Tryz.zeroValue5
  t9:=Tryz.underlying9
  a9:=Tryz.isAgg9
  z9:=Tryz.sizeOf9
  v9:=Tryz.zeroValue9
  t31:=Tryz.underlying29
  a31:=Tryz.isAgg29
  z31:=Tryz.sizeOf29
  v31:=Tryz.zeroValue29
  t46:=Tryz.underlying250
  a46:=Tryz.isAgg250
  z46:=Tryz.sizeOf250
  v46:=Tryz.zeroValue250
  t51:=Tryz.underlying302
  a51:=Tryz.isAgg302
  z51:=Tryz.sizeOf302
  v51:=Tryz.zeroValue302
  t53:=Tryz.underlying304
  a53:=Tryz.isAgg304
  z53:=Tryz.sizeOf304
  v53:=Tryz.zeroValue304
  t131:=Tryz.underlying258
  a131:=Tryz.isAgg258
  z131:=Tryz.sizeOf258
  v131:=Tryz.zeroValue258
  t182:=Tryz.underlying295
  a182:=Tryz.isAgg295
  z182:=Tryz.sizeOf295
  v182:=Tryz.zeroValue295
  t183:=Tryz.underlying296
  a183:=Tryz.isAgg296
  z183:=Tryz.sizeOf296
  v183:=Tryz.zeroValue296
  t218:=Tryz.underlying337
  a218:=Tryz.isAgg337
  z218:=Tryz.sizeOf337
  v218:=Tryz.zeroValue337
  t222:=Tryz.underlying341
  a222:=Tryz.isAgg341
  z222:=Tryz.sizeOf341
  v222:=Tryz.zeroValue341
  t228:=Tryz.underlying356
  a228:=Tryz.isAgg356
  z228:=Tryz.sizeOf356
  v228:=Tryz.zeroValue356
  t229:=Tryz.underlying256
  a229:=Tryz.isAgg256
  z229:=Tryz.sizeOf256
  v229 := Tryz.zeroValue256 }
open Go.Sort Go.RowKit in
theorem Tryz.slices_Sort_string (blk off cap:Nat) (ss:List (List UInt8)) (w:World) (hH:Holds encStr w blk off ss.toArray) (hblk:blk < w.heap.size) (hsz:ss.length < 4611686018427387904):
    Calls Tryz.prog 132 #[.slice (some ⟨blk,off,none⟩) ss.length cap] w fun e w'=>
      e = .returned (.tuple #[])∧∃ n os,w' = grow (putRow encStr (Sort.ahead w n) blk off (ss.mergeSort fun x y=>decide (x≤y)).toArray) os:=Any.slices_Sort_string Tryz.lays190 blk off cap ss w hH hblk hsz
def Tryz.lays194_ren:Go.Shelf.Ren:=⟨fun|194=>133|n=>n,fun|31=>29|9=>9|3=>3|4=>4|0=>0|n=>n,fun|n=>n⟩
theorem Tryz.lays194 : Go.Proofs.Lays.n194 Tryz.prog Tryz.lays194_ren := {
  mixed:=by kernel_rfl
  f194:=Tryz.func133.trans (congrArg some (by kernel_rfl))
  t0:=Tryz.underlying0
  a0:=Tryz.isAgg0
  z0:=Tryz.sizeOf0
  v0:=Tryz.zeroValue0
  t3:=Tryz.underlying3
  a3:=Tryz.isAgg3
  z3:=Tryz.sizeOf3
  v3:=Tryz.zeroValue3
  t4:=Tryz.underlying4
  a4:=Tryz.isAgg4
  z4:=Tryz.sizeOf4
  v4:=Tryz.zeroValue4
  t9:=Tryz.underlying9
  a9:=Tryz.isAgg9
  z9:=Tryz.sizeOf9
  v9:=Tryz.zeroValue9
  t31:=Tryz.underlying29
  a31:=Tryz.isAgg29
  z31:=Tryz.sizeOf29
  v31 := Tryz.zeroValue29 }
open Go.RowKit Go.Lib Go.Sort in
theorem Tryz.slices_Compact_string (blk off cap:Nat) (zs:List (List UInt8)) (w:World) (hH:Holds encStr w blk off zs.toArray) (hsz:zs.length≤9223372036854775807) (hcap:zs.length≤cap):
    Calls Tryz.prog 133 #[.slice (some ⟨blk,off,none⟩) zs.length cap] w fun e w'=>e = .returned (.slice (some ⟨blk,off,none⟩) (Lib.compact zs).length cap)∧∃ q,w' = putRow encStr (Sort.ahead w q) blk off (Lib.compact zs++List.replicate (zs.length - (Lib.compact zs).length) []).toArray:=Any.slices_Compact_string Tryz.lays194 blk off cap zs w hH hsz hcap
open Go.RowKit Go.Lib Go.Sort in
theorem Tryz.slices_Compact_string_empty (a:Option Addr) (cap:Nat) (w:World):
    Calls Tryz.prog 133 #[.slice a 0 cap] w fun e w'=>e = .returned (.slice a 0 cap)∧w' = w:=Any.slices_Compact_string_empty Tryz.lays194 a cap w
end Go.Proofs
