/- Clusters as data that is only read. -/
import Derived.Test.YtemaanibghedlaaGreatAwFlat
import Derived.Test.YtemaanibghedlaaGreatClInts
namespace Go.Proofs.YtemaanibghedlaaGreat
open Go.RowKit

structure LabelD where
  key : ByteArray
  value : ByteArray
instance : Inhabited LabelD := ⟨⟨⟨#[]⟩, ⟨#[]⟩⟩⟩
def labelCells (x : LabelD) : List D := [.sc (.string x.key), .sc (.string x.value)]
def labelsD (xs : List LabelD) : List D := flatD labelCells xs
theorem labelCells_len (x : LabelD) : (labelCells x).length = 2 := rfl
theorem labelCells_rp (x : LabelD) : (labelCells x).all D.rp = true := rfl
theorem labelsD_len (xs : List LabelD) : (labelsD xs).length = xs.length * 2 := flat_len labelCells_len xs
theorem labelsD_rp (xs : List LabelD) : (labelsD xs).all D.rp = true := flat_rp labelCells_rp xs
theorem labelsD_in (p : Nat → Bool) (xs : List LabelD) : (labelsD xs).all (D.in1 p) = true := rps_in (labelsD_rp xs) p
theorem labelsD_ren (f : Nat → Nat) (xs : List LabelD) : (labelsD xs).map (D.ren1 f) = labelsD xs := rps_ren (labelsD_rp xs) f
theorem labelsD_frz (i : Nat) (x : Ob) (xs : List LabelD) : (labelsD xs).map (D.frz1 i x) = labelsD xs := rps_frz (labelsD_rp xs) i x
theorem labelsD_lt (k : Nat) (xs : List LabelD) : (labelsD xs).all (D.lt1 k) = true := rps_lt (labelsD_rp xs) k
theorem labelsD_nil : labelsD [] = [] := rfl
theorem labelsD_takeN (xs : List LabelD) (k : Nat) (h : xs.length * 2 ≤ k) : (labelsD xs).take k = labelsD xs := List.take_of_length_le (by rw [labelsD_len]; exact h)
theorem labelsD_snoc (xs : List LabelD) (x : LabelD) : labelsD xs ++ [.sc (.string x.key), .sc (.string x.value)] = labelsD (xs ++ [x]) := (flat_snoc xs x).symm
theorem labelsD_part (xs : List LabelD) (k : Nat) (h : k < xs.length) : ((labelsD xs).drop (k * 2)).take 2 = [.sc (.string (xs.getD k default).key), .sc (.string (xs.getD k default).value)] := flat_part labelCells_len xs k h
theorem labelsD_f0 (xs : List LabelD) (k : Nat) (h : k < xs.length) : (labelsD xs)[k * 2]? = some (.sc (.string (xs.getD k default).key)) := (flat_cell labelCells_len xs k 0 h (by decide) : _)
theorem labelsD_f1 (xs : List LabelD) (k : Nat) (h : k < xs.length) : (labelsD xs)[k * 2 + 1]? = some (.sc (.string (xs.getD k default).value)) := flat_cell labelCells_len xs k 1 h (by decide)

structure NeedD where
  key : ByteArray
  op : Int
  values : List ByteArray
instance : Inhabited NeedD := ⟨⟨⟨#[]⟩, 0, []⟩⟩
def needCells (x : NeedD) : List D := [.sc (.string x.key), .sc (.int .i64 x.op), .sl x.values.length (strsD x.values)]
def needsD (xs : List NeedD) : List D := flatD needCells xs
theorem needCells_len (x : NeedD) : (needCells x).length = 3 := rfl
theorem needCells_rp (x : NeedD) : (needCells x).all D.rp = true := rfl
theorem needsD_len (xs : List NeedD) : (needsD xs).length = xs.length * 3 := flat_len needCells_len xs
theorem needsD_rp (xs : List NeedD) : (needsD xs).all D.rp = true := flat_rp needCells_rp xs
theorem needsD_in (p : Nat → Bool) (xs : List NeedD) : (needsD xs).all (D.in1 p) = true := rps_in (needsD_rp xs) p
theorem needsD_ren (f : Nat → Nat) (xs : List NeedD) : (needsD xs).map (D.ren1 f) = needsD xs := rps_ren (needsD_rp xs) f
theorem needsD_frz (i : Nat) (x : Ob) (xs : List NeedD) : (needsD xs).map (D.frz1 i x) = needsD xs := rps_frz (needsD_rp xs) i x
theorem needsD_lt (k : Nat) (xs : List NeedD) : (needsD xs).all (D.lt1 k) = true := rps_lt (needsD_rp xs) k
theorem needsD_nil : needsD [] = [] := rfl
theorem needsD_takeN (xs : List NeedD) (k : Nat) (h : xs.length * 3 ≤ k) : (needsD xs).take k = needsD xs := List.take_of_length_le (by rw [needsD_len]; exact h)
theorem needsD_snoc (xs : List NeedD) (x : NeedD) : needsD xs ++ [.sc (.string x.key), .sc (.int .i64 x.op), .sl x.values.length (strsD x.values)] = needsD (xs ++ [x]) := (flat_snoc xs x).symm
theorem needsD_part (xs : List NeedD) (k : Nat) (h : k < xs.length) : ((needsD xs).drop (k * 3)).take 3 = [.sc (.string (xs.getD k default).key), .sc (.int .i64 (xs.getD k default).op), .sl (xs.getD k default).values.length (strsD (xs.getD k default).values)] := flat_part needCells_len xs k h
theorem needsD_f0 (xs : List NeedD) (k : Nat) (h : k < xs.length) : (needsD xs)[k * 3]? = some (.sc (.string (xs.getD k default).key)) := (flat_cell needCells_len xs k 0 h (by decide) : _)
theorem needsD_f1 (xs : List NeedD) (k : Nat) (h : k < xs.length) : (needsD xs)[k * 3 + 1]? = some (.sc (.int .i64 (xs.getD k default).op)) := flat_cell needCells_len xs k 1 h (by decide)
theorem needsD_f2 (xs : List NeedD) (k : Nat) (h : k < xs.length) : (needsD xs)[k * 3 + 2]? = some (.sl (xs.getD k default).values.length (strsD (xs.getD k default).values)) := flat_cell needCells_len xs k 2 h (by decide)

structure TaintD where
  key : ByteArray
  value : ByteArray
  effect : Int
instance : Inhabited TaintD := ⟨⟨⟨#[]⟩, ⟨#[]⟩, 0⟩⟩
def taintCells (x : TaintD) : List D := [.sc (.string x.key), .sc (.string x.value), .sc (.int .i64 x.effect)]
def taintsD (xs : List TaintD) : List D := flatD taintCells xs
theorem taintCells_len (x : TaintD) : (taintCells x).length = 3 := rfl
theorem taintCells_rp (x : TaintD) : (taintCells x).all D.rp = true := rfl
theorem taintsD_len (xs : List TaintD) : (taintsD xs).length = xs.length * 3 := flat_len taintCells_len xs
theorem taintsD_rp (xs : List TaintD) : (taintsD xs).all D.rp = true := flat_rp taintCells_rp xs
theorem taintsD_in (p : Nat → Bool) (xs : List TaintD) : (taintsD xs).all (D.in1 p) = true := rps_in (taintsD_rp xs) p
theorem taintsD_ren (f : Nat → Nat) (xs : List TaintD) : (taintsD xs).map (D.ren1 f) = taintsD xs := rps_ren (taintsD_rp xs) f
theorem taintsD_frz (i : Nat) (x : Ob) (xs : List TaintD) : (taintsD xs).map (D.frz1 i x) = taintsD xs := rps_frz (taintsD_rp xs) i x
theorem taintsD_lt (k : Nat) (xs : List TaintD) : (taintsD xs).all (D.lt1 k) = true := rps_lt (taintsD_rp xs) k
theorem taintsD_nil : taintsD [] = [] := rfl
theorem taintsD_takeN (xs : List TaintD) (k : Nat) (h : xs.length * 3 ≤ k) : (taintsD xs).take k = taintsD xs := List.take_of_length_le (by rw [taintsD_len]; exact h)
theorem taintsD_snoc (xs : List TaintD) (x : TaintD) : taintsD xs ++ [.sc (.string x.key), .sc (.string x.value), .sc (.int .i64 x.effect)] = taintsD (xs ++ [x]) := (flat_snoc xs x).symm
theorem taintsD_part (xs : List TaintD) (k : Nat) (h : k < xs.length) : ((taintsD xs).drop (k * 3)).take 3 = [.sc (.string (xs.getD k default).key), .sc (.string (xs.getD k default).value), .sc (.int .i64 (xs.getD k default).effect)] := flat_part taintCells_len xs k h
theorem taintsD_f0 (xs : List TaintD) (k : Nat) (h : k < xs.length) : (taintsD xs)[k * 3]? = some (.sc (.string (xs.getD k default).key)) := (flat_cell taintCells_len xs k 0 h (by decide) : _)
theorem taintsD_f1 (xs : List TaintD) (k : Nat) (h : k < xs.length) : (taintsD xs)[k * 3 + 1]? = some (.sc (.string (xs.getD k default).value)) := flat_cell taintCells_len xs k 1 h (by decide)
theorem taintsD_f2 (xs : List TaintD) (k : Nat) (h : k < xs.length) : (taintsD xs)[k * 3 + 2]? = some (.sc (.int .i64 (xs.getD k default).effect)) := flat_cell taintCells_len xs k 2 h (by decide)

structure TolerD where
  key : ByteArray
  equal : Bool
  value : ByteArray
  effect : Int
instance : Inhabited TolerD := ⟨⟨⟨#[]⟩, false, ⟨#[]⟩, 0⟩⟩
def tolerCells (x : TolerD) : List D := [.sc (.string x.key), .sc (.bool x.equal), .sc (.string x.value), .sc (.int .i64 x.effect)]
def tolersD (xs : List TolerD) : List D := flatD tolerCells xs
theorem tolerCells_len (x : TolerD) : (tolerCells x).length = 4 := rfl
theorem tolerCells_rp (x : TolerD) : (tolerCells x).all D.rp = true := rfl
theorem tolersD_len (xs : List TolerD) : (tolersD xs).length = xs.length * 4 := flat_len tolerCells_len xs
theorem tolersD_rp (xs : List TolerD) : (tolersD xs).all D.rp = true := flat_rp tolerCells_rp xs
theorem tolersD_in (p : Nat → Bool) (xs : List TolerD) : (tolersD xs).all (D.in1 p) = true := rps_in (tolersD_rp xs) p
theorem tolersD_ren (f : Nat → Nat) (xs : List TolerD) : (tolersD xs).map (D.ren1 f) = tolersD xs := rps_ren (tolersD_rp xs) f
theorem tolersD_frz (i : Nat) (x : Ob) (xs : List TolerD) : (tolersD xs).map (D.frz1 i x) = tolersD xs := rps_frz (tolersD_rp xs) i x
theorem tolersD_lt (k : Nat) (xs : List TolerD) : (tolersD xs).all (D.lt1 k) = true := rps_lt (tolersD_rp xs) k
theorem tolersD_nil : tolersD [] = [] := rfl
theorem tolersD_takeN (xs : List TolerD) (k : Nat) (h : xs.length * 4 ≤ k) : (tolersD xs).take k = tolersD xs := List.take_of_length_le (by rw [tolersD_len]; exact h)
theorem tolersD_snoc (xs : List TolerD) (x : TolerD) : tolersD xs ++ [.sc (.string x.key), .sc (.bool x.equal), .sc (.string x.value), .sc (.int .i64 x.effect)] = tolersD (xs ++ [x]) := (flat_snoc xs x).symm
theorem tolersD_part (xs : List TolerD) (k : Nat) (h : k < xs.length) : ((tolersD xs).drop (k * 4)).take 4 = [.sc (.string (xs.getD k default).key), .sc (.bool (xs.getD k default).equal), .sc (.string (xs.getD k default).value), .sc (.int .i64 (xs.getD k default).effect)] := flat_part tolerCells_len xs k h
theorem tolersD_f0 (xs : List TolerD) (k : Nat) (h : k < xs.length) : (tolersD xs)[k * 4]? = some (.sc (.string (xs.getD k default).key)) := (flat_cell tolerCells_len xs k 0 h (by decide) : _)
theorem tolersD_f1 (xs : List TolerD) (k : Nat) (h : k < xs.length) : (tolersD xs)[k * 4 + 1]? = some (.sc (.bool (xs.getD k default).equal)) := flat_cell tolerCells_len xs k 1 h (by decide)
theorem tolersD_f2 (xs : List TolerD) (k : Nat) (h : k < xs.length) : (tolersD xs)[k * 4 + 2]? = some (.sc (.string (xs.getD k default).value)) := flat_cell tolerCells_len xs k 2 h (by decide)
theorem tolersD_f3 (xs : List TolerD) (k : Nat) (h : k < xs.length) : (tolersD xs)[k * 4 + 3]? = some (.sc (.int .i64 (xs.getD k default).effect)) := flat_cell tolerCells_len xs k 3 h (by decide)

structure PodD where
  name : ByteArray
  labels : List LabelD
  cpu : Int
  mem : Int
  rank : Int
  needs : List NeedD
  tolers : List TolerD
instance : Inhabited PodD := ⟨⟨⟨#[]⟩, [], 0, 0, 0, [], []⟩⟩
def podCells (x : PodD) : List D := [.sc (.string x.name), .sl x.labels.length (labelsD x.labels), .sc (.int .i64 x.cpu), .sc (.int .i64 x.mem), .sc (.int .i64 x.rank), .sl x.needs.length (needsD x.needs), .sl x.tolers.length (tolersD x.tolers)]
def podsD (xs : List PodD) : List D := flatD podCells xs
theorem podCells_len (x : PodD) : (podCells x).length = 7 := rfl
theorem podCells_rp (x : PodD) : (podCells x).all D.rp = true := rfl
theorem podsD_len (xs : List PodD) : (podsD xs).length = xs.length * 7 := flat_len podCells_len xs
theorem podsD_rp (xs : List PodD) : (podsD xs).all D.rp = true := flat_rp podCells_rp xs
theorem podsD_in (p : Nat → Bool) (xs : List PodD) : (podsD xs).all (D.in1 p) = true := rps_in (podsD_rp xs) p
theorem podsD_ren (f : Nat → Nat) (xs : List PodD) : (podsD xs).map (D.ren1 f) = podsD xs := rps_ren (podsD_rp xs) f
theorem podsD_frz (i : Nat) (x : Ob) (xs : List PodD) : (podsD xs).map (D.frz1 i x) = podsD xs := rps_frz (podsD_rp xs) i x
theorem podsD_lt (k : Nat) (xs : List PodD) : (podsD xs).all (D.lt1 k) = true := rps_lt (podsD_rp xs) k
theorem podsD_nil : podsD [] = [] := rfl
theorem podsD_takeN (xs : List PodD) (k : Nat) (h : xs.length * 7 ≤ k) : (podsD xs).take k = podsD xs := List.take_of_length_le (by rw [podsD_len]; exact h)
theorem podsD_snoc (xs : List PodD) (x : PodD) : podsD xs ++ [.sc (.string x.name), .sl x.labels.length (labelsD x.labels), .sc (.int .i64 x.cpu), .sc (.int .i64 x.mem), .sc (.int .i64 x.rank), .sl x.needs.length (needsD x.needs), .sl x.tolers.length (tolersD x.tolers)] = podsD (xs ++ [x]) := (flat_snoc xs x).symm
theorem podsD_part (xs : List PodD) (k : Nat) (h : k < xs.length) : ((podsD xs).drop (k * 7)).take 7 = [.sc (.string (xs.getD k default).name), .sl (xs.getD k default).labels.length (labelsD (xs.getD k default).labels), .sc (.int .i64 (xs.getD k default).cpu), .sc (.int .i64 (xs.getD k default).mem), .sc (.int .i64 (xs.getD k default).rank), .sl (xs.getD k default).needs.length (needsD (xs.getD k default).needs), .sl (xs.getD k default).tolers.length (tolersD (xs.getD k default).tolers)] := flat_part podCells_len xs k h
theorem podsD_f0 (xs : List PodD) (k : Nat) (h : k < xs.length) : (podsD xs)[k * 7]? = some (.sc (.string (xs.getD k default).name)) := (flat_cell podCells_len xs k 0 h (by decide) : _)
theorem podsD_f1 (xs : List PodD) (k : Nat) (h : k < xs.length) : (podsD xs)[k * 7 + 1]? = some (.sl (xs.getD k default).labels.length (labelsD (xs.getD k default).labels)) := flat_cell podCells_len xs k 1 h (by decide)
theorem podsD_f2 (xs : List PodD) (k : Nat) (h : k < xs.length) : (podsD xs)[k * 7 + 2]? = some (.sc (.int .i64 (xs.getD k default).cpu)) := flat_cell podCells_len xs k 2 h (by decide)
theorem podsD_f3 (xs : List PodD) (k : Nat) (h : k < xs.length) : (podsD xs)[k * 7 + 3]? = some (.sc (.int .i64 (xs.getD k default).mem)) := flat_cell podCells_len xs k 3 h (by decide)
theorem podsD_f4 (xs : List PodD) (k : Nat) (h : k < xs.length) : (podsD xs)[k * 7 + 4]? = some (.sc (.int .i64 (xs.getD k default).rank)) := flat_cell podCells_len xs k 4 h (by decide)
theorem podsD_f5 (xs : List PodD) (k : Nat) (h : k < xs.length) : (podsD xs)[k * 7 + 5]? = some (.sl (xs.getD k default).needs.length (needsD (xs.getD k default).needs)) := flat_cell podCells_len xs k 5 h (by decide)
theorem podsD_f6 (xs : List PodD) (k : Nat) (h : k < xs.length) : (podsD xs)[k * 7 + 6]? = some (.sl (xs.getD k default).tolers.length (tolersD (xs.getD k default).tolers)) := flat_cell podCells_len xs k 6 h (by decide)

structure HostD where
  name : ByteArray
  labels : List LabelD
  cpu : Int
  mem : Int
  slots : Int
  taints : List TaintD
instance : Inhabited HostD := ⟨⟨⟨#[]⟩, [], 0, 0, 0, []⟩⟩
def hostCells (x : HostD) : List D := [.sc (.string x.name), .sl x.labels.length (labelsD x.labels), .sc (.int .i64 x.cpu), .sc (.int .i64 x.mem), .sc (.int .i64 x.slots), .sl x.taints.length (taintsD x.taints)]
def hostsD (xs : List HostD) : List D := flatD hostCells xs
theorem hostCells_len (x : HostD) : (hostCells x).length = 6 := rfl
theorem hostCells_rp (x : HostD) : (hostCells x).all D.rp = true := rfl
theorem hostsD_len (xs : List HostD) : (hostsD xs).length = xs.length * 6 := flat_len hostCells_len xs
theorem hostsD_rp (xs : List HostD) : (hostsD xs).all D.rp = true := flat_rp hostCells_rp xs
theorem hostsD_in (p : Nat → Bool) (xs : List HostD) : (hostsD xs).all (D.in1 p) = true := rps_in (hostsD_rp xs) p
theorem hostsD_ren (f : Nat → Nat) (xs : List HostD) : (hostsD xs).map (D.ren1 f) = hostsD xs := rps_ren (hostsD_rp xs) f
theorem hostsD_frz (i : Nat) (x : Ob) (xs : List HostD) : (hostsD xs).map (D.frz1 i x) = hostsD xs := rps_frz (hostsD_rp xs) i x
theorem hostsD_lt (k : Nat) (xs : List HostD) : (hostsD xs).all (D.lt1 k) = true := rps_lt (hostsD_rp xs) k
theorem hostsD_nil : hostsD [] = [] := rfl
theorem hostsD_takeN (xs : List HostD) (k : Nat) (h : xs.length * 6 ≤ k) : (hostsD xs).take k = hostsD xs := List.take_of_length_le (by rw [hostsD_len]; exact h)
theorem hostsD_snoc (xs : List HostD) (x : HostD) : hostsD xs ++ [.sc (.string x.name), .sl x.labels.length (labelsD x.labels), .sc (.int .i64 x.cpu), .sc (.int .i64 x.mem), .sc (.int .i64 x.slots), .sl x.taints.length (taintsD x.taints)] = hostsD (xs ++ [x]) := (flat_snoc xs x).symm
theorem hostsD_part (xs : List HostD) (k : Nat) (h : k < xs.length) : ((hostsD xs).drop (k * 6)).take 6 = [.sc (.string (xs.getD k default).name), .sl (xs.getD k default).labels.length (labelsD (xs.getD k default).labels), .sc (.int .i64 (xs.getD k default).cpu), .sc (.int .i64 (xs.getD k default).mem), .sc (.int .i64 (xs.getD k default).slots), .sl (xs.getD k default).taints.length (taintsD (xs.getD k default).taints)] := flat_part hostCells_len xs k h
theorem hostsD_f0 (xs : List HostD) (k : Nat) (h : k < xs.length) : (hostsD xs)[k * 6]? = some (.sc (.string (xs.getD k default).name)) := (flat_cell hostCells_len xs k 0 h (by decide) : _)
theorem hostsD_f1 (xs : List HostD) (k : Nat) (h : k < xs.length) : (hostsD xs)[k * 6 + 1]? = some (.sl (xs.getD k default).labels.length (labelsD (xs.getD k default).labels)) := flat_cell hostCells_len xs k 1 h (by decide)
theorem hostsD_f2 (xs : List HostD) (k : Nat) (h : k < xs.length) : (hostsD xs)[k * 6 + 2]? = some (.sc (.int .i64 (xs.getD k default).cpu)) := flat_cell hostCells_len xs k 2 h (by decide)
theorem hostsD_f3 (xs : List HostD) (k : Nat) (h : k < xs.length) : (hostsD xs)[k * 6 + 3]? = some (.sc (.int .i64 (xs.getD k default).mem)) := flat_cell hostCells_len xs k 3 h (by decide)
theorem hostsD_f4 (xs : List HostD) (k : Nat) (h : k < xs.length) : (hostsD xs)[k * 6 + 4]? = some (.sc (.int .i64 (xs.getD k default).slots)) := flat_cell hostCells_len xs k 4 h (by decide)
theorem hostsD_f5 (xs : List HostD) (k : Nat) (h : k < xs.length) : (hostsD xs)[k * 6 + 5]? = some (.sl (xs.getD k default).taints.length (taintsD (xs.getD k default).taints)) := flat_cell hostCells_len xs k 5 h (by decide)

structure PlacedD where
  pod : PodD
  on : ByteArray
  seq : Int
instance : Inhabited PlacedD := ⟨⟨default, ⟨#[]⟩, 0⟩⟩
def placedCells (x : PlacedD) : List D := [.sc (.string x.pod.name), .sl x.pod.labels.length (labelsD x.pod.labels), .sc (.int .i64 x.pod.cpu), .sc (.int .i64 x.pod.mem), .sc (.int .i64 x.pod.rank), .sl x.pod.needs.length (needsD x.pod.needs), .sl x.pod.tolers.length (tolersD x.pod.tolers), .sc (.string x.on), .sc (.int .i64 x.seq)]
def placedsD (xs : List PlacedD) : List D := flatD placedCells xs
theorem placedCells_len (x : PlacedD) : (placedCells x).length = 9 := rfl
theorem placedCells_rp (x : PlacedD) : (placedCells x).all D.rp = true := rfl
theorem placedsD_len (xs : List PlacedD) : (placedsD xs).length = xs.length * 9 := flat_len placedCells_len xs
theorem placedsD_rp (xs : List PlacedD) : (placedsD xs).all D.rp = true := flat_rp placedCells_rp xs
theorem placedsD_in (p : Nat → Bool) (xs : List PlacedD) : (placedsD xs).all (D.in1 p) = true := rps_in (placedsD_rp xs) p
theorem placedsD_ren (f : Nat → Nat) (xs : List PlacedD) : (placedsD xs).map (D.ren1 f) = placedsD xs := rps_ren (placedsD_rp xs) f
theorem placedsD_frz (i : Nat) (x : Ob) (xs : List PlacedD) : (placedsD xs).map (D.frz1 i x) = placedsD xs := rps_frz (placedsD_rp xs) i x
theorem placedsD_lt (k : Nat) (xs : List PlacedD) : (placedsD xs).all (D.lt1 k) = true := rps_lt (placedsD_rp xs) k
theorem placedsD_nil : placedsD [] = [] := rfl
theorem placedsD_takeN (xs : List PlacedD) (k : Nat) (h : xs.length * 9 ≤ k) : (placedsD xs).take k = placedsD xs := List.take_of_length_le (by rw [placedsD_len]; exact h)
theorem placedsD_snoc (xs : List PlacedD) (x : PlacedD) : placedsD xs ++ [.sc (.string x.pod.name), .sl x.pod.labels.length (labelsD x.pod.labels), .sc (.int .i64 x.pod.cpu), .sc (.int .i64 x.pod.mem), .sc (.int .i64 x.pod.rank), .sl x.pod.needs.length (needsD x.pod.needs), .sl x.pod.tolers.length (tolersD x.pod.tolers), .sc (.string x.on), .sc (.int .i64 x.seq)] = placedsD (xs ++ [x]) := (flat_snoc xs x).symm
theorem placedsD_part (xs : List PlacedD) (k : Nat) (h : k < xs.length) : ((placedsD xs).drop (k * 9)).take 9 = [.sc (.string (xs.getD k default).pod.name), .sl (xs.getD k default).pod.labels.length (labelsD (xs.getD k default).pod.labels), .sc (.int .i64 (xs.getD k default).pod.cpu), .sc (.int .i64 (xs.getD k default).pod.mem), .sc (.int .i64 (xs.getD k default).pod.rank), .sl (xs.getD k default).pod.needs.length (needsD (xs.getD k default).pod.needs), .sl (xs.getD k default).pod.tolers.length (tolersD (xs.getD k default).pod.tolers), .sc (.string (xs.getD k default).on), .sc (.int .i64 (xs.getD k default).seq)] := flat_part placedCells_len xs k h
theorem placedsD_f0 (xs : List PlacedD) (k : Nat) (h : k < xs.length) : (placedsD xs)[k * 9]? = some (.sc (.string (xs.getD k default).pod.name)) := (flat_cell placedCells_len xs k 0 h (by decide) : _)
theorem placedsD_f1 (xs : List PlacedD) (k : Nat) (h : k < xs.length) : (placedsD xs)[k * 9 + 1]? = some (.sl (xs.getD k default).pod.labels.length (labelsD (xs.getD k default).pod.labels)) := flat_cell placedCells_len xs k 1 h (by decide)
theorem placedsD_f2 (xs : List PlacedD) (k : Nat) (h : k < xs.length) : (placedsD xs)[k * 9 + 2]? = some (.sc (.int .i64 (xs.getD k default).pod.cpu)) := flat_cell placedCells_len xs k 2 h (by decide)
theorem placedsD_f3 (xs : List PlacedD) (k : Nat) (h : k < xs.length) : (placedsD xs)[k * 9 + 3]? = some (.sc (.int .i64 (xs.getD k default).pod.mem)) := flat_cell placedCells_len xs k 3 h (by decide)
theorem placedsD_f4 (xs : List PlacedD) (k : Nat) (h : k < xs.length) : (placedsD xs)[k * 9 + 4]? = some (.sc (.int .i64 (xs.getD k default).pod.rank)) := flat_cell placedCells_len xs k 4 h (by decide)
theorem placedsD_f5 (xs : List PlacedD) (k : Nat) (h : k < xs.length) : (placedsD xs)[k * 9 + 5]? = some (.sl (xs.getD k default).pod.needs.length (needsD (xs.getD k default).pod.needs)) := flat_cell placedCells_len xs k 5 h (by decide)
theorem placedsD_f6 (xs : List PlacedD) (k : Nat) (h : k < xs.length) : (placedsD xs)[k * 9 + 6]? = some (.sl (xs.getD k default).pod.tolers.length (tolersD (xs.getD k default).pod.tolers)) := flat_cell placedCells_len xs k 6 h (by decide)
theorem placedsD_f7 (xs : List PlacedD) (k : Nat) (h : k < xs.length) : (placedsD xs)[k * 9 + 7]? = some (.sc (.string (xs.getD k default).on)) := flat_cell placedCells_len xs k 7 h (by decide)
theorem placedsD_f8 (xs : List PlacedD) (k : Nat) (h : k < xs.length) : (placedsD xs)[k * 9 + 8]? = some (.sc (.int .i64 (xs.getD k default).seq)) := flat_cell placedCells_len xs k 8 h (by decide)

structure ClusterD where
  hosts : List HostD
  pods : List PlacedD
  next : Int
  w1 : Int
  w2 : Int
  w3 : Int
def ClusterD.d (c : ClusterD) : D := .agg [.sl c.hosts.length (hostsD c.hosts), .sl c.pods.length (placedsD c.pods), .sc (.int .i64 c.next), .sc (.int .i64 c.w1), .sc (.int .i64 c.w2), .sc (.int .i64 c.w3)]
end Go.Proofs.YtemaanibghedlaaGreat
