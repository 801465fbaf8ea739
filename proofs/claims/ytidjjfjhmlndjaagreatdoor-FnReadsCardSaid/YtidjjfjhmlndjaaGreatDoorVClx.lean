/- Clx (what is wanted of them). -/
import Derived.Test.YtidjjfjhmlndjaaGreatDoorVAwb
namespace Go.Proofs.YtidjjfjhmlndjaaGreatDoor
open Go.RowKit
theorem u8D_len (ns:List Int):(u8D ns).length=ns.length:=by simp [u8D]
theorem u8D_rp (ns:List Int):(u8D ns).all D.rp=true:=by simp [u8D,D.rp]
theorem u8D_in (p:Nat→Bool) (ns:List Int):(u8D ns).all (D.in1 p)=true:=rps_in (u8D_rp ns) p
theorem u8D_ren (f:Nat→Nat) (ns:List Int):(u8D ns).map (D.ren1 f)=u8D ns:=rps_ren (u8D_rp ns) f
theorem u8D_frz (i:Nat) (x:Ob) (ns:List Int):(u8D ns).map (D.frz1 i x)=u8D ns:=rps_frz (u8D_rp ns) i x
theorem u8D_lt (k:Nat) (ns:List Int):(u8D ns).all (D.lt1 k)=true:=rps_lt (u8D_rp ns) k
theorem u8D_nil:u8D [] = []:=rfl
theorem u8D_takeN (ns:List Int) (k:Nat) (h:ns.length≤k):(u8D ns).take k=u8D ns:=List.take_of_length_le (by rw [u8D_len];exact h)
theorem u8D_one (ns:List Int) (x:Int):u8D ns ++ [.sc (.int .u8 x)]=u8D (ns ++ [x]):=by simp [u8D]
def strsD (ss:List ByteArray):List D:=ss.map fun b=>.sc (.string b)
theorem strsD_len (ss:List ByteArray):(strsD ss).length=ss.length:=by simp [strsD]
theorem strsD_rp (ss:List ByteArray):(strsD ss).all D.rp=true:=by simp [strsD,D.rp]
theorem strsD_in (p:Nat→Bool) (ss:List ByteArray):(strsD ss).all (D.in1 p)=true:=rps_in (strsD_rp ss) p
theorem strsD_ren (f:Nat→Nat) (ss:List ByteArray):(strsD ss).map (D.ren1 f)=strsD ss:=rps_ren (strsD_rp ss) f
theorem strsD_frz (i:Nat) (x:Ob) (ss:List ByteArray):(strsD ss).map (D.frz1 i x)=strsD ss:=rps_frz (strsD_rp ss) i x
theorem strsD_lt (k:Nat) (ss:List ByteArray):(strsD ss).all (D.lt1 k)=true:=rps_lt (strsD_rp ss) k
theorem strsD_nil:strsD [] = []:=rfl
theorem strsD_one (ns:List ByteArray) (x:ByteArray):strsD ns ++ [.sc (.string x)]=strsD (ns ++ [x]):=by simp [strsD]
theorem strsD_at (ss:List ByteArray) (k:Nat) (h:k < ss.length):(strsD ss)[k]? = some (.sc (.string (ss.getD k default))):=by simp [strsD,h]
def intsD (ss:List Int):List D:=ss.map fun b=>.sc (.int .i64 b)
theorem intsD_len (ss:List Int):(intsD ss).length=ss.length:=by simp [intsD]
theorem intsD_rp (ss:List Int):(intsD ss).all D.rp=true:=by simp [intsD,D.rp]
theorem intsD_in (p:Nat→Bool) (ss:List Int):(intsD ss).all (D.in1 p)=true:=rps_in (intsD_rp ss) p
theorem intsD_ren (f:Nat→Nat) (ss:List Int):(intsD ss).map (D.ren1 f)=intsD ss:=rps_ren (intsD_rp ss) f
theorem intsD_frz (i:Nat) (x:Ob) (ss:List Int):(intsD ss).map (D.frz1 i x)=intsD ss:=rps_frz (intsD_rp ss) i x
theorem intsD_lt (k:Nat) (ss:List Int):(intsD ss).all (D.lt1 k)=true:=rps_lt (intsD_rp ss) k
theorem intsD_nil:intsD [] = []:=rfl
theorem intsD_one (ns:List Int) (x:Int):intsD ns ++ [.sc (.int .i64 x)]=intsD (ns ++ [x]):=by simp [intsD]
theorem intsD_takeN (ns:List Int) (k:Nat) (h:ns.length≤k):(intsD ns).take k=intsD ns:=List.take_of_length_le (by rw [intsD_len];exact h)
theorem intsD_at (ss:List Int) (k:Nat) (h:k < ss.length):(intsD ss)[k]? = some (.sc (.int .i64 (ss.getD k default))):=by simp [intsD,h]
end Go.Proofs.YtidjjfjhmlndjaaGreatDoor
namespace Go.Proofs.YtidjjfjhmlndjaaGreatDoor
open Go.RowKit
structure LabelD where
  key:ByteArray
  value:ByteArray
instance:Inhabited LabelD:=⟨⟨⟨#[]⟩,⟨#[]⟩⟩⟩
def labelCells (x:LabelD):List D:= [.sc (.string x.key),.sc (.string x.value)]
def labelsD (xs:List LabelD):List D:=flatD labelCells xs
theorem labelCells_len (x:LabelD):(labelCells x).length=2:=rfl
theorem labelCells_rp (x:LabelD):(labelCells x).all D.rp=true:=rfl
theorem labelsD_len (xs:List LabelD):(labelsD xs).length=xs.length*2:=flat_len labelCells_len xs
theorem labelsD_rp (xs:List LabelD):(labelsD xs).all D.rp=true:=flat_rp labelCells_rp xs
theorem labelsD_in (p:Nat→Bool) (xs:List LabelD):(labelsD xs).all (D.in1 p)=true:=rps_in (labelsD_rp xs) p
theorem labelsD_ren (f:Nat→Nat) (xs:List LabelD):(labelsD xs).map (D.ren1 f)=labelsD xs:=rps_ren (labelsD_rp xs) f
theorem labelsD_frz (i:Nat) (x:Ob) (xs:List LabelD):(labelsD xs).map (D.frz1 i x)=labelsD xs:=rps_frz (labelsD_rp xs) i x
theorem labelsD_lt (k:Nat) (xs:List LabelD):(labelsD xs).all (D.lt1 k)=true:=rps_lt (labelsD_rp xs) k
theorem labelsD_nil:labelsD [] = []:=rfl
theorem labelsD_takeN (xs:List LabelD) (k:Nat) (h:xs.length*2≤k):(labelsD xs).take k=labelsD xs:=List.take_of_length_le (by rw [labelsD_len];exact h)
theorem labelsD_snoc (xs:List LabelD) (x:LabelD):labelsD xs ++ [.sc (.string x.key),.sc (.string x.value)]=labelsD (xs ++ [x]):=(flat_snoc xs x).symm
theorem labelsD_part (xs:List LabelD) (k:Nat) (h:k < xs.length):((labelsD xs).drop (k*2)).take 2 = [.sc (.string (xs.getD k default).key),.sc (.string (xs.getD k default).value)]:=flat_part labelCells_len xs k h
theorem labelsD_f0 (xs:List LabelD) (k:Nat) (h:k < xs.length):(labelsD xs)[k*2]? = some (.sc (.string (xs.getD k default).key)):=(flat_cell labelCells_len xs k 0 h (by decide):_)
theorem labelsD_f1 (xs:List LabelD) (k:Nat) (h:k < xs.length):(labelsD xs)[k*2+1]? = some (.sc (.string (xs.getD k default).value)):=flat_cell labelCells_len xs k 1 h (by decide)
structure NeedD where
  key:ByteArray
  op:Int
  values:List ByteArray
instance:Inhabited NeedD:=⟨⟨⟨#[]⟩,0, []⟩⟩
def needCells (x:NeedD):List D:= [.sc (.string x.key),.sc (.int .i64 x.op),.sl x.values.length (strsD x.values)]
def needsD (xs:List NeedD):List D:=flatD needCells xs
theorem needCells_len (x:NeedD):(needCells x).length=3:=rfl
theorem needCells_rp (x:NeedD):(needCells x).all D.rp=true:=rfl
theorem needsD_len (xs:List NeedD):(needsD xs).length=xs.length*3:=flat_len needCells_len xs
theorem needsD_rp (xs:List NeedD):(needsD xs).all D.rp=true:=flat_rp needCells_rp xs
theorem needsD_in (p:Nat→Bool) (xs:List NeedD):(needsD xs).all (D.in1 p)=true:=rps_in (needsD_rp xs) p
theorem needsD_ren (f:Nat→Nat) (xs:List NeedD):(needsD xs).map (D.ren1 f)=needsD xs:=rps_ren (needsD_rp xs) f
theorem needsD_frz (i:Nat) (x:Ob) (xs:List NeedD):(needsD xs).map (D.frz1 i x)=needsD xs:=rps_frz (needsD_rp xs) i x
theorem needsD_lt (k:Nat) (xs:List NeedD):(needsD xs).all (D.lt1 k)=true:=rps_lt (needsD_rp xs) k
theorem needsD_nil:needsD [] = []:=rfl
theorem needsD_takeN (xs:List NeedD) (k:Nat) (h:xs.length*3≤k):(needsD xs).take k=needsD xs:=List.take_of_length_le (by rw [needsD_len];exact h)
theorem needsD_snoc (xs:List NeedD) (x:NeedD):needsD xs ++ [.sc (.string x.key),.sc (.int .i64 x.op),.sl x.values.length (strsD x.values)]=needsD (xs ++ [x]):=(flat_snoc xs x).symm
theorem needsD_part (xs:List NeedD) (k:Nat) (h:k < xs.length):((needsD xs).drop (k*3)).take 3 = [.sc (.string (xs.getD k default).key),.sc (.int .i64 (xs.getD k default).op),.sl (xs.getD k default).values.length (strsD (xs.getD k default).values)]:=flat_part needCells_len xs k h
theorem needsD_f0 (xs:List NeedD) (k:Nat) (h:k < xs.length):(needsD xs)[k*3]? = some (.sc (.string (xs.getD k default).key)):=(flat_cell needCells_len xs k 0 h (by decide):_)
theorem needsD_f1 (xs:List NeedD) (k:Nat) (h:k < xs.length):(needsD xs)[k*3+1]? = some (.sc (.int .i64 (xs.getD k default).op)):=flat_cell needCells_len xs k 1 h (by decide)
theorem needsD_f2 (xs:List NeedD) (k:Nat) (h:k < xs.length):(needsD xs)[k*3+2]? = some (.sl (xs.getD k default).values.length (strsD (xs.getD k default).values)):=flat_cell needCells_len xs k 2 h (by decide)
structure TaintD where
  key:ByteArray
  value:ByteArray
  effect:Int
instance:Inhabited TaintD:=⟨⟨⟨#[]⟩,⟨#[]⟩,0⟩⟩
def taintCells (x:TaintD):List D:= [.sc (.string x.key),.sc (.string x.value),.sc (.int .i64 x.effect)]
def taintsD (xs:List TaintD):List D:=flatD taintCells xs
theorem taintCells_len (x:TaintD):(taintCells x).length=3:=rfl
theorem taintCells_rp (x:TaintD):(taintCells x).all D.rp=true:=rfl
theorem taintsD_len (xs:List TaintD):(taintsD xs).length=xs.length*3:=flat_len taintCells_len xs
theorem taintsD_rp (xs:List TaintD):(taintsD xs).all D.rp=true:=flat_rp taintCells_rp xs
theorem taintsD_in (p:Nat→Bool) (xs:List TaintD):(taintsD xs).all (D.in1 p)=true:=rps_in (taintsD_rp xs) p
theorem taintsD_ren (f:Nat→Nat) (xs:List TaintD):(taintsD xs).map (D.ren1 f)=taintsD xs:=rps_ren (taintsD_rp xs) f
theorem taintsD_frz (i:Nat) (x:Ob) (xs:List TaintD):(taintsD xs).map (D.frz1 i x)=taintsD xs:=rps_frz (taintsD_rp xs) i x
theorem taintsD_lt (k:Nat) (xs:List TaintD):(taintsD xs).all (D.lt1 k)=true:=rps_lt (taintsD_rp xs) k
theorem taintsD_nil:taintsD [] = []:=rfl
theorem taintsD_takeN (xs:List TaintD) (k:Nat) (h:xs.length*3≤k):(taintsD xs).take k=taintsD xs:=List.take_of_length_le (by rw [taintsD_len];exact h)
theorem taintsD_snoc (xs:List TaintD) (x:TaintD):taintsD xs ++ [.sc (.string x.key),.sc (.string x.value),.sc (.int .i64 x.effect)]=taintsD (xs ++ [x]):=(flat_snoc xs x).symm
theorem taintsD_part (xs:List TaintD) (k:Nat) (h:k < xs.length):((taintsD xs).drop (k*3)).take 3 = [.sc (.string (xs.getD k default).key),.sc (.string (xs.getD k default).value),.sc (.int .i64 (xs.getD k default).effect)]:=flat_part taintCells_len xs k h
theorem taintsD_f0 (xs:List TaintD) (k:Nat) (h:k < xs.length):(taintsD xs)[k*3]? = some (.sc (.string (xs.getD k default).key)):=(flat_cell taintCells_len xs k 0 h (by decide):_)
theorem taintsD_f1 (xs:List TaintD) (k:Nat) (h:k < xs.length):(taintsD xs)[k*3+1]? = some (.sc (.string (xs.getD k default).value)):=flat_cell taintCells_len xs k 1 h (by decide)
theorem taintsD_f2 (xs:List TaintD) (k:Nat) (h:k < xs.length):(taintsD xs)[k*3+2]? = some (.sc (.int .i64 (xs.getD k default).effect)):=flat_cell taintCells_len xs k 2 h (by decide)
structure TolerD where
  key:ByteArray
  equal:Bool
  value:ByteArray
  effect:Int
instance:Inhabited TolerD:=⟨⟨⟨#[]⟩,false,⟨#[]⟩,0⟩⟩
def tolerCells (x:TolerD):List D:= [.sc (.string x.key),.sc (.bool x.equal),.sc (.string x.value),.sc (.int .i64 x.effect)]
def tolersD (xs:List TolerD):List D:=flatD tolerCells xs
theorem tolerCells_len (x:TolerD):(tolerCells x).length=4:=rfl
theorem tolerCells_rp (x:TolerD):(tolerCells x).all D.rp=true:=rfl
theorem tolersD_len (xs:List TolerD):(tolersD xs).length=xs.length*4:=flat_len tolerCells_len xs
theorem tolersD_rp (xs:List TolerD):(tolersD xs).all D.rp=true:=flat_rp tolerCells_rp xs
theorem tolersD_in (p:Nat→Bool) (xs:List TolerD):(tolersD xs).all (D.in1 p)=true:=rps_in (tolersD_rp xs) p
theorem tolersD_ren (f:Nat→Nat) (xs:List TolerD):(tolersD xs).map (D.ren1 f)=tolersD xs:=rps_ren (tolersD_rp xs) f
theorem tolersD_frz (i:Nat) (x:Ob) (xs:List TolerD):(tolersD xs).map (D.frz1 i x)=tolersD xs:=rps_frz (tolersD_rp xs) i x
theorem tolersD_lt (k:Nat) (xs:List TolerD):(tolersD xs).all (D.lt1 k)=true:=rps_lt (tolersD_rp xs) k
theorem tolersD_nil:tolersD [] = []:=rfl
theorem tolersD_takeN (xs:List TolerD) (k:Nat) (h:xs.length*4≤k):(tolersD xs).take k=tolersD xs:=List.take_of_length_le (by rw [tolersD_len];exact h)
theorem tolersD_snoc (xs:List TolerD) (x:TolerD):tolersD xs ++ [.sc (.string x.key),.sc (.bool x.equal),.sc (.string x.value),.sc (.int .i64 x.effect)]=tolersD (xs ++ [x]):=(flat_snoc xs x).symm
theorem tolersD_part (xs:List TolerD) (k:Nat) (h:k < xs.length):((tolersD xs).drop (k*4)).take 4 = [.sc (.string (xs.getD k default).key),.sc (.bool (xs.getD k default).equal),.sc (.string (xs.getD k default).value),.sc (.int .i64 (xs.getD k default).effect)]:=flat_part tolerCells_len xs k h
theorem tolersD_f0 (xs:List TolerD) (k:Nat) (h:k < xs.length):(tolersD xs)[k*4]? = some (.sc (.string (xs.getD k default).key)):=(flat_cell tolerCells_len xs k 0 h (by decide):_)
theorem tolersD_f1 (xs:List TolerD) (k:Nat) (h:k < xs.length):(tolersD xs)[k*4+1]? = some (.sc (.bool (xs.getD k default).equal)):=flat_cell tolerCells_len xs k 1 h (by decide)
theorem tolersD_f2 (xs:List TolerD) (k:Nat) (h:k < xs.length):(tolersD xs)[k*4+2]? = some (.sc (.string (xs.getD k default).value)):=flat_cell tolerCells_len xs k 2 h (by decide)
theorem tolersD_f3 (xs:List TolerD) (k:Nat) (h:k < xs.length):(tolersD xs)[k*4+3]? = some (.sc (.int .i64 (xs.getD k default).effect)):=flat_cell tolerCells_len xs k 3 h (by decide)
structure PodD where
  name:ByteArray
  labels:List LabelD
  cpu:Int
  mem:Int
  rank:Int
  needs:List NeedD
  tolers:List TolerD
instance:Inhabited PodD:=⟨⟨⟨#[]⟩, [],0,0,0, [], []⟩⟩
def podCells (x:PodD):List D:= [.sc (.string x.name),.sl x.labels.length (labelsD x.labels),.sc (.int .i64 x.cpu),.sc (.int .i64 x.mem),.sc (.int .i64 x.rank),.sl x.needs.length (needsD x.needs),.sl x.tolers.length (tolersD x.tolers)]
def podsD (xs:List PodD):List D:=flatD podCells xs
theorem podCells_len (x:PodD):(podCells x).length=7:=rfl
theorem podCells_rp (x:PodD):(podCells x).all D.rp=true:=rfl
theorem podsD_len (xs:List PodD):(podsD xs).length=xs.length*7:=flat_len podCells_len xs
theorem podsD_rp (xs:List PodD):(podsD xs).all D.rp=true:=flat_rp podCells_rp xs
theorem podsD_in (p:Nat→Bool) (xs:List PodD):(podsD xs).all (D.in1 p)=true:=rps_in (podsD_rp xs) p
theorem podsD_ren (f:Nat→Nat) (xs:List PodD):(podsD xs).map (D.ren1 f)=podsD xs:=rps_ren (podsD_rp xs) f
theorem podsD_frz (i:Nat) (x:Ob) (xs:List PodD):(podsD xs).map (D.frz1 i x)=podsD xs:=rps_frz (podsD_rp xs) i x
theorem podsD_lt (k:Nat) (xs:List PodD):(podsD xs).all (D.lt1 k)=true:=rps_lt (podsD_rp xs) k
theorem podsD_nil:podsD [] = []:=rfl
theorem podsD_part (xs:List PodD) (k:Nat) (h:k < xs.length):((podsD xs).drop (k*7)).take 7 = [.sc (.string (xs.getD k default).name),.sl (xs.getD k default).labels.length (labelsD (xs.getD k default).labels),.sc (.int .i64 (xs.getD k default).cpu),.sc (.int .i64 (xs.getD k default).mem),.sc (.int .i64 (xs.getD k default).rank),.sl (xs.getD k default).needs.length (needsD (xs.getD k default).needs),.sl (xs.getD k default).tolers.length (tolersD (xs.getD k default).tolers)]:=flat_part podCells_len xs k h
theorem podsD_f0 (xs:List PodD) (k:Nat) (h:k < xs.length):(podsD xs)[k*7]? = some (.sc (.string (xs.getD k default).name)):=(flat_cell podCells_len xs k 0 h (by decide):_)
theorem podsD_f1 (xs:List PodD) (k:Nat) (h:k < xs.length):(podsD xs)[k*7+1]? = some (.sl (xs.getD k default).labels.length (labelsD (xs.getD k default).labels)):=flat_cell podCells_len xs k 1 h (by decide)
theorem podsD_f2 (xs:List PodD) (k:Nat) (h:k < xs.length):(podsD xs)[k*7+2]? = some (.sc (.int .i64 (xs.getD k default).cpu)):=flat_cell podCells_len xs k 2 h (by decide)
theorem podsD_f3 (xs:List PodD) (k:Nat) (h:k < xs.length):(podsD xs)[k*7+3]? = some (.sc (.int .i64 (xs.getD k default).mem)):=flat_cell podCells_len xs k 3 h (by decide)
theorem podsD_f4 (xs:List PodD) (k:Nat) (h:k < xs.length):(podsD xs)[k*7+4]? = some (.sc (.int .i64 (xs.getD k default).rank)):=flat_cell podCells_len xs k 4 h (by decide)
theorem podsD_f5 (xs:List PodD) (k:Nat) (h:k < xs.length):(podsD xs)[k*7+5]? = some (.sl (xs.getD k default).needs.length (needsD (xs.getD k default).needs)):=flat_cell podCells_len xs k 5 h (by decide)
theorem podsD_f6 (xs:List PodD) (k:Nat) (h:k < xs.length):(podsD xs)[k*7+6]? = some (.sl (xs.getD k default).tolers.length (tolersD (xs.getD k default).tolers)):=flat_cell podCells_len xs k 6 h (by decide)
structure HostD where
  name:ByteArray
  labels:List LabelD
  cpu:Int
  mem:Int
  slots:Int
  taints:List TaintD
instance:Inhabited HostD:=⟨⟨⟨#[]⟩, [],0,0,0, []⟩⟩
def hostCells (x:HostD):List D:= [.sc (.string x.name),.sl x.labels.length (labelsD x.labels),.sc (.int .i64 x.cpu),.sc (.int .i64 x.mem),.sc (.int .i64 x.slots),.sl x.taints.length (taintsD x.taints)]
def hostsD (xs:List HostD):List D:=flatD hostCells xs
theorem hostCells_len (x:HostD):(hostCells x).length=6:=rfl
theorem hostCells_rp (x:HostD):(hostCells x).all D.rp=true:=rfl
theorem hostsD_len (xs:List HostD):(hostsD xs).length=xs.length*6:=flat_len hostCells_len xs
theorem hostsD_rp (xs:List HostD):(hostsD xs).all D.rp=true:=flat_rp hostCells_rp xs
theorem hostsD_in (p:Nat→Bool) (xs:List HostD):(hostsD xs).all (D.in1 p)=true:=rps_in (hostsD_rp xs) p
theorem hostsD_ren (f:Nat→Nat) (xs:List HostD):(hostsD xs).map (D.ren1 f)=hostsD xs:=rps_ren (hostsD_rp xs) f
theorem hostsD_frz (i:Nat) (x:Ob) (xs:List HostD):(hostsD xs).map (D.frz1 i x)=hostsD xs:=rps_frz (hostsD_rp xs) i x
theorem hostsD_lt (k:Nat) (xs:List HostD):(hostsD xs).all (D.lt1 k)=true:=rps_lt (hostsD_rp xs) k
theorem hostsD_nil:hostsD [] = []:=rfl
theorem hostsD_part (xs:List HostD) (k:Nat) (h:k < xs.length):((hostsD xs).drop (k*6)).take 6 = [.sc (.string (xs.getD k default).name),.sl (xs.getD k default).labels.length (labelsD (xs.getD k default).labels),.sc (.int .i64 (xs.getD k default).cpu),.sc (.int .i64 (xs.getD k default).mem),.sc (.int .i64 (xs.getD k default).slots),.sl (xs.getD k default).taints.length (taintsD (xs.getD k default).taints)]:=flat_part hostCells_len xs k h
theorem hostsD_f0 (xs:List HostD) (k:Nat) (h:k < xs.length):(hostsD xs)[k*6]? = some (.sc (.string (xs.getD k default).name)):=(flat_cell hostCells_len xs k 0 h (by decide):_)
theorem hostsD_f1 (xs:List HostD) (k:Nat) (h:k < xs.length):(hostsD xs)[k*6+1]? = some (.sl (xs.getD k default).labels.length (labelsD (xs.getD k default).labels)):=flat_cell hostCells_len xs k 1 h (by decide)
theorem hostsD_f2 (xs:List HostD) (k:Nat) (h:k < xs.length):(hostsD xs)[k*6+2]? = some (.sc (.int .i64 (xs.getD k default).cpu)):=flat_cell hostCells_len xs k 2 h (by decide)
theorem hostsD_f3 (xs:List HostD) (k:Nat) (h:k < xs.length):(hostsD xs)[k*6+3]? = some (.sc (.int .i64 (xs.getD k default).mem)):=flat_cell hostCells_len xs k 3 h (by decide)
theorem hostsD_f4 (xs:List HostD) (k:Nat) (h:k < xs.length):(hostsD xs)[k*6+4]? = some (.sc (.int .i64 (xs.getD k default).slots)):=flat_cell hostCells_len xs k 4 h (by decide)
theorem hostsD_f5 (xs:List HostD) (k:Nat) (h:k < xs.length):(hostsD xs)[k*6+5]? = some (.sl (xs.getD k default).taints.length (taintsD (xs.getD k default).taints)):=flat_cell hostCells_len xs k 5 h (by decide)
structure PlacedD where
  pod:PodD
  on:ByteArray
  seq:Int
instance:Inhabited PlacedD:=⟨⟨default,⟨#[]⟩,0⟩⟩
def placedCells (x:PlacedD):List D:= [.sc (.string x.pod.name),.sl x.pod.labels.length (labelsD x.pod.labels),.sc (.int .i64 x.pod.cpu),.sc (.int .i64 x.pod.mem),.sc (.int .i64 x.pod.rank),.sl x.pod.needs.length (needsD x.pod.needs),.sl x.pod.tolers.length (tolersD x.pod.tolers),.sc (.string x.on),.sc (.int .i64 x.seq)]
def placedsD (xs:List PlacedD):List D:=flatD placedCells xs
theorem placedCells_len (x:PlacedD):(placedCells x).length=9:=rfl
theorem placedCells_rp (x:PlacedD):(placedCells x).all D.rp=true:=rfl
theorem placedsD_len (xs:List PlacedD):(placedsD xs).length=xs.length*9:=flat_len placedCells_len xs
theorem placedsD_rp (xs:List PlacedD):(placedsD xs).all D.rp=true:=flat_rp placedCells_rp xs
theorem placedsD_in (p:Nat→Bool) (xs:List PlacedD):(placedsD xs).all (D.in1 p)=true:=rps_in (placedsD_rp xs) p
theorem placedsD_ren (f:Nat→Nat) (xs:List PlacedD):(placedsD xs).map (D.ren1 f)=placedsD xs:=rps_ren (placedsD_rp xs) f
theorem placedsD_frz (i:Nat) (x:Ob) (xs:List PlacedD):(placedsD xs).map (D.frz1 i x)=placedsD xs:=rps_frz (placedsD_rp xs) i x
theorem placedsD_lt (k:Nat) (xs:List PlacedD):(placedsD xs).all (D.lt1 k)=true:=rps_lt (placedsD_rp xs) k
theorem placedsD_nil:placedsD [] = []:=rfl
theorem placedsD_part (xs:List PlacedD) (k:Nat) (h:k < xs.length):((placedsD xs).drop (k*9)).take 9 = [.sc (.string (xs.getD k default).pod.name),.sl (xs.getD k default).pod.labels.length (labelsD (xs.getD k default).pod.labels),.sc (.int .i64 (xs.getD k default).pod.cpu),.sc (.int .i64 (xs.getD k default).pod.mem),.sc (.int .i64 (xs.getD k default).pod.rank),.sl (xs.getD k default).pod.needs.length (needsD (xs.getD k default).pod.needs),.sl (xs.getD k default).pod.tolers.length (tolersD (xs.getD k default).pod.tolers),.sc (.string (xs.getD k default).on),.sc (.int .i64 (xs.getD k default).seq)]:=flat_part placedCells_len xs k h
theorem placedsD_f0 (xs:List PlacedD) (k:Nat) (h:k < xs.length):(placedsD xs)[k*9]? = some (.sc (.string (xs.getD k default).pod.name)):=(flat_cell placedCells_len xs k 0 h (by decide):_)
theorem placedsD_f1 (xs:List PlacedD) (k:Nat) (h:k < xs.length):(placedsD xs)[k*9+1]? = some (.sl (xs.getD k default).pod.labels.length (labelsD (xs.getD k default).pod.labels)):=flat_cell placedCells_len xs k 1 h (by decide)
theorem placedsD_f2 (xs:List PlacedD) (k:Nat) (h:k < xs.length):(placedsD xs)[k*9+2]? = some (.sc (.int .i64 (xs.getD k default).pod.cpu)):=flat_cell placedCells_len xs k 2 h (by decide)
theorem placedsD_f3 (xs:List PlacedD) (k:Nat) (h:k < xs.length):(placedsD xs)[k*9+3]? = some (.sc (.int .i64 (xs.getD k default).pod.mem)):=flat_cell placedCells_len xs k 3 h (by decide)
theorem placedsD_f4 (xs:List PlacedD) (k:Nat) (h:k < xs.length):(placedsD xs)[k*9+4]? = some (.sc (.int .i64 (xs.getD k default).pod.rank)):=flat_cell placedCells_len xs k 4 h (by decide)
theorem placedsD_f5 (xs:List PlacedD) (k:Nat) (h:k < xs.length):(placedsD xs)[k*9+5]? = some (.sl (xs.getD k default).pod.needs.length (needsD (xs.getD k default).pod.needs)):=flat_cell placedCells_len xs k 5 h (by decide)
theorem placedsD_f6 (xs:List PlacedD) (k:Nat) (h:k < xs.length):(placedsD xs)[k*9+6]? = some (.sl (xs.getD k default).pod.tolers.length (tolersD (xs.getD k default).pod.tolers)):=flat_cell placedCells_len xs k 6 h (by decide)
theorem placedsD_f7 (xs:List PlacedD) (k:Nat) (h:k < xs.length):(placedsD xs)[k*9+7]? = some (.sc (.string (xs.getD k default).on)):=flat_cell placedCells_len xs k 7 h (by decide)
theorem placedsD_f8 (xs:List PlacedD) (k:Nat) (h:k < xs.length):(placedsD xs)[k*9+8]? = some (.sc (.int .i64 (xs.getD k default).seq)):=flat_cell placedCells_len xs k 8 h (by decide)
structure FileD where
  name:ByteArray
  text:ByteArray
  synced:Int
instance:Inhabited FileD:=⟨⟨⟨#[]⟩,⟨#[]⟩,0⟩⟩
def fileCells (x:FileD):List D:= [.sc (.string x.name),.sc (.string x.text),.sc (.int .i64 x.synced)]
def filesD (xs:List FileD):List D:=flatD fileCells xs
theorem fileCells_len (x:FileD):(fileCells x).length=3:=rfl
theorem fileCells_rp (x:FileD):(fileCells x).all D.rp=true:=rfl
theorem filesD_len (xs:List FileD):(filesD xs).length=xs.length*3:=flat_len fileCells_len xs
theorem filesD_rp (xs:List FileD):(filesD xs).all D.rp=true:=flat_rp fileCells_rp xs
theorem filesD_in (p:Nat→Bool) (xs:List FileD):(filesD xs).all (D.in1 p)=true:=rps_in (filesD_rp xs) p
theorem filesD_ren (f:Nat→Nat) (xs:List FileD):(filesD xs).map (D.ren1 f)=filesD xs:=rps_ren (filesD_rp xs) f
theorem filesD_frz (i:Nat) (x:Ob) (xs:List FileD):(filesD xs).map (D.frz1 i x)=filesD xs:=rps_frz (filesD_rp xs) i x
theorem filesD_lt (k:Nat) (xs:List FileD):(filesD xs).all (D.lt1 k)=true:=rps_lt (filesD_rp xs) k
theorem filesD_nil:filesD [] = []:=rfl
theorem filesD_part (xs:List FileD) (k:Nat) (h:k < xs.length):((filesD xs).drop (k*3)).take 3 = [.sc (.string (xs.getD k default).name),.sc (.string (xs.getD k default).text),.sc (.int .i64 (xs.getD k default).synced)]:=flat_part fileCells_len xs k h
theorem filesD_f0 (xs:List FileD) (k:Nat) (h:k < xs.length):(filesD xs)[k*3]? = some (.sc (.string (xs.getD k default).name)):=(flat_cell fileCells_len xs k 0 h (by decide):_)
theorem filesD_f1 (xs:List FileD) (k:Nat) (h:k < xs.length):(filesD xs)[k*3+1]? = some (.sc (.string (xs.getD k default).text)):=flat_cell fileCells_len xs k 1 h (by decide)
theorem filesD_f2 (xs:List FileD) (k:Nat) (h:k < xs.length):(filesD xs)[k*3+2]? = some (.sc (.int .i64 (xs.getD k default).synced)):=flat_cell fileCells_len xs k 2 h (by decide)
structure ClusterD where
  hosts:List HostD
  pods:List PlacedD
  next:Int
  w1:Int
  w2:Int
  w3:Int
def ClusterD.d (c:ClusterD):D:=.agg [.sl c.hosts.length (hostsD c.hosts),.sl c.pods.length (placedsD c.pods),.sc (.int .i64 c.next),.sc (.int .i64 c.w1),.sc (.int .i64 c.w2),.sc (.int .i64 c.w3)]
end Go.Proofs.YtidjjfjhmlndjaaGreatDoor
namespace Go.Proofs.YtidjjfjhmlndjaaGreatDoor
open Go.RowKit
theorem placedsD_pod (xs:List PlacedD) (k:Nat) (h:k < xs.length):((placedsD xs).drop (k*9)).take 7=podCells (xs.getD k default).pod:=by
  have e:=placedsD_part xs k h
  have e2:(((placedsD xs).drop (k*9)).take 9).take 7=podCells (xs.getD k default).pod:=by rw [e];rfl
  rw [List.take_take] at e2
  exact e2
/-- Loops that go through a row and stop at the first that is wrong. -/
def allB (n:Nat) (p:Nat→Bool):Bool:=(List.range n).all p
theorem allB_no {n:Nat}{p:Nat→Bool}{i:Int} (h0:0≤i) (h:i < n) (hp:p i.toNat=false):allB n p=false:=by
  rw [Bool.eq_false_iff]
  intro ha
  have:=List.all_eq_true.1 ha i.toNat (List.mem_range.2 (by omega))
  rw [hp] at this
  cases this
theorem allB_yes {n:Nat}{p:Nat→Bool}{i:Int} (hi:(n:Int)≤i) (h:∀ k:Nat,(k:Int) < i→p k=true):allB n p=true:=
  List.all_eq_true.2 fun k hk=>h k (by have:=List.mem_range.1 hk;omega)
theorem allB_zero {p:Nat→Bool}:∀ k:Nat,(k:Int) < 0→p k=true:=fun k h=>by omega
theorem allB_step {p:Nat→Bool}{i:Int} (h0:0≤i) (h:∀ k:Nat,(k:Int) < i→p k=true) (hp:p i.toNat=true):∀ k:Nat,(k:Int) < i+1→p k=true:=by
  intro k hk
  by_cases e:k=i.toNat
  · subst e;exact hp
  · exact h k (by omega)
theorem allN_no {n k:Nat}{p:Nat→Bool} (h:k < n) (hp:p k=false):allB n p=false:=allB_no (i:=(k:Int)) (by omega) (by omega) (by simpa using hp)
theorem allN_yes {n k:Nat}{p:Nat→Bool} (hk:n≤k) (h:∀ j:Nat,j < k→p j=true):allB n p=true:=List.all_eq_true.2 fun j hj=>h j (by have:=List.mem_range.1 hj;omega)
theorem allN_zero {p:Nat→Bool}:∀ j:Nat,j < 0→p j=true:=fun j h=>by omega
theorem allN_step {p:Nat→Bool}{k:Nat} (h:∀ j:Nat,j < k→p j=true) (hp:p k=true):∀ j:Nat,j < k+1→p j=true:=by
  intro j hj
  by_cases e:j=k
  · subst e;exact hp
  · exact h j (by omega)
/-- Is there one? -/
def anyN (n:Nat) (p:Nat→Bool):Bool:=(List.range n).any p
theorem anyN_zero (p:Nat→Bool):anyN 0 p=false:=rfl
theorem anyN_succ (n:Nat) (p:Nat→Bool):anyN (n+1) p=(anyN n p||p n):=by simp [anyN,List.range_succ,List.any_append]
def bytB (t:ByteArray) (k:Nat):Int:=((t.data.getD k 0).toNat:Int)
def letterB (x:Int):Bool:=((decide (97≤x)&&decide (x≤122))||(decide (65≤x)&&decide (x≤90)))||(decide (48≤x)&&decide (x≤57))
def amongB (x:Int) (others:ByteArray):Bool:=anyN others.size fun j=>x==bytB others j
def wordB (s others:ByteArray):Bool:=decide (s.size≠0)&&(letterB (bytB s 0)&&(letterB (bytB s (s.size - 1))&&allB s.size fun k=>letterB (bytB s k)||amongB (bytB s k) others))
def keyB (s:ByteArray):Bool:=decide (s.size≤30)&&wordB s ⟨#[45,95,46,47]⟩
def eqB (a b:ByteArray):Bool:=a.toList==b.toList
theorem eqB_fold (a b:ByteArray):(a.toList==b.toList)=eqB a b:=rfl
abbrev emptyB (s:ByteArray):Bool:=eqB s ⟨#[]⟩
def valueB (s:ByteArray):Bool:=emptyB s||(decide (s.size≤20)&&wordB s ⟨#[45,95,46]⟩)
/-- a comes before b. -/
def lessB (a b:ByteArray):Bool:=Op.bytesLess a.toList b.toList
theorem lessB_fold (a b:ByteArray):Op.bytesLess a.toList b.toList=lessB a b:=rfl
/-- Each but the first comes behind the one ahead of it. -/
def nextB {α:Type} [Inhabited α] (less:α→α→Bool) (xs:List α) (i:Nat):Bool:=!decide (0 < i)||less (xs.getD (i - 1) default) (xs.getD i default)
def inB (x low high:Int):Bool:=decide (low≤x)&&decide (x≤high)
def labelsB (ls:List LabelD):Bool:=decide (ls.length≤6)&&allB ls.length fun i=>keyB (ls.getD i default).key&&(valueB (ls.getD i default).value&&nextB (fun a b=>lessB a.key b.key) ls i)
def needB (n:NeedD):Bool:=keyB n.key&&(inB n.op 1 4&&if 3≤n.op then ((n.values.length:Int)==0) else (inB n.values.length 1 4&&allB n.values.length fun i=>valueB (n.values.getD i default)&&nextB lessB n.values i))
def taintB (t:TaintD):Bool:=keyB t.key&&(valueB t.value&&inB t.effect 1 2)
def taintLess (a b:TaintD):Bool:=if eqB a.key b.key then (if eqB a.value b.value then decide (a.effect < b.effect) else lessB a.value b.value) else lessB a.key b.key
def taintsB (ts:List TaintD):Bool:=decide (ts.length≤4)&&allB ts.length fun i=>taintB (ts.getD i default)&&nextB taintLess ts i
def tolerB (t:TolerD):Bool:=inB t.effect 0 2&&if t.equal then (keyB t.key&&valueB t.value) else (emptyB t.value&&(emptyB t.key||keyB t.key))
def tolerLess (a b:TolerD):Bool:=if eqB a.key b.key then (if a.equal==b.equal then (if eqB a.value b.value then decide (a.effect < b.effect) else lessB a.value b.value) else b.equal) else lessB a.key b.key
def tolersB (ts:List TolerD):Bool:=decide (ts.length≤4)&&allB ts.length fun i=>tolerB (ts.getD i default)&&nextB tolerLess ts i
def valsLess:List ByteArray→List ByteArray→Bool
  | [], []=>false
  | [],_::_=>true
  |_::_, []=>false
  |x::r,y::q=>if eqB x y then valsLess r q else lessB x y
theorem valsLess_at:∀ {a b:List ByteArray}{k:Nat},k < a.length→k < b.length→valsLess (a.drop k) (b.drop k)=if eqB (a.getD k default) (b.getD k default) then valsLess (a.drop (k+1)) (b.drop (k+1)) else lessB (a.getD k default) (b.getD k default):=by
  intro a b k ha hb
  rw [List.drop_eq_getElem_cons ha,List.drop_eq_getElem_cons hb]
  simp [valsLess,ha,hb]
theorem valsLess_end:∀ {a b:List ByteArray}{k:Nat},k≤a.length→k≤b.length→(a.length≤k∨b.length≤k)→valsLess (a.drop k) (b.drop k)=decide (a.length < b.length):=by
  intro a b k ha hb h
  rcases Nat.lt_or_ge k a.length with h1|h1
  · rw [List.drop_of_length_le (show b.length≤k by omega),List.drop_eq_getElem_cons h1]
    simp [valsLess]<;>omega
  · rw [List.drop_of_length_le h1]
    rcases Nat.lt_or_ge k b.length with h2|h2
    · rw [List.drop_eq_getElem_cons h2]
      simp [valsLess]<;>omega
    · rw [List.drop_of_length_le h2]
      simp [valsLess]<;>omega
def needLess (a b:NeedD):Bool:=if eqB a.key b.key then (if a.op==b.op then valsLess a.values b.values else decide (a.op < b.op)) else lessB a.key b.key
def needsB (ns:List NeedD):Bool:=decide (ns.length≤4)&&allB ns.length fun i=>needB (ns.getD i default)&&nextB needLess ns i
def nmB (s:ByteArray):Bool:=inB s.size 1 20&&(decide (bytB s 0≠45)&&(decide (bytB s (s.size - 1)≠45)&&allB s.size fun k=>(letterB (bytB s k)&&!(decide (65≤bytB s k)&&decide (bytB s k≤90)))||decide (bytB s k=45)))
def podB (p:PodD):Bool:=nmB p.name&&(labelsB p.labels&&(needsB p.needs&&(tolersB p.tolers&&(decide (0≤p.cpu)&&(decide (0≤p.mem)&&inB p.rank 0 1000)))))
def hostB (h:HostD):Bool:=nmB h.name&&(labelsB h.labels&&(taintsB h.taints&&(decide (0≤h.cpu)&&(decide (0≤h.mem)&&inB h.slots 1 20))))
/-- The first number at which p holds; -1: none. -/
def firstN (n:Nat) (p:Nat→Bool):Int:=match (List.range n).find? p with|some k=>(k:Int)|none=>-1
theorem firstN_hit {n k:Nat}{p:Nat→Bool} (h:k < n) (hp:p k=true) (hj:∀ j:Nat,j < k→(!p j)=true):firstN n p=(k:Int):=by
  unfold firstN
  rw [(List.find?_range_eq_some).2 ⟨hp,List.mem_range.2 h,fun j h=>by simpa using hj j h⟩]
theorem firstN_none {n k:Nat}{p:Nat→Bool} (h:n≤k) (hj:∀ j:Nat,j < k→(!p j)=true):firstN n p=-1:=by
  unfold firstN
  rw [(List.find?_range_eq_none).2 fun j h2=>by simpa using hj j (by omega)]
theorem firstN_rng (n:Nat) (p:Nat→Bool):-1≤firstN n p∧firstN n p < n∧(0≤firstN n p→p (firstN n p).toNat=true):=by
  unfold firstN
  cases h:(List.range n).find? p with
  |none=>exact ⟨by simp,by simp<;>omega,fun h=>by simp at h⟩
  |some k=>
    have h2:=List.find?_some h
    have h3:=List.mem_range.1 (List.mem_of_find?_eq_some h)
    exact ⟨by simp<;>omega,by simp<;>omega,fun _=>by simpa using h2⟩
theorem take_snoc {α:Type} [Inhabited α] (xs:List α) (k:Nat) (h:k < xs.length):xs.take (k+1)=xs.take k ++ [xs.getD k default]:=by
  rw [List.take_add_one,List.getElem?_eq_getElem h]
  simp [h]
theorem takeMap_snoc {α β:Type} [Inhabited α] (f:α→β) (xs:List α) (k:Nat) (h:k < xs.length):(xs.take k).map f ++ [f (xs.getD k default)]=(xs.take (k+1)).map f:=by rw [take_snoc xs k h];simp
theorem getD_of {α:Type} [Inhabited α] {xs:List α}{P:α→Prop} (h0:P default) (h:∀ x,x ∈ xs→P x) (j:Nat):P (xs.getD j default):=by
  rw [List.getD_eq_getElem?_getD]
  cases e:xs[j]? with
  |none=>exact h0
  |some x=>exact h x (List.mem_of_getElem? e)
abbrev strOk (s:ByteArray):Prop:=s.size≤1048576
abbrev intOk (n:Int):Prop:=-9223372036854775808≤n∧n≤9223372036854775807
structure labelsFine (ls:List LabelD):Prop where
  len:ls.length≤1048576
  key:∀ k,strOk (ls.getD k default).key
  value:∀ k,strOk (ls.getD k default).value
structure NeedD.fine (n:NeedD):Prop where
  key:strOk n.key
  op:intOk n.op
  len:n.values.length≤1048576
  value:∀ k,strOk (n.values.getD k default)
structure TaintD.fine (t:TaintD):Prop where
  key:strOk t.key
  value:strOk t.value
  effect:intOk t.effect
structure TolerD.fine (t:TolerD):Prop where
  key:strOk t.key
  value:strOk t.value
  effect:intOk t.effect
structure PodD.fine (p:PodD):Prop where
  name:strOk p.name
  labels:labelsFine p.labels
  cpu:intOk p.cpu
  mem:intOk p.mem
  rank:intOk p.rank
  nlen:p.needs.length≤1048576
  need:∀ k,(p.needs.getD k default).fine
  tlen:p.tolers.length≤1048576
  toler:∀ k,(p.tolers.getD k default).fine
structure HostD.fine (p:HostD):Prop where
  name:strOk p.name
  labels:labelsFine p.labels
  cpu:intOk p.cpu
  mem:intOk p.mem
  slots:intOk p.slots
  tlen:p.taints.length≤1048576
  taint:∀ k,(p.taints.getD k default).fine
structure ClusterD.fine (c:ClusterD):Prop where
  hlen:c.hosts.length≤1048576
  host:∀ k,(c.hosts.getD k default).fine
  plen:c.pods.length≤1048576
  pod:∀ k,(c.pods.getD k default).pod.fine
  on:∀ k,strOk (c.pods.getD k default).on
  seq:∀ k,intOk (c.pods.getD k default).seq
  next:intOk c.next
end Go.Proofs.YtidjjfjhmlndjaaGreatDoor
namespace Go.Proofs.YtidjjfjhmlndjaaGreatDoor
open Go.RowKit
theorem tp_in1 {c:D} (h:c.tp=true) (p:Nat→Bool):D.in1 p c=true:=by cases c<;>first|rfl|cases h
theorem tp_ren1 {c:D} (h:c.tp=true) (f:Nat→Nat):D.ren1 f c=c:=by cases c<;>first|rfl|cases h
theorem tp_frz1 {c:D} (h:c.tp=true) (i:Nat) (x:Ob):D.frz1 i x c=c:=by cases c<;>first|rfl|cases h
theorem tp_lt1 {c:D} (h:c.tp=true) (n:Nat):D.lt1 n c=true:=by cases c<;>first|rfl|cases h
theorem tp_abs1 {c:D} (h:c.tp=true) (i:Nat) (x:Ob):D.abs1 i x c=c:=by cases c<;>first|rfl|cases h
theorem all_to {p q:D→Bool}{cs:List D} (h:cs.all p=true) (hq:∀ d,p d=true→q d=true):cs.all q=true:=List.all_eq_true.2 fun d hd=>hq d (List.all_eq_true.1 h d hd)
theorem map_same {p:D→Bool}{cs:List D}{f:D→D} (h:cs.all p=true) (hf:∀ d,p d=true→f d=d):cs.map f=cs:=by
  have:cs.map f=cs.map id:=List.map_congr_left fun d hd=>hf d (List.all_eq_true.1 h d hd)
  rw [this,List.map_id]
theorem tps_in {cs:List D} (h:cs.all D.tp=true) (p:Nat→Bool):cs.all (D.in1 p)=true:=all_to h fun _ h=>tp_in1 h p
theorem tps_lt {cs:List D} (h:cs.all D.tp=true) (n:Nat):cs.all (D.lt1 n)=true:=all_to h fun _ h=>tp_lt1 h n
theorem tps_ren {cs:List D} (h:cs.all D.tp=true) (f:Nat→Nat):cs.map (D.ren1 f)=cs:=map_same h fun _ h=>tp_ren1 h f
theorem tps_frz {cs:List D} (h:cs.all D.tp=true) (i:Nat) (x:Ob):cs.map (D.frz1 i x)=cs:=map_same h fun _ h=>tp_frz1 h i x
theorem tps_abs {cs:List D} (h:cs.all D.tp=true) (i:Nat) (x:Ob):cs.map (D.abs1 i x)=cs:=map_same h fun _ h=>tp_abs1 h i x
theorem own1_all {cs:List D} (h:cs.all D.tp=true) (i n k:Nat):own1 i n cs k=(k==1):=by
  have:=own1_tp (i:=i) (n:=n) h [] k
  rwa [List.append_nil] at this
theorem colds_nt {cs:List D} (h:cs.all D.nt=true):D.colds cs=cs:=by rw [colds_map];exact map_same h fun _ h=>cold_nt h
theorem flat_tp {α:Type}{cells:α→List D} (h1:∀ x,(cells x).all D.tp=true) (xs:List α):(flatD cells xs).all D.tp=true:=by
  unfold flatD
  refine List.all_eq_true.2 fun d hd=>?_
  obtain ⟨x,_,hx⟩:=List.mem_flatMap.1 hd
  exact List.all_eq_true.1 (h1 x) d hx
theorem flat_cold {α:Type}{cells cells':α→List D} (h:∀ x,D.colds (cells x)=cells' x):∀ xs:List α,D.colds (flatD cells xs)=flatD cells' xs
  | []=>colds_nil
  |x::r=>by
    show D.colds (cells x++flatD cells r)=cells' x++flatD cells' r
    rw [colds_app,h x,flat_cold h r]
theorem strsD_tp (xs:List ByteArray):(strsD xs).all D.tp=true:=by simp [strsD,D.tp]
theorem strsD_nt (xs:List ByteArray):(strsD xs).all D.nt=true:=by simp [strsD,D.nt]
theorem intsD_tp (xs:List Int):(intsD xs).all D.tp=true:=by simp [intsD,D.tp]
theorem intsD_nt (xs:List Int):(intsD xs).all D.nt=true:=by simp [intsD,D.nt]
theorem u8D_tp (xs:List Int):(u8D xs).all D.tp=true:=by simp [u8D,D.tp]
theorem u8D_nt (xs:List Int):(u8D xs).all D.nt=true:=by simp [u8D,D.nt]
theorem rps_nt {cs:List D} (h:cs.all D.rp=true):cs.all D.nt=true:=all_to h fun d h=>by cases d<;>first|rfl|cases h
theorem labelsD_one (xs:List LabelD) (ke0:ByteArray) (va1:ByteArray):labelsD xs ++ [.sc (.string ke0),.sc (.string va1)]=labelsD (xs ++ [⟨ke0,va1⟩]):=(flat_snoc xs (⟨ke0,va1⟩:LabelD)).symm
theorem labelsD_tp (xs:List LabelD):(labelsD xs).all D.tp=true:=flat_tp (fun _=>rfl) xs
theorem filesD_one (xs:List FileD) (na0:ByteArray) (te1:ByteArray) (sy2:Int):filesD xs ++ [.sc (.string na0),.sc (.string te1),.sc (.int .i64 sy2)]=filesD (xs ++ [⟨na0,te1,sy2⟩]):=(flat_snoc xs (⟨na0,te1,sy2⟩:FileD)).symm
theorem filesD_tp (xs:List FileD):(filesD xs).all D.tp=true:=flat_tp (fun _=>rfl) xs
theorem taintsD_one (xs:List TaintD) (ke0:ByteArray) (va1:ByteArray) (ef2:Int):taintsD xs ++ [.sc (.string ke0),.sc (.string va1),.sc (.int .i64 ef2)]=taintsD (xs ++ [⟨ke0,va1,ef2⟩]):=(flat_snoc xs (⟨ke0,va1,ef2⟩:TaintD)).symm
theorem taintsD_tp (xs:List TaintD):(taintsD xs).all D.tp=true:=flat_tp (fun _=>rfl) xs
theorem tolersD_one (xs:List TolerD) (ke0:ByteArray) (eq1:Bool) (va2:ByteArray) (ef3:Int):tolersD xs ++ [.sc (.string ke0),.sc (.bool eq1),.sc (.string va2),.sc (.int .i64 ef3)]=tolersD (xs ++ [⟨ke0,eq1,va2,ef3⟩]):=(flat_snoc xs (⟨ke0,eq1,va2,ef3⟩:TolerD)).symm
theorem tolersD_tp (xs:List TolerD):(tolersD xs).all D.tp=true:=flat_tp (fun _=>rfl) xs
theorem needsD_one (xs:List NeedD) (ke0:ByteArray) (op1:Int) (va2:List ByteArray):needsD xs ++ [.sc (.string ke0),.sc (.int .i64 op1),.sl va2.length (strsD va2)]=needsD (xs ++ [⟨ke0,op1,va2⟩]):=(flat_snoc xs (⟨ke0,op1,va2⟩:NeedD)).symm
theorem needsD_nt (xs:List NeedD):(needsD xs).all D.nt=true:=rps_nt (needsD_rp xs)
def needCellsT (x:NeedD):List D:= [.sc (.string x.key),.sc (.int .i64 x.op),.tr 9 1 x.values.length (strsD x.values)]
def needsT (xs:List NeedD):List D:=flatD needCellsT xs
theorem needCellsT_len (x:NeedD):(needCellsT x).length=3:=rfl
theorem needsT_len (xs:List NeedD):(needsT xs).length=xs.length*3:=flat_len needCellsT_len xs
theorem needsT_nil:needsT [] = []:=rfl
theorem needsT_cold (xs:List NeedD):D.colds (needsT xs)=needsD xs:=flat_cold (cells':=needCells) (fun x=>by simp [needCellsT,needCells,colds_cons,colds_nil,cold_sc,cold_tr,colds_nt (strsD_nt _)]) xs
theorem needsT_f0 (xs:List NeedD) (k:Nat) (h:k < xs.length):(needsT xs)[k*3]? = some (.sc (.string (xs.getD k default).key)):=(flat_cell needCellsT_len xs k 0 h (by decide):_)
theorem needsT_f1 (xs:List NeedD) (k:Nat) (h:k < xs.length):(needsT xs)[k*3+1]? = some (.sc (.int .i64 (xs.getD k default).op)):=(flat_cell needCellsT_len xs k 1 h (by decide):_)
theorem needsT_f2 (xs:List NeedD) (k:Nat) (h:k < xs.length):(needsT xs)[k*3+2]? = some (.tr 9 1 (xs.getD k default).values.length (strsD (xs.getD k default).values)):=(flat_cell needCellsT_len xs k 2 h (by decide):_)
theorem needsT_one (xs:List NeedD) (ke0:ByteArray) (op1:Int) (va2:List ByteArray):needsT xs ++ [.sc (.string ke0),.sc (.int .i64 op1),.tr 9 1 va2.length (strsD va2)]=needsT (xs ++ [⟨ke0,op1,va2⟩]):=(flat_snoc xs (⟨ke0,op1,va2⟩:NeedD)).symm
theorem needsT_tp (xs:List NeedD):(needsT xs).all D.tp=true:=flat_tp (fun _=>rfl) xs
theorem hostsD_one (xs:List HostD) (na0:ByteArray) (la1:List LabelD) (cp2:Int) (me3:Int) (sl4:Int) (ta5:List TaintD):hostsD xs ++ [.sc (.string na0),.sl la1.length (labelsD la1),.sc (.int .i64 cp2),.sc (.int .i64 me3),.sc (.int .i64 sl4),.sl ta5.length (taintsD ta5)]=hostsD (xs ++ [⟨na0,la1,cp2,me3,sl4,ta5⟩]):=(flat_snoc xs (⟨na0,la1,cp2,me3,sl4,ta5⟩:HostD)).symm
theorem hostsD_nt (xs:List HostD):(hostsD xs).all D.nt=true:=rps_nt (hostsD_rp xs)
def hostCellsT (x:HostD):List D:= [.sc (.string x.name),.tr 217 2 x.labels.length (labelsD x.labels),.sc (.int .i64 x.cpu),.sc (.int .i64 x.mem),.sc (.int .i64 x.slots),.tr 118 3 x.taints.length (taintsD x.taints)]
def hostsT (xs:List HostD):List D:=flatD hostCellsT xs
theorem hostCellsT_len (x:HostD):(hostCellsT x).length=6:=rfl
theorem hostsT_len (xs:List HostD):(hostsT xs).length=xs.length*6:=flat_len hostCellsT_len xs
theorem hostsT_nil:hostsT [] = []:=rfl
theorem hostsT_cold (xs:List HostD):D.colds (hostsT xs)=hostsD xs:=flat_cold (cells':=hostCells) (fun x=>by simp [hostCellsT,hostCells,colds_cons,colds_nil,cold_sc,cold_tr,colds_nt (rps_nt (labelsD_rp _)),colds_nt (rps_nt (taintsD_rp _))]) xs
theorem hostsT_f0 (xs:List HostD) (k:Nat) (h:k < xs.length):(hostsT xs)[k*6]? = some (.sc (.string (xs.getD k default).name)):=(flat_cell hostCellsT_len xs k 0 h (by decide):_)
theorem hostsT_f1 (xs:List HostD) (k:Nat) (h:k < xs.length):(hostsT xs)[k*6+1]? = some (.tr 217 2 (xs.getD k default).labels.length (labelsD (xs.getD k default).labels)):=(flat_cell hostCellsT_len xs k 1 h (by decide):_)
theorem hostsT_f2 (xs:List HostD) (k:Nat) (h:k < xs.length):(hostsT xs)[k*6+2]? = some (.sc (.int .i64 (xs.getD k default).cpu)):=(flat_cell hostCellsT_len xs k 2 h (by decide):_)
theorem hostsT_f3 (xs:List HostD) (k:Nat) (h:k < xs.length):(hostsT xs)[k*6+3]? = some (.sc (.int .i64 (xs.getD k default).mem)):=(flat_cell hostCellsT_len xs k 3 h (by decide):_)
theorem hostsT_f4 (xs:List HostD) (k:Nat) (h:k < xs.length):(hostsT xs)[k*6+4]? = some (.sc (.int .i64 (xs.getD k default).slots)):=(flat_cell hostCellsT_len xs k 4 h (by decide):_)
theorem hostsT_f5 (xs:List HostD) (k:Nat) (h:k < xs.length):(hostsT xs)[k*6+5]? = some (.tr 118 3 (xs.getD k default).taints.length (taintsD (xs.getD k default).taints)):=(flat_cell hostCellsT_len xs k 5 h (by decide):_)
theorem hostsT_one (xs:List HostD) (na0:ByteArray) (la1:List LabelD) (cp2:Int) (me3:Int) (sl4:Int) (ta5:List TaintD):hostsT xs ++ [.sc (.string na0),.tr 217 2 la1.length (labelsD la1),.sc (.int .i64 cp2),.sc (.int .i64 me3),.sc (.int .i64 sl4),.tr 118 3 ta5.length (taintsD ta5)]=hostsT (xs ++ [⟨na0,la1,cp2,me3,sl4,ta5⟩]):=(flat_snoc xs (⟨na0,la1,cp2,me3,sl4,ta5⟩:HostD)).symm
theorem hostsT_tp (xs:List HostD):(hostsT xs).all D.tp=true:=flat_tp (fun _=>rfl) xs
theorem placedsD_one (xs:List PlacedD) (na0:ByteArray) (la1:List LabelD) (cp2:Int) (me3:Int) (ra4:Int) (ne5:List NeedD) (to6:List TolerD) (on7:ByteArray) (se8:Int):placedsD xs ++ [.sc (.string na0),.sl la1.length (labelsD la1),.sc (.int .i64 cp2),.sc (.int .i64 me3),.sc (.int .i64 ra4),.sl ne5.length (needsD ne5),.sl to6.length (tolersD to6),.sc (.string on7),.sc (.int .i64 se8)]=placedsD (xs ++ [⟨⟨na0,la1,cp2,me3,ra4,ne5,to6⟩,on7,se8⟩]):=(flat_snoc xs (⟨⟨na0,la1,cp2,me3,ra4,ne5,to6⟩,on7,se8⟩:PlacedD)).symm
theorem placedsD_nt (xs:List PlacedD):(placedsD xs).all D.nt=true:=rps_nt (placedsD_rp xs)
def placedCellsT (x:PlacedD):List D:= [.sc (.string x.pod.name),.tr 217 2 x.pod.labels.length (labelsD x.pod.labels),.sc (.int .i64 x.pod.cpu),.sc (.int .i64 x.pod.mem),.sc (.int .i64 x.pod.rank),.tr 103 3 x.pod.needs.length (needsT x.pod.needs),.tr 145 4 x.pod.tolers.length (tolersD x.pod.tolers),.sc (.string x.on),.sc (.int .i64 x.seq)]
def placedsT (xs:List PlacedD):List D:=flatD placedCellsT xs
theorem placedCellsT_len (x:PlacedD):(placedCellsT x).length=9:=rfl
theorem placedsT_len (xs:List PlacedD):(placedsT xs).length=xs.length*9:=flat_len placedCellsT_len xs
theorem placedsT_nil:placedsT [] = []:=rfl
theorem placedsT_cold (xs:List PlacedD):D.colds (placedsT xs)=placedsD xs:=flat_cold (cells':=placedCells) (fun x=>by simp [placedCellsT,placedCells,colds_cons,colds_nil,cold_sc,cold_tr,colds_nt (rps_nt (labelsD_rp _)),colds_nt (rps_nt (tolersD_rp _)),needsT_cold]) xs
theorem placedsT_f0 (xs:List PlacedD) (k:Nat) (h:k < xs.length):(placedsT xs)[k*9]? = some (.sc (.string (xs.getD k default).pod.name)):=(flat_cell placedCellsT_len xs k 0 h (by decide):_)
theorem placedsT_f1 (xs:List PlacedD) (k:Nat) (h:k < xs.length):(placedsT xs)[k*9+1]? = some (.tr 217 2 (xs.getD k default).pod.labels.length (labelsD (xs.getD k default).pod.labels)):=(flat_cell placedCellsT_len xs k 1 h (by decide):_)
theorem placedsT_f2 (xs:List PlacedD) (k:Nat) (h:k < xs.length):(placedsT xs)[k*9+2]? = some (.sc (.int .i64 (xs.getD k default).pod.cpu)):=(flat_cell placedCellsT_len xs k 2 h (by decide):_)
theorem placedsT_f3 (xs:List PlacedD) (k:Nat) (h:k < xs.length):(placedsT xs)[k*9+3]? = some (.sc (.int .i64 (xs.getD k default).pod.mem)):=(flat_cell placedCellsT_len xs k 3 h (by decide):_)
theorem placedsT_f4 (xs:List PlacedD) (k:Nat) (h:k < xs.length):(placedsT xs)[k*9+4]? = some (.sc (.int .i64 (xs.getD k default).pod.rank)):=(flat_cell placedCellsT_len xs k 4 h (by decide):_)
theorem placedsT_f5 (xs:List PlacedD) (k:Nat) (h:k < xs.length):(placedsT xs)[k*9+5]? = some (.tr 103 3 (xs.getD k default).pod.needs.length (needsT (xs.getD k default).pod.needs)):=(flat_cell placedCellsT_len xs k 5 h (by decide):_)
theorem placedsT_f6 (xs:List PlacedD) (k:Nat) (h:k < xs.length):(placedsT xs)[k*9+6]? = some (.tr 145 4 (xs.getD k default).pod.tolers.length (tolersD (xs.getD k default).pod.tolers)):=(flat_cell placedCellsT_len xs k 6 h (by decide):_)
theorem placedsT_f7 (xs:List PlacedD) (k:Nat) (h:k < xs.length):(placedsT xs)[k*9+7]? = some (.sc (.string (xs.getD k default).on)):=(flat_cell placedCellsT_len xs k 7 h (by decide):_)
theorem placedsT_f8 (xs:List PlacedD) (k:Nat) (h:k < xs.length):(placedsT xs)[k*9+8]? = some (.sc (.int .i64 (xs.getD k default).seq)):=(flat_cell placedCellsT_len xs k 8 h (by decide):_)
theorem placedsT_one (xs:List PlacedD) (na0:ByteArray) (la1:List LabelD) (cp2:Int) (me3:Int) (ra4:Int) (ne5:List NeedD) (to6:List TolerD) (on7:ByteArray) (se8:Int):placedsT xs ++ [.sc (.string na0),.tr 217 2 la1.length (labelsD la1),.sc (.int .i64 cp2),.sc (.int .i64 me3),.sc (.int .i64 ra4),.tr 103 3 ne5.length (needsT ne5),.tr 145 4 to6.length (tolersD to6),.sc (.string on7),.sc (.int .i64 se8)]=placedsT (xs ++ [⟨⟨na0,la1,cp2,me3,ra4,ne5,to6⟩,on7,se8⟩]):=(flat_snoc xs (⟨⟨na0,la1,cp2,me3,ra4,ne5,to6⟩,on7,se8⟩:PlacedD)).symm
theorem placedsT_tp (xs:List PlacedD):(placedsT xs).all D.tp=true:=flat_tp (fun _=>rfl) xs
theorem strsD_cold (xs:List ByteArray):D.colds (strsD xs)=strsD xs:=colds_nt (strsD_nt xs)
theorem strsD_abs (i:Nat) (x:Ob) (xs:List ByteArray):(strsD xs).map (D.abs1 i x)=strsD xs:=tps_abs (strsD_tp xs) i x
theorem strsD_own (i n k:Nat) (xs:List ByteArray):own1 i n (strsD xs) k=(k==1):=own1_all (strsD_tp xs) i n k
theorem strsD_own2 (i n k:Nat) (xs:List ByteArray) (b:List D):own1 i n (strsD xs++b) k=own1 i n b k:=own1_tp (strsD_tp xs) b k
theorem intsD_cold (xs:List Int):D.colds (intsD xs)=intsD xs:=colds_nt (intsD_nt xs)
theorem intsD_abs (i:Nat) (x:Ob) (xs:List Int):(intsD xs).map (D.abs1 i x)=intsD xs:=tps_abs (intsD_tp xs) i x
theorem intsD_own (i n k:Nat) (xs:List Int):own1 i n (intsD xs) k=(k==1):=own1_all (intsD_tp xs) i n k
theorem intsD_own2 (i n k:Nat) (xs:List Int) (b:List D):own1 i n (intsD xs++b) k=own1 i n b k:=own1_tp (intsD_tp xs) b k
theorem u8D_cold (xs:List Int):D.colds (u8D xs)=u8D xs:=colds_nt (u8D_nt xs)
theorem u8D_abs (i:Nat) (x:Ob) (xs:List Int):(u8D xs).map (D.abs1 i x)=u8D xs:=tps_abs (u8D_tp xs) i x
theorem u8D_own (i n k:Nat) (xs:List Int):own1 i n (u8D xs) k=(k==1):=own1_all (u8D_tp xs) i n k
theorem u8D_own2 (i n k:Nat) (xs:List Int) (b:List D):own1 i n (u8D xs++b) k=own1 i n b k:=own1_tp (u8D_tp xs) b k
theorem labelsD_cold (xs:List LabelD):D.colds (labelsD xs)=labelsD xs:=colds_nt (rps_nt (labelsD_rp xs))
theorem labelsD_nt (xs:List LabelD):(labelsD xs).all D.nt=true:=rps_nt (labelsD_rp xs)
theorem labelsD_abs (i:Nat) (x:Ob) (xs:List LabelD):(labelsD xs).map (D.abs1 i x)=labelsD xs:=tps_abs (labelsD_tp xs) i x
theorem labelsD_own (i n k:Nat) (xs:List LabelD):own1 i n (labelsD xs) k=(k==1):=own1_all (labelsD_tp xs) i n k
theorem labelsD_own2 (i n k:Nat) (xs:List LabelD) (b:List D):own1 i n (labelsD xs++b) k=own1 i n b k:=own1_tp (labelsD_tp xs) b k
theorem filesD_cold (xs:List FileD):D.colds (filesD xs)=filesD xs:=colds_nt (rps_nt (filesD_rp xs))
theorem filesD_nt (xs:List FileD):(filesD xs).all D.nt=true:=rps_nt (filesD_rp xs)
theorem filesD_abs (i:Nat) (x:Ob) (xs:List FileD):(filesD xs).map (D.abs1 i x)=filesD xs:=tps_abs (filesD_tp xs) i x
theorem filesD_own (i n k:Nat) (xs:List FileD):own1 i n (filesD xs) k=(k==1):=own1_all (filesD_tp xs) i n k
theorem filesD_own2 (i n k:Nat) (xs:List FileD) (b:List D):own1 i n (filesD xs++b) k=own1 i n b k:=own1_tp (filesD_tp xs) b k
theorem taintsD_cold (xs:List TaintD):D.colds (taintsD xs)=taintsD xs:=colds_nt (rps_nt (taintsD_rp xs))
theorem taintsD_nt (xs:List TaintD):(taintsD xs).all D.nt=true:=rps_nt (taintsD_rp xs)
theorem taintsD_abs (i:Nat) (x:Ob) (xs:List TaintD):(taintsD xs).map (D.abs1 i x)=taintsD xs:=tps_abs (taintsD_tp xs) i x
theorem taintsD_own (i n k:Nat) (xs:List TaintD):own1 i n (taintsD xs) k=(k==1):=own1_all (taintsD_tp xs) i n k
theorem taintsD_own2 (i n k:Nat) (xs:List TaintD) (b:List D):own1 i n (taintsD xs++b) k=own1 i n b k:=own1_tp (taintsD_tp xs) b k
theorem tolersD_cold (xs:List TolerD):D.colds (tolersD xs)=tolersD xs:=colds_nt (rps_nt (tolersD_rp xs))
theorem tolersD_nt (xs:List TolerD):(tolersD xs).all D.nt=true:=rps_nt (tolersD_rp xs)
theorem tolersD_abs (i:Nat) (x:Ob) (xs:List TolerD):(tolersD xs).map (D.abs1 i x)=tolersD xs:=tps_abs (tolersD_tp xs) i x
theorem tolersD_own (i n k:Nat) (xs:List TolerD):own1 i n (tolersD xs) k=(k==1):=own1_all (tolersD_tp xs) i n k
theorem tolersD_own2 (i n k:Nat) (xs:List TolerD) (b:List D):own1 i n (tolersD xs++b) k=own1 i n b k:=own1_tp (tolersD_tp xs) b k
theorem needsT_in (p:Nat→Bool) (xs:List NeedD):(needsT xs).all (D.in1 p)=true:=tps_in (needsT_tp xs) p
theorem needsT_ren (f:Nat→Nat) (xs:List NeedD):(needsT xs).map (D.ren1 f)=needsT xs:=tps_ren (needsT_tp xs) f
theorem needsT_frz (i:Nat) (x:Ob) (xs:List NeedD):(needsT xs).map (D.frz1 i x)=needsT xs:=tps_frz (needsT_tp xs) i x
theorem needsT_lt (n:Nat) (xs:List NeedD):(needsT xs).all (D.lt1 n)=true:=tps_lt (needsT_tp xs) n
theorem needsT_abs (i:Nat) (x:Ob) (xs:List NeedD):(needsT xs).map (D.abs1 i x)=needsT xs:=tps_abs (needsT_tp xs) i x
theorem needsT_own (i n k:Nat) (xs:List NeedD):own1 i n (needsT xs) k=(k==1):=own1_all (needsT_tp xs) i n k
theorem needsT_own2 (i n k:Nat) (xs:List NeedD) (b:List D):own1 i n (needsT xs++b) k=own1 i n b k:=own1_tp (needsT_tp xs) b k
theorem hostsT_in (p:Nat→Bool) (xs:List HostD):(hostsT xs).all (D.in1 p)=true:=tps_in (hostsT_tp xs) p
theorem hostsT_ren (f:Nat→Nat) (xs:List HostD):(hostsT xs).map (D.ren1 f)=hostsT xs:=tps_ren (hostsT_tp xs) f
theorem hostsT_frz (i:Nat) (x:Ob) (xs:List HostD):(hostsT xs).map (D.frz1 i x)=hostsT xs:=tps_frz (hostsT_tp xs) i x
theorem hostsT_lt (n:Nat) (xs:List HostD):(hostsT xs).all (D.lt1 n)=true:=tps_lt (hostsT_tp xs) n
theorem hostsT_abs (i:Nat) (x:Ob) (xs:List HostD):(hostsT xs).map (D.abs1 i x)=hostsT xs:=tps_abs (hostsT_tp xs) i x
theorem hostsT_own (i n k:Nat) (xs:List HostD):own1 i n (hostsT xs) k=(k==1):=own1_all (hostsT_tp xs) i n k
theorem hostsT_own2 (i n k:Nat) (xs:List HostD) (b:List D):own1 i n (hostsT xs++b) k=own1 i n b k:=own1_tp (hostsT_tp xs) b k
theorem placedsT_in (p:Nat→Bool) (xs:List PlacedD):(placedsT xs).all (D.in1 p)=true:=tps_in (placedsT_tp xs) p
theorem placedsT_ren (f:Nat→Nat) (xs:List PlacedD):(placedsT xs).map (D.ren1 f)=placedsT xs:=tps_ren (placedsT_tp xs) f
theorem placedsT_frz (i:Nat) (x:Ob) (xs:List PlacedD):(placedsT xs).map (D.frz1 i x)=placedsT xs:=tps_frz (placedsT_tp xs) i x
theorem placedsT_lt (n:Nat) (xs:List PlacedD):(placedsT xs).all (D.lt1 n)=true:=tps_lt (placedsT_tp xs) n
theorem placedsT_abs (i:Nat) (x:Ob) (xs:List PlacedD):(placedsT xs).map (D.abs1 i x)=placedsT xs:=tps_abs (placedsT_tp xs) i x
theorem placedsT_own (i n k:Nat) (xs:List PlacedD):own1 i n (placedsT xs) k=(k==1):=own1_all (placedsT_tp xs) i n k
theorem placedsT_own2 (i n k:Nat) (xs:List PlacedD) (b:List D):own1 i n (placedsT xs++b) k=own1 i n b k:=own1_tp (placedsT_tp xs) b k
end Go.Proofs.YtidjjfjhmlndjaaGreatDoor
namespace Go.Proofs.YtidjjfjhmlndjaaGreatDoor
open Go.RowKit
structure TreeD where
  kind:Int
  flag:Bool
  num:Int
  text:ByteArray
  keys:List ByteArray
  kids:List TreeD
instance:Inhabited TreeD:=⟨⟨0,false,0,⟨#[]⟩, [], []⟩⟩
theorem treeD_eta (x:TreeD):(⟨x.kind,x.flag,x.num,x.text,x.keys,x.kids⟩:TreeD)=x:=by cases x;rfl
theorem TreeD.ind {P:TreeD→Prop} (h:∀ t:TreeD,(∀ x ∈ t.kids,P x)→P t) (t:TreeD):P t:=
  TreeD.rec (motive_1 := P) (motive_2 := fun l => ∀ x ∈ l, P x) (fun k f n s ks cs hc => h ⟨k, f, n, s, ks, cs⟩ hc) (fun x hx => by cases hx) (fun x r hx hr y hy => by
    rcases List.mem_cons.1 hy with rfl|hy
    · exact hx
    · exact hr y hy) t
mutual
def treeCells:TreeD→List D
  |⟨k,f,n,s,ks,cs⟩=> [.sc (.int .i64 k),.sc (.bool f),.sc (.int .i64 n),.sc (.string s),.sl ks.length (strsD ks),.sl cs.length (treesX cs)]
def treesX:List TreeD→List D
  | []=> []
  |x::r=>treeCells x++treesX r
end
def treesD (xs:List TreeD):List D:=flatD treeCells xs
theorem treesX_eq:∀ xs,treesX xs=treesD xs
  | []=>by rw [treesX];rfl
  |x::r=>by rw [treesX,treesX_eq r];rfl
def treeC (x:TreeD):List D:= [.sc (.int .i64 x.kind),.sc (.bool x.flag),.sc (.int .i64 x.num),.sc (.string x.text),.sl x.keys.length (strsD x.keys),.sl x.kids.length (treesD x.kids)]
theorem treeCells_eq (x:TreeD):treeCells x=treeC x:=by
  obtain ⟨k,f,n,s,ks,cs⟩:=x
  rw [treeCells,treesX_eq]
  rfl
theorem treeCells_len (x:TreeD):(treeCells x).length=6:=by rw [treeCells_eq];rfl
theorem treesD_len (xs:List TreeD):(treesD xs).length=xs.length*6:=flat_len treeCells_len xs
theorem treesD_nil:treesD [] = []:=rfl
theorem treesD_con (x:TreeD) (r:List TreeD):treesD (x::r)=treeCells x++treesD r:=rfl
theorem treeCells_rp (x:TreeD):(treeCells x).all D.rp=true:=by rw [treeCells_eq];rfl
theorem treesD_rp (xs:List TreeD):(treesD xs).all D.rp=true:=flat_rp treeCells_rp xs
theorem treesD_in (p:Nat→Bool) (xs:List TreeD):(treesD xs).all (D.in1 p)=true:=rps_in (treesD_rp xs) p
theorem treesD_ren (f:Nat→Nat) (xs:List TreeD):(treesD xs).map (D.ren1 f)=treesD xs:=rps_ren (treesD_rp xs) f
theorem treesD_frz (i:Nat) (x:Ob) (xs:List TreeD):(treesD xs).map (D.frz1 i x)=treesD xs:=rps_frz (treesD_rp xs) i x
theorem treesD_lt (k:Nat) (xs:List TreeD):(treesD xs).all (D.lt1 k)=true:=rps_lt (treesD_rp xs) k
theorem treesD_part (xs:List TreeD) (k:Nat) (h:k < xs.length):((treesD xs).drop (k*6)).take 6 = [.sc (.int .i64 (xs.getD k default).kind),.sc (.bool (xs.getD k default).flag),.sc (.int .i64 (xs.getD k default).num),.sc (.string (xs.getD k default).text),.sl (xs.getD k default).keys.length (strsD (xs.getD k default).keys),.sl (xs.getD k default).kids.length (treesD (xs.getD k default).kids)]:=(flat_part treeCells_len xs k h).trans (treeCells_eq _)
theorem treesD_cold (xs:List TreeD):D.colds (treesD xs)=treesD xs:=colds_nt (rps_nt (treesD_rp xs))
theorem treesD_nt (xs:List TreeD):(treesD xs).all D.nt=true:=rps_nt (treesD_rp xs)
theorem treesD_f0 (xs:List TreeD) (k:Nat) (h:k < xs.length):(treesD xs)[k*6]? = some (.sc (.int .i64 (xs.getD k default).kind)):=by
  have e:=flat_cell treeCells_len xs k 0 h (by decide)
  rw [treeCells_eq] at e
  exact e
theorem treesD_f1 (xs:List TreeD) (k:Nat) (h:k < xs.length):(treesD xs)[k*6+1]? = some (.sc (.bool (xs.getD k default).flag)):=by
  have e:=flat_cell treeCells_len xs k 1 h (by decide)
  rw [treeCells_eq] at e
  exact e
theorem treesD_f2 (xs:List TreeD) (k:Nat) (h:k < xs.length):(treesD xs)[k*6+2]? = some (.sc (.int .i64 (xs.getD k default).num)):=by
  have e:=flat_cell treeCells_len xs k 2 h (by decide)
  rw [treeCells_eq] at e
  exact e
theorem treesD_f3 (xs:List TreeD) (k:Nat) (h:k < xs.length):(treesD xs)[k*6+3]? = some (.sc (.string (xs.getD k default).text)):=by
  have e:=flat_cell treeCells_len xs k 3 h (by decide)
  rw [treeCells_eq] at e
  exact e
theorem treesD_f4 (xs:List TreeD) (k:Nat) (h:k < xs.length):(treesD xs)[k*6+4]? = some (.sl (xs.getD k default).keys.length (strsD (xs.getD k default).keys)):=by
  have e:=flat_cell treeCells_len xs k 4 h (by decide)
  rw [treeCells_eq] at e
  exact e
theorem treesD_f5 (xs:List TreeD) (k:Nat) (h:k < xs.length):(treesD xs)[k*6+5]? = some (.sl (xs.getD k default).kids.length (treesD (xs.getD k default).kids)):=by
  have e:=flat_cell treeCells_len xs k 5 h (by decide)
  rw [treeCells_eq] at e
  exact e
theorem treesD_one (xs:List TreeD) (k:Int) (f:Bool) (n:Int) (s:ByteArray) (ks:List ByteArray) (cs:List TreeD):treesD xs ++ [.sc (.int .i64 k),.sc (.bool f),.sc (.int .i64 n),.sc (.string s),.sl ks.length (strsD ks),.sl cs.length (treesD cs)]=treesD (xs ++ [⟨k,f,n,s,ks,cs⟩]):=by
  have e:=flat_snoc (cells:=treeCells) xs ⟨k,f,n,s,ks,cs⟩
  rw [treeCells_eq] at e
  exact e.symm
mutual
def treeCellsT:TreeD→List D
  |⟨k,f,n,s,ks,cs⟩=> [.sc (.int .i64 k),.sc (.bool f),.sc (.int .i64 n),.sc (.string s),.tr 9 1 ks.length (strsD ks),.tr 67 6 cs.length (treesXT cs)]
def treesXT:List TreeD→List D
  | []=> []
  |x::r=>treeCellsT x++treesXT r
end
def treesT (xs:List TreeD):List D:=flatD treeCellsT xs
theorem treesXT_eq:∀ xs,treesXT xs=treesT xs
  | []=>by rw [treesXT];rfl
  |x::r=>by rw [treesXT,treesXT_eq r];rfl
def treeCT (x:TreeD):List D:= [.sc (.int .i64 x.kind),.sc (.bool x.flag),.sc (.int .i64 x.num),.sc (.string x.text),.tr 9 1 x.keys.length (strsD x.keys),.tr 67 6 x.kids.length (treesT x.kids)]
theorem treeCellsT_eq (x:TreeD):treeCellsT x=treeCT x:=by
  obtain ⟨k,f,n,s,ks,cs⟩:=x
  rw [treeCellsT,treesXT_eq]
  rfl
theorem treeCellsT_len (x:TreeD):(treeCellsT x).length=6:=by rw [treeCellsT_eq];rfl
theorem treesT_len (xs:List TreeD):(treesT xs).length=xs.length*6:=flat_len treeCellsT_len xs
theorem treesT_nil:treesT [] = []:=rfl
theorem treesT_con (x:TreeD) (r:List TreeD):treesT (x::r)=treeCellsT x++treesT r:=rfl
theorem treeCellsT_tp (x:TreeD):(treeCellsT x).all D.tp=true:=by rw [treeCellsT_eq];rfl
theorem treesT_tp (xs:List TreeD):(treesT xs).all D.tp=true:=flat_tp treeCellsT_tp xs
theorem treesT_in (p:Nat→Bool) (xs:List TreeD):(treesT xs).all (D.in1 p)=true:=tps_in (treesT_tp xs) p
theorem treesT_ren (f:Nat→Nat) (xs:List TreeD):(treesT xs).map (D.ren1 f)=treesT xs:=tps_ren (treesT_tp xs) f
theorem treesT_frz (i:Nat) (x:Ob) (xs:List TreeD):(treesT xs).map (D.frz1 i x)=treesT xs:=tps_frz (treesT_tp xs) i x
theorem treesT_lt (n:Nat) (xs:List TreeD):(treesT xs).all (D.lt1 n)=true:=tps_lt (treesT_tp xs) n
theorem treeCellsT_cold (x:TreeD):D.colds (treeCellsT x)=treeCells x:=
  TreeD.rec (motive_1:=fun x=>D.colds (treeCellsT x)=treeCells x) (motive_2:=fun l=>D.colds (treesT l)=treesD l)
    (fun k f n s ks cs h => by
      rw [treeCellsT_eq,treeCells_eq]
      simp only [treeCT,treeC,colds_cons,colds_nil,cold_sc,cold_tr,h,colds_nt (strsD_nt _)]) colds_nil (fun x r hx hr=>by
      rw [treesT_con, treesD_con, colds_app, hx, hr]) x
theorem treesT_cold (xs:List TreeD):D.colds (treesT xs)=treesD xs:=flat_cold treeCellsT_cold xs
theorem treesT_f0 (xs:List TreeD) (k:Nat) (h:k < xs.length):(treesT xs)[k*6]? = some (.sc (.int .i64 (xs.getD k default).kind)):=by
  have e:=flat_cell treeCellsT_len xs k 0 h (by decide)
  rw [treeCellsT_eq] at e
  exact e
theorem treesT_f1 (xs:List TreeD) (k:Nat) (h:k < xs.length):(treesT xs)[k*6+1]? = some (.sc (.bool (xs.getD k default).flag)):=by
  have e:=flat_cell treeCellsT_len xs k 1 h (by decide)
  rw [treeCellsT_eq] at e
  exact e
theorem treesT_f2 (xs:List TreeD) (k:Nat) (h:k < xs.length):(treesT xs)[k*6+2]? = some (.sc (.int .i64 (xs.getD k default).num)):=by
  have e:=flat_cell treeCellsT_len xs k 2 h (by decide)
  rw [treeCellsT_eq] at e
  exact e
theorem treesT_f3 (xs:List TreeD) (k:Nat) (h:k < xs.length):(treesT xs)[k*6+3]? = some (.sc (.string (xs.getD k default).text)):=by
  have e:=flat_cell treeCellsT_len xs k 3 h (by decide)
  rw [treeCellsT_eq] at e
  exact e
theorem treesT_f4 (xs:List TreeD) (k:Nat) (h:k < xs.length):(treesT xs)[k*6+4]? = some (.tr 9 1 (xs.getD k default).keys.length (strsD (xs.getD k default).keys)):=by
  have e:=flat_cell treeCellsT_len xs k 4 h (by decide)
  rw [treeCellsT_eq] at e
  exact e
theorem treesT_f5 (xs:List TreeD) (k:Nat) (h:k < xs.length):(treesT xs)[k*6+5]? = some (.tr 67 6 (xs.getD k default).kids.length (treesT (xs.getD k default).kids)):=by
  have e:=flat_cell treeCellsT_len xs k 5 h (by decide)
  rw [treeCellsT_eq] at e
  exact e
theorem treesT_one (xs:List TreeD) (k:Int) (f:Bool) (n:Int) (s:ByteArray) (ks:List ByteArray) (cs:List TreeD):treesT xs ++ [.sc (.int .i64 k),.sc (.bool f),.sc (.int .i64 n),.sc (.string s),.tr 9 1 ks.length (strsD ks),.tr 67 6 cs.length (treesT cs)]=treesT (xs ++ [⟨k,f,n,s,ks,cs⟩]):=by
  have e:=flat_snoc (cells:=treeCellsT) xs ⟨k,f,n,s,ks,cs⟩
  rw [treeCellsT_eq] at e
  exact e.symm
theorem treesT_abs (i:Nat) (x:Ob) (xs:List TreeD):(treesT xs).map (D.abs1 i x)=treesT xs:=tps_abs (treesT_tp xs) i x
theorem treesT_own (i n k:Nat) (xs:List TreeD):own1 i n (treesT xs) k=(k==1):=own1_all (treesT_tp xs) i n k
theorem treesT_own2 (i n k:Nat) (xs:List TreeD) (b:List D):own1 i n (treesT xs++b) k=own1 i n b k:=own1_tp (treesT_tp xs) b k
end Go.Proofs.YtidjjfjhmlndjaaGreatDoor
