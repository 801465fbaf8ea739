/- Dw2 (what is wanted of them). -/
import Derived.Test.YtgoeccemfgniiaaGreatUDw
namespace Go.Proofs.YtgoeccemfgniiaaGreat
open Go.RowKit
set_option linter.unusedVariables false
theorem flt_setS {α:Type}{cells:α→List D} (xs:List α) (k:Nat) (y:α) (h:k < xs.length):flatD cells (xs.set k y)=flatD cells (xs.take k)++(cells y++flatD cells (xs.drop (k+1))):=by
  rw [List.set_eq_take_append_cons_drop,if_pos h]
  simp [flatD]
section
variable {α:Type} [Inhabited α] {cells:α→List D}{size:Nat}
theorem flt_split (xs:List α) (k:Nat) (h:k < xs.length):flatD cells xs=flatD cells (xs.take k)++(cells (xs.getD k default)++flatD cells (xs.drop (k+1))):=by
  have e:xs=xs.take k++(xs.getD k default::xs.drop (k+1)):=by
    rw [List.getD_eq_getElem?_getD,List.getElem?_eq_getElem h]
    show xs=xs.take k++(xs[k]::xs.drop (k+1))
    rw [List.getElem_cons_drop,List.take_append_drop]
  conv=>lhs;rw [e]
  simp [flatD]
theorem flt_set1 (hs:∀ x,(cells x).length=size) (xs:List α) (k j:Nat) (y:α) (v:D) (h:k < xs.length) (hj:j < size) (hy:(cells (xs.getD k default)).set j v=cells y):(flatD cells xs).set (k*size+j) v=flatD cells (xs.set k y):=by
  have hl:(flatD cells (xs.take k)).length=k*size:=by rw [flat_len hs,List.length_take,Nat.min_eq_left (by omega)]
  rw [flt_split xs k h,flt_setS xs k y h,List.set_append_right _ _ (by omega),hl,Nat.add_sub_cancel_left,List.set_append_left _ _ (by rw [hs];exact hj),hy]
end
theorem setL_mid (A X C:List D):∀ (Y:List D) (_h:Y.length≤X.length),setL (A++(X++C)) A.length Y=A++(Y++(X.drop Y.length++C)):=by
  intro Y
  induction Y generalizing A X with
  |nil=>intro _;simp [setL]
  |cons y Y ih=>
    intro h
    cases X with
    |nil=>simp at h
    |cons x X=>
      rw [setL,List.set_append_right _ _ (Nat.le_refl _),Nat.sub_self]
      show setL (A++(y::(X++C))) (A.length+1) Y=_
      have:=ih (A ++ [y]) X (by simpa using h)
      simpa using this
theorem placeds_on (xs:List PlacedD) (k:Nat) (x:ByteArray) (h:k < xs.length):(placedsD xs).set (k*9+7) (.sc (.string x))=placedsD (xs.set k ⟨(xs.getD k default).pod,x,(xs.getD k default).seq⟩):=flt_set1 placedCells_len xs k 7 _ _ h (by decide) rfl
theorem placeds_seq (xs:List PlacedD) (k:Nat) (x:Int) (h:k < xs.length):(placedsD xs).set (k*9+8) (.sc (.int .i64 x))=placedsD (xs.set k ⟨(xs.getD k default).pod,(xs.getD k default).on,x⟩):=flt_set1 placedCells_len xs k 8 _ _ h (by decide) rfl
theorem hosts_cpu (xs:List HostD) (k:Nat) (x:Int) (h:k < xs.length):(hostsD xs).set (k*6+2) (.sc (.int .i64 x))=hostsD (xs.set k ⟨(xs.getD k default).name,(xs.getD k default).labels,x,(xs.getD k default).mem,(xs.getD k default).slots,(xs.getD k default).taints⟩):=flt_set1 hostCells_len xs k 2 _ _ h (by decide) rfl
theorem placeds_pod (xs:List PlacedD) (k:Nat) (p:PodD) (h:k < xs.length):setL (placedsD xs) (k*9) (podCells p)=placedsD (xs.set k ⟨p,(xs.getD k default).on,(xs.getD k default).seq⟩):=by
  have hl:(flatD placedCells (xs.take k)).length=k*9:=by rw [flat_len placedCells_len,List.length_take,Nat.min_eq_left (by omega)]
  show setL (flatD placedCells xs) (k*9) (podCells p)=flatD placedCells _
  rw [flt_split xs k h,flt_setS xs k _ h,← hl,setL_mid _ _ _ _ (by show 7≤9;decide),← List.append_assoc (podCells p)]
  rfl
theorem hosts_put (xs:List HostD) (n:ByteArray) (ls:List LabelD) (c m s:Int) (ts:List TaintD):hostsD xs ++ [.sc (.string n),.sl ls.length (labelsD ls),.sc (.int .i64 c),.sc (.int .i64 m),.sc (.int .i64 s),.sl ts.length (taintsD ts)]=hostsD (xs ++ [⟨n,ls,c,m,s,ts⟩]):=(flat_snoc (cells:=hostCells) xs ⟨n,ls,c,m,s,ts⟩).symm
theorem placeds_put (xs:List PlacedD) (n:ByteArray) (ls:List LabelD) (c m r:Int) (ns:List NeedD) (ts:List TolerD) (o:ByteArray) (q:Int):placedsD xs ++ [.sc (.string n),.sl ls.length (labelsD ls),.sc (.int .i64 c),.sc (.int .i64 m),.sc (.int .i64 r),.sl ns.length (needsD ns),.sl ts.length (tolersD ts),.sc (.string o),.sc (.int .i64 q)]=placedsD (xs ++ [⟨⟨n,ls,c,m,r,ns,ts⟩,o,q⟩]):=(flat_snoc (cells:=placedCells) xs ⟨⟨n,ls,c,m,r,ns,ts⟩,o,q⟩).symm
theorem CluW.mono {h p h' p':Nat}{c:ClusterD} (x:CluW h p c) (h1:h≤h') (h2:p≤p'):CluW h' p' c:=⟨x.hosts.mono h1,x.pods.mono h2,x.next⟩
theorem CluW.new:CluW 8 12 ⟨[], [],1,2,1,3⟩:=⟨.nil,.nil,by decide⟩
theorem plc_on {p:PlacedD} (h:PlcW p) {x:ByteArray} (hx:x.size≤1000):PlcW ⟨p.pod,x,p.seq⟩:=⟨h.pod,hx,h.seq⟩
theorem plc_seq {p:PlacedD} (h:PlcW p) {x:Int} (hx:intOk x):PlcW ⟨p.pod,p.on,x⟩:=⟨h.pod,h.on,hx⟩
theorem plc_pod {p:PlacedD} (h:PlcW p) {x:PodD} (hx:PodW x):PlcW ⟨x,p.on,p.seq⟩:=⟨hx,h.on,h.seq⟩
theorem host_cpu {p:HostD} (h:HostW p) {x:Int} (hx:intOk x):HostW ⟨p.name,p.labels,x,p.mem,p.slots,p.taints⟩:=⟨h.name,h.labels,hx,h.mem,h.slots,h.taints⟩
end Go.Proofs.YtgoeccemfgniiaaGreat
