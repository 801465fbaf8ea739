/- Cl3, Dw (what is wanted of them). -/
import Derived.Test.YtidjjfjhmlndjaaGreatDoorVCl2
namespace Go.Proofs.YtidjjfjhmlndjaaGreatDoor
open Go.RowKit
set_option linter.unusedVariables false
set_option linter.unusedSimpArgs false
set_option maxRecDepth 100000
set_option maxHeartbeats 1000000
theorem spec_NeedLess_D (a b:NeedD) (hn:a.values.length≤1048576∨b.values.length≤1048576):Spec Tryz.prog 124 [.agg (needCells a),.agg (needCells b)] (fun d=>d = .sc (.bool (needLess a b))):=by
  unfold needCells
  refine sp_ (rs:= [.tmp 4]) (nt:=69) Tryz.func124 rfl fun X hX=>?_
  refine nm_ ?_
  repeat' ((first|contradiction|(with_reducible exact tt_)|((with_reducible show Wk (AwStep _ _ _ _ _));first|(refine pln_ ?_))|((with_reducible show Wk (AwCode _ _ _ _ _));first|(refine wo_ (id:=8) [] [(0,true),(1,true),(2,true),(3,true),(4,true),(5,true),(6,true),(7,true),(8,true),(9,true),(10,true)] ?_)|(refine wo_ (id:=9) [] [(0,true),(1,true),(2,true),(3,true),(4,true),(5,true),(6,true),(7,true),(8,true),(9,true),(10,true),(11,true)] ?_)|(refine lpU_ 0x2c (ι:=Nat) (fun k=> [(5,.sc (.int .i64 (k:Int)))]) (fun k=>k≤a.values.length∧k≤b.values.length∧valsLess (a.values.drop k) (b.values.drop k)=valsLess a.values b.values) (fun k=>a.values.length - k) 0 ?_ ?_;(focus (exact ⟨by omega,by omega,rfl⟩));rintro _ hN0 k hinv;(try dsimp only at hinv);obtain ⟨hk,hk2,hj⟩:=hinv;replace hj:=Lib.hid hj;skip))|((with_reducible show Wk (boolK _ _ _ _));first|(refine bk_ (fun h h'=>?_) (fun h h'=>?_)))|((with_reducible show Wk (_∧_));first|(refine and_ ?_ ?_))|(refine hN0.go (k+1) ?_ ?_;(focus (refine ⟨by show k+1≤_;omega,by show k+1≤_;omega,?_⟩;have e:=hj.out;rw [valsLess_at (by omega) (by omega),if_pos (by assumption)] at e;exact e));(focus (show a.values.length - (k+1) < a.values.length - k;omega)))|fail)<;>(try refine nm_ ?_))
  all_goals (refine ⟨?_⟩)
  all_goals first|contradiction|(have e:=hj.out;rw [valsLess_at (by omega) (by omega)] at e;simp_all [needLess];done)|(have e:=hj.out;rw [valsLess_end (by omega) (by omega) (by omega)] at e;simp_all [needLess];done)|(simp_all [needLess];done)
theorem needB_len {n:NeedD} (h:needB n=true):n.values.length≤1048576:=by
  rw [needB_eq] at h
  simp only [Bool.and_eq_true] at h
  obtain ⟨_,_,h⟩:=h
  split at h
  · simp at h;simp [h]
  · simp [inB] at h;omega
theorem spec_SelectorOk_D (ns:List NeedD):Spec Tryz.prog 125 [.sl ns.length (needsD ns)] (fun d=>d = .sc (.bool (needsB ns))):=by
  refine sp_ (rs:= [.tmp 2]) (nt:=36) Tryz.func125 rfl fun X hX=>?_
  refine nm_ ?_
  repeat' ((first|contradiction|(with_reducible exact tt_)|((with_reducible show Wk (AwStepF _ _ _ _ _ _ _));first|(refine cl_ rfl _ _ (spec_NeedOk_D _) rfl rfl ?_;rintro _ rfl)|(refine cl_ rfl _ _ (spec_NeedLess_D _ _ (.inr (needB_len (by assumption)))) rfl rfl ?_;rintro _ rfl))|((with_reducible show Wk (AwStep _ _ _ _ _));first|(refine pln_ ?_))|((with_reducible show Wk (AwCode _ _ _ _ _));first|(refine wtr_ (id:=6) [] (.early 0 (.early 1 (.early 2 (.early 3 (.one 4 (.early 5 (.early 6 (.early 7 (.early 8 (.early 9 (.early 10 (.early 11 (.early 12 (.early 13 (.early 15 (.early 16 (.early 17 (.two 14 (.one 18 (.one 19 (.early 20 (.early 21 (.early 22 .done))))) 18 (.one 14 (.one 19 (.early 20 (.early 21 (.early 22 .done))))))))))))))))))))))) ?_)|(refine lpU_ 0x9 (ι:=Nat) (fun k=> [(3,.sc (.int .i64 (k:Int)))]) (fun k=>k≤ns.length∧∀ j:Nat,j < k→needAt ns j=true) (fun k=>ns.length - k) 0 ?_ ?_;(focus (exact ⟨by omega,allN_zero⟩));rintro _ hN0 k hinv;(try dsimp only at hinv);obtain ⟨hk,hj⟩:=hinv;replace hj:=Lib.hid hj;skip))|((with_reducible show Wk (boolK _ _ _ _));first|(refine bk_ (fun h h'=>?_) (fun h h'=>?_)))|((with_reducible show Wk (_∧_));first|(refine and_ ?_ ?_))|(refine hN0.go (k+1) ?_ ?_;(focus (exact ⟨by show k+1≤ns.length;omega,allN_step hj.out (by unfold needAt nextB;simp_all)⟩));(focus (show ns.length - (k+1) < ns.length - k;omega)))|fail)<;>(try refine nm_ ?_))
  all_goals (refine ⟨?_⟩)
  all_goals first|contradiction|rfl|(have e:=allN_no (n:=ns.length) (p:=needAt ns) (k:=k) (by omega) (by unfold needAt nextB;simp_all);simp_all [needsB_eq]<;>omega)|(have e:=allN_yes (n:=ns.length) (p:=needAt ns) (by omega) hj.out;simp_all [needsB_eq]<;>omega)|(simp_all [needsB_eq]<;>omega)|(simp [needsB_eq, *]<;>omega)
theorem spec_PodOk_D (p:PodD):Spec Tryz.prog 176 [.agg (podCells p)] (fun d=>d = .sc (.bool (podB p))):=by
  unfold podCells
  refine sp_ (rs:= [.tmp 2]) (nt:=36) Tryz.func176 rfl fun X hX=>?_
  refine nm_ ?_
  repeat' ((first|contradiction|(with_reducible exact tt_)|((with_reducible show Wk (AwStepF _ _ _ _ _ _ _));first|(refine cl_ rfl _ _ (specName_D _) rfl rfl ?_;rintro _ rfl)|(refine cl_ rfl _ _ (spec_LabelsOk_D _) rfl rfl ?_;rintro _ rfl)|(refine cl_ rfl _ _ (l01In_D _ _ _) rfl rfl ?_;rintro _ rfl)|(refine cl_ rfl _ _ (spec_SelectorOk_D _) rfl rfl ?_;rintro _ rfl)|(refine cl_ rfl _ _ (spec_TolerancesOk_D _) rfl rfl ?_;rintro _ rfl))|((with_reducible show Wk (AwStep _ _ _ _ _));first|(refine pln_ ?_))|((with_reducible show Wk (boolK _ _ _ _));first|(refine bk_ (fun h h'=>?_) (fun h h'=>?_)))|((with_reducible show Wk (_∧_));first|(refine and_ ?_ ?_))|fail)<;>(try refine nm_ ?_))
  all_goals (refine ⟨?_⟩)
  all_goals first|contradiction|rfl|(simp_all [podB]<;>omega)|(simp [podB, *]<;>omega)
theorem spec_HostOk_D (p:HostD):Spec Tryz.prog 178 [.agg (hostCells p)] (fun d=>d = .sc (.bool (hostB p))):=by
  unfold hostCells
  refine sp_ (rs:= [.tmp 2]) (nt:=31) Tryz.func178 rfl fun X hX=>?_
  refine nm_ ?_
  repeat' ((first|contradiction|(with_reducible exact tt_)|((with_reducible show Wk (AwStepF _ _ _ _ _ _ _));first|(refine cl_ rfl _ _ (specName_D _) rfl rfl ?_;rintro _ rfl)|(refine cl_ rfl _ _ (spec_LabelsOk_D _) rfl rfl ?_;rintro _ rfl)|(refine cl_ rfl _ _ (l01In_D _ _ _) rfl rfl ?_;rintro _ rfl)|(refine cl_ rfl _ _ (spec_TaintsOk_D _) rfl rfl ?_;rintro _ rfl))|((with_reducible show Wk (AwStep _ _ _ _ _));first|(refine pln_ ?_))|((with_reducible show Wk (boolK _ _ _ _));first|(refine bk_ (fun h h'=>?_) (fun h h'=>?_)))|((with_reducible show Wk (_∧_));first|(refine and_ ?_ ?_))|fail)<;>(try refine nm_ ?_))
  all_goals (refine ⟨?_⟩)
  all_goals first|contradiction|rfl|(simp_all [hostB]<;>omega)|(simp [hostB, *]<;>omega)
end Go.Proofs.YtidjjfjhmlndjaaGreatDoor
namespace Go.Proofs.YtidjjfjhmlndjaaGreatDoor
open Go.RowKit
set_option linter.unusedVariables false
attribute [push_cast] true_or or_true true_and and_true
/-- All of a row, and at most n. -/
structure RowW {α:Type} (P:α→Prop) (n:Nat) (xs:List α):Prop where
  all:∀ x ∈ xs,P x
  len:xs.length≤n
theorem RowW.nil {α:Type}{P:α→Prop}{n:Nat}:RowW P n []:=⟨by simp,Nat.zero_le _⟩
theorem RowW.mono {α:Type}{P:α→Prop}{n m:Nat}{xs:List α} (h:RowW P n xs) (hm:n≤m):RowW P m xs:=⟨h.all,Nat.le_trans h.len hm⟩
theorem RowW.sub {α:Type}{P:α→Prop}{n m:Nat}{xs ys:List α} (h:RowW P n xs) (hs:∀ y ∈ ys,y ∈ xs) (hl:ys.length≤m):RowW P m ys:=⟨fun y hy=>h.all y (hs y hy),hl⟩
theorem RowW.app {α:Type}{P:α→Prop}{n m k:Nat}{xs ys:List α} (h:RowW P n xs) (g:RowW P m ys) (hk:n+m≤k):RowW P k (xs++ys):=⟨fun y hy=>(List.mem_append.1 hy).elim (h.all y) (g.all y),by rw [List.length_append];have:=h.len;have:=g.len;omega⟩
theorem RowW.one {α:Type}{P:α→Prop}{n:Nat}{x:α} (h:P x) (hn:1≤n):RowW P n [x]:=⟨fun y hy=>by rw [List.mem_singleton.1 hy];exact h,hn⟩
theorem RowW.snoc {α:Type}{P:α→Prop}{n m:Nat}{xs:List α}{x:α} (h:RowW P n xs) (hx:P x) (hm:n+1≤m):RowW P m (xs ++ [x]):=h.app (.one hx (Nat.le_refl 1)) hm
theorem RowW.take {α:Type}{P:α→Prop}{n:Nat}{xs:List α} (h:RowW P n xs) (k:Nat):RowW P n (xs.take k):=h.sub (fun _ hy=>List.mem_of_mem_take hy) (Nat.le_trans (List.length_take_le' ..) h.len)
theorem RowW.drop {α:Type}{P:α→Prop}{n:Nat}{xs:List α} (h:RowW P n xs) (k:Nat):RowW P n (xs.drop k):=h.sub (fun _ hy=>List.mem_of_mem_drop hy) (Nat.le_trans (by rw [List.length_drop];omega) h.len)
/-- One laid between. -/
theorem RowW.lay {α:Type}{P:α→Prop}{n m k:Nat}{xs a b:List α}{x:α} (h:RowW P n xs) (ha:a=xs.take k) (hb:b=xs.drop k) (hx:P x) (hm:n+1≤m):RowW P m (a ++ [x]++b):=by
  refine ⟨fun y hy=>?_,?_⟩
  · rcases List.mem_append.1 hy with hy|hy
    · rcases List.mem_append.1 hy with hy|hy
      · rw [ha] at hy;exact h.all y (List.mem_of_mem_take hy)
      · rw [List.mem_singleton.1 hy];exact hx
    · rw [hb] at hy;exact h.all y (List.mem_of_mem_drop hy)
  · have:=h.len
    rw [List.length_append,List.length_append,ha,hb,List.length_take,List.length_drop,List.length_singleton]
    omega
/-- One left out. -/
theorem RowW.out {α:Type}{P:α→Prop}{n k:Nat}{xs a b:List α} (h:RowW P n xs) (ha:a=xs.take k) (hb:b=xs.drop (k+1)):RowW P n (a++b):=by
  refine ⟨fun y hy=>?_,?_⟩
  · rcases List.mem_append.1 hy with hy|hy
    · rw [ha] at hy;exact h.all y (List.mem_of_mem_take hy)
    · rw [hb] at hy;exact h.all y (List.mem_of_mem_drop hy)
  · have:=h.len
    rw [List.length_append,ha,hb,List.length_take,List.length_drop]
    omega
theorem RowW.at {α:Type} [Inhabited α] {P:α→Prop}{n:Nat}{xs:List α} (h:RowW P n xs) {k:Nat} (hk:k < xs.length):P (xs.getD k default):=by
  rw [List.getD_eq_getElem?_getD,List.getElem?_eq_getElem hk]
  exact h.all _ (List.getElem_mem hk)
theorem RowW.getD {α:Type} [Inhabited α] {P:α→Prop}{n:Nat}{xs:List α} (h:RowW P n xs) (h0:P default) (k:Nat):P (xs.getD k default):=getD_of h0 h.all k
theorem RowW.set {α:Type}{P:α→Prop}{n k:Nat}{xs:List α}{x:α} (h:RowW P n xs) (hx:P x):RowW P n (xs.set k x):=by
  refine ⟨fun y hy=>?_,by rw [List.length_set];exact h.len⟩
  rcases List.mem_or_eq_of_mem_set hy with hy|hy
  · exact h.all y hy
  · rw [hy];exact hx
structure StrW (s:ByteArray):Prop where
  sz:s.size≤1000
structure LabW (x:LabelD):Prop where
  key:x.key.size≤1000
  value:x.value.size≤1000
structure TntW (x:TaintD):Prop where
  key:x.key.size≤1000
  value:x.value.size≤1000
  effect:intOk x.effect
structure TolW (x:TolerD):Prop where
  key:x.key.size≤1000
  value:x.value.size≤1000
  effect:intOk x.effect
structure NedW (x:NeedD):Prop where
  key:x.key.size≤1000
  op:intOk x.op
  values:RowW StrW 50 x.values
structure PodW (x:PodD):Prop where
  name:x.name.size≤1000
  labels:RowW LabW 41 x.labels
  cpu:intOk x.cpu
  mem:intOk x.mem
  rank:intOk x.rank
  needs:RowW NedW 41 x.needs
  tolers:RowW TolW 41 x.tolers
structure HostW (x:HostD):Prop where
  name:x.name.size≤1000
  labels:RowW LabW 41 x.labels
  cpu:intOk x.cpu
  mem:intOk x.mem
  slots:intOk x.slots
  taints:RowW TntW 41 x.taints
structure PlcW (x:PlacedD):Prop where
  pod:PodW x.pod
  on:x.on.size≤1000
  seq:intOk x.seq
/-- A cluster of few things (h hosts, p pods at most). -/
structure CluW (h p:Nat) (c:ClusterD):Prop where
  hosts:RowW HostW h c.hosts
  pods:RowW PlcW p c.pods
  next:intOk c.next
theorem StrW.zero:StrW default:=⟨by decide⟩
theorem LabW.zero:LabW default:=⟨by decide,by decide⟩
theorem TntW.zero:TntW default:=⟨by decide,by decide,by decide⟩
theorem TolW.zero:TolW default:=⟨by decide,by decide,by decide⟩
theorem NedW.zero:NedW default:=⟨by decide,by decide,.nil⟩
theorem PodW.zero:PodW default:=⟨by decide,.nil,by decide,by decide,by decide,.nil,.nil⟩
theorem HostW.zero:HostW default:=⟨by decide,.nil,by decide,by decide,by decide,.nil⟩
theorem PlcW.zero:PlcW default:=⟨.zero,by decide,by decide⟩
theorem labs_fine {ls:List LabelD} (h:RowW LabW 41 ls):labelsFine ls:=⟨by have:=h.len;omega,fun k=>by have:=(h.getD .zero k).key;show _≤_;omega,fun k=>by have:=(h.getD .zero k).value;show _≤_;omega⟩
theorem NedW.fine {n:NeedD} (h:NedW n):n.fine:=⟨by have:=h.key;show _≤_;omega,h.op,by have:=h.values.len;omega,fun k=>by have:=(h.values.getD .zero k).sz;show _≤_;omega⟩
theorem TntW.fine {t:TaintD} (h:TntW t):t.fine:=⟨by have:=h.key;show _≤_;omega,by have:=h.value;show _≤_;omega,h.effect⟩
theorem TolW.fine {t:TolerD} (h:TolW t):t.fine:=⟨by have:=h.key;show _≤_;omega,by have:=h.value;show _≤_;omega,h.effect⟩
theorem PodW.fine {p:PodD} (h:PodW p):p.fine:=⟨by have:=h.name;show _≤_;omega,labs_fine h.labels,h.cpu,h.mem,h.rank,by have:=h.needs.len;omega,fun k=>(h.needs.getD .zero k).fine,by have:=h.tolers.len;omega,fun k=>(h.tolers.getD .zero k).fine⟩
theorem HostW.fine {p:HostD} (h:HostW p):p.fine:=⟨by have:=h.name;show _≤_;omega,labs_fine h.labels,h.cpu,h.mem,h.slots,by have:=h.taints.len;omega,fun k=>(h.taints.getD .zero k).fine⟩
theorem CluW.fine {h p:Nat}{c:ClusterD} (hc:CluW h p c) (hh:h≤1000) (hp:p≤1000):c.fine:=⟨by have:=hc.hosts.len;omega,fun k=>(hc.hosts.getD .zero k).fine,by have:=hc.pods.len;omega,fun k=>(hc.pods.getD .zero k).pod.fine,fun k=>by have:=(hc.pods.getD .zero k).on;show _≤_;omega,fun k=>(hc.pods.getD .zero k).seq,hc.next⟩
/-- The first k and the rest, under names of their own. -/
structure Cut {α:Type} (xs a b:List α) (k j:Nat):Prop where
  fst:a=xs.take k
  snd:b=xs.drop j
theorem strs_app (a b:List ByteArray):strsD a++strsD b=strsD (a++b):=by simp [strsD]
section
variable {α:Type}{cells:α→List D}{size:Nat}
theorem flt_take (hs:∀ x,(cells x).length=size) (xs:List α) (k:Nat) (h:k≤xs.length):(flatD cells xs).take (k*size)=flatD cells (xs.take k):=flat_take hs xs k
theorem flt_tail (hs:∀ x,(cells x).length=size) (xs:List α) (k:Nat):((flatD cells xs).drop (k*size)).take ((xs.length - k)*size)=flatD cells (xs.drop k):=by
  rw [flat_drop hs xs k]
  exact List.take_of_length_le (by rw [flat_len hs,List.length_drop];exact Nat.le_refl _)
/-- The first k of a row, and what is from j on. -/
theorem flt_cut (hs:∀ x,(cells x).length=size) (xs:List α) (k j:Nat) (hk:k≤xs.length) (hj:j≤xs.length):∃ a b,Cut xs a b k j∧a.length=k∧b.length=xs.length - j∧(flatD cells xs).take (k*size)=flatD cells a∧((flatD cells xs).drop (j*size)).take ((xs.length - j)*size)=flatD cells b:=
  ⟨_,_,⟨rfl,rfl⟩,by rw [List.length_take];omega,List.length_drop,flt_take hs xs k hk,flt_tail hs xs j⟩
end
theorem strs_cut (xs:List ByteArray) (k j:Nat) (hk:k≤xs.length) (hj:j≤xs.length):∃ a b,Cut xs a b k j∧a.length=k∧b.length=xs.length - j∧(strsD xs).take k=strsD a∧((strsD xs).drop j).take (xs.length - j)=strsD b:=
  ⟨_,_,⟨rfl,rfl⟩,by rw [List.length_take];omega,List.length_drop,by simp [strsD,List.map_take],by rw [show (strsD xs).drop j=strsD (xs.drop j) by simp [strsD,List.map_drop]];exact List.take_of_length_le (by rw [strsD_len,List.length_drop];exact Nat.le_refl _)⟩
theorem labels_cut (xs:List LabelD) (k j:Nat) (hk:k≤xs.length) (hj:j≤xs.length):∃ a b,Cut xs a b k j∧a.length=k∧b.length=xs.length - j∧(labelsD xs).take (k*2)=labelsD a∧((labelsD xs).drop (j*2)).take ((xs.length - j)*2)=labelsD b:=flt_cut labelCells_len xs k j hk hj
theorem labels_app (a b:List LabelD):labelsD a++labelsD b=labelsD (a++b):=(flat_append (cells:=labelCells) a b).symm
theorem taints_cut (xs:List TaintD) (k j:Nat) (hk:k≤xs.length) (hj:j≤xs.length):∃ a b,Cut xs a b k j∧a.length=k∧b.length=xs.length - j∧(taintsD xs).take (k*3)=taintsD a∧((taintsD xs).drop (j*3)).take ((xs.length - j)*3)=taintsD b:=flt_cut taintCells_len xs k j hk hj
theorem taints_app (a b:List TaintD):taintsD a++taintsD b=taintsD (a++b):=(flat_append (cells:=taintCells) a b).symm
theorem tolers_cut (xs:List TolerD) (k j:Nat) (hk:k≤xs.length) (hj:j≤xs.length):∃ a b,Cut xs a b k j∧a.length=k∧b.length=xs.length - j∧(tolersD xs).take (k*4)=tolersD a∧((tolersD xs).drop (j*4)).take ((xs.length - j)*4)=tolersD b:=flt_cut tolerCells_len xs k j hk hj
theorem tolers_app (a b:List TolerD):tolersD a++tolersD b=tolersD (a++b):=(flat_append (cells:=tolerCells) a b).symm
theorem needs_cut (xs:List NeedD) (k j:Nat) (hk:k≤xs.length) (hj:j≤xs.length):∃ a b,Cut xs a b k j∧a.length=k∧b.length=xs.length - j∧(needsD xs).take (k*3)=needsD a∧((needsD xs).drop (j*3)).take ((xs.length - j)*3)=needsD b:=flt_cut needCells_len xs k j hk hj
theorem needs_app (a b:List NeedD):needsD a++needsD b=needsD (a++b):=(flat_append (cells:=needCells) a b).symm
theorem labels_put (xs:List LabelD) (k v:ByteArray):labelsD xs ++ [.sc (.string k),.sc (.string v)]=labelsD (xs ++ [⟨k,v⟩]):=(flat_snoc (cells:=labelCells) xs ⟨k,v⟩).symm
theorem taints_put (xs:List TaintD) (k v:ByteArray) (e:Int):taintsD xs ++ [.sc (.string k),.sc (.string v),.sc (.int .i64 e)]=taintsD (xs ++ [⟨k,v,e⟩]):=(flat_snoc (cells:=taintCells) xs ⟨k,v,e⟩).symm
theorem tolers_put (xs:List TolerD) (k:ByteArray) (q:Bool) (v:ByteArray) (e:Int):tolersD xs ++ [.sc (.string k),.sc (.bool q),.sc (.string v),.sc (.int .i64 e)]=tolersD (xs ++ [⟨k,q,v,e⟩]):=(flat_snoc (cells:=tolerCells) xs ⟨k,q,v,e⟩).symm
theorem needs_put (xs:List NeedD) (k:ByteArray) (o:Int) (vs:List ByteArray):needsD xs ++ [.sc (.string k),.sc (.int .i64 o),.sl vs.length (strsD vs)]=needsD (xs ++ [⟨k,o,vs⟩]):=(flat_snoc (cells:=needCells) xs ⟨k,o,vs⟩).symm
theorem strs_put (xs:List ByteArray) (x:ByteArray):strsD xs ++ [.sc (.string x)]=strsD (xs ++ [x]):=by simp [strsD]
theorem ints_put (xs:List Int) (x:Int):intsD xs ++ [.sc (.int .i64 x)]=intsD (xs ++ [x]):=by simp [intsD]
theorem RowW.len_lab {xs:List LabelD} (h:labelsB xs=true):xs.length≤6:=by
  unfold labelsB at h
  simp only [Bool.and_eq_true,decide_eq_true_eq] at h
  exact h.1
theorem RowW.len_taints {xs:List TaintD} (h:taintsB xs=true):xs.length≤4:=by
  unfold taintsB at h
  simp only [Bool.and_eq_true,decide_eq_true_eq] at h
  exact h.1
theorem RowW.len_tolers {xs:List TolerD} (h:tolersB xs=true):xs.length≤4:=by
  unfold tolersB at h
  simp only [Bool.and_eq_true,decide_eq_true_eq] at h
  exact h.1
theorem RowW.len_needs {xs:List NeedD} (h:needsB xs=true):xs.length≤4:=by
  unfold needsB at h
  simp only [Bool.and_eq_true,decide_eq_true_eq] at h
  exact h.1
end Go.Proofs.YtidjjfjhmlndjaaGreatDoor
