/- Dr3, Dr4, Dw2, Dr7 (what is wanted of them). -/
import Derived.Test.YtidjjfjhmlndjaaGreatDoorVDr1
import Derived.Test.YtidjjfjhmlndjaaGreatDoorVDr2
import Derived.Test.YtidjjfjhmlndjaaGreatDoorVCl3
namespace Go.Proofs.YtidjjfjhmlndjaaGreatDoor
open Go.RowKit
set_option linter.unusedVariables false
set_option linter.unusedSimpArgs false
set_option maxRecDepth 100000
set_option maxHeartbeats 4000000
theorem lab_of {k v:ByteArray} (hk:SmallS k) (hv:SmallS v):LabW ⟨k,v⟩:=⟨by have:=hk.sz;show k.size≤_;omega,by have:=hv.sz;show v.size≤_;omega⟩
theorem tnt_of {k v:ByteArray}{e:Int} (hk:SmallS k) (hv:SmallS v) (he:intOk e):TntW ⟨k,v,e⟩:=⟨by have:=hk.sz;show k.size≤_;omega,by have:=hv.sz;show v.size≤_;omega,he⟩
theorem tol_of {k v:ByteArray}{q:Bool}{e:Int} (hk:k.size≤100) (hv:v.size≤100) (he:intOk e):TolW ⟨k,q,v,e⟩:=⟨by show k.size≤_;omega,by show v.size≤_;omega,he⟩
theorem srt_row {α:Type}{W:α→Prop}{B:List α→Bool}{r:List α}{b:Bool}{n:Nat} (h:SrtW W B r b) (hb:b=true) (hl:B r=true→r.length≤n):RowW W n r:=⟨h.row.all,hl (h.ok hb)⟩
theorem sortLabels_N (ls:List LabelD) (n:Nat) (hn:n=ls.length) (hl:RowW LabW 41 ls):SpecH Tryz.prog 311 [.sl n (labelsD ls)] [] 0 (fun d os' nb'=>∃ r b,SrtW LabW labelsB r b∧d = .tup [.own 0 0 r.length,.sc (.bool b)]∧os' = [(0,⟨217,2,(r).length,labelsD (r)⟩)]∧nb' = 1):=by
  subst hn
  exact spec_SortLabels_D ls hl
theorem sortTaints_N (ls:List TaintD) (n:Nat) (hn:n=ls.length) (hl:RowW TntW 41 ls):SpecH Tryz.prog 75 [.sl n (taintsD ls)] [] 0 (fun d os' nb'=>∃ r b,SrtW TntW taintsB r b∧d = .tup [.own 0 0 r.length,.sc (.bool b)]∧os' = [(0,⟨118,3,(r).length,taintsD (r)⟩)]∧nb' = 1):=by
  subst hn
  exact spec_SortTaints_D ls hl
theorem sortTolerances_N (ls:List TolerD) (n:Nat) (hn:n=ls.length) (hl:RowW TolW 41 ls):SpecH Tryz.prog 315 [.sl n (tolersD ls)] [] 0 (fun d os' nb'=>∃ r b,SrtW TolW tolersB r b∧d = .tup [.own 0 0 r.length,.sc (.bool b)]∧os' = [(0,⟨145,4,(r).length,tolersD (r)⟩)]∧nb' = 1):=by
  subst hn
  exact spec_SortTolerances_D ls hl
theorem srtNeedsN (ls:List NeedD) (n:Nat) (hn:n=ls.length) (hl:RowW NedW 41 ls):SpecH Tryz.prog 63 [.sl n (needsD ls)] [] 0 (fun d os' nb'=>∃ r b,SrtW NedW needsB r b∧d = .tup [.own 0 0 r.length,.sc (.bool b)]∧os' = [(0,⟨103,3,(r).length,needsD (r)⟩)]∧nb' = 1):=by
  subst hn
  exact spec_SortNeeds_D ls hl
theorem ned_of {k:ByteArray}{e:Int}{vs:List ByteArray} (hk:SmallS k) (he:intOk e) (hv:RowW StrW 50 vs):NedW ⟨k,e,vs⟩:=⟨by have:=hk.sz;show k.size≤_;omega,he,hv⟩
theorem spec_l16Taint_D (bs:List Int) (i g:Int) (hc:CurOk bs i):SpecH Tryz.prog 317 [.ptr 0 0] [(0,⟨223,3,1, [.sl bs.length (u8D bs),.sc (.int .i64 i),.sc (.int .i64 g)]⟩)] 1 (fun d os' nb'=>∃ i' g':Int,∃ t:TaintD,CurOk bs i'∧(TntW t)∧d = .agg (taintCells t)∧os' = [(0,⟨223,3,1, [.sl bs.length (u8D bs),.sc (.int .i64 i'),.sc (.int .i64 g')]⟩)]∧nb' = 1):=by
  refine spH_ (rs:= [.cell 2 118]) (nt:=11) Tryz.func317 rfl fun X hX=>?_
  refine nm_ ?_
  repeat' ((first|contradiction|(with_reducible exact tt_)|((with_reducible show Wk (AwStepF _ _ _ _ _ _ _));first|(refine awH_ rfl (spec_l14Key_D bs _ _ (by assumption)) [0] ?_;rintro _ _ _ ⟨i1,g1,x1,hc1,hx1,rfl,rfl,rfl⟩ _)|(refine awH_ rfl (spec_l14Value_D bs _ _ (by assumption)) [0] ?_;rintro _ _ _ ⟨i1,g1,x2,hc1,hx2,rfl,rfl,rfl⟩ _)|(refine awH_ rfl (spec_l01Below_D bs _ _ (by assumption) 2 (by decide)) [0] ?_;rintro _ _ _ ⟨i1,g1,y,hc1,hy,rfl,rfl,rfl⟩ _;(have hloy:=hy.lo;have hhiy:=hy.hi (by decide);clear hy)))|((with_reducible show Wk (AwStep _ _ _ _ _));first|(refine pln_ ?_))|((with_reducible show Wk (boolK _ _ _ _));first|(refine bk_ (fun h h'=>?_) (fun h h'=>?_)))|((with_reducible show Wk (_∧_));first|(refine and_ ?_ ?_))|((with_reducible show Wk (retOkH _ _ _ _ _));first|(refine rh_ [] ?_))|fail)<;>(try refine nm_ ?_))
  all_goals (refine ⟨?_⟩)
  all_goals first|contradiction|(exfalso;omega)|(exact ⟨_,_,⟨_,_,_⟩,(by assumption),tnt_of hx1 hx2 (by constructor<;>omega),rfl,rfl,rfl⟩)|(exact ⟨_,_,⟨_,_,_⟩,(by assumption),tnt_of hx1 hx2 (by constructor<;>omega),rfl,rfl⟩)
theorem spec_l16Tolerance_D (bs:List Int) (i g:Int) (hc:CurOk bs i):SpecH Tryz.prog 316 [.ptr 0 0] [(0,⟨223,3,1, [.sl bs.length (u8D bs),.sc (.int .i64 i),.sc (.int .i64 g)]⟩)] 1 (fun d os' nb'=>∃ i' g':Int,∃ t:TolerD,CurOk bs i'∧(TolW t)∧d = .agg (tolerCells t)∧os' = [(0,⟨223,3,1, [.sl bs.length (u8D bs),.sc (.int .i64 i'),.sc (.int .i64 g')]⟩)]∧nb' = 1):=by
  refine spH_ (rs:= [.cell 2 145]) (nt:=19) Tryz.func316 rfl fun X hX=>?_
  refine nm_ ?_
  repeat' ((first|contradiction|(with_reducible exact tt_)|((with_reducible show Wk (AwStepF _ _ _ _ _ _ _));first|(refine awH_ rfl (spec_l14Key_D bs _ _ (by assumption)) [0] ?_;rintro _ _ _ ⟨i1,g1,x1,hc1,hx1,rfl,rfl,rfl⟩ _)|(refine awH_ rfl (spec_l14Value_D bs _ _ (by assumption)) [0] ?_;rintro _ _ _ ⟨i1,g1,x2,hc1,hx2,rfl,rfl,rfl⟩ _)|(refine awH_ rfl (spec_l01Below_D bs _ _ (by assumption) 3 (by decide)) [0] ?_;rintro _ _ _ ⟨i1,g1,y,hc1,hy,rfl,rfl,rfl⟩ _;(have hloy:=hy.lo;have hhiy:=hy.hi (by decide);clear hy))|(refine awH_ rfl (spec_l01Once_D bs _ _ (by assumption) 2 (by decide)) [0] ?_;rintro _ _ _ ⟨i1,g1,b,hc1,hb,rfl,rfl,rfl⟩ _)|(refine awH_ rfl (spec_l01Once_D bs _ _ (by assumption) 3 (by decide)) [0] ?_;rintro _ _ _ ⟨i1,g1,b3,hc1,hb3,rfl,rfl,rfl⟩ _))|((with_reducible show Wk (AwStep _ _ _ _ _));first|(refine pln_ ?_))|((with_reducible show Wk (boolK _ _ _ _));first|(refine bk_ (fun h h'=>?_) (fun h h'=>?_)))|((with_reducible show Wk (_∧_));first|(refine and_ ?_ ?_))|((with_reducible show Wk (retOkH _ _ _ _ _));first|(refine rh_ [] ?_))|fail)<;>(try refine nm_ ?_))
  all_goals (refine ⟨?_⟩)
  all_goals first|contradiction|(exfalso;omega)|(exact ⟨_,_,⟨_,_,_,_⟩,(by assumption),tol_of hx1.sz hx2.sz (by constructor<;>omega),rfl,rfl,rfl⟩)|(exact ⟨_,_,⟨_,_,_,_⟩,(by assumption),tol_of hx1.sz hx2.sz (by constructor<;>omega),rfl,rfl⟩)|(exact ⟨_,_,⟨_,_,_,_⟩,(by assumption),tol_of hx1.sz (by decide) (by constructor<;>omega),rfl,rfl,rfl⟩)|(exact ⟨_,_,⟨_,_,_,_⟩,(by assumption),tol_of hx1.sz (by decide) (by constructor<;>omega),rfl,rfl⟩)|(exact ⟨_,_,⟨_,_,_,_⟩,(by assumption),tol_of (by decide) hx2.sz (by constructor<;>omega),rfl,rfl,rfl⟩)|(exact ⟨_,_,⟨_,_,_,_⟩,(by assumption),tol_of (by decide) hx2.sz (by constructor<;>omega),rfl,rfl⟩)|(exact ⟨_,_,⟨_,_,_,_⟩,(by assumption),tol_of (by decide) (by decide) (by constructor<;>omega),rfl,rfl,rfl⟩)|(exact ⟨_,_,⟨_,_,_,_⟩,(by assumption),tol_of (by decide) (by decide) (by constructor<;>omega),rfl,rfl⟩)
theorem spec_l15Need_D (bs:List Int) (i g:Int) (hc:CurOk bs i):SpecH Tryz.prog 314 [.ptr 0 0] [(0,⟨223,3,1, [.sl bs.length (u8D bs),.sc (.int .i64 i),.sc (.int .i64 g)]⟩)] 1 (fun d os' nb'=>∃ i' g':Int,∃ n:NeedD,CurOk bs i'∧(NedW n)∧d = .agg (needCells n)∧os' = [(0,⟨223,3,1, [.sl bs.length (u8D bs),.sc (.int .i64 i'),.sc (.int .i64 g')]⟩)]∧nb' = 1):=by
  have ex0:=@strs_put
  refine spJ_ (rs:= [.cell 2 103]) (nt:=32) Tryz.func314 rfl fun X hX=>?_
  refine nm_ ?_
  repeat' ((first|contradiction|(with_reducible exact tt_)|((with_reducible show Wk (AwStepF _ _ _ _ _ _ _));first|(refine app_ rfl ?_)|(refine awH_ rfl (spec_l14Key_D bs _ _ (by assumption)) [0] ?_;rintro _ _ _ ⟨i1,g1,x1,hc1,hx1,rfl,rfl,rfl⟩ _)|(refine awH_ rfl (spec_l14Value_D bs _ _ (by assumption)) [0] ?_;rintro _ _ _ ⟨i1,g1,x2,hc1,hx2,rfl,rfl,rfl⟩ _)|(refine awH_ rfl (spec_l01Below_D bs _ _ (by assumption) 4 (by decide)) [0] ?_;rintro _ _ _ ⟨i1,g1,y,hc1,hy,rfl,rfl,rfl⟩ _;(have hloy:=hy.lo;have hhiy:=hy.hi (by decide);clear hy))|(refine awH_ rfl (spec_l01Below_D bs _ _ (by assumption) 3 (by decide)) [0] ?_;rintro _ _ _ ⟨i1,g1,z,hc1,hz,rfl,rfl,rfl⟩ _;(have hloz:=hz.lo;have hhiz:=hz.hi (by decide);clear hz))|(refine afz_ [3] ?_;refine nm_ ?_;refine cl_ rfl _ _ (spec_l15Values_D o 50 (hW.out.mono (by omega)) (by omega)) rfl rfl ?_;rintro _ ⟨r,hr,rfl⟩))|((with_reducible show Wk (AwStep _ _ _ _ _));first|(refine pln_ ?_))|((with_reducible show Wk (AwCode _ _ _ _ _));first|(refine lpK_ (ι:=Nat × Int × Int × List ByteArray) [] [0,1,2,3] 0x3d (fun ⟨i,p,q,o⟩=> [(5,.sc (.int .i64 (i:Int))),(4,.own 3 0 o.length)]) (fun ⟨i,p,q,o⟩=> [(0,⟨223,3,1, [.sl bs.length (u8D bs),.sc (.int .i64 p),.sc (.int .i64 q)]⟩),(3,⟨9,1,(o).length,strsD (o)⟩)]) (fun ⟨i,p,q,o⟩=>CurOk bs p∧i≤3∧RowW StrW i o) (fun ⟨i,p,q,o⟩=>3 - i) (0,i1,g1, []) ?_ ?_;(focus (exact ⟨by assumption,Nat.zero_le _,.nil⟩));rintro _ hN0 ⟨i,p,q,o⟩ hinv;(try dsimp only at hinv);obtain ⟨hcp,hi,hW⟩:=hinv;have hol:=hW.len;replace hW:=Lib.hid hW;skip))|((with_reducible show Wk (boolK _ _ _ _));first|(refine bk_ (fun h h'=>?_) (fun h h'=>?_)))|((with_reducible show Wk (_∧_));first|(refine and_ ?_ ?_))|((with_reducible show Wk (retOkJ _ _ _ _ _));first|(refine rjj_ [.nil 1 2 9 1,.frz 3] [] ?_;refine nm_ ?_;fail_if_success (show Wk False))|(refine rjj_ [] [] ?_;refine nm_ ?_;fail_if_success (show Wk False))|(refine rjj_ [] [] ?_;refine nm_ ?_;fail_if_success (show Wk False)))|(refine hN0.run ((i+1,i1,g1,o ++ [x2])) [] [0,1,2,5] ?_ ?_;(focus (exact ⟨by assumption,by show i+1≤3;omega,hW.out.snoc ⟨by have:=hx2.sz;omega⟩ (Nat.le_refl _)⟩));(focus (show 3 - (i+1) < 3 - i;omega)))|fail)<;>(try refine nm_ ?_))
  all_goals clear ex0
  all_goals (refine ⟨?_⟩)
  all_goals first|contradiction|(exfalso;omega)|(exact ⟨_,_,⟨_,_,_⟩,(by assumption),ned_of hx1 (by constructor<;>omega) (hr.mono (by omega)),rfl,rfl,rfl⟩)|(exact ⟨_,_,⟨_,_,_⟩,(by assumption),ned_of hx1 (by constructor<;>omega) (hr.mono (by omega)),rfl,rfl⟩)|(exact ⟨_,_,⟨_,_, []⟩,(by assumption),ned_of hx1 (by constructor<;>omega) .nil,rfl,rfl,rfl⟩)|(exact ⟨_,_,⟨_,_, []⟩,(by assumption),ned_of hx1 (by constructor<;>omega) .nil,rfl,rfl⟩)
end Go.Proofs.YtidjjfjhmlndjaaGreatDoor
namespace Go.Proofs.YtidjjfjhmlndjaaGreatDoor
open Go.RowKit
set_option linter.unusedVariables false
set_option linter.unusedSimpArgs false
set_option maxRecDepth 100000
set_option maxHeartbeats 4000000
theorem hostS_mk {n:ByteArray}{ls:List LabelD}{c m s:Int}{ts:List TaintD} (hn:n.size≤1000) (hl:RowW LabW 6 ls) (hc:intOk c) (hm:intOk m) (hs:intOk s) (ht:RowW TntW 4 ts):HostW ⟨n,ls,c,m,s,ts⟩:=⟨hn,hl.mono (by decide),hc,hm,hs,ht.mono (by decide)⟩
theorem podS_mk {n:ByteArray}{ls:List LabelD}{c m r:Int}{ns:List NeedD}{ts:List TolerD} (hn:n.size≤1000) (hl:RowW LabW 6 ls) (hc:intOk c) (hm:intOk m) (hr:intOk r) (hs:RowW NedW 4 ns) (ht:RowW TolW 4 ts):PodW ⟨n,ls,c,m,r,ns,ts⟩:=⟨hn,hl.mono (by decide),hc,hm,hr,hs.mono (by decide),ht.mono (by decide)⟩
theorem l15Copy_T (ns:List NeedD) (hl:RowW NedW 41 ns):SpecH Tryz.prog 123 [.sl ns.length (needsD ns)] [] 0 (fun d os' nb'=>d = .own 0 0 ns.length∧os' = [(0,⟨103,3,(ns).length,needsT (ns)⟩)]∧nb' = 1):=by
  have hll:=hl.len
  have ex0:=@needsT_one
  refine spH_ (rs:= [.tmp 2]) (nt:=27) Tryz.func123 rfl fun X hX=>?_
  refine nm_ ?_
  repeat' ((first|contradiction|(with_reducible exact tt_)|((with_reducible show Wk (AwStepF _ _ _ _ _ _ _));first|(refine app_ rfl ?_))|((with_reducible show Wk (AwStep _ _ _ _ _));first|(refine pln_ ?_))|((with_reducible show Wk (AwCode _ _ _ _ _));first|(refine lpK_ (ι:=Nat × List NeedD) [] [0] 0x19 (fun ⟨i,o⟩=> [(4,.sc (.int .i64 (i:Int))),(3,.own 0 0 o.length)]) (fun ⟨i,o⟩=> [(0,⟨103,3,(o).length,needsT (o)⟩)]) (fun ⟨i,o⟩=>i≤ns.length∧o=ns.take i) (fun ⟨i,o⟩=>ns.length - i) (0, []) ?_ ?_;(focus (exact ⟨Nat.zero_le _,rfl⟩));rintro _ hN0 ⟨i,o⟩ hinv;(try dsimp only at hinv);obtain ⟨hi,hW⟩:=hinv;have hol:o.length=i:=(by rw [hW,List.length_take];omega);replace hW:=Lib.hid hW;have hv:i < ns.length→(ns.getD i default).values.length≤50:=fun h=>(hl.at h).values.len;skip))|((with_reducible show Wk (boolK _ _ _ _));first|(refine bk_ (fun h h'=>?_) (fun h h'=>?_)))|((with_reducible show Wk (_∧_));first|(refine and_ ?_ ?_))|((with_reducible show Wk (retOkH _ _ _ _ _));first|(refine rh_ [0] ?_))|(refine hN0.run ((i+1,o ++ [(ns.getD i default)])) [.abs 3 5] [5] ?_ ?_;(focus (exact ⟨by show i+1≤ns.length;omega,by rw [hW.out];exact (take_snoc ns i (by omega)).symm⟩));(focus (show ns.length - (i+1) < ns.length - i;omega)))|fail)<;>(try refine nm_ ?_))
  all_goals clear ex0
  all_goals (refine ⟨?_⟩)
  all_goals first|contradiction|(exfalso;omega)|(have e:=hW.out;rw [List.take_of_length_le (by omega)] at e;have ei:i=ns.length:=(by omega);first|(rw [ei];done)|(rw [ei,e];done)|(rw [e];done))
end Go.Proofs.YtidjjfjhmlndjaaGreatDoor
namespace Go.Proofs.YtidjjfjhmlndjaaGreatDoor
open Go.RowKit
set_option linter.unusedVariables false
section
variable {α:Type} [Inhabited α] {cells:α→List D}{size:Nat}
end
theorem CluW.mono {h p h' p':Nat}{c:ClusterD} (x:CluW h p c) (h1:h≤h') (h2:p≤p'):CluW h' p' c:=⟨x.hosts.mono h1,x.pods.mono h2,x.next⟩
theorem CluW.new:CluW 8 12 ⟨[], [],1,2,1,3⟩:=⟨.nil,.nil,by decide⟩
end Go.Proofs.YtidjjfjhmlndjaaGreatDoor
namespace Go.Proofs.YtidjjfjhmlndjaaGreatDoor
open Go.RowKit
set_option linter.unusedVariables false
set_option linter.unusedSimpArgs false
set_option maxRecDepth 100000
set_option maxHeartbeats 4000000
def manPodCells (p:PodD):List D:= [.sc (.int .i64 1),.sc (.string p.name),.sl p.labels.length (labelsD p.labels),.sc (.int .i64 p.cpu),.sc (.int .i64 p.mem),.sc (.int .i64 p.rank),.sl p.needs.length (needsD p.needs),.sl p.tolers.length (tolersD p.tolers),.sc (.string ⟨#[]⟩),.sc (.slice none 0 0),.sc (.int .i64 0),.sc (.int .i64 0),.sc (.int .i64 0),.sc (.slice none 0 0)]
def manHostCells (h:HostD):List D:= [.sc (.int .i64 2),.sc (.string ⟨#[]⟩),.sc (.slice none 0 0),.sc (.int .i64 0),.sc (.int .i64 0),.sc (.int .i64 0),.sc (.slice none 0 0),.sc (.slice none 0 0),.sc (.string h.name),.sl h.labels.length (labelsD h.labels),.sc (.int .i64 h.cpu),.sc (.int .i64 h.mem),.sc (.int .i64 h.slots),.sl h.taints.length (taintsD h.taints)]
end Go.Proofs.YtidjjfjhmlndjaaGreatDoor
