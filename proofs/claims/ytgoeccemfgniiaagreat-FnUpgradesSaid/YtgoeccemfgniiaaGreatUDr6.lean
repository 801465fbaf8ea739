/- Dr6 (what is wanted of them). -/
import Derived.Test.YtgoeccemfgniiaaGreatUDw
import Derived.Test.YtgoeccemfgniiaaGreatUCl3
import Derived.Test.YtgoeccemfgniiaaGreatUNo
import Derived.Test.YtgoeccemfgniiaaGreatUKeep
namespace Go.Proofs.YtgoeccemfgniiaaGreat
open Go.RowKit
set_option linter.unusedVariables false
set_option linter.unusedSimpArgs false
set_option maxRecDepth 100000
set_option maxHeartbeats 4000000
theorem spec_l15Has_D (ss:List ByteArray) (s:ByteArray) (hn:ss.length≤1000):Spec Tryz.prog 449 [.sl ss.length (strsD ss),.sc (.string s)] (fun d=>∃ q:Bool,d = .sc (.bool q)):=by
  refine sp_ (rs:= [.tmp 4]) (nt:=18) Tryz.func449 rfl fun X hX=>?_
  refine nm_ ?_
  repeat' ((first|contradiction|(with_reducible exact tt_)|((with_reducible show Wk (AwStep _ _ _ _ _));first|(refine pln_ ?_))|((with_reducible show Wk (AwCode _ _ _ _ _));first|(refine lpU_ 0x23 (ι:=Nat) (fun k=> [(5,.sc (.int .i64 (k:Int)))]) (fun k=>k≤ss.length) (fun k=>ss.length - k) 0 ?_ ?_;(focus (exact Nat.zero_le _));rintro _ hN0 k hinv;(try dsimp only at hinv);have hk:k≤ss.length:=hinv;skip))|((with_reducible show Wk (boolK _ _ _ _));first|(refine bk_ (fun h h'=>?_) (fun h h'=>?_)))|((with_reducible show Wk (_∧_));first|(refine and_ ?_ ?_))|(refine hN0.go (k+1) ?_ ?_;(focus (show k+1≤ss.length;omega));(focus (show ss.length - (k+1) < ss.length - k;omega)))|fail)<;>(try refine nm_ ?_))
  all_goals (refine ⟨?_⟩)
  all_goals first|contradiction|(exfalso;omega)|(exact ⟨_,rfl⟩)|(exact ⟨_,_,rfl⟩)
theorem spec_LabelAt_D (ls:List LabelD) (s:ByteArray) (hn:ls.length≤1000):Spec Tryz.prog 448 [.sl ls.length (labelsD ls),.sc (.string s)] (fun d=>∃ v:ByteArray,∃ q:Bool,d = .tup [.sc (.string v),.sc (.bool q)]):=by
  refine sp_ (rs:= [.tmp 4,.tmp 5]) (nt:=25) Tryz.func448 rfl fun X hX=>?_
  refine nm_ ?_
  repeat' ((first|contradiction|(with_reducible exact tt_)|((with_reducible show Wk (AwStep _ _ _ _ _));first|(refine pln_ ?_))|((with_reducible show Wk (AwCode _ _ _ _ _));first|(refine lpU_ 0x43 (ι:=Nat) (fun k=> [(6,.sc (.int .i64 (k:Int)))]) (fun k=>k≤ls.length) (fun k=>ls.length - k) 0 ?_ ?_;(focus (exact Nat.zero_le _));rintro _ hN0 k hinv;(try dsimp only at hinv);have hk:k≤ls.length:=hinv;skip))|((with_reducible show Wk (boolK _ _ _ _));first|(refine bk_ (fun h h'=>?_) (fun h h'=>?_)))|((with_reducible show Wk (_∧_));first|(refine and_ ?_ ?_))|(refine hN0.go (k+1) ?_ ?_;(focus (show k+1≤ls.length;omega));(focus (show ls.length - (k+1) < ls.length - k;omega)))|fail)<;>(try refine nm_ ?_))
  all_goals (refine ⟨?_⟩)
  all_goals first|contradiction|(exfalso;omega)|(exact ⟨_,rfl⟩)|(exact ⟨_,_,rfl⟩)
theorem spec_NeedMet_D (ls:List LabelD) (x:NeedD) (hn:ls.length≤1000) (hv:x.values.length≤1000):Spec Tryz.prog 444 [.sl ls.length (labelsD ls),.agg (needCells x)] (fun d=>∃ q:Bool,d = .sc (.bool q)):=by
  unfold needCells
  refine sp_ (rs:= [.tmp 4]) (nt:=44) Tryz.func444 rfl fun X hX=>?_
  refine nm_ ?_
  repeat' ((first|contradiction|(with_reducible exact tt_)|((with_reducible show Wk (AwStepF _ _ _ _ _ _ _));first|(refine cl_ rfl _ _ (spec_NeedOk_D x) rfl rfl ?_;rintro _ rfl)|(refine cl_ rfl _ _ (spec_LabelAt_D ls x.key hn) rfl rfl ?_;rintro _ ⟨v,q,rfl⟩)|(refine cl_ rfl _ _ (spec_l15Has_D x.values v hv) rfl rfl ?_;rintro _ ⟨q2,rfl⟩))|((with_reducible show Wk (AwStep _ _ _ _ _));first|(refine pln_ ?_))|((with_reducible show Wk (boolK _ _ _ _));first|(refine bk_ (fun h h'=>?_) (fun h h'=>?_)))|((with_reducible show Wk (_∧_));first|(refine and_ ?_ ?_))|fail)<;>(try refine nm_ ?_))
  all_goals (refine ⟨?_⟩)
  all_goals first|contradiction|(exfalso;omega)|(exact ⟨_,rfl⟩)|(exact ⟨_,_,rfl⟩)
theorem spec_Selects_D (ns:List NeedD) (ls:List LabelD) (hw:RowW NedW 41 ns) (hn:ls.length≤1000):Spec Tryz.prog 438 [.sl ns.length (needsD ns),.sl ls.length (labelsD ls)] (fun d=>∃ q:Bool,d = .sc (.bool q)):=by
  have hwl:=hw.len
  refine sp_ (rs:= [.tmp 4]) (nt:=19) Tryz.func438 rfl fun X hX=>?_
  refine nm_ ?_
  repeat' ((first|contradiction|(with_reducible exact tt_)|((with_reducible show Wk (AwStepF _ _ _ _ _ _ _));first|(refine cl_ rfl _ _ (spec_NeedMet_D ls (ns.getD k default) hn (by have:=(hw.at (k:=k) (by omega)).values.len;omega)) rfl rfl ?_;rintro _ ⟨q,rfl⟩))|((with_reducible show Wk (AwStep _ _ _ _ _));first|(refine pln_ ?_))|((with_reducible show Wk (AwCode _ _ _ _ _));first|(refine lpU_ 0x23 (ι:=Nat) (fun k=> [(5,.sc (.int .i64 (k:Int)))]) (fun k=>k≤ns.length) (fun k=>ns.length - k) 0 ?_ ?_;(focus (exact Nat.zero_le _));rintro _ hN0 k hinv;(try dsimp only at hinv);have hk:k≤ns.length:=hinv;skip))|((with_reducible show Wk (boolK _ _ _ _));first|(refine bk_ (fun h h'=>?_) (fun h h'=>?_)))|((with_reducible show Wk (_∧_));first|(refine and_ ?_ ?_))|(refine hN0.go (k+1) ?_ ?_;(focus (show k+1≤ns.length;omega));(focus (show ns.length - (k+1) < ns.length - k;omega)))|fail)<;>(try refine nm_ ?_))
  all_goals (refine ⟨?_⟩)
  all_goals first|contradiction|(exfalso;omega)|(exact ⟨_,rfl⟩)|(exact ⟨_,_,rfl⟩)
theorem spec_Tolerates_D (t:TolerD) (x:TaintD):Spec Tryz.prog 439 [.agg (tolerCells t),.agg (taintCells x)] (fun d=>∃ q:Bool,d = .sc (.bool q)):=by
  unfold tolerCells taintCells
  refine sp_ (rs:= [.tmp 4]) (nt:=47) Tryz.func439 rfl fun X hX=>?_
  refine nm_ ?_
  repeat' ((first|contradiction|(with_reducible exact tt_)|((with_reducible show Wk (AwStepF _ _ _ _ _ _ _));first|(refine cl_ rfl _ _ (spec_ToleranceOk_D t) rfl rfl ?_;rintro _ rfl)|(refine cl_ rfl _ _ (spec_TaintOk_D x) rfl rfl ?_;rintro _ rfl))|((with_reducible show Wk (AwStep _ _ _ _ _));first|(refine pln_ ?_))|((with_reducible show Wk (boolK _ _ _ _));first|(refine bk_ (fun h h'=>?_) (fun h h'=>?_)))|((with_reducible show Wk (_∧_));first|(refine and_ ?_ ?_))|fail)<;>(try refine nm_ ?_))
  all_goals (refine ⟨?_⟩)
  all_goals first|contradiction|(exfalso;omega)|(exact ⟨_,rfl⟩)|(exact ⟨_,_,rfl⟩)
theorem spec_Untolerated_D (tl:List TolerD) (tn:List TaintD) (e:Int) (h1:tl.length≤1000) (h2:tn.length≤1000):Spec Tryz.prog 427 [.sl tl.length (tolersD tl),.sl tn.length (taintsD tn),.sc (.int .i64 e)] (fun d=>∃ m:Int,(0≤m∧m≤1000)∧d = .sc (.int .i64 m)):=by
  refine sp_ (rs:= [.tmp 6]) (nt:=47) Tryz.func427 rfl fun X hX=>?_
  refine nm_ ?_
  repeat' ((first|contradiction|(with_reducible exact tt_)|((with_reducible show Wk (AwStepF _ _ _ _ _ _ _));first|(refine cl_ rfl _ _ (spec_Tolerates_D (tl.getD k default) (tn.getD i default)) rfl rfl ?_;rintro _ ⟨q2,rfl⟩))|((with_reducible show Wk (AwStep _ _ _ _ _));first|(refine pln_ ?_))|((with_reducible show Wk (AwCode _ _ _ _ _));first|(refine wo_ (id:=9) [] [(0,true),(1,true),(2,true),(3,true),(4,true),(5,true),(6,true),(7,true),(8,true),(9,true),(10,false),(11,true),(12,true)] ?_)|((with_reducible show Wk (AwCode _ _ (.loop (.seq (.seq (.region 7 _ _) _) _)) _ _));refine lpU_ 0x787 (ι:=Nat × Bool) (fun ⟨k,q⟩=> [(9,.sc (.bool q)),(10,.sc (.int .i64 (k:Int)))]) (fun ⟨k,q⟩=>k≤tl.length) (fun ⟨k,q⟩=>tl.length - k) (0,_) ?_ ?_;(focus (exact Nat.zero_le _));rintro _ hN1 ⟨k,q⟩ hinv;(try dsimp only at hinv);have hk:k≤tl.length:=hinv;cases q;skip)|((with_reducible show Wk (AwCode _ _ (.loop (.seq (.seq (.region 3 _ _) _) _)) _ _));refine lpU_ 0x187 (ι:=Nat × Int) (fun ⟨i,m⟩=> [(7,.sc (.int .i64 m)),(8,.sc (.int .i64 (i:Int)))]) (fun ⟨i,m⟩=>i≤tn.length∧0≤m∧m≤i) (fun ⟨i,m⟩=>tn.length - i) (0,0) ?_ ?_;(focus (exact ⟨Nat.zero_le _,by decide,by decide⟩));rintro _ hN0 ⟨i,m⟩ hinv;(try dsimp only at hinv);obtain ⟨hi,hm0,hm1⟩:=hinv;skip))|((with_reducible show Wk (boolK _ _ _ _));first|(refine bk_ (fun h h'=>?_) (fun h h'=>?_)))|((with_reducible show Wk (_∧_));first|(refine and_ ?_ ?_))|(refine hN1.go ((k+1,true)) ?_ ?_;(focus (show k+1≤tl.length;omega));(focus (show tl.length - (k+1) < tl.length - k;omega)))|(refine hN1.go ((k+1,q2)) ?_ ?_;(focus (show k+1≤tl.length;omega));(focus (show tl.length - (k+1) < tl.length - k;omega)))|(refine hN0.go ((i+1,m)) ?_ ?_;(focus (exact ⟨by show i+1≤tn.length;omega,by omega,by omega⟩));(focus (show tn.length - (i+1) < tn.length - i;omega)))|(refine hN0.go ((i+1,m+1)) ?_ ?_;(focus (exact ⟨by show i+1≤tn.length;omega,by omega,by omega⟩));(focus (show tn.length - (i+1) < tn.length - i;omega)))|fail)<;>(try refine nm_ ?_))
  all_goals (refine ⟨?_⟩)
  all_goals first|contradiction|(exfalso;omega)|(exact ⟨_,⟨by omega,by omega⟩,rfl⟩)
theorem spec_ShareOf_D (a b:Int):Spec Tryz.prog 426 [.sc (.int .i64 a),.sc (.int .i64 b)] (fun d=>∃ m:Int,(0≤m∧m≤100)∧d = .sc (.int .i64 m)):=by
  refine sp_ (rs:= [.tmp 4]) (nt:=37) Tryz.func426 rfl fun X hX=>?_
  refine nm_ ?_
  repeat' ((first|contradiction|(with_reducible exact tt_)|((with_reducible show Wk (AwStep _ _ _ _ _));first|(refine pln_ ?_))|((with_reducible show Wk (AwCode _ _ _ _ _));first|(refine lpU_ 0xe3 (ι:=Nat × Int × Int) (fun ⟨i,m,r⟩=> [(5,.sc (.int .i64 m)),(6,.sc (.int .i64 r)),(7,.sc (.int .i64 (i:Int)))]) (fun ⟨i,m,r⟩=>i≤100∧0≤m∧m≤i) (fun ⟨i,m,r⟩=>100 - i) (0,0,0) ?_ ?_;(focus (exact ⟨Nat.zero_le _,by decide,by decide⟩));rintro _ hN0 ⟨i,m,r⟩ hinv;(try dsimp only at hinv);obtain ⟨hi,hm0,hm1⟩:=hinv;skip))|((with_reducible show Wk (boolK _ _ _ _));first|(refine bk_ (fun h h'=>?_) (fun h h'=>?_)))|((with_reducible show Wk (_∧_));first|(refine and_ ?_ ?_))|(refine hN0.go ((i+1,m,_)) ?_ ?_;(focus (exact ⟨by show i+1≤100;omega,by omega,by omega⟩));(focus (show 100 - (i+1) < 100 - i;omega)))|(refine hN0.go ((i+1,m+1,_)) ?_ ?_;(focus (exact ⟨by show i+1≤100;omega,by omega,by omega⟩));(focus (show 100 - (i+1) < 100 - i;omega)))|fail)<;>(try refine nm_ ?_))
  all_goals (refine ⟨?_⟩)
  all_goals first|contradiction|(exfalso;omega)|(exact ⟨_,⟨by omega,by omega⟩,rfl⟩)|(exact ⟨0,by decide,rfl⟩)|(exact ⟨100,by decide,rfl⟩)
theorem spec_ReasonOn_D (c:ClusterD) (nm:ByteArray) (p:PodD) (hw:CluW 20 20 c) (hp:PodW p):Spec Tryz.prog 425 [c.d,.sc (.string nm),.agg (podCells p)] (fun d=>∃ m:Int,(m=0→RsnB c nm p)∧d = .sc (.int .i64 m)):=by
  have hf:=hw.fine (by decide) (by decide);have hcl:=hw.hosts.len;have hx:=hw.hosts.getD HostW.zero (hostAtB c.hosts nm).toNat;have hr:-1≤hostAtB c.hosts nm∧hostAtB c.hosts nm < c.hosts.length:=⟨(firstN_rng _ _).1,(firstN_rng _ _).2.1⟩;have hxl:=hx.labels.len;have hxt:=hx.taints.len;have hpn:=hp.needs.len;have hpt:=hp.tolers.len;have hpc:=hp.cpu.2;have hpm:=hp.mem.2;unfold ClusterD.d podCells
  have ex0:=@hostCells.eq_1
  refine sp_ (rs:= [.tmp 6]) (nt:=85) Tryz.func425 rfl fun X hX=>?_
  refine nm_ ?_
  repeat' ((first|contradiction|(with_reducible exact tt_)|((with_reducible show Wk (AwStepF _ _ _ _ _ _ _));first|(refine cl_ rfl _ _ (spec_HostAt_D c nm (by omega)) rfl rfl ?_;rintro _ rfl)|(refine cl_ rfl _ _ (spec_UsedOn_D c nm hf) rfl rfl ?_;rintro _ rfl)|(refine cl_ rfl _ _ (spec_Selects_D p.needs (c.hosts.getD (hostAtB c.hosts nm).toNat default).labels hp.needs (by omega)) rfl rfl ?_;rintro _ ⟨q,rfl⟩)|(refine cl_ rfl _ _ (spec_Untolerated_D p.tolers (c.hosts.getD (hostAtB c.hosts nm).toNat default).taints 1 (by omega) (by omega)) rfl rfl ?_;rintro _ ⟨m,hm,rfl⟩;(have hm0:=hm.1;have hm1:=hm.2))|(refine cl_ rfl _ _ (spec_AddInt_D _ p.cpu (by omega)) rfl rfl ?_;rintro _ rfl)|(refine cl_ rfl _ _ (spec_AddInt_D _ p.mem (by omega)) rfl rfl ?_;rintro _ rfl))|((with_reducible show Wk (AwStep _ _ _ _ _));first|(refine pln_ ?_))|((with_reducible show Wk (boolK _ _ _ _));first|(refine bk_ (fun h h'=>?_) (fun h h'=>?_)))|((with_reducible show Wk (_∧_));first|(refine and_ ?_ ?_))|fail)<;>(try refine nm_ ?_))
  all_goals clear ex0
  all_goals (refine ⟨?_⟩)
  all_goals first|contradiction|(exfalso;omega)|(refine ⟨_,?_,rfl⟩;intro h0;exfalso;revert h0;decide)|(refine ⟨0,?_,rfl⟩;intro _;refine rsn_mk ?_ ?_ ?_ ?_ ?_ ?_ ?_ ?_<;>first|assumption|exact hr.2)
theorem spec_FitsOn_D (c:ClusterD) (nm:ByteArray) (p:PodD) (hw:CluW 20 20 c) (hp:PodW p):Spec Tryz.prog 408 [c.d,.sc (.string nm),.agg (podCells p)] (fun d=>∃ q:Bool,(q=true→RsnB c nm p)∧d = .sc (.bool q)):=by
  unfold ClusterD.d podCells
  refine sp_ (rs:= [.tmp 6]) (nt:=12) Tryz.func408 rfl fun X hX=>?_
  refine nm_ ?_
  repeat' ((first|contradiction|(with_reducible exact tt_)|((with_reducible show Wk (AwStepF _ _ _ _ _ _ _));first|(refine cl_ rfl _ _ (spec_ReasonOn_D c nm p hw hp) rfl rfl ?_;rintro _ ⟨m,hm,rfl⟩))|((with_reducible show Wk (AwStep _ _ _ _ _));first|(refine pln_ ?_))|((with_reducible show Wk (boolK _ _ _ _));first|(refine bk_ (fun h h'=>?_) (fun h h'=>?_)))|((with_reducible show Wk (_∧_));first|(refine and_ ?_ ?_))|fail)<;>(try refine nm_ ?_))
  all_goals (refine ⟨?_⟩)
  all_goals first|(refine ⟨m==0,?_,rfl⟩;intro h0;exact hm (by simpa using h0))
theorem spec_Feasible_D (c:ClusterD) (p:PodD) (hw:CluW 20 20 c) (hp:PodW p):Spec Tryz.prog 377 [c.d,.agg (podCells p)] (fun d=>∃ ws,RowW (FitW c p) 20 ws∧d = .sl ws.length (strsD ws)):=by
  have hcl:=hw.hosts.len;unfold ClusterD.d podCells
  have ex0:=@strs_put
  refine spG_ (rs:= [.tmp 4]) (nt:=34) Tryz.func377 rfl fun X hX=>?_
  refine nm_ ?_
  repeat' ((first|contradiction|(with_reducible exact tt_)|((with_reducible show Wk (AwStepF _ _ _ _ _ _ _));first|(refine cl_ rfl _ _ (spec_FitsOn_D c (c.hosts.getD i default).name p hw hp) rfl rfl ?_;rintro _ ⟨q,hq,rfl⟩)|(refine app_ rfl ?_))|((with_reducible show Wk (AwStep _ _ _ _ _));first|(refine pln_ ?_))|((with_reducible show Wk (AwCode _ _ _ _ _));first|(refine wo_ (id:=5) [] [(0,true),(1,true),(2,true),(3,true),(4,true),(5,true),(6,true),(7,true),(8,false)] ?_)|(refine lpK_ (ι:=Nat × List ByteArray) [] [0,1,2] 0x6c (fun ⟨i,o⟩=> [(6,.sc (.int .i64 (i:Int))),(5,.own 2 0 o.length)]) (fun ⟨i,o⟩=> [(2,⟨9,1,(o).length,strsD (o)⟩)]) (fun ⟨i,o⟩=>i≤c.hosts.length∧RowW (FitW c p) i o) (fun ⟨i,o⟩=>c.hosts.length - i) (0, []) ?_ ?_;(focus (exact ⟨Nat.zero_le _,.nil⟩));rintro _ hN0 ⟨i,o⟩ hinv;(try dsimp only at hinv);obtain ⟨hi,hW⟩:=hinv;have hol:=hW.len;replace hW:=Lib.hid hW;skip))|((with_reducible show Wk (boolK _ _ _ _));first|(refine bk_ (fun h h'=>?_) (fun h h'=>?_)))|((with_reducible show Wk (_∧_));first|(refine and_ ?_ ?_))|((with_reducible show Wk (retOkG _ _ _ _));first|(refine rgg_ [.frz 2] ?_))|(refine hN0.run ((i+1,o ++ [(c.hosts.getD i default).name])) [] [0,1,4] ?_ ?_;(focus (exact ⟨by show i+1≤c.hosts.length;omega,hW.out.snoc (fit_of (hw.hosts.at (by omega)).name (hq (by assumption))) (Nat.le_refl _)⟩));(focus (show c.hosts.length - (i+1) < c.hosts.length - i;omega)))|(refine hN0.run ((i+1,o)) [] [0,1,2] ?_ ?_;(focus (exact ⟨by show i+1≤c.hosts.length;omega,hW.out.mono (Nat.le_succ _)⟩));(focus (show c.hosts.length - (i+1) < c.hosts.length - i;omega)))|fail)<;>(try refine nm_ ?_))
  all_goals clear ex0
  all_goals (refine ⟨?_⟩)
  all_goals first|contradiction|(exfalso;omega)|(exact ⟨_,hW.out.mono (by omega),rfl⟩)
theorem spec_PackMark_D (c:ClusterD) (nm:ByteArray) (p:PodD) (hw:CluW 20 20 c) (hp:PodW p):Spec Tryz.prog 409 [c.d,.sc (.string nm),.agg (podCells p)] (fun d=>∃ m:Int,d = .sc (.int .i64 m)):=by
  have hf:=hw.fine (by decide) (by decide);have hcl:=hw.hosts.len;have hx:=hw.hosts.getD HostW.zero (hostAtB c.hosts nm).toNat;have hr:-1≤hostAtB c.hosts nm∧hostAtB c.hosts nm < c.hosts.length:=⟨(firstN_rng _ _).1,(firstN_rng _ _).2.1⟩;have hxt:=hx.taints.len;have hpt:=hp.tolers.len;have hpc:=hp.cpu.2;have hpm:=hp.mem.2;unfold ClusterD.d podCells
  refine sp_ (rs:= [.tmp 6]) (nt:=69) Tryz.func409 rfl fun X hX=>?_
  refine nmW_ ?_
  repeat' ((first|contradiction|(with_reducible exact tt_)|((with_reducible show Wk (AwStepF _ _ _ _ _ _ _));first|(refine cl_ rfl _ _ (spec_HostAt_D c nm (by omega)) rfl rfl ?_;rintro _ rfl)|(refine cl_ rfl _ _ (spec_UsedOn_D c nm hf) rfl rfl ?_;rintro _ rfl)|(refine cl_ rfl _ _ (spec_AddInt_D _ p.cpu (by omega)) rfl rfl ?_;rintro _ rfl)|(refine cl_ rfl _ _ (spec_AddInt_D _ p.mem (by omega)) rfl rfl ?_;rintro _ rfl)|(refine cl_ rfl _ _ (spec_ShareOf_D _ _) rfl rfl ?_;rintro _ ⟨m,hm,rfl⟩;(have hm0:=hm.1;have hm1:=hm.2;clear hm)))|((with_reducible show Wk (AwStep _ _ _ _ _));first|(refine pln_ ?_))|((with_reducible show Wk (AwCode _ _ _ _ _));first|(refine wo_ (id:=11) [] [(0,true),(1,true),(2,true),(3,true),(4,true),(5,true),(6,true),(8,true),(9,true),(10,true),(11,true),(12,true),(13,true),(14,true),(7,false),(15,false),(16,true),(17,true),(18,true)] ?_))|((with_reducible show Wk (boolK _ _ _ _));first|(refine bk_ (fun h h'=>?_) (fun h h'=>?_)))|((with_reducible show Wk (_∧_));first|(refine and_ ?_ ?_))|fail)<;>(try refine nmW_ ?_))
  all_goals (refine ⟨?_⟩)
  all_goals first|contradiction|(exfalso;omega)|(exact ⟨_,rfl⟩)|(exact ⟨_,_,rfl⟩)
theorem spec_SpreadMark_D (c:ClusterD) (nm:ByteArray) (p:PodD) (hw:CluW 20 20 c) (hp:PodW p):Spec Tryz.prog 410 [c.d,.sc (.string nm),.agg (podCells p)] (fun d=>∃ m:Int,d = .sc (.int .i64 m)):=by
  have hf:=hw.fine (by decide) (by decide);have hcl:=hw.hosts.len;have hx:=hw.hosts.getD HostW.zero (hostAtB c.hosts nm).toNat;have hr:-1≤hostAtB c.hosts nm∧hostAtB c.hosts nm < c.hosts.length:=⟨(firstN_rng _ _).1,(firstN_rng _ _).2.1⟩;have hxt:=hx.taints.len;have hpt:=hp.tolers.len;have hpc:=hp.cpu.2;have hpm:=hp.mem.2;unfold ClusterD.d podCells
  refine sp_ (rs:= [.tmp 6]) (nt:=38) Tryz.func410 rfl fun X hX=>?_
  refine nmW_ ?_
  repeat' ((first|contradiction|(with_reducible exact tt_)|((with_reducible show Wk (AwStepF _ _ _ _ _ _ _));first|(refine cl_ rfl _ _ (spec_HostAt_D c nm (by omega)) rfl rfl ?_;rintro _ rfl)|(refine cl_ rfl _ _ (spec_UsedOn_D c nm hf) rfl rfl ?_;rintro _ rfl)|(refine cl_ rfl _ _ (spec_ShareOf_D _ _) rfl rfl ?_;rintro _ ⟨m,hm,rfl⟩;(have hm0:=hm.1;have hm1:=hm.2;clear hm)))|((with_reducible show Wk (AwStep _ _ _ _ _));first|(refine pln_ ?_))|((with_reducible show Wk (boolK _ _ _ _));first|(refine bk_ (fun h h'=>?_) (fun h h'=>?_)))|((with_reducible show Wk (_∧_));first|(refine and_ ?_ ?_))|fail)<;>(try refine nmW_ ?_))
  all_goals (refine ⟨?_⟩)
  all_goals first|contradiction|(exfalso;omega)|(exact ⟨_,rfl⟩)|(exact ⟨_,_,rfl⟩)
theorem spec_Brought_D (x lo hi:Int):Spec Tryz.prog 143 [.sc (.int .i64 x),.sc (.int .i64 lo),.sc (.int .i64 hi)] (fun d=>∃ m:Int,d = .sc (.int .i64 m)):=by
  refine sp_ (rs:= [.tmp 6]) (nt:=21) Tryz.func143 rfl fun X hX=>?_
  refine nm_ ?_
  repeat' ((first|contradiction|(with_reducible exact tt_)|((with_reducible show Wk (AwStep _ _ _ _ _));first|(refine pln_ ?_))|((with_reducible show Wk (boolK _ _ _ _));first|(refine bk_ (fun h h'=>?_) (fun h h'=>?_)))|((with_reducible show Wk (_∧_));first|(refine and_ ?_ ?_))|fail)<;>(try refine nm_ ?_))
  all_goals (refine ⟨?_⟩)
  all_goals first|contradiction|(exfalso;omega)|(exact ⟨_,rfl⟩)|(exact ⟨_,_,rfl⟩)
theorem spec_SoftMark_D (c:ClusterD) (nm:ByteArray) (p:PodD) (hw:CluW 20 20 c) (hp:PodW p):Spec Tryz.prog 411 [c.d,.sc (.string nm),.agg (podCells p)] (fun d=>∃ m:Int,d = .sc (.int .i64 m)):=by
  have hf:=hw.fine (by decide) (by decide);have hcl:=hw.hosts.len;have hx:=hw.hosts.getD HostW.zero (hostAtB c.hosts nm).toNat;have hr:-1≤hostAtB c.hosts nm∧hostAtB c.hosts nm < c.hosts.length:=⟨(firstN_rng _ _).1,(firstN_rng _ _).2.1⟩;have hxt:=hx.taints.len;have hpt:=hp.tolers.len;have hpc:=hp.cpu.2;have hpm:=hp.mem.2;unfold ClusterD.d podCells
  refine sp_ (rs:= [.tmp 6]) (nt:=25) Tryz.func411 rfl fun X hX=>?_
  refine nmW_ ?_
  repeat' ((first|contradiction|(with_reducible exact tt_)|((with_reducible show Wk (AwStepF _ _ _ _ _ _ _));first|(refine cl_ rfl _ _ (spec_HostAt_D c nm (by omega)) rfl rfl ?_;rintro _ rfl)|(refine cl_ rfl _ _ (spec_Untolerated_D p.tolers (c.hosts.getD (hostAtB c.hosts nm).toNat default).taints 2 (by omega) (by omega)) rfl rfl ?_;rintro _ ⟨m,hm,rfl⟩;(have hm0:=hm.1;have hm1:=hm.2;clear hm))|(refine cl_ rfl _ _ (spec_Brought_D _ _ _) rfl rfl ?_;rintro _ ⟨m2,rfl⟩))|((with_reducible show Wk (AwStep _ _ _ _ _));first|(refine pln_ ?_))|((with_reducible show Wk (AwCode _ _ _ _ _));first|(refine wo_ (id:=4) [] [(0,true),(1,true),(2,true),(3,true),(4,true),(5,true),(6,true),(7,true),(8,false),(9,true),(10,true),(11,false),(12,true)] ?_))|((with_reducible show Wk (boolK _ _ _ _));first|(refine bk_ (fun h h'=>?_) (fun h h'=>?_)))|((with_reducible show Wk (_∧_));first|(refine and_ ?_ ?_))|fail)<;>(try refine nmW_ ?_))
  all_goals (refine ⟨?_⟩)
  all_goals first|contradiction|(exfalso;omega)|(exact ⟨_,rfl⟩)|(exact ⟨_,_,rfl⟩)
theorem spec_MarkOn_D (c:ClusterD) (nm:ByteArray) (p:PodD) (hw:CluW 20 20 c) (hp:PodW p):Spec Tryz.prog 378 [c.d,.sc (.string nm),.agg (podCells p)] (fun d=>∃ m:Int,d = .sc (.int .i64 m)):=by
  unfold ClusterD.d podCells
  refine sp_ (rs:= [.tmp 6]) (nt:=37) Tryz.func378 rfl fun X hX=>?_
  refine nmW_ ?_
  repeat' ((first|contradiction|(with_reducible exact tt_)|((with_reducible show Wk (AwStepF _ _ _ _ _ _ _));first|(refine cl_ rfl _ _ (spec_WeightsOk_D c.w1 c.w2 c.w3) rfl rfl ?_;rintro _ rfl)|(refine cl_ rfl _ _ (spec_PackMark_D c nm p hw hp) rfl rfl ?_;rintro _ ⟨m1,rfl⟩)|(refine cl_ rfl _ _ (spec_SpreadMark_D c nm p hw hp) rfl rfl ?_;rintro _ ⟨m2,rfl⟩)|(refine cl_ rfl _ _ (spec_SoftMark_D c nm p hw hp) rfl rfl ?_;rintro _ ⟨m3,rfl⟩))|((with_reducible show Wk (AwStep _ _ _ _ _));first|(refine pln_ ?_))|((with_reducible show Wk (AwCode _ _ _ _ _));first|(refine wo_ (id:=4) [] [(0,true),(1,true),(2,true),(3,true),(4,true),(7,true),(8,true),(9,true),(10,true),(11,true),(15,true),(16,true),(17,true),(18,true),(19,true),(5,false),(6,true),(12,false),(13,true),(14,true),(20,false),(21,true),(22,true),(23,true)] ?_))|((with_reducible show Wk (boolK _ _ _ _));first|(refine bk_ (fun h h'=>?_) (fun h h'=>?_)))|((with_reducible show Wk (_∧_));first|(refine and_ ?_ ?_))|fail)<;>(try refine nmW_ ?_))
  all_goals (refine ⟨?_⟩)
  all_goals first|contradiction|(exfalso;omega)|(exact ⟨_,rfl⟩)|(exact ⟨_,_,rfl⟩)
theorem spec_RankingOf_D (c:ClusterD) (p:PodD) (hw:CluW 20 20 c) (hp:PodW p):Spec Tryz.prog 307 [c.d,.agg (podCells p)] (fun d=>∃ ws,RowW (FitW c p) 20 ws∧d = .sl ws.length (strsD ws)):=by
  unfold ClusterD.d podCells
  have ex0:=@strs_app;have ex1:=@strs_put;have ex2:=@Nat.sub_zero
  refine spG_ (rs:= [.tmp 4]) (nt:=84) Tryz.func307 rfl fun X hX=>?_
  refine nm_ ?_
  repeat' ((first|contradiction|(with_reducible exact tt_)|((with_reducible show Wk (AwStepF _ _ _ _ _ _ _));first|(refine cl_ rfl _ _ (spec_Feasible_D c p hw hp) rfl rfl ?_;rintro _ ⟨ws,hws,rfl⟩;(have hwl:=hws.len;replace hws:=Lib.hid hws))|(refine cl_ rfl _ _ (spec_MarkOn_D c _ p hw hp) rfl rfl ?_;rintro _ ⟨m,rfl⟩)|(refine app_ rfl ?_))|((with_reducible show Wk (AwStep _ _ _ _ _));first|(refine pln_ ?_))|((with_reducible show Wk (AwCode _ _ _ _ _));first|(refine wo_ (id:=6) [] [(0,true),(1,true),(2,true),(3,true),(4,true),(5,true),(6,false),(7,true)] ?_)|(refine wtr_ (id:=8) [] (.early 0 (.early 1 (.early 2 (.early 3 (.early 4 (.early 5 (.early 6 (.early 7 (.early 8 (.early 9 (.early 10 (.early 12 (.one 11 (.early 13 (.early 14 (.early 15 (.early 16 (.early 17 (.early 18 (.early 20 (.early 22 (.one 19 (.one 21 (.early 23 (.early 24 (.early 25 (.early 26 (.early 27 (.early 29 (.early 30 (.early 31 (.two 28 (.one 32 (.early 33 (.early 34 (.early 35 (.early 36 .done))))) 32 (.one 28 (.early 33 (.early 34 (.early 35 (.early 36 .done))))))))))))))))))))))))))))))))))))) ?_)|(refine wtr_ (id:=10) [] (.early 1 (.early 2 (.early 3 (.early 5 (.early 6 (.early 7 (.early 8 (.two 0 (.two 4 (.one 9 (.one 10 (.early 11 .done))) 9 (.one 4 (.one 10 (.early 11 .done)))) 9 (.one 0 (.one 4 (.one 10 (.early 11 .done)))))))))))) ?_)|((with_reducible show Wk (AwCode _ _ (.loop (.seq (.seq (.region 8 _ _) _) _)) _ _));refine lpK_ (ι:=Nat) [] [0,1,2] 0x3ec (fun j=> [(9,.sc (.int .i64 (j:Int)))]) (fun j=> []) (fun j=>j≤o.length) (fun j=>o.length - j) 0 ?_ ?_;(focus (exact Nat.zero_le _));rintro _ hN1 j hinv;(try dsimp only at hinv);have hj:j≤o.length:=hinv;obtain ⟨a,b,hcut,la,lb,ta,tb⟩:=strs_cut o j j (by omega) (by omega);replace hcut:=Lib.hid hcut;skip)|((with_reducible show Wk (AwCode _ _ (.loop (.seq (.seq (.region 4 _ _) _) _)) _ _));refine lpK_ (ι:=Nat × List ByteArray) [] [0,1,2] 0xec (fun ⟨i,o⟩=> [(7,.sc (.int .i64 (i:Int))),(6,.own 2 0 o.length)]) (fun ⟨i,o⟩=> [(2,⟨9,1,(o).length,strsD (o)⟩)]) (fun ⟨i,o⟩=>i≤ws.length∧RowW (FitW c p) i o) (fun ⟨i,o⟩=>ws.length - i) (0, []) ?_ ?_;(focus (exact ⟨Nat.zero_le _,.nil⟩));rintro _ hN0 ⟨i,o⟩ hinv;(try dsimp only at hinv);obtain ⟨hi,hW⟩:=hinv;have hol:=hW.len;replace hW:=Lib.hid hW;skip))|((with_reducible show Wk (boolK _ _ _ _));first|(refine bk_ (fun h h'=>?_) (fun h h'=>?_)))|((with_reducible show Wk (_∧_));first|(refine and_ ?_ ?_))|((with_reducible show Wk (stepK _ _ _));first|(refine ite_ (fun hs=>?_) (fun hs=>?_)))|((with_reducible show Wk (retOkG _ _ _ _));first|(refine rgg_ [.frz 2] ?_))|(refine hN1.run (j+1) [] [0,1,2] ?_ ?_;(focus (show j+1≤o.length;omega));(focus (show o.length - (j+1) < o.length - j;omega)))|(refine hN0.run ((i+1,a ++ [(ws.getD i default)]++b)) [] [0,1,7] ?_ ?_;(focus (exact ⟨by show i+1≤ws.length;omega,(hW.out.lay hcut.out.fst hcut.out.snd (hws.out.at (by omega)) (Nat.le_refl _))⟩));(focus (show ws.length - (i+1) < ws.length - i;omega)))|(refine hN0.run ((i+1,a ++ [(ws.getD i default)])) [] [0,1,7] ?_ ?_;(focus (exact ⟨by show i+1≤ws.length;omega,RowW.snoc (n:=i) (by rw [hcut.out.fst];exact hW.out.take j) (hws.out.at (by omega)) (Nat.le_refl _)⟩));(focus (show ws.length - (i+1) < ws.length - i;omega)))|fail)<;>(try refine nm_ ?_))
  all_goals clear ex0 ex1 ex2
  all_goals (refine ⟨?_⟩)
  all_goals first|contradiction|(exfalso;omega)|(exact ⟨_,hW.out.mono (by omega),rfl⟩)
theorem spec_BestHost_D (c:ClusterD) (p:PodD) (hw:CluW 20 20 c) (hp:PodW p):Spec Tryz.prog 228 [c.d,.agg (podCells p)] (fun d=>∃ v q,StrW v∧(q=true→FitW c p v)∧d = .tup [.sc (.string v),.sc (.bool q)]):=by
  unfold ClusterD.d podCells
  refine sp_ (rs:= [.tmp 4,.tmp 5]) (nt:=16) Tryz.func228 rfl fun X hX=>?_
  refine nm_ ?_
  repeat' ((first|contradiction|(with_reducible exact tt_)|((with_reducible show Wk (AwStepF _ _ _ _ _ _ _));first|(refine cl_ rfl _ _ (spec_RankingOf_D c p hw hp) rfl rfl ?_;rintro _ ⟨ws,hws,rfl⟩;(have hwl:=hws.len;replace hws:=Lib.hid hws)))|((with_reducible show Wk (AwStep _ _ _ _ _));first|(refine pln_ ?_))|((with_reducible show Wk (boolK _ _ _ _));first|(refine bk_ (fun h h'=>?_) (fun h h'=>?_)))|((with_reducible show Wk (_∧_));first|(refine and_ ?_ ?_))|fail)<;>(try refine nm_ ?_))
  all_goals (refine ⟨?_⟩)
  all_goals first|contradiction|(exfalso;omega)|(refine ⟨_,true,⟨(hws.out.at (k:=0) (by omega)).sz⟩,?_,rfl⟩;intro _;exact hws.out.at (by omega))|(refine ⟨⟨#[]⟩,false,⟨by decide⟩,?_,rfl⟩;intro h0;cases h0;done)
end Go.Proofs.YtgoeccemfgniiaaGreat
