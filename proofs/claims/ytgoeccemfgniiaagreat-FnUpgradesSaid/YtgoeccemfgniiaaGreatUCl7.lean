/- Cl7 (what is wanted of them). -/
import Derived.Test.YtgoeccemfgniiaaGreatUCl4
import Derived.Test.YtgoeccemfgniiaaGreatUCl6
namespace Go.Proofs.YtgoeccemfgniiaaGreat
open Go.RowKit
set_option linter.unusedVariables false
set_option linter.unusedSimpArgs false
set_option maxRecDepth 100000
set_option maxHeartbeats 1000000
theorem impl_PodOk_D (p:PodD) (hp:p.fine):Spec Tryz.prog 187 [.agg (podCells p)] (fun d=>d = .sc (.bool (podB p))):=by
  unfold podCells
  refine sp_ (rs:= [.tmp 2]) (nt:=36) Tryz.func187 rfl fun X hX=>?_
  refine nm_ ?_
  repeat' ((first|contradiction|(with_reducible exact tt_)|((with_reducible show Wk (AwStepF _ _ _ _ _ _ _));first|(refine cl_ rfl _ _ (impl_NameOk_D _ hp.name) rfl rfl ?_;rintro _ rfl)|(refine cl_ rfl _ _ (impl_LabelsOk_D _ hp.labels.len) rfl rfl ?_;rintro _ rfl)|(refine cl_ rfl _ _ (impl_SelectorOk_D _ hp.nlen fun k=>(hp.need k).len) rfl rfl ?_;rintro _ rfl)|(refine cl_ rfl _ _ (impl_TolerancesOk_D _ hp.tlen) rfl rfl ?_;rintro _ rfl)|(refine cl_ rfl _ _ (within_D _ _ _) rfl rfl ?_;rintro _ rfl))|((with_reducible show Wk (AwStep _ _ _ _ _));first|(refine pln_ ?_))|((with_reducible show Wk (boolK _ _ _ _));first|(refine bk_ (fun h h'=>?_) (fun h h'=>?_)))|((with_reducible show Wk (_∧_));first|(refine and_ ?_ ?_))|fail)<;>(try refine nm_ ?_))
  all_goals (refine ⟨?_⟩)
  all_goals first|contradiction|rfl|(simp_all [podB]<;>omega)|(simp [podB, *]<;>omega)
theorem impl_HostOk_D (p:HostD) (hp:p.fine):Spec Tryz.prog 186 [.agg (hostCells p)] (fun d=>d = .sc (.bool (hostB p))):=by
  unfold hostCells
  refine sp_ (rs:= [.tmp 2]) (nt:=31) Tryz.func186 rfl fun X hX=>?_
  refine nm_ ?_
  repeat' ((first|contradiction|(with_reducible exact tt_)|((with_reducible show Wk (AwStepF _ _ _ _ _ _ _));first|(refine cl_ rfl _ _ (impl_NameOk_D _ hp.name) rfl rfl ?_;rintro _ rfl)|(refine cl_ rfl _ _ (impl_LabelsOk_D _ hp.labels.len) rfl rfl ?_;rintro _ rfl)|(refine cl_ rfl _ _ (impl_TaintsOk_D _ hp.tlen) rfl rfl ?_;rintro _ rfl)|(refine cl_ rfl _ _ (within_D _ _ _) rfl rfl ?_;rintro _ rfl))|((with_reducible show Wk (AwStep _ _ _ _ _));first|(refine pln_ ?_))|((with_reducible show Wk (boolK _ _ _ _));first|(refine bk_ (fun h h'=>?_) (fun h h'=>?_)))|((with_reducible show Wk (_∧_));first|(refine and_ ?_ ?_))|fail)<;>(try refine nm_ ?_))
  all_goals (refine ⟨?_⟩)
  all_goals first|contradiction|rfl|(simp_all [hostB]<;>omega)|(simp [hostB, *]<;>omega)
theorem impl_WeightsOk_D (x y z:Int):Spec Tryz.prog 184 [.agg [.sc (.int .i64 x),.sc (.int .i64 y),.sc (.int .i64 z)]] (fun d=>d = .sc (.bool (inB x 0 10&&(inB y 0 10&&inB z 0 10)))):=by
  refine sp_ (rs:= [.tmp 2]) (nt:=16) Tryz.func184 rfl fun X hX=>?_
  refine nm_ ?_
  repeat' ((first|contradiction|(with_reducible exact tt_)|((with_reducible show Wk (AwStepF _ _ _ _ _ _ _));first|(refine cl_ rfl _ _ (within_D _ _ _) rfl rfl ?_;rintro _ rfl))|((with_reducible show Wk (AwStep _ _ _ _ _));first|(refine pln_ ?_))|((with_reducible show Wk (boolK _ _ _ _));first|(refine bk_ (fun h h'=>?_) (fun h h'=>?_)))|((with_reducible show Wk (_∧_));first|(refine and_ ?_ ?_))|fail)<;>(try refine nm_ ?_))
  all_goals (refine ⟨?_⟩)
  all_goals first|contradiction|rfl|(simp_all [inB]<;>omega)|(simp [inB, *]<;>omega)
theorem impl_UsualWeights_D :Spec Tryz.prog 102 [] (fun d=>d = .agg [.sc (.int .i64 2),.sc (.int .i64 1),.sc (.int .i64 3)]):=by
  refine sp_ (rs:= [.cell 0 41]) (nt:=2) Tryz.func102 rfl fun X hX=>?_
  refine nm_ ?_
  repeat' ((first|contradiction|(with_reducible exact tt_)|((with_reducible show Wk (AwStep _ _ _ _ _));first|(refine pln_ ?_))|((with_reducible show Wk (boolK _ _ _ _));first|(refine bk_ (fun h h'=>?_) (fun h h'=>?_)))|((with_reducible show Wk (_∧_));first|(refine and_ ?_ ?_))|fail)<;>(try refine nm_ ?_))
  all_goals (refine ⟨?_⟩)
  all_goals first|rfl
theorem impl_HostAt_1_D (x:HostD) (nm:ByteArray):Spec Tryz.prog 283 [.agg (hostCells x),.cptr [.sc (.string nm)] 0] (fun d=>d = .sc (.bool (eqB x.name nm))):=by
  unfold hostCells
  refine sp_ (rs:= [.tmp 3]) (nt:=8) Tryz.func283 rfl fun X hX=>?_
  refine nm_ ?_
  repeat' ((first|contradiction|(with_reducible exact tt_)|((with_reducible show Wk (AwStep _ _ _ _ _));first|(refine pln_ ?_))|((with_reducible show Wk (boolK _ _ _ _));first|(refine bk_ (fun h h'=>?_) (fun h h'=>?_)))|((with_reducible show Wk (_∧_));first|(refine and_ ?_ ?_))|fail)<;>(try refine nm_ ?_))
  all_goals (refine ⟨?_⟩)
  all_goals first|rfl
theorem indexHost_D (hs:List HostD) (nm:ByteArray) (hn:hs.length≤1048576):Spec Tryz.prog 282 [.sl hs.length (hostsD hs),.fn 283 [.cptr [.sc (.string nm)] 0]] (fun d=>d = .sc (.int .i64 (hostAtB hs nm))):=by
  refine sp_ (rs:= [.tmp 4]) (nt:=19) Tryz.func282 rfl fun X hX=>?_
  refine nm_ ?_
  repeat' ((first|contradiction|(with_reducible exact tt_)|((with_reducible show Wk (AwStepF _ _ _ _ _ _ _));first|(refine clC_ rfl rfl _ _ (impl_HostAt_1_D (hs.getD k default) nm) rfl rfl rfl ?_;rintro _ rfl))|((with_reducible show Wk (AwStep _ _ _ _ _));first|(refine pln_ ?_))|((with_reducible show Wk (AwCode _ _ _ _ _));first|(refine lpU_ 0x183 (ι:=Nat) (fun k=> [(8,.sc (.int .i64 (k:Int)))]) (fun k=>k≤hs.length∧∀ j:Nat,j < k→(fun j=>!eqB (hs.getD j default).name nm) j=true) (fun k=>hs.length - k) 0 ?_ ?_;(focus (exact ⟨by omega,allN_zero⟩));rintro _ hN0 k hinv;(try dsimp only at hinv);obtain ⟨hk,hj⟩:=hinv;replace hj:=Lib.hid hj;skip))|((with_reducible show Wk (boolK _ _ _ _));first|(refine bk_ (fun h h'=>?_) (fun h h'=>?_)))|((with_reducible show Wk (_∧_));first|(refine and_ ?_ ?_))|(refine hN0.go (k+1) ?_ ?_;(focus (exact ⟨by show k+1≤hs.length;omega,allN_step hj.out (by simp_all)⟩));(focus (show hs.length - (k+1) < hs.length - k;omega)))|fail)<;>(try refine nm_ ?_))
  all_goals (refine ⟨?_⟩)
  all_goals first|contradiction|(rw [hostAtB,firstN_hit (k:=k) (by omega) (by simp_all) hj.out];done)|(rw [hostAtB,firstN_none (k:=k) (by omega) hj.out];done)
theorem impl_HostAt_D (c:ClusterD) (nm:ByteArray) (hn:c.hosts.length≤1048576):Spec Tryz.prog 188 [c.d,.sc (.string nm)] (fun d=>d = .sc (.int .i64 (hostAtB c.hosts nm))):=by
  unfold ClusterD.d
  refine sp_ (rs:= [.tmp 4]) (nt:=9) Tryz.func188 rfl fun X hX=>?_
  refine nm_ ?_
  repeat' ((first|contradiction|(with_reducible exact tt_)|((with_reducible show Wk (AwStepF _ _ _ _ _ _ _));first|(refine cl_ rfl _ _ (indexHost_D c.hosts nm hn) rfl rfl ?_;rintro _ rfl)|(refine afz_ [1] ?_;refine nm_ ?_;refine fn_ rfl rfl ?_))|((with_reducible show Wk (AwStep _ _ _ _ _));first|(refine pln_ ?_))|((with_reducible show Wk (boolK _ _ _ _));first|(refine bk_ (fun h h'=>?_) (fun h h'=>?_)))|((with_reducible show Wk (_∧_));first|(refine and_ ?_ ?_))|fail)<;>(try refine nm_ ?_))
  all_goals (refine ⟨?_⟩)
  all_goals first|rfl
theorem impl_AddInt_D (a b:Int) (hb:b≤9223372036854775807):Spec Tryz.prog 394 [.sc (.int .i64 a),.sc (.int .i64 b)] (fun d=>d = .tup [.sc (.int .i64 ((addB a b).getD 0)),.sc (.bool (addB a b).isSome)]):=by
  refine sp_ (rs:= [.tmp 4,.tmp 5]) (nt:=21) Tryz.func394 rfl fun X hX=>?_
  refine nm_ ?_
  repeat' ((first|contradiction|(with_reducible exact tt_)|((with_reducible show Wk (AwStep _ _ _ _ _));first|(refine pln_ ?_))|((with_reducible show Wk (boolK _ _ _ _));first|(refine bk_ (fun h h'=>?_) (fun h h'=>?_)))|((with_reducible show Wk (_∧_));first|(refine and_ ?_ ?_))|fail)<;>(try refine nm_ ?_))
  all_goals (refine ⟨?_⟩)
  all_goals first|contradiction|(rw [show addB a b=none from if_pos (by omega)];rfl)|(rw [show addB a b=some (a+b) from if_neg (by omega)];rfl)
theorem impl_SumInts_D (ns:List Int) (hr:∀ k,ns.getD k default≤9223372036854775807) (hn:ns.length≤1048576):Spec Tryz.prog 355 [.sl ns.length (intsD ns)] (fun d=>d = .tup [.sc (.int .i64 ((sumL ns).getD 0)),.sc (.bool (sumL ns).isSome)]):=by
  refine sp_ (rs:= [.tmp 2,.tmp 3]) (nt:=26) Tryz.func355 rfl fun X hX=>?_
  refine nm_ ?_
  repeat' ((first|contradiction|(with_reducible exact tt_)|((with_reducible show Wk (AwStepF _ _ _ _ _ _ _));first|(refine cl_ rfl _ _ (impl_AddInt_D _ _ (hr _)) rfl rfl ?_;rintro _ rfl))|((with_reducible show Wk (AwStep _ _ _ _ _));first|(refine pln_ ?_))|((with_reducible show Wk (AwCode _ _ _ _ _));first|(refine lpU_ 0xe10 (ι:=Nat × Int) (fun ⟨k,n⟩=> [(4,.sc (.int .i64 n)),(11,.sc (.int .i64 (k:Int)))]) (fun ⟨k,n⟩=>k≤ns.length∧sumN (fun k=>ns.getD k default) k=some n) (fun ⟨k,n⟩=>ns.length - k) (0,0) ?_ ?_;(focus (exact ⟨by omega,rfl⟩));rintro _ hN0 ⟨k,n⟩ hinv;(try dsimp only at hinv);obtain ⟨hk,hj⟩:=hinv;replace hj:=Lib.hid hj;skip))|((with_reducible show Wk (boolK _ _ _ _));first|(refine bk_ (fun h h'=>?_) (fun h h'=>?_)))|((with_reducible show Wk (_∧_));first|(refine and_ ?_ ?_))|(refine hN0.go ((k+1,_)) ?_ ?_;(focus (refine ⟨by show k+1≤_;omega,?_⟩;obtain ⟨v,hv⟩:=Option.isSome_iff_exists.1 (by assumption:(addB n (ns.getD k default)).isSome=true);show (sumN _ k).bind _=_;rw [hj.out];show addB n (ns.getD k default)=some ((addB n (ns.getD k default)).getD 0);rw [hv];rfl));(focus (show ns.length - (k+1) < ns.length - k;omega)))|fail)<;>(try refine nm_ ?_))
  all_goals (refine ⟨?_⟩)
  all_goals first|contradiction|(rw [sumL_no (k:=k) (by omega) hj.out (by assumption)];rfl)|(rw [show sumL ns=some n from (by have e:k=ns.length:=(by omega);subst e;exact hj.out)];rfl)
theorem impl_SumsOf_D (ps:List PodD) (hr:∀ k,(ps.getD k default).cpu≤9223372036854775807∧(ps.getD k default).mem≤9223372036854775807) (hn:ps.length≤1048576):Spec Tryz.prog 278 [.sl ps.length (podsD ps)] (fun d=>d = .tup [.sc (.int .i64 (((sumsB ps).getD (0,0)).1)),.sc (.int .i64 (((sumsB ps).getD (0,0)).2)),.sc (.bool (sumsB ps).isSome)]):=by
  have ex0:=@takeMap_snoc;have ex1:=@intsD_one;have ex2:=@intsD_takeN
  refine sp_ (rs:= [.tmp 2,.tmp 3,.tmp 4]) (nt:=50) Tryz.func278 rfl fun X hX=>?_
  refine nm_ ?_
  repeat' ((first|contradiction|(with_reducible exact tt_)|((with_reducible show Wk (AwStepF _ _ _ _ _ _ _));first|(refine app_ rfl ?_)|(refine afz_ [0] ?_;refine nm_ ?_;refine cl_ rfl _ _ (impl_SumInts_D _ (takeMap_le (by decide) (fun j=>(hr j).1) _) (by assumption)) rfl rfl ?_;rintro _ rfl)|(refine afz_ [1] ?_;refine nm_ ?_;refine cl_ rfl _ _ (impl_SumInts_D _ (takeMap_le (by decide) (fun j=>(hr j).2) _) (by assumption)) rfl rfl ?_;rintro _ rfl))|((with_reducible show Wk (AwStep _ _ _ _ _));first|(refine pln_ ?_))|((with_reducible show Wk (AwCode _ _ _ _ _));first|(refine lpV_ (ι:=Nat) [] [0,1] 0x38060 (fun k=> [(5,.own 0 0 ((ps.take k).map (fun p=>p.cpu)).length),(6,.own 1 0 ((ps.take k).map (fun p=>p.mem)).length),(17,.sc (.int .i64 (k:Int)))]) (fun k=> [(0,⟨3,1,((ps.take k).map (fun p=>p.cpu)).length,intsD ((ps.take k).map (fun p=>p.cpu))⟩),(1,⟨3,1,((ps.take k).map (fun p=>p.mem)).length,intsD ((ps.take k).map (fun p=>p.mem))⟩)]) (fun k=>k≤ps.length) (fun k=>ps.length - k) 0 ?_ ?_;(focus (omega));rintro _ hN0 k hinv;(try dsimp only at hinv);have hk:k≤ps.length:=hinv;have hL1:((ps.take k).map (fun p=>p.cpu)).length≤1048576:=(by simp;omega);have hL2:((ps.take k).map (fun p=>p.mem)).length≤1048576:=(by simp;omega);skip))|((with_reducible show Wk (boolK _ _ _ _));first|(refine bk_ (fun h h'=>?_) (fun h h'=>?_)))|((with_reducible show Wk (_∧_));first|(refine and_ ?_ ?_))|(refine hN0.go (k+1) [] [4,6] ?_ ?_;(focus (show k+1≤_;omega));(focus (show ps.length - (k+1) < ps.length - k;omega)))|fail)<;>(try refine nm_ ?_))
  all_goals clear ex0 ex1 ex2
  all_goals (refine ⟨?_⟩)
  all_goals (simp only [List.take_of_length_le (show ps.length≤k by omega)] at *;unfold sumsB;cases h1:sumL (ps.map PodD.cpu)<;>cases h2:sumL (ps.map PodD.mem)<;>simp_all)
theorem impl_UsedOn_D (c:ClusterD) (nm:ByteArray) (hc:c.fine):Spec Tryz.prog 185 [c.d,.sc (.string nm)] (fun d=>d = .tup [.sc (.int .i64 ((usedB c.pods nm).getD (0,0,0)).1),.sc (.int .i64 ((usedB c.pods nm).getD (0,0,0)).2.1),.sc (.int .i64 ((usedB c.pods nm).getD (0,0,0)).2.2),.sc (.bool (usedB c.pods nm).isSome)]):=by
  unfold ClusterD.d
  have ex0:=@podsD_snoc;have ex1:=@podsD_takeN
  refine sp_ (rs:= [.tmp 4,.tmp 5,.tmp 6,.tmp 7]) (nt:=48) Tryz.func185 rfl fun X hX=>?_
  refine nm_ ?_
  repeat' ((first|contradiction|(with_reducible exact tt_)|((with_reducible show Wk (AwStepF _ _ _ _ _ _ _));first|(refine app_ rfl ?_)|(refine afz_ [1] ?_;refine nm_ ?_;refine cl_ rfl _ _ (impl_SumsOf_D L (by have e:=hj.out;subst e;exact bound_le hc _ _) (by assumption)) rfl rfl ?_;rintro _ rfl))|((with_reducible show Wk (AwStep _ _ _ _ _));first|(refine pln_ ?_))|((with_reducible show Wk (AwCode _ _ _ _ _));first|(refine lpV_ (ι:=Nat × List PodD) [] [0,1] 0x70102 (fun ⟨k,L⟩=> [(8,.own 1 0 L.length),(18,.sc (.int .i64 (k:Int)))]) (fun ⟨k,L⟩=> [(1,⟨123,7,L.length,podsD L⟩)]) (fun ⟨k,L⟩=>k≤c.pods.length∧L=(boundB (c.pods.take k) nm).map (fun p=>p.pod)) (fun ⟨k,L⟩=>c.pods.length - k) (0, []) ?_ ?_;(focus (refine ⟨by omega,?_⟩;simp [boundB]));rintro _ hN0 ⟨k,L⟩ hinv;(try dsimp only at hinv);obtain ⟨hk,hj⟩:=hinv;have hL:L.length≤1048576:=(by rw [hj,List.length_map];exact Nat.le_trans (bound_len _ _ _) hc.plen);have hp:=hc.plen;replace hj:=Lib.hid hj;skip))|((with_reducible show Wk (boolK _ _ _ _));first|(refine bk_ (fun h h'=>?_) (fun h h'=>?_)))|((with_reducible show Wk (_∧_));first|(refine and_ ?_ ?_))|(refine hN0.go ((k+1,L ++ [(c.pods.getD k default).pod])) [] [0,4] ?_ ?_;(focus (refine ⟨by show k+1≤_;omega,?_⟩;show L ++ [_]=(boundB (c.pods.take (k+1)) nm).map (fun p=>p.pod);rw [boundB_snoc (by omega),List.map_append,← hj.out];simp_all));(focus (show c.pods.length - (k+1) < c.pods.length - k;omega)))|(refine hN0.go ((k+1,L)) [] [0,1] ?_ ?_;(focus (refine ⟨by show k+1≤_;omega,?_⟩;show L=(boundB (c.pods.take (k+1)) nm).map (fun p=>p.pod);rw [boundB_snoc (by omega),List.map_append,← hj.out];simp_all));(focus (show c.pods.length - (k+1) < c.pods.length - k;omega)))|fail)<;>(try refine nm_ ?_))
  all_goals clear ex0 ex1
  all_goals (refine ⟨?_⟩)
  all_goals (have e:boundB (c.pods.take k) nm=boundB c.pods nm:=boundB_end (by first|(left;omega)|(right;assumption));have e2:=hj.out;rw [e] at e2;subst e2;unfold usedB;cases h1:sumsB ((boundB c.pods nm).map fun p=>p.pod)<;>simp_all)
end Go.Proofs.YtgoeccemfgniiaaGreat
