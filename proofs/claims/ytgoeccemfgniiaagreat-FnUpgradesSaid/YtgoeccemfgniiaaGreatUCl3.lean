/- Cl3 (what is wanted of them). -/
import Derived.Test.YtgoeccemfgniiaaGreatUCl2
namespace Go.Proofs.YtgoeccemfgniiaaGreat
open Go.RowKit
set_option linter.unusedVariables false
set_option linter.unusedSimpArgs false
set_option maxRecDepth 100000
set_option maxHeartbeats 1000000
theorem spec_NeedLess_D (a b:NeedD) (hn:a.values.length≤1048576∨b.values.length≤1048576):Spec Tryz.prog 284 [.agg (needCells a),.agg (needCells b)] (fun d=>d = .sc (.bool (needLess a b))):=by
  unfold needCells
  refine sp_ (rs:= [.tmp 4]) (nt:=69) Tryz.func284 rfl fun X hX=>?_
  refine nm_ ?_
  repeat' ((first|contradiction|(with_reducible exact tt_)|((with_reducible show Wk (AwStep _ _ _ _ _));first|(refine pln_ ?_))|((with_reducible show Wk (AwCode _ _ _ _ _));first|(refine wo_ (id:=8) [] [(0,true),(1,true),(2,true),(3,true),(4,true),(5,true),(6,true),(7,true),(8,true),(9,true),(10,true)] ?_)|(refine wo_ (id:=9) [] [(0,true),(1,true),(2,true),(3,true),(4,true),(5,true),(6,true),(7,true),(8,true),(9,true),(10,true),(11,true)] ?_)|(refine lpU_ 0x2c (ι:=Nat) (fun k=> [(5,.sc (.int .i64 (k:Int)))]) (fun k=>k≤a.values.length∧k≤b.values.length∧valsLess (a.values.drop k) (b.values.drop k)=valsLess a.values b.values) (fun k=>a.values.length - k) 0 ?_ ?_;(focus (exact ⟨by omega,by omega,rfl⟩));rintro _ hN0 k hinv;(try dsimp only at hinv);obtain ⟨hk,hk2,hj⟩:=hinv;replace hj:=Lib.hid hj;skip))|((with_reducible show Wk (boolK _ _ _ _));first|(refine bk_ (fun h h'=>?_) (fun h h'=>?_)))|((with_reducible show Wk (_∧_));first|(refine and_ ?_ ?_))|(refine hN0.go (k+1) ?_ ?_;(focus (refine ⟨by show k+1≤_;omega,by show k+1≤_;omega,?_⟩;have e:=hj.out;rw [valsLess_at (by omega) (by omega),if_pos (by assumption)] at e;exact e));(focus (show a.values.length - (k+1) < a.values.length - k;omega)))|fail)<;>(try refine nm_ ?_))
  all_goals (refine ⟨?_⟩)
  all_goals first|contradiction|(have e:=hj.out;rw [valsLess_at (by omega) (by omega)] at e;simp_all [needLess];done)|(have e:=hj.out;rw [valsLess_end (by omega) (by omega) (by omega)] at e;simp_all [needLess];done)|(simp_all [needLess];done)
theorem needB_len {n:NeedD} (h:needB n=true):n.values.length≤1048576:=by
  rw [needB_eq] at h
  simp only [Bool.and_eq_true] at h
  obtain ⟨_,_,h⟩:=h
  split at h
  · simp at h;simp [h]
  · simp [inB] at h;omega
theorem spec_SelectorOk_D (ns:List NeedD):Spec Tryz.prog 274 [.sl ns.length (needsD ns)] (fun d=>d = .sc (.bool (needsB ns))):=by
  refine sp_ (rs:= [.tmp 2]) (nt:=36) Tryz.func274 rfl fun X hX=>?_
  refine nm_ ?_
  repeat' ((first|contradiction|(with_reducible exact tt_)|((with_reducible show Wk (AwStepF _ _ _ _ _ _ _));first|(refine cl_ rfl _ _ (spec_NeedOk_D _) rfl rfl ?_;rintro _ rfl)|(refine cl_ rfl _ _ (spec_NeedLess_D _ _ (.inr (needB_len (by assumption)))) rfl rfl ?_;rintro _ rfl))|((with_reducible show Wk (AwStep _ _ _ _ _));first|(refine pln_ ?_))|((with_reducible show Wk (AwCode _ _ _ _ _));first|(refine wtr_ (id:=6) [] (.early 0 (.early 1 (.early 2 (.early 3 (.one 4 (.early 5 (.early 6 (.early 7 (.early 8 (.early 9 (.early 10 (.early 11 (.early 12 (.early 13 (.early 15 (.early 16 (.early 17 (.two 14 (.one 18 (.one 19 (.early 20 (.early 21 (.early 22 .done))))) 18 (.one 14 (.one 19 (.early 20 (.early 21 (.early 22 .done))))))))))))))))))))))) ?_)|(refine lpU_ 0x9 (ι:=Nat) (fun k=> [(3,.sc (.int .i64 (k:Int)))]) (fun k=>k≤ns.length∧∀ j:Nat,j < k→needAt ns j=true) (fun k=>ns.length - k) 0 ?_ ?_;(focus (exact ⟨by omega,allN_zero⟩));rintro _ hN0 k hinv;(try dsimp only at hinv);obtain ⟨hk,hj⟩:=hinv;replace hj:=Lib.hid hj;skip))|((with_reducible show Wk (boolK _ _ _ _));first|(refine bk_ (fun h h'=>?_) (fun h h'=>?_)))|((with_reducible show Wk (_∧_));first|(refine and_ ?_ ?_))|(refine hN0.go (k+1) ?_ ?_;(focus (exact ⟨by show k+1≤ns.length;omega,allN_step hj.out (by unfold needAt nextB;simp_all)⟩));(focus (show ns.length - (k+1) < ns.length - k;omega)))|fail)<;>(try refine nm_ ?_))
  all_goals (refine ⟨?_⟩)
  all_goals first|contradiction|rfl|(have e:=allN_no (n:=ns.length) (p:=needAt ns) (k:=k) (by omega) (by unfold needAt nextB;simp_all);simp_all [needsB_eq]<;>omega)|(have e:=allN_yes (n:=ns.length) (p:=needAt ns) (by omega) hj.out;simp_all [needsB_eq]<;>omega)|(simp_all [needsB_eq]<;>omega)|(simp [needsB_eq, *]<;>omega)
theorem spec_PodOk_D (p:PodD):Spec Tryz.prog 178 [.agg (podCells p)] (fun d=>d = .sc (.bool (podB p))):=by
  unfold podCells
  refine sp_ (rs:= [.tmp 2]) (nt:=36) Tryz.func178 rfl fun X hX=>?_
  refine nm_ ?_
  repeat' ((first|contradiction|(with_reducible exact tt_)|((with_reducible show Wk (AwStepF _ _ _ _ _ _ _));first|(refine cl_ rfl _ _ (specName_D _) rfl rfl ?_;rintro _ rfl)|(refine cl_ rfl _ _ (spec_LabelsOk_D _) rfl rfl ?_;rintro _ rfl)|(refine cl_ rfl _ _ (l01In_D _ _ _) rfl rfl ?_;rintro _ rfl)|(refine cl_ rfl _ _ (spec_SelectorOk_D _) rfl rfl ?_;rintro _ rfl)|(refine cl_ rfl _ _ (spec_TolerancesOk_D _) rfl rfl ?_;rintro _ rfl))|((with_reducible show Wk (AwStep _ _ _ _ _));first|(refine pln_ ?_))|((with_reducible show Wk (boolK _ _ _ _));first|(refine bk_ (fun h h'=>?_) (fun h h'=>?_)))|((with_reducible show Wk (_∧_));first|(refine and_ ?_ ?_))|fail)<;>(try refine nm_ ?_))
  all_goals (refine ⟨?_⟩)
  all_goals first|contradiction|rfl|(simp_all [podB]<;>omega)|(simp [podB, *]<;>omega)
theorem spec_HostOk_D (p:HostD):Spec Tryz.prog 180 [.agg (hostCells p)] (fun d=>d = .sc (.bool (hostB p))):=by
  unfold hostCells
  refine sp_ (rs:= [.tmp 2]) (nt:=31) Tryz.func180 rfl fun X hX=>?_
  refine nm_ ?_
  repeat' ((first|contradiction|(with_reducible exact tt_)|((with_reducible show Wk (AwStepF _ _ _ _ _ _ _));first|(refine cl_ rfl _ _ (specName_D _) rfl rfl ?_;rintro _ rfl)|(refine cl_ rfl _ _ (spec_LabelsOk_D _) rfl rfl ?_;rintro _ rfl)|(refine cl_ rfl _ _ (l01In_D _ _ _) rfl rfl ?_;rintro _ rfl)|(refine cl_ rfl _ _ (spec_TaintsOk_D _) rfl rfl ?_;rintro _ rfl))|((with_reducible show Wk (AwStep _ _ _ _ _));first|(refine pln_ ?_))|((with_reducible show Wk (boolK _ _ _ _));first|(refine bk_ (fun h h'=>?_) (fun h h'=>?_)))|((with_reducible show Wk (_∧_));first|(refine and_ ?_ ?_))|fail)<;>(try refine nm_ ?_))
  all_goals (refine ⟨?_⟩)
  all_goals first|contradiction|rfl|(simp_all [hostB]<;>omega)|(simp [hostB, *]<;>omega)
theorem spec_WeightsOk_D (x y z:Int):Spec Tryz.prog 177 [.agg [.sc (.int .i64 x),.sc (.int .i64 y),.sc (.int .i64 z)]] (fun d=>d = .sc (.bool (inB x 0 10&&(inB y 0 10&&inB z 0 10)))):=by
  refine sp_ (rs:= [.tmp 2]) (nt:=16) Tryz.func177 rfl fun X hX=>?_
  refine nm_ ?_
  repeat' ((first|contradiction|(with_reducible exact tt_)|((with_reducible show Wk (AwStepF _ _ _ _ _ _ _));first|(refine cl_ rfl _ _ (l01In_D _ _ _) rfl rfl ?_;rintro _ rfl))|((with_reducible show Wk (AwStep _ _ _ _ _));first|(refine pln_ ?_))|((with_reducible show Wk (boolK _ _ _ _));first|(refine bk_ (fun h h'=>?_) (fun h h'=>?_)))|((with_reducible show Wk (_∧_));first|(refine and_ ?_ ?_))|fail)<;>(try refine nm_ ?_))
  all_goals (refine ⟨?_⟩)
  all_goals first|contradiction|rfl|(simp_all [inB]<;>omega)|(simp [inB, *]<;>omega)
theorem spec_UsualWeights_D :Spec Tryz.prog 98 [] (fun d=>d = .agg [.sc (.int .i64 2),.sc (.int .i64 1),.sc (.int .i64 3)]):=by
  refine sp_ (rs:= [.cell 0 41]) (nt:=2) Tryz.func98 rfl fun X hX=>?_
  refine nm_ ?_
  repeat' ((first|contradiction|(with_reducible exact tt_)|((with_reducible show Wk (AwStep _ _ _ _ _));first|(refine pln_ ?_))|((with_reducible show Wk (boolK _ _ _ _));first|(refine bk_ (fun h h'=>?_) (fun h h'=>?_)))|((with_reducible show Wk (_∧_));first|(refine and_ ?_ ?_))|fail)<;>(try refine nm_ ?_))
  all_goals (refine ⟨?_⟩)
  all_goals first|rfl
theorem spec_HostAt_D (c:ClusterD) (nm:ByteArray) (hn:c.hosts.length≤1048576):Spec Tryz.prog 179 [c.d,.sc (.string nm)] (fun d=>d = .sc (.int .i64 (hostAtB c.hosts nm))):=by
  unfold ClusterD.d
  refine sp_ (rs:= [.tmp 4]) (nt:=22) Tryz.func179 rfl fun X hX=>?_
  refine nm_ ?_
  repeat' ((first|contradiction|(with_reducible exact tt_)|((with_reducible show Wk (AwStep _ _ _ _ _));first|(refine pln_ ?_))|((with_reducible show Wk (AwCode _ _ _ _ _));first|(refine lpU_ 0x26 (ι:=Nat) (fun k=> [(5,.sc (.int .i64 (k:Int)))]) (fun k=>k≤c.hosts.length∧∀ j:Nat,j < k→(fun j=>!eqB (c.hosts.getD j default).name nm) j=true) (fun k=>c.hosts.length - k) 0 ?_ ?_;(focus (exact ⟨by omega,allN_zero⟩));rintro _ hN0 k hinv;(try dsimp only at hinv);obtain ⟨hk,hj⟩:=hinv;replace hj:=Lib.hid hj;skip))|((with_reducible show Wk (boolK _ _ _ _));first|(refine bk_ (fun h h'=>?_) (fun h h'=>?_)))|((with_reducible show Wk (_∧_));first|(refine and_ ?_ ?_))|(refine hN0.go (k+1) ?_ ?_;(focus (exact ⟨by show k+1≤c.hosts.length;omega,allN_step hj.out (by simp_all)⟩));(focus (show c.hosts.length - (k+1) < c.hosts.length - k;omega)))|fail)<;>(try refine nm_ ?_))
  all_goals (refine ⟨?_⟩)
  all_goals first|contradiction|(rw [hostAtB,firstN_hit (k:=k) (by omega) (by simp_all) hj.out];done)|(rw [hostAtB,firstN_none (k:=k) (by omega) hj.out];done)
theorem spec_AddInt_D (a b:Int) (hb:b≤9223372036854775807):Spec Tryz.prog 393 [.sc (.int .i64 a),.sc (.int .i64 b)] (fun d=>d = .tup [.sc (.int .i64 ((addB a b).getD 0)),.sc (.bool (addB a b).isSome)]):=by
  refine sp_ (rs:= [.tmp 4,.tmp 5]) (nt:=21) Tryz.func393 rfl fun X hX=>?_
  refine nm_ ?_
  repeat' ((first|contradiction|(with_reducible exact tt_)|((with_reducible show Wk (AwStep _ _ _ _ _));first|(refine pln_ ?_))|((with_reducible show Wk (boolK _ _ _ _));first|(refine bk_ (fun h h'=>?_) (fun h h'=>?_)))|((with_reducible show Wk (_∧_));first|(refine and_ ?_ ?_))|fail)<;>(try refine nm_ ?_))
  all_goals (refine ⟨?_⟩)
  all_goals first|contradiction|(rw [show addB a b=none from if_pos (by omega)];rfl)|(rw [show addB a b=some (a+b) from if_neg (by omega)];rfl)
theorem sumL_no {ns:List Int}{k:Nat}{n:Int} (hk:k < ns.length) (hj:sumN (fun k=>ns.getD k default) k=some n) (h:(addB n (ns.getD k default)).isSome=false):sumL ns=none:=by
  refine sumN_none (k:=k+1) ?_ _ hk
  show (sumN _ k).bind _=_
  rw [hj]
  show addB n (ns.getD k default)=none
  cases e:addB n (ns.getD k default) with
  |none=>rfl
  |some v=>rw [e] at h;cases h
theorem takeMap_le {f:PodD→Int}{ps:List PodD}{m:Int} (hm:0≤m) (hr:∀ j,f (ps.getD j default)≤m) (k:Nat):∀ j,((ps.take k).map f).getD j default≤m:=by
  intro j
  rw [List.getD_eq_getElem?_getD,List.getElem?_map]
  cases h:(ps.take k)[j]? with
  |none=>exact hm
  |some p=>
    have h2:=hr j
    rw [List.getElem?_take] at h
    split at h
    · rw [List.getD_eq_getElem?_getD,h] at h2
      exact h2
    · cases h
theorem spec_SumInts_D (ns:List Int) (hr:∀ k,ns.getD k default≤9223372036854775807) (hn:ns.length≤1048576):Spec Tryz.prog 354 [.sl ns.length (intsD ns)] (fun d=>d = .tup [.sc (.int .i64 ((sumL ns).getD 0)),.sc (.bool (sumL ns).isSome)]):=by
  refine sp_ (rs:= [.tmp 2,.tmp 3]) (nt:=27) Tryz.func354 rfl fun X hX=>?_
  refine nm_ ?_
  repeat' ((first|contradiction|(with_reducible exact tt_)|((with_reducible show Wk (AwStepF _ _ _ _ _ _ _));first|(refine cl_ rfl _ _ (spec_AddInt_D _ _ (hr _)) rfl rfl ?_;rintro _ rfl))|((with_reducible show Wk (AwStep _ _ _ _ _));first|(refine pln_ ?_))|((with_reducible show Wk (AwCode _ _ _ _ _));first|(refine lpU_ 0x31 (ι:=Nat × Int) (fun ⟨k,n⟩=> [(4,.sc (.int .i64 n)),(5,.sc (.int .i64 (k:Int)))]) (fun ⟨k,n⟩=>k≤ns.length∧sumN (fun k=>ns.getD k default) k=some n) (fun ⟨k,n⟩=>ns.length - k) (0,0) ?_ ?_;(focus (exact ⟨by omega,rfl⟩));rintro _ hN0 ⟨k,n⟩ hinv;(try dsimp only at hinv);obtain ⟨hk,hj⟩:=hinv;replace hj:=Lib.hid hj;skip))|((with_reducible show Wk (boolK _ _ _ _));first|(refine bk_ (fun h h'=>?_) (fun h h'=>?_)))|((with_reducible show Wk (_∧_));first|(refine and_ ?_ ?_))|(refine hN0.go ((k+1,_)) ?_ ?_;(focus (refine ⟨by show k+1≤_;omega,?_⟩;obtain ⟨v,hv⟩:=Option.isSome_iff_exists.1 (by assumption:(addB n (ns.getD k default)).isSome=true);show (sumN _ k).bind _=_;rw [hj.out];show addB n (ns.getD k default)=some ((addB n (ns.getD k default)).getD 0);rw [hv];rfl));(focus (show ns.length - (k+1) < ns.length - k;omega)))|fail)<;>(try refine nm_ ?_))
  all_goals (refine ⟨?_⟩)
  all_goals first|contradiction|(rw [sumL_no (k:=k) (by omega) hj.out (by assumption)];rfl)|(rw [show sumL ns=some n from (by have e:k=ns.length:=(by omega);subst e;exact hj.out)];rfl)
theorem spec_SumsOf_D (ps:List PodD) (hr:∀ k,(ps.getD k default).cpu≤9223372036854775807∧(ps.getD k default).mem≤9223372036854775807) (hn:ps.length≤1048576):Spec Tryz.prog 277 [.sl ps.length (podsD ps)] (fun d=>d = .tup [.sc (.int .i64 (((sumsB ps).getD (0,0)).1)),.sc (.int .i64 (((sumsB ps).getD (0,0)).2)),.sc (.bool (sumsB ps).isSome)]):=by
  have ex0:=@takeMap_snoc;have ex1:=@intsD_one;have ex2:=@intsD_takeN
  refine sp_ (rs:= [.tmp 2,.tmp 3,.tmp 4]) (nt:=54) Tryz.func277 rfl fun X hX=>?_
  refine nm_ ?_
  repeat' ((first|contradiction|(with_reducible exact tt_)|((with_reducible show Wk (AwStepF _ _ _ _ _ _ _));first|(refine app_ rfl ?_)|(refine afz_ [0] ?_;refine nm_ ?_;refine cl_ rfl _ _ (spec_SumInts_D _ (takeMap_le (by decide) (fun j=>(hr j).1) _) (by assumption)) rfl rfl ?_;rintro _ rfl)|(refine afz_ [1] ?_;refine nm_ ?_;refine cl_ rfl _ _ (spec_SumInts_D _ (takeMap_le (by decide) (fun j=>(hr j).2) _) (by assumption)) rfl rfl ?_;rintro _ rfl))|((with_reducible show Wk (AwStep _ _ _ _ _));first|(refine pln_ ?_))|((with_reducible show Wk (AwCode _ _ _ _ _));first|(refine lpV_ (ι:=Nat) [] [0,1] 0xe1 (fun k=> [(5,.own 0 0 ((ps.take k).map (fun p=>p.cpu)).length),(6,.own 1 0 ((ps.take k).map (fun p=>p.mem)).length),(7,.sc (.int .i64 (k:Int)))]) (fun k=> [(0,⟨3,1,((ps.take k).map (fun p=>p.cpu)).length,intsD ((ps.take k).map (fun p=>p.cpu))⟩),(1,⟨3,1,((ps.take k).map (fun p=>p.mem)).length,intsD ((ps.take k).map (fun p=>p.mem))⟩)]) (fun k=>k≤ps.length) (fun k=>ps.length - k) 0 ?_ ?_;(focus (omega));rintro _ hN0 k hinv;(try dsimp only at hinv);have hk:k≤ps.length:=hinv;have hL1:((ps.take k).map (fun p=>p.cpu)).length≤1048576:=(by simp;omega);have hL2:((ps.take k).map (fun p=>p.mem)).length≤1048576:=(by simp;omega);skip))|((with_reducible show Wk (boolK _ _ _ _));first|(refine bk_ (fun h h'=>?_) (fun h h'=>?_)))|((with_reducible show Wk (_∧_));first|(refine and_ ?_ ?_))|(refine hN0.go (k+1) [] [3,5] ?_ ?_;(focus (show k+1≤_;omega));(focus (show ps.length - (k+1) < ps.length - k;omega)))|fail)<;>(try refine nm_ ?_))
  all_goals clear ex0 ex1 ex2
  all_goals (refine ⟨?_⟩)
  all_goals (simp only [List.take_of_length_le (show ps.length≤k by omega)] at *;unfold sumsB;cases h1:sumL (ps.map PodD.cpu)<;>cases h2:sumL (ps.map PodD.mem)<;>simp_all)
theorem spec_UsedOn_D (c:ClusterD) (nm:ByteArray) (hc:c.fine):Spec Tryz.prog 181 [c.d,.sc (.string nm)] (fun d=>d = .tup [.sc (.int .i64 ((usedB c.pods nm).getD (0,0,0)).1),.sc (.int .i64 ((usedB c.pods nm).getD (0,0,0)).2.1),.sc (.int .i64 ((usedB c.pods nm).getD (0,0,0)).2.2),.sc (.bool (usedB c.pods nm).isSome)]):=by
  unfold ClusterD.d
  have ex0:=@podsD_snoc;have ex1:=@podsD_takeN
  refine sp_ (rs:= [.tmp 4,.tmp 5,.tmp 6,.tmp 7]) (nt:=54) Tryz.func181 rfl fun X hX=>?_
  refine nm_ ?_
  repeat' ((first|contradiction|(with_reducible exact tt_)|((with_reducible show Wk (AwStepF _ _ _ _ _ _ _));first|(refine app_ rfl ?_)|(refine afz_ [1] ?_;refine nm_ ?_;refine cl_ rfl _ _ (spec_SumsOf_D L (by have e:=hj.out;subst e;exact bound_le hc _ _) (by assumption)) rfl rfl ?_;rintro _ rfl))|((with_reducible show Wk (AwStep _ _ _ _ _));first|(refine pln_ ?_))|((with_reducible show Wk (AwCode _ _ _ _ _));first|(refine lpV_ (ι:=Nat × List PodD) [] [0,1] 0x306 (fun ⟨k,L⟩=> [(8,.own 1 0 L.length),(9,.sc (.int .i64 (k:Int)))]) (fun ⟨k,L⟩=> [(1,⟨123,7,L.length,podsD L⟩)]) (fun ⟨k,L⟩=>k≤c.pods.length∧L=(boundB (c.pods.take k) nm).map (fun p=>p.pod)) (fun ⟨k,L⟩=>c.pods.length - k) (0, []) ?_ ?_;(focus (refine ⟨by omega,?_⟩;simp [boundB]));rintro _ hN0 ⟨k,L⟩ hinv;(try dsimp only at hinv);obtain ⟨hk,hj⟩:=hinv;have hL:L.length≤1048576:=(by rw [hj,List.length_map];exact Nat.le_trans (bound_len _ _ _) hc.plen);have hp:=hc.plen;replace hj:=Lib.hid hj;skip))|((with_reducible show Wk (boolK _ _ _ _));first|(refine bk_ (fun h h'=>?_) (fun h h'=>?_)))|((with_reducible show Wk (_∧_));first|(refine and_ ?_ ?_))|(refine hN0.go ((k+1,L ++ [(c.pods.getD k default).pod])) [] [0,3] ?_ ?_;(focus (refine ⟨by show k+1≤_;omega,?_⟩;show L ++ [_]=(boundB (c.pods.take (k+1)) nm).map (fun p=>p.pod);rw [boundB_snoc (by omega),List.map_append,← hj.out];simp_all));(focus (show c.pods.length - (k+1) < c.pods.length - k;omega)))|(refine hN0.go ((k+1,L)) [] [0,1] ?_ ?_;(focus (refine ⟨by show k+1≤_;omega,?_⟩;show L=(boundB (c.pods.take (k+1)) nm).map (fun p=>p.pod);rw [boundB_snoc (by omega),List.map_append,← hj.out];simp_all));(focus (show c.pods.length - (k+1) < c.pods.length - k;omega)))|fail)<;>(try refine nm_ ?_))
  all_goals clear ex0 ex1
  all_goals (refine ⟨?_⟩)
  all_goals (have e:boundB (c.pods.take k) nm=boundB c.pods nm:=boundB_end (by first|(left;omega)|(right;assumption));have e2:=hj.out;rw [e] at e2;subst e2;unfold usedB;cases h1:sumsB ((boundB c.pods nm).map fun p=>p.pod)<;>simp_all)
end Go.Proofs.YtgoeccemfgniiaaGreat
