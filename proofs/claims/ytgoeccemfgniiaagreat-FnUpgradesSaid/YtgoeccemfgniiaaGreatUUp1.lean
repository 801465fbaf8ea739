/- Up1 (what is wanted of them). -/
import Derived.Test.YtgoeccemfgniiaaGreatUNo
import Derived.Test.YtgoeccemfgniiaaGreatUPx2
import Derived.Test.YtgoeccemfgniiaaGreatUPx4
import Derived.Test.YtgoeccemfgniiaaGreatURd10
namespace Go.Proofs.YtgoeccemfgniiaaGreat
open Go.RowKit
set_option linter.unusedVariables false
set_option linter.unusedSimpArgs false
set_option maxRecDepth 100000
set_option maxHeartbeats 4000000
theorem best_sz {c:ClusterD}{p:PodD}{v:ByteArray}{q:Bool} (hc:CluW 8 12 c) (h:Best c p v q) (hq:q=true):v.size≤1000:=by
  obtain ⟨ws,h1,h2,_⟩:=h.ex
  obtain ⟨h3,rfl⟩:=h2 hq
  have hm:ws.getD 0 default ∈ ws:=by
    rw [List.getD_eq_getElem?_getD,List.getElem?_eq_getElem h3]
    exact List.getElem_mem _
  have hm2:=h1.perm.mem_iff.1 hm
  unfold feasL at hm2
  obtain ⟨h,hh,he⟩:=List.mem_map.1 (List.mem_filter.1 hm2).1
  rw [← he]
  exact (hc.hosts.all h (List.mem_of_mem_take hh)).name
theorem plcR_w {c c':ClusterD}{nm v:ByteArray}{code:Int} (hc:CluW 8 12 c) (h:PlcR c nm c' v code):CluW 8 12 c':=by
  rcases h.ex with ⟨_,rfl,_⟩|⟨_,_,rfl,_⟩|⟨a1,_,u,q,hb,⟨_,rfl,_⟩|⟨hq,rfl,_⟩⟩
  · exact hc
  · exact hc
  · exact hc
  · exact clu_pods hc (hc.pods.set (plc_on (hc.pods.at (by have:=(podAt_rng c nm).2;omega)) (best_sz hc hb hq)))
theorem nxtP_w {c c':ClusterD}{nm v:ByteArray}{code:Int} (hc:CluW 8 12 c) (h:NxtP c c' nm v code):CluW 8 12 c':=by
  obtain ⟨q,_,⟨_,rfl,_⟩|⟨i,_,_,hp,_⟩|⟨_,_,rfl,_⟩⟩:=h.ex
  · exact hc
  · exact plcR_w hc hp
  · exact hc
theorem clu_small {c:ClusterD} (hw:CluW 20 20 c) (hb:clusterB c=true):CluW 8 12 c:=⟨⟨hw.hosts.all,(clOk_iff.1 hb).nh⟩,⟨hw.pods.all,(clOk_iff.1 hb).np⟩,hw.next⟩
theorem str1 (x:Int):(strOf [x]).size=1:=by rw [strOf_size];rfl
theorem strB_set (s:ByteArray) (k:Nat) (v:Int):((strB s).set k v).length=s.size:=by rw [List.length_set,strB_len]
theorem strB_take (s:ByteArray) (k:Nat) (v:Int):(u8D ((strB s).set k v)).take s.size=u8D ((strB s).set k v):=List.take_of_length_le (by rw [u8D_len,strB_set];exact Nat.le_refl _)
theorem up12_t {c:ClusterD}{t:ByteArray}{ok:Bool} (hc:c.fine) (he:expB c 1=true) (h:Txt (up12 (snap1T c)) t ok):snap2T c=t∧true=ok:=by
  have e:=(up12_snap hc he).symm.trans h.eq
  injection e with e1 e2
  exact ⟨e1,e2⟩
theorem up23_t {c:ClusterD}{t:ByteArray}{ok:Bool} (hc:c.fine) (he:expB c 2=true) (h:Txt (up23 (snap2T c)) t ok):snapT c=t∧true=ok:=by
  have e:=(up23_snap hc he).symm.trans h.eq
  injection e with e1 e2
  exact ⟨e1,e2⟩
theorem rd1_t {c q:ClusterD}{ok:Bool} (hc:c.fine) (he:expB c 1=true) (h:Fin (rd1 (snap1T c)) q ok):c=q∧true=ok:=by
  have e:=(rd1_snap hc he).symm.trans h.eq
  injection e with e1 e2
  exact ⟨e1,e2⟩
theorem rd2_t {c q:ClusterD}{ok:Bool} (hc:c.fine) (he:expB c 2=true) (h:Fin (rd2 (snap2T c)) q ok):c=q∧true=ok:=by
  have e:=(rd2_snap hc he).symm.trans h.eq
  injection e with e1 e2
  exact ⟨e1,e2⟩
theorem Txt.same {r:ByteArray × Bool}{t t2:ByteArray}{ok ok2:Bool} (h:Txt r t ok) (h2:Txt r t2 ok2):t=t2∧ok=ok2:=by
  have e:=h.eq.symm.trans h2.eq
  injection e with e1 e2
  exact ⟨e1,e2⟩
theorem spec_l04Spoilt_D (bs:List Int) (i g:Int) (hc:CurOk bs i) (s:ByteArray) (hs:s.size≤1000000):SpecH Tryz.prog 229 [.ptr 0 0,.sc (.string s)] [(0,⟨189,3,1, [.sl bs.length (u8D bs),.sc (.int .i64 i),.sc (.int .i64 g)]⟩)] 1 (fun d os' nb'=>∃ i' g':Int,∃ t:ByteArray,CurOk bs i'∧(t.size≤s.size+1)∧d = .sc (.string t)∧os' = [(0,⟨189,3,1, [.sl bs.length (u8D bs),.sc (.int .i64 i'),.sc (.int .i64 g')]⟩)]∧nb' = 1):=by
  have ex0:=@not_str;have ex1:=@stb_str;have ex2:=@u8D_set;have ex3:=@u8D_len;have ex4:=@strB_len;have ex5:=@str1;have ex6:=@strB_set;have ex7:=@strB_take
  refine spH_ (rs:= [.tmp 4]) (nt:=42) Tryz.func229 rfl fun X hX=>?_
  refine nm_ ?_
  repeat' ((first|contradiction|(with_reducible exact tt_)|((with_reducible show Wk (AwStepF _ _ _ _ _ _ _));first|(refine stb_ (src:=9) (dst:=53) rfl ?_)|(refine byt_ rfl ?_)|(refine awH_ rfl (spec_l01Below_D bs _ _ (by assumption) (s.size:Int) (by omega)) [0] ?_;rintro _ _ _ ⟨i1,g1,k,hc1,hk,rfl,rfl,rfl⟩ _;(have hk0:=hk.lo;have hk1:=hk.hi (by omega);clear hk))|(refine awH_ rfl (spec_l01Below_D bs _ _ (by assumption) 4 (by decide)) [0] ?_;rintro _ _ _ ⟨i1,g1,w,hc1,hw,rfl,rfl,rfl⟩ _;(have hlow:=hw.lo;have hhiw:=hw.hi (by decide);clear hw))|(refine awH_ rfl (spec_l01Byte_D bs _ _ (by assumption)) [0] ?_;rintro _ _ _ ⟨i1,g1,x,hc1,hx,rfl,rfl,rfl⟩ _))|((with_reducible show Wk (AwStep _ _ _ _ _));first|(refine pln_ ?_))|((with_reducible show Wk (boolK _ _ _ _));first|(refine bk_ (fun h h'=>?_) (fun h h'=>?_)))|((with_reducible show Wk (_∧_));first|(refine and_ ?_ ?_))|((with_reducible show Wk (stepK _ _ _));first|(refine ite_ (fun hs=>?_) (fun hs=>?_)))|((with_reducible show Wk (retOkH _ _ _ _ _));first|(refine rh_ [] ?_))|fail)<;>(try refine nm_ ?_))
  all_goals clear ex0 ex1 ex2 ex3 ex4 ex5 ex6 ex7
  all_goals (refine ⟨?_⟩)
  all_goals first|contradiction|(exfalso;omega)|(exact ⟨_,_,_,(by assumption),(by first|(show 1≤s.size+1;omega)|(rw [ByteArray.size_extract];omega)|(rw [ByteArray.size_append,str1];exact Nat.le_refl _)|(rw [strOf_size,strB_set];omega)),rfl,rfl⟩)
theorem spec_l27Text_D (bs:List Int) (i g:Int) (hc:CurOk bs i):SpecH Tryz.prog 134 [.ptr 0 0,.sc (.int .i64 1)] [(0,⟨189,3,1, [.sl bs.length (u8D bs),.sc (.int .i64 i),.sc (.int .i64 g)]⟩)] 1 (fun d os' nb'=>∃ i' g':Int,∃ t:ByteArray,CurOk bs i'∧(t.size≤20000)∧d = .sc (.string t)∧os' = [(0,⟨189,3,1, [.sl bs.length (u8D bs),.sc (.int .i64 i'),.sc (.int .i64 g')]⟩)]∧nb' = 1):=by
  refine spH_ (rs:= [.tmp 4]) (nt:=16) Tryz.func134 rfl fun X hX=>?_
  refine nm_ ?_
  repeat' ((first|contradiction|(with_reducible exact tt_)|((with_reducible show Wk (AwStepF _ _ _ _ _ _ _));first|(refine cl_ rfl _ _ (spec_SnapAt_D x 1 hf) rfl rfl ?_;rintro _ ⟨rfl,hsz⟩;(have hfit:=snapAt_fit hf 1))|(refine awH_ rfl (spec_l27New_D bs _ _ (by assumption)) [0] ?_;rintro _ _ _ ⟨i1,g1,x,hc1,hx,rfl,rfl,rfl⟩ _;(have hf:=hx.fine (by decide) (by decide)))|(refine awH_ rfl (spec_l01Once_D bs _ _ (by assumption) 3 (by decide)) [0] ?_;rintro _ _ _ ⟨i1,g1,b3,hc1,hb3,rfl,rfl,rfl⟩ _)|(refine awH_ rfl (spec_l04Spoilt_D bs _ _ (by assumption) (snapAtT x 1) (by omega)) [0] ?_;rintro _ _ _ ⟨i1,g1,t,hc1,ht,rfl,rfl,rfl⟩ _))|((with_reducible show Wk (AwStep _ _ _ _ _));first|(refine pln_ ?_))|((with_reducible show Wk (boolK _ _ _ _));first|(refine bk_ (fun h h'=>?_) (fun h h'=>?_)))|((with_reducible show Wk (_∧_));first|(refine and_ ?_ ?_))|((with_reducible show Wk (retOkH _ _ _ _ _));first|(refine rh_ [] ?_))|fail)<;>(try refine nm_ ?_))
  all_goals (refine ⟨?_⟩)
  all_goals first|contradiction|(exfalso;omega)|(exact ⟨_,_,_,(by assumption),(by omega),rfl,rfl,rfl⟩)|(exact ⟨_,_,_,(by assumption),(by omega),rfl,rfl⟩)
theorem spec_DrawUpgraded12_D (bs:List Int) (hb:bs.length≤1048576):Spec Tryz.prog 59 [.sl bs.length (u8D bs)] (fun d=>∃ t:ByteArray,t.size≤20000∧d = .sc (.string t)):=by
  refine spG_ (rs:= [.tmp 2]) (nt:=6) Tryz.func59 rfl fun X hX=>?_
  refine nm_ ?_
  repeat' ((first|contradiction|(with_reducible exact tt_)|((with_reducible show Wk (AwStepF _ _ _ _ _ _ _));first|(refine awH_ rfl (spec_l01New_D bs hb) [] ?_;rintro _ _ _ ⟨g,rfl,rfl,rfl⟩ _)|(refine awH_ rfl (spec_l27Text_D bs 0 g ⟨hb,by decide,by omega⟩) [0] ?_;rintro _ _ _ ⟨i1,g1,t,hc1,ht,rfl,rfl,rfl⟩ _))|((with_reducible show Wk (AwStep _ _ _ _ _));first|(refine pln_ ?_))|((with_reducible show Wk (boolK _ _ _ _));first|(refine bk_ (fun h h'=>?_) (fun h h'=>?_)))|((with_reducible show Wk (_∧_));first|(refine and_ ?_ ?_))|((with_reducible show Wk (retOkG _ _ _ _));first|(refine rgg_ [] ?_))|fail)<;>(try refine nm_ ?_))
  all_goals (refine ⟨?_⟩)
  all_goals first|contradiction|(exact ⟨t,ht,rfl⟩)
theorem laws_FnUpgrades_D (bs:List Int) (hb:bs.length≤9223372036854775807):Spec Tryz.prog 10 [.sl bs.length (u8D bs)] (fun d=>d = .sc (.bool true)):=by
  have ex0:=@snapAt_3
  refine sp_ (rs:= [.tmp 2]) (nt:=154) Tryz.func10 rfl fun X hX=>?_
  refine nm_ ?_
  repeat' ((first|contradiction|(with_reducible exact tt_)|((with_reducible show Wk (AwStepF _ _ _ _ _ _ _));first|(refine cl_ rfl _ _ (laws_big_D bs hb) rfl rfl ?_;rintro _ rfl)|(refine cl_ rfl _ _ (drawOld_K bs (by omega)) rfl rfl ?_;rintro _ ⟨c,⟨hw,hcb⟩,rfl⟩;(have hw8:=clu_small hw hcb;have hc:=hw.fine (by decide) (by decide);have hcs:=clSame_self c;have hf1:=snap1T_fit hc;have hf2:=snap2T_fit hc;clear hw;unfold ClusterD.d))|(refine cl_ rfl _ _ (spec_Expressible_D c 1 hc) rfl rfl ?_;rintro _ rfl;(rcases Bool.eq_false_or_eq_true (expB c 1) with he1|he1;(have he2:expB c 2=true:=exp_next (k:=1) (by decide) he1);rotate_left;skip;rotate_left))|(refine cl_ rfl _ _ (spec_Expressible_D c 2 hc) rfl rfl ?_;rintro _ rfl)|(refine cl_ rfl _ _ (impl_Snap1Text_D c hc) rfl rfl ?_;rintro _ ⟨rfl,hz1⟩)|(refine cl_ rfl _ _ (impl_Upgraded12_D (snap1T c) (by omega)) rfl rfl ?_;rintro _ ⟨t,ok,hT,htz,rfl⟩;(obtain ⟨e1,e2⟩:=up12_t hc he1 hT;subst e1;subst e2))|(refine cl_ rfl _ _ (impl_Upgraded12_D u (by omega)) rfl rfl ?_;rintro _ ⟨v,ok,hT,htz,rfl⟩)|(refine cl_ rfl _ _ (impl_Upgraded23_D (snap2T c) (by omega)) rfl rfl ?_;rintro _ ⟨t,ok,hT,htz,rfl⟩;(obtain ⟨e1,e2⟩:=up23_t hc he2 hT;subst e1;subst e2))|(refine cl_ rfl _ _ (spec_Snap2Text_D c hc) rfl rfl ?_;rintro _ ⟨rfl,hz3⟩)|(refine cl_ rfl _ _ (spec_SnapText_D c hc) rfl rfl ?_;rintro _ ⟨rfl,hz4⟩)|(refine cl_ rfl _ _ (spec_SameCluster_D c c hc) rfl rfl ?_;rintro _ rfl)|(refine cl_ rfl _ _ (impl_Snap2Text_D c hc) rfl rfl ?_;rintro _ ⟨rfl,hz2⟩)|(refine cl_ rfl _ _ (spec_DrawUpgraded12_D bs (by omega)) rfl rfl ?_;rintro _ ⟨u,hu,rfl⟩)|(refine cl_ rfl _ _ (spec_Upgraded12_D u (by omega)) rfl rfl ?_;rintro _ ⟨v2,ok2,hT2,htz2,rfl⟩;(obtain ⟨e1,e2⟩:=hT.same hT2;subst e1;subst e2))|(refine cl_ rfl _ _ (impl_SnapAt_D c 3 hc) rfl rfl ?_;rintro _ ⟨rfl,hz5⟩)|(refine awH_ rfl (impl_ReadSnap1_C (snap1T c) (by omega)) [] ?_;rintro _ _ _ ⟨q,ok,hq,⟨hf,h8,h12,h1⟩,rfl,rfl,rfl⟩ _;(obtain ⟨e1,e2⟩:=rd1_t hc he1 hq;subst e1;subst e2))|(refine awH_ rfl (impl_ReadSnap2_D (snap2T c) (by omega)) [] ?_;rintro _ _ _ ⟨q,ok,hq,⟨hf,h8,h12,h1⟩,rfl,rfl,rfl⟩ _;(obtain ⟨e1,e2⟩:=rd2_t hc (by assumption) hq;subst e1;subst e2))|(refine awH_ rfl (spec_PlaceNext_X c hw8 hcb) [] ?_;rintro _ _ _ ⟨bq,bv,bu,bk,bh,rfl,rfl,rfl⟩ _;(obtain ⟨e1,e2,e3,e4⟩:=ah.same hcb bh;subst e1;subst e2;subst e3;subst e4))|(refine bo_ rfl [.cool 1,.frz 1,.cool 2,.frz 2] (spec_SameCluster_D c c hc) ?_;rintro _ rfl;refine ⟨rfl,?_⟩)|(refine bo_ rfl [.frz 4,.frz 5,.frz 7,.frz 8] (spec_SameCluster_D aq aq hqf) ?_;rintro _ rfl;refine ⟨rfl,?_⟩)|(refine bo_ rfl [.frz 7,.frz 8,.frz 10,.frz 11] (spec_SameCluster_D aq aq hqf) ?_;rintro _ rfl;refine ⟨rfl,?_⟩))|((with_reducible show Wk (AwStep _ _ _ _ _));first|(refine gpp_ [.cool 1,.frz 1,.cool 2,.frz 2] ?_;refine pln_ ?_;refine nm_ ?_;refine awH_ rfl (impl_PlaceNext_X c hw8 hcb) [] ?_;rintro _ _ _ ⟨aq,av,au,ak,ah,rfl,rfl,rfl⟩ _;(have hqf:=(nxtP_w hw8 ah).fine (by decide) (by decide);have hqs:=clSame_self aq))|(refine gpp_ [.cool 4,.frz 4,.cool 5,.frz 5] ?_;refine pln_ ?_;refine nm_ ?_;refine awH_ rfl (impl_PlaceNext_X c hw8 hcb) [] ?_;rintro _ _ _ ⟨aq,av,au,ak,ah,rfl,rfl,rfl⟩ _;(have hqf:=(nxtP_w hw8 ah).fine (by decide) (by decide);have hqs:=clSame_self aq))|(refine pln_ ?_))|((with_reducible show Wk (AwCode _ _ _ _ _));first|(refine wo_ (id:=19) [] [(0,true),(1,true),(2,true),(3,true),(4,true),(5,true),(6,true),(7,true),(8,true),(9,true),(11,true),(10,false),(12,false),(13,true),(14,true),(15,true)] ?_))|((with_reducible show Wk (boolK _ _ _ _));first|(refine bk_ (fun h h'=>?_) (fun h h'=>?_)))|((with_reducible show Wk (_∧_));first|(refine and_ ?_ ?_))|fail)<;>(try refine nm_ ?_))
  all_goals clear ex0
  all_goals (refine ⟨?_⟩)
  all_goals trace_state
end Go.Proofs.YtgoeccemfgniiaaGreat
