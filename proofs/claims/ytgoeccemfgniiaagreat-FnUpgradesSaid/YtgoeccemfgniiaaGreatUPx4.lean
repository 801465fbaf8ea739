/- Px4 (what is wanted of them). -/
import Derived.Test.YtgoeccemfgniiaaGreatUPx2
import Derived.Test.YtgoeccemfgniiaaGreatUPx3
import Derived.Test.YtgoeccemfgniiaaGreatUCl11
namespace Go.Proofs.YtgoeccemfgniiaaGreat
open Go.RowKit
set_option linter.unusedVariables false
set_option linter.unusedSimpArgs false
set_option maxRecDepth 100000
set_option maxHeartbeats 4000000
theorem rep_nilsl {E:Env}{w:World}{v:Value} (h:Rep E w (.sc (.slice none 0 0)) v):Rep E w (.sl 0 []) v:=by
  obtain ⟨rfl,_⟩:=h
  exact .sl 0 [] none 0 [] rfl (Nat.le_refl _) (Nat.zero_le _) (fun j u h=>by simp at h) (fun j d u h=>by simp at h)
theorem specNil {P:Program}{f:FuncId}{ds:List D}{Q:D→Prop} (h:Spec P f ds fun d=>Q d∨(d = .sc (.slice none 0 0)∧Q (.sl 0 []))):Spec P f ds Q:=by
  refine ⟨h.1,fun ro w args h1 h2 h3=>(h.2 ro w args h1 h2 h3).mono ?_⟩
  rintro e w' ⟨d,v,hq,he,hv,hb⟩
  rcases hq with hq|⟨rfl,hq⟩
  · exact ⟨d,v,hq,he,hv,hb⟩
  · exact ⟨_,v,hq,he,rep_nilsl hv,hb⟩
theorem row_none {α:Type}{f:List α→List D}{n:Nat} (hn:0 < n) (hl:∀ xs,(f xs).length=xs.length*n) {xs:List α} (h:f xs = []):xs = []:=by
  have:=congrArg List.length h
  rw [hl] at this
  refine List.eq_nil_of_length_eq_zero ?_
  rcases Nat.mul_eq_zero.1 this with h|h
  · exact h
  · omega
theorem strs_len1 (xs:List ByteArray):(strsD xs).length=xs.length*1:=by rw [strsD_len,Nat.mul_one]
theorem needs_same (ns:List NeedD) (k:Nat) (h:k < ns.length):(needsD ns).set (k*3+2) (.sl (ns.getD k default).values.length (strsD (ns.getD k default).values))=needsD ns:=by
  refine List.ext_getElem? fun j=>?_
  rw [List.getElem?_set]
  split
  · rename_i e
    subst e
    split
    · exact (needsD_f2 ns k h).symm
    · rename_i h2;exact absurd (by rw [needsD_len];omega) h2
  · rfl
/-- The program's copy of a row hands out what reads the same. -/
theorem wNm_go2 {q:List PlacedD}{k:Nat} (h:k < q.length):wNm q k ++ [(q.getD k default).pod.name]=wNm q (k+1):=by
  unfold wNm
  rw [take_snoc _ _ h,List.map_append];rfl
theorem cloneLabel_O (xs:List LabelD) (hn:xs.length≤1048576):Spec Tryz.prog 297 [.sl xs.length (labelsD xs)] (fun d=>d = .sl xs.length (labelsD xs)∨(d = .sc (.slice none 0 0)∧D.sl 0 [] = .sl xs.length (labelsD xs))):=by
  refine spG_ (rs:= [.tmp 2]) (nt:=8) Tryz.func297 rfl fun X hX=>?_
  refine nm_ ?_
  repeat' ((first|contradiction|(with_reducible exact tt_)|((with_reducible show Wk (AwStepF _ _ _ _ _ _ _));first|(refine nnil_ rfl (fun hnil=>?_) ?_)|(refine app_ rfl ?_))|((with_reducible show Wk (AwStep _ _ _ _ _));first|(refine pln_ ?_))|((with_reducible show Wk (boolK _ _ _ _));first|(refine bk_ (fun h h'=>?_) (fun h h'=>?_)))|((with_reducible show Wk (_∧_));first|(refine and_ ?_ ?_))|((with_reducible show Wk (retOkG _ _ _ _));first|(refine rgg_ [] ?_;refine nm_ ?_;fail_if_success (show Wk False))|(refine rgg_ [.frz 1] ?_;refine nm_ ?_;fail_if_success (show Wk False))|(refine rgg_ [.frz 0] ?_;refine nm_ ?_;fail_if_success (show Wk False)))|fail)<;>(try refine nm_ ?_))
  all_goals (refine ⟨?_⟩)
  all_goals first|contradiction|(exfalso;omega)|(exact .inl rfl)|(obtain rfl:=row_none (f:=labelsD) (by decide) labelsD_len hnil;exact .inr ⟨rfl,rfl⟩)|(obtain rfl:=row_none (f:=labelsD) (by decide) labelsD_len hnil;rfl)|rfl
theorem cloneLabel_X (xs:List LabelD) (hn:xs.length≤1048576):Spec Tryz.prog 297 [.sl xs.length (labelsD xs)] (fun d=>d = .sl xs.length (labelsD xs)):=specNil (cloneLabel_O xs hn)
theorem cloneTaint_O (xs:List TaintD) (hn:xs.length≤1048576):Spec Tryz.prog 298 [.sl xs.length (taintsD xs)] (fun d=>d = .sl xs.length (taintsD xs)∨(d = .sc (.slice none 0 0)∧D.sl 0 [] = .sl xs.length (taintsD xs))):=by
  refine spG_ (rs:= [.tmp 2]) (nt:=8) Tryz.func298 rfl fun X hX=>?_
  refine nm_ ?_
  repeat' ((first|contradiction|(with_reducible exact tt_)|((with_reducible show Wk (AwStepF _ _ _ _ _ _ _));first|(refine nnil_ rfl (fun hnil=>?_) ?_)|(refine app_ rfl ?_))|((with_reducible show Wk (AwStep _ _ _ _ _));first|(refine pln_ ?_))|((with_reducible show Wk (boolK _ _ _ _));first|(refine bk_ (fun h h'=>?_) (fun h h'=>?_)))|((with_reducible show Wk (_∧_));first|(refine and_ ?_ ?_))|((with_reducible show Wk (retOkG _ _ _ _));first|(refine rgg_ [] ?_;refine nm_ ?_;fail_if_success (show Wk False))|(refine rgg_ [.frz 1] ?_;refine nm_ ?_;fail_if_success (show Wk False))|(refine rgg_ [.frz 0] ?_;refine nm_ ?_;fail_if_success (show Wk False)))|fail)<;>(try refine nm_ ?_))
  all_goals (refine ⟨?_⟩)
  all_goals first|contradiction|(exfalso;omega)|(exact .inl rfl)|(obtain rfl:=row_none (f:=taintsD) (by decide) taintsD_len hnil;exact .inr ⟨rfl,rfl⟩)|(obtain rfl:=row_none (f:=taintsD) (by decide) taintsD_len hnil;rfl)|rfl
theorem cloneTaint_X (xs:List TaintD) (hn:xs.length≤1048576):Spec Tryz.prog 298 [.sl xs.length (taintsD xs)] (fun d=>d = .sl xs.length (taintsD xs)):=specNil (cloneTaint_O xs hn)
theorem cloneToler_O (xs:List TolerD) (hn:xs.length≤1048576):Spec Tryz.prog 300 [.sl xs.length (tolersD xs)] (fun d=>d = .sl xs.length (tolersD xs)∨(d = .sc (.slice none 0 0)∧D.sl 0 [] = .sl xs.length (tolersD xs))):=by
  refine spG_ (rs:= [.tmp 2]) (nt:=8) Tryz.func300 rfl fun X hX=>?_
  refine nm_ ?_
  repeat' ((first|contradiction|(with_reducible exact tt_)|((with_reducible show Wk (AwStepF _ _ _ _ _ _ _));first|(refine nnil_ rfl (fun hnil=>?_) ?_)|(refine app_ rfl ?_))|((with_reducible show Wk (AwStep _ _ _ _ _));first|(refine pln_ ?_))|((with_reducible show Wk (boolK _ _ _ _));first|(refine bk_ (fun h h'=>?_) (fun h h'=>?_)))|((with_reducible show Wk (_∧_));first|(refine and_ ?_ ?_))|((with_reducible show Wk (retOkG _ _ _ _));first|(refine rgg_ [] ?_;refine nm_ ?_;fail_if_success (show Wk False))|(refine rgg_ [.frz 1] ?_;refine nm_ ?_;fail_if_success (show Wk False))|(refine rgg_ [.frz 0] ?_;refine nm_ ?_;fail_if_success (show Wk False)))|fail)<;>(try refine nm_ ?_))
  all_goals (refine ⟨?_⟩)
  all_goals first|contradiction|(exfalso;omega)|(exact .inl rfl)|(obtain rfl:=row_none (f:=tolersD) (by decide) tolersD_len hnil;exact .inr ⟨rfl,rfl⟩)|(obtain rfl:=row_none (f:=tolersD) (by decide) tolersD_len hnil;rfl)|rfl
theorem cloneToler_X (xs:List TolerD) (hn:xs.length≤1048576):Spec Tryz.prog 300 [.sl xs.length (tolersD xs)] (fun d=>d = .sl xs.length (tolersD xs)):=specNil (cloneToler_O xs hn)
theorem cloneStr_O (xs:List ByteArray) (hn:xs.length≤1048576):Spec Tryz.prog 369 [.sl xs.length (strsD xs)] (fun d=>d = .sl xs.length (strsD xs)∨(d = .sc (.slice none 0 0)∧D.sl 0 [] = .sl xs.length (strsD xs))):=by
  refine spG_ (rs:= [.tmp 2]) (nt:=8) Tryz.func369 rfl fun X hX=>?_
  refine nm_ ?_
  repeat' ((first|contradiction|(with_reducible exact tt_)|((with_reducible show Wk (AwStepF _ _ _ _ _ _ _));first|(refine nnil_ rfl (fun hnil=>?_) ?_)|(refine app_ rfl ?_))|((with_reducible show Wk (AwStep _ _ _ _ _));first|(refine pln_ ?_))|((with_reducible show Wk (boolK _ _ _ _));first|(refine bk_ (fun h h'=>?_) (fun h h'=>?_)))|((with_reducible show Wk (_∧_));first|(refine and_ ?_ ?_))|((with_reducible show Wk (retOkG _ _ _ _));first|(refine rgg_ [] ?_;refine nm_ ?_;fail_if_success (show Wk False))|(refine rgg_ [.frz 1] ?_;refine nm_ ?_;fail_if_success (show Wk False))|(refine rgg_ [.frz 0] ?_;refine nm_ ?_;fail_if_success (show Wk False)))|fail)<;>(try refine nm_ ?_))
  all_goals (refine ⟨?_⟩)
  all_goals first|contradiction|(exfalso;omega)|(exact .inl rfl)|(obtain rfl:=row_none (f:=strsD) (by decide) strs_len1 hnil;exact .inr ⟨rfl,rfl⟩)|(obtain rfl:=row_none (f:=strsD) (by decide) strs_len1 hnil;rfl)|rfl
theorem cloneStr_X (xs:List ByteArray) (hn:xs.length≤1048576):Spec Tryz.prog 369 [.sl xs.length (strsD xs)] (fun d=>d = .sl xs.length (strsD xs)):=specNil (cloneStr_O xs hn)
theorem cloneNeed_O (xs:List NeedD) (hn:xs.length≤1048576):SpecH Tryz.prog 368 [.sl xs.length (needsD xs)] [] 0 (fun d os' nb'=>(d = .own 0 0 xs.length∧os' = [(0,⟨143,3,xs.length,needsD xs⟩)]∧nb' = 1)∨(d = .sc (.slice none 0 0)∧os' = []∧nb' = 0∧(D.own 0 0 0=D.own 0 0 xs.length∧ [(0,(⟨143,3,0, []⟩:Ob))] = [(0,⟨143,3,xs.length,needsD xs⟩)]∧0+1=1))):=by
  refine spH_ (rs:= [.tmp 2]) (nt:=8) Tryz.func368 rfl fun X hX=>?_
  refine nm_ ?_
  repeat' ((first|contradiction|(with_reducible exact tt_)|((with_reducible show Wk (AwStepF _ _ _ _ _ _ _));first|(refine nnil_ rfl (fun hnil=>?_) ?_)|(refine app_ rfl ?_))|((with_reducible show Wk (AwStep _ _ _ _ _));first|(refine pln_ ?_))|((with_reducible show Wk (boolK _ _ _ _));first|(refine bk_ (fun h h'=>?_) (fun h h'=>?_)))|((with_reducible show Wk (_∧_));first|(refine and_ ?_ ?_))|((with_reducible show Wk (retOkH _ _ _ _ _));first|(refine rh_ [] ?_;refine nm_ ?_;fail_if_success (show Wk False))|(refine rh_ [1] ?_;refine nm_ ?_;fail_if_success (show Wk False)))|fail)<;>(try refine nm_ ?_))
  all_goals (refine ⟨?_⟩)
  all_goals first|contradiction|(exfalso;omega)|(exact .inl ⟨rfl,rfl,rfl⟩)|(obtain rfl:=row_none (f:=needsD) (by decide) needsD_len hnil;exact .inr ⟨rfl,rfl,rfl,rfl,rfl,rfl⟩)|(obtain rfl:=row_none (f:=needsD) (by decide) needsD_len hnil;rfl)
theorem cloneNeed_H (xs:List NeedD) (hn:xs.length≤1048576):SpecH Tryz.prog 368 [.sl xs.length (needsD xs)] [] 0 (fun d os' nb'=>d = .own 0 0 xs.length∧os' = [(0,⟨143,3,xs.length,needsD xs⟩)]∧nb' = 1):=specH_nil 143 3 (cloneNeed_O xs hn)
theorem copyNeeds_X (xs:List NeedD) (hn:xs.length≤1048576) (hv:∀ k,(xs.getD k default).values.length≤1048576):Spec Tryz.prog 299 [.sl xs.length (needsD xs)] (fun d=>d = .sl xs.length (needsD xs)):=by
  have ex0:=@needs_same
  refine spG_ (rs:= [.tmp 2]) (nt:=24) Tryz.func299 rfl fun X hX=>?_
  refine nm_ ?_
  repeat' ((first|contradiction|(with_reducible exact tt_)|((with_reducible show Wk (AwStepF _ _ _ _ _ _ _));first|(refine cl_ rfl _ _ (cloneStr_X (xs.getD k default).values (hv k)) rfl rfl ?_;rintro _ rfl)|(refine awH_ rfl (cloneNeed_H xs hn) [] ?_;rintro _ _ _ ⟨rfl,rfl,rfl⟩ _))|((with_reducible show Wk (AwStep _ _ _ _ _));first|(refine pln_ ?_))|((with_reducible show Wk (AwCode _ _ _ _ _));first|(refine lpK_ (ι:=Nat) [] [0] 0x708 (fun k=> [(10,.sc (.int .i64 (k:Int)))]) (fun k=> []) (fun k=>k≤xs.length) (fun k=>xs.length - k) 0 ?_ ?_;(focus (exact Nat.zero_le _));rintro _ hN0 k hinv;(try dsimp only at hinv);have hk:k≤xs.length:=hinv;skip))|((with_reducible show Wk (boolK _ _ _ _));first|(refine bk_ (fun h h'=>?_) (fun h h'=>?_)))|((with_reducible show Wk (_∧_));first|(refine and_ ?_ ?_))|((with_reducible show Wk (retOkG _ _ _ _));first|(refine rgg_ [.frz 0] ?_))|(refine hN0.run (k+1) [] [0] ?_ ?_;(focus (show k+1≤xs.length;omega));(focus (show xs.length - (k+1) < xs.length - k;omega)))|fail)<;>(try refine nm_ ?_))
  all_goals clear ex0
  all_goals (refine ⟨?_⟩)
  all_goals first|contradiction|(exfalso;omega)|rfl
theorem copyHost_X (h:HostD) (hf:h.fine):Spec Tryz.prog 216 [.agg (hostCells h)] (fun d=>d = .agg (hostCells h)):=by
  have h1:=hf.labels.len;have h2:=hf.tlen;unfold hostCells
  refine sp_ (rs:= [.cell 2 119]) (nt:=12) Tryz.func216 rfl fun X hX=>?_
  refine nm_ ?_
  repeat' ((first|contradiction|(with_reducible exact tt_)|((with_reducible show Wk (AwStepF _ _ _ _ _ _ _));first|(refine cl_ rfl _ _ (cloneLabel_X h.labels h1) rfl rfl ?_;rintro _ rfl)|(refine cl_ rfl _ _ (cloneTaint_X h.taints h2) rfl rfl ?_;rintro _ rfl))|((with_reducible show Wk (AwStep _ _ _ _ _));first|(refine pln_ ?_))|((with_reducible show Wk (boolK _ _ _ _));first|(refine bk_ (fun h h'=>?_) (fun h h'=>?_)))|((with_reducible show Wk (_∧_));first|(refine and_ ?_ ?_))|fail)<;>(try refine nm_ ?_))
  all_goals (refine ⟨?_⟩)
  all_goals first|contradiction|(exfalso;omega)|rfl
theorem copyPod_X (p:PodD) (hf:p.fine):Spec Tryz.prog 217 [.agg (podCells p)] (fun d=>d = .agg (podCells p)):=by
  have h1:=hf.labels.len;have h2:=hf.nlen;have h3:=hf.tlen;have h4:=fun k=>(hf.need k).len;unfold podCells
  refine sp_ (rs:= [.cell 2 123]) (nt:=16) Tryz.func217 rfl fun X hX=>?_
  refine nm_ ?_
  repeat' ((first|contradiction|(with_reducible exact tt_)|((with_reducible show Wk (AwStepF _ _ _ _ _ _ _));first|(refine cl_ rfl _ _ (cloneLabel_X p.labels h1) rfl rfl ?_;rintro _ rfl)|(refine cl_ rfl _ _ (copyNeeds_X p.needs h2 h4) rfl rfl ?_;rintro _ rfl)|(refine cl_ rfl _ _ (cloneToler_X p.tolers h3) rfl rfl ?_;rintro _ rfl))|((with_reducible show Wk (AwStep _ _ _ _ _));first|(refine pln_ ?_))|((with_reducible show Wk (boolK _ _ _ _));first|(refine bk_ (fun h h'=>?_) (fun h h'=>?_)))|((with_reducible show Wk (_∧_));first|(refine and_ ?_ ?_))|fail)<;>(try refine nm_ ?_))
  all_goals (refine ⟨?_⟩)
  all_goals first|contradiction|(exfalso;omega)|rfl
theorem copyCluster_X (c:ClusterD) (hf:c.fine):SpecH Tryz.prog 128 [c.d] [] 0 (fun d os' nb'=>d = .agg [.own 0 0 c.hosts.length,.own 1 0 c.pods.length,.sc (.int .i64 c.next),.sc (.int .i64 c.w1),.sc (.int .i64 c.w2),.sc (.int .i64 c.w3)]∧os' = [(0,⟨119,6,c.hosts.length,hostsD c.hosts⟩),(1,⟨125,9,c.pods.length,placedsD c.pods⟩)]∧nb' = 2):=by
  have hcl:=hf.hlen;have hpl:=hf.plen;unfold ClusterD.d
  have ex0:=@hosts_put;have ex1:=@placeds_put;have ex2:=@hostCells.eq_1;have ex3:=@placedCells.eq_1
  refine spH_ (rs:= [.cell 2 43]) (nt:=50) Tryz.func128 rfl fun X hX=>?_
  refine nm_ ?_
  repeat' ((first|contradiction|(with_reducible exact tt_)|((with_reducible show Wk (AwStepF _ _ _ _ _ _ _));first|(refine cl_ rfl _ _ (copyHost_X (c.hosts.getD i default) (hf.host i)) rfl rfl ?_;rintro _ rfl)|(refine cl_ rfl _ _ (copyPod_X (c.pods.getD k default).pod (hf.pod k)) rfl rfl ?_;rintro _ rfl)|(refine app_ rfl ?_))|((with_reducible show Wk (AwStep _ _ _ _ _));first|(refine pln_ ?_))|((with_reducible show Wk (AwCode _ _ _ _ _));first|(refine wtr_ (id:=5) [2,3] (.early 0 (.early 2 (.two 1 (.one 3 (.one 4 (.one 5 (.early 6 (.one 7 .done))))) 3 (.two 1 (.one 4 (.one 5 (.early 6 (.one 7 .done)))) 4 (.one 1 (.one 5 (.early 6 (.one 7 .done)))))))) ?_)|(refine wtr_ (id:=10) [2,4] (.early 0 (.early 2 (.early 3 (.early 5 (.early 6 (.early 7 (.early 8 (.two 1 (.one 4 (.early 9 (.one 10 (.one 11 (.early 12 (.one 13 .done)))))) 4 (.early 9 (.two 1 (.one 10 (.one 11 (.early 12 (.one 13 .done)))) 10 (.one 1 (.one 11 (.early 12 (.one 13 .done)))))))))))))) ?_)|((with_reducible show Wk (AwCode _ _ (.loop (.seq (.region 8 _ _) _)) _ _));refine nilC_ 2 1 125 9 (by simp [nilAt,St.ob,cellOb,List.lookup_cons]) ?_;refine nm_ ?_;refine lpK_ (ι:=Nat × List PlacedD) [] [0,1,2,3,4] 0xe000000c (fun ⟨k,u⟩=> [(31,.sc (.int .i64 (k:Int)))]) (fun ⟨k,u⟩=> [(2,⟨43,6,1, [.own 3 0 o.length,.own 4 0 u.length,.sc (.int .i64 c.next),.sc (.int .i64 c.w1),.sc (.int .i64 c.w2),.sc (.int .i64 c.w3)]⟩),(4,⟨125,9,u.length,placedsD u⟩)]) (fun ⟨k,u⟩=>k≤c.pods.length∧u=c.pods.take k) (fun ⟨k,u⟩=>c.pods.length - k) (0, []) ?_ ?_;(focus (exact ⟨Nat.zero_le _,rfl⟩));rintro _ hN1 ⟨k,u⟩ hinv;(try dsimp only at hinv);obtain ⟨hk,hU⟩:=hinv;have hul:u.length=k:=(by rw [hU,List.length_take];omega);have hul1:u.length≤k:=(by omega);have hul2:k≤u.length:=(by omega);clear hul;replace hU:=Lib.hid hU;skip)|((with_reducible show Wk (AwCode _ _ (.loop (.seq (.region 3 _ _) _)) _ _));refine nilC_ 2 0 119 6 (by simp [nilAt,St.ob,cellOb,List.lookup_cons]) ?_;refine nm_ ?_;refine lpK_ (ι:=Nat × List HostD) [] [0,1,2,3] 0x1c00e (fun ⟨i,o⟩=> [(16,.sc (.int .i64 (i:Int)))]) (fun ⟨i,o⟩=> [(2,⟨43,6,1, [.own 3 0 o.length,.sc (.slice none 0 0),.sc (.int .i64 c.next),.sc (.int .i64 c.w1),.sc (.int .i64 c.w2),.sc (.int .i64 c.w3)]⟩),(3,⟨119,6,o.length,hostsD o⟩)]) (fun ⟨i,o⟩=>i≤c.hosts.length∧o=c.hosts.take i) (fun ⟨i,o⟩=>c.hosts.length - i) (0, []) ?_ ?_;(focus (exact ⟨Nat.zero_le _,rfl⟩));rintro _ hN0 ⟨i,o⟩ hinv;(try dsimp only at hinv);obtain ⟨hi,hO⟩:=hinv;have hol:o.length=i:=(by rw [hO,List.length_take];omega);have hol1:o.length≤i:=(by omega);have hol2:i≤o.length:=(by omega);clear hol;replace hO:=Lib.hid hO;skip))|((with_reducible show Wk (boolK _ _ _ _));first|(refine bk_ (fun h h'=>?_) (fun h h'=>?_)))|((with_reducible show Wk (_∧_));first|(refine and_ ?_ ?_))|((with_reducible show Wk (retOkH _ _ _ _ _));first|(refine rh_ [3,4] ?_))|(refine hN1.run ((k+1,u ++ [(c.pods.getD k default)])) [] [0,1,2,3,7] ?_ ?_;(focus (exact ⟨by show k+1≤c.pods.length;omega,by rw [hU.out];exact (take_snoc c.pods k (by omega)).symm⟩));(focus (show c.pods.length - (k+1) < c.pods.length - k;omega)))|(refine hN0.run ((i+1,o ++ [(c.hosts.getD i default)])) [] [0,1,2,6] ?_ ?_;(focus (exact ⟨by show i+1≤c.hosts.length;omega,by rw [hO.out];exact (take_snoc c.hosts i (by omega)).symm⟩));(focus (show c.hosts.length - (i+1) < c.hosts.length - i;omega)))|fail)<;>(try refine nm_ ?_))
  all_goals clear ex0 ex1 ex2 ex3
  all_goals (refine ⟨?_⟩)
  all_goals first|contradiction|(exfalso;omega)|(have e:=hO.out;rw [List.take_of_length_le (by omega)] at e;have e2:=hU.out;rw [List.take_of_length_le (by omega)] at e2;subst e;subst e2;first|exact ⟨rfl,rfl,rfl⟩|exact ⟨rfl,rfl⟩|rfl)
theorem impl_RankingOf_X (c:ClusterD) (p:PodD) (hf:c.fine) (hp:p.fine)  (hh:c.hosts.length≤19):Spec Tryz.prog 305 [c.d,.agg (podCells p)] (fun d=>∃ ws,RkS c p ws∧d = .sl ws.length (strsD ws)):=by
  unfold ClusterD.d podCells
  refine spG_ (rs:= [.tmp 4]) (nt:=13) Tryz.func305 rfl fun X hX=>?_
  refine nm_ ?_
  repeat' ((first|contradiction|(with_reducible exact tt_)|((with_reducible show Wk (AwStepF _ _ _ _ _ _ _));first|(refine afz_ [0,1] ?_;refine nm_ ?_;refine fn_ rfl rfl ?_)|(refine awH_ rfl (impl_Feasible_X c p hf hp) [] ?_;rintro _ _ _ ⟨rfl,rfl,rfl⟩ _;(have hfl:=feas_len c p c.hosts.length))|(refine awH_ rfl (sort_s_X c p hf hp (feasL c p c.hosts.length) (by omega)) [2] ?_;rintro _ _ _ ⟨L,hs,hpm,rfl,rfl,rfl⟩ _;(have hLl:=hpm.length_eq)))|((with_reducible show Wk (AwStep _ _ _ _ _));first|(refine pln_ ?_))|((with_reducible show Wk (boolK _ _ _ _));first|(refine bk_ (fun h h'=>?_) (fun h h'=>?_)))|((with_reducible show Wk (_∧_));first|(refine and_ ?_ ?_))|((with_reducible show Wk (retOkG _ _ _ _));first|(refine rgg_ [.frz 2] ?_))|fail)<;>(try refine nm_ ?_))
  all_goals (refine ⟨?_⟩)
  all_goals first|contradiction|(exfalso;omega)|(exact ⟨L,⟨hs,hpm⟩,by rw [hLl]⟩)
theorem impl_BestHost_X (c:ClusterD) (p:PodD) (hf:c.fine) (hp:p.fine)  (hh:c.hosts.length≤19):Spec Tryz.prog 223 [c.d,.agg (podCells p)] (fun d=>∃ v q,Best c p v q∧d = .tup [.sc (.string v),.sc (.bool q)]):=by
  have hcl:=hf.hlen;unfold ClusterD.d podCells
  refine sp_ (rs:= [.tmp 4,.tmp 5]) (nt:=16) Tryz.func223 rfl fun X hX=>?_
  refine nm_ ?_
  repeat' ((first|contradiction|(with_reducible exact tt_)|((with_reducible show Wk (AwStepF _ _ _ _ _ _ _));first|(refine cl_ rfl _ _ (impl_RankingOf_X c p hf hp hh) rfl rfl ?_;rintro _ ⟨ws,hws,rfl⟩;(have hwl:=hws.len;replace hws:=Lib.hid hws)))|((with_reducible show Wk (AwStep _ _ _ _ _));first|(refine pln_ ?_))|((with_reducible show Wk (boolK _ _ _ _));first|(refine bk_ (fun h h'=>?_) (fun h h'=>?_)))|((with_reducible show Wk (_∧_));first|(refine and_ ?_ ?_))|fail)<;>(try refine nm_ ?_))
  all_goals (refine ⟨?_⟩)
  all_goals first|contradiction|(exfalso;omega)|(exact ⟨_,true,best_of hws.out (by omega),rfl⟩)|(exact ⟨_,false,best_no hws.out (by omega),rfl⟩)
theorem impl_Waiting_X (c:ClusterD) (hp:c.pods.length≤19):Spec Tryz.prog 129 [c.d] (fun d=>∃ q,WtS c q∧d = .sl (wNm q q.length).length (strsD (wNm q q.length))):=by
  unfold ClusterD.d
  have ex0:=@placeds_put;have ex1:=@placedCells.eq_1;have ex2:=@strs_put
  refine spG_ (rs:= [.tmp 2]) (nt:=42) Tryz.func129 rfl fun X hX=>?_
  refine nm_ ?_
  repeat' ((first|contradiction|(with_reducible exact tt_)|((with_reducible show Wk (AwStepF _ _ _ _ _ _ _));first|(refine app_ rfl ?_)|(refine awH_ rfl (sort_p_X o (by omega)) [1] ?_;rintro _ _ _ ⟨L,hs,hpm,rfl,rfl,rfl⟩ _;(have hLl:=hpm.length_eq;have hLl1:L.length≤o.length:=(by omega);have hLl2:o.length≤L.length:=(by omega);clear hLl)))|((with_reducible show Wk (AwStep _ _ _ _ _));first|(refine pln_ ?_))|((with_reducible show Wk (AwCode _ _ _ _ _));first|((with_reducible show Wk (AwCode _ _ (.loop (.seq (.region 11 _ _) _)) _ _));refine lpK_ (ι:=Nat × List ByteArray) [] [0,1,2] 0x70000040 (fun ⟨k,u⟩=> [(30,.sc (.int .i64 (k:Int))),(6,.own 2 0 u.length)]) (fun ⟨k,u⟩=> [(2,⟨9,1,(u).length,strsD (u)⟩)]) (fun ⟨k,u⟩=>k≤L.length∧u=wNm L k) (fun ⟨k,u⟩=>L.length - k) (0, []) ?_ ?_;(focus (exact ⟨Nat.zero_le _,rfl⟩));rintro _ hN1 ⟨k,u⟩ hinv;(try dsimp only at hinv);obtain ⟨hk,hU⟩:=hinv;have hul:u.length≤k:=(by rw [hU];exact wNm_len _ _);replace hU:=Lib.hid hU;skip)|((with_reducible show Wk (AwCode _ _ (.loop (.seq (.region 3 _ _) _)) _ _));refine lpK_ (ι:=Nat × List PlacedD) [] [0,1] 0x3808 (fun ⟨i,o⟩=> [(13,.sc (.int .i64 (i:Int))),(3,.own 1 0 o.length)]) (fun ⟨i,o⟩=> [(1,⟨125,9,o.length,placedsD o⟩)]) (fun ⟨i,o⟩=>i≤c.pods.length∧o=waitP c i) (fun ⟨i,o⟩=>c.pods.length - i) (0, []) ?_ ?_;(focus (exact ⟨Nat.zero_le _,rfl⟩));rintro _ hN0 ⟨i,o⟩ hinv;(try dsimp only at hinv);obtain ⟨hi,hW⟩:=hinv;have hol:o.length≤i:=(by rw [hW];exact wait_len c i);replace hW:=Lib.hid hW;skip))|((with_reducible show Wk (boolK _ _ _ _));first|(refine bk_ (fun h h'=>?_) (fun h h'=>?_)))|((with_reducible show Wk (_∧_));first|(refine and_ ?_ ?_))|((with_reducible show Wk (retOkG _ _ _ _));first|(refine rgg_ [.frz 2] ?_))|(refine hN1.run ((k+1,u ++ [(L.getD k default).pod.name])) [] [0,1,5] ?_ ?_;(focus (exact ⟨by show k+1≤L.length;omega,by show u++_=_;rw [hU.out];exact wNm_go2 (by omega)⟩));(focus (show L.length - (k+1) < L.length - k;omega)))|(refine hN0.run ((i+1,o ++ [(c.pods.getD i default)])) [] [0,4] ?_ ?_;(focus (exact ⟨by show i+1≤c.pods.length;omega,by show o++_=_;rw [hW.out];exact (wait_go (by omega) (eB_t (by assumption))).symm⟩));(focus (show c.pods.length - (i+1) < c.pods.length - i;omega)))|(refine hN0.run ((i+1,o)) [] [0,1] ?_ ?_;(focus (exact ⟨by show i+1≤c.pods.length;omega,by show o=_;rw [hW.out];exact (wait_no (by omega) (by first|assumption|(unfold emptyB;simp_all;done))).symm⟩));(focus (show c.pods.length - (i+1) < c.pods.length - i;omega)))|fail)<;>(try refine nm_ ?_))
  all_goals clear ex0 ex1 ex2
  all_goals (refine ⟨?_⟩)
  all_goals first|contradiction|(exfalso;omega)|(have ek:k=L.length:=(by omega);have ei:i=c.pods.length:=(by omega);subst ei;have e9:=hU.out;rw [ek] at e9;refine ⟨L,⟨hs,by rw [← hW.out];exact hpm⟩,?_⟩;rw [← e9])
theorem podAt1_X (x:PlacedD) (nm:ByteArray):Spec Tryz.prog 304 [.agg (placedCells x),.cptr [.sc (.string nm)] 0] (fun d=>d = .sc (.bool (eqB x.pod.name nm))):=by
  unfold placedCells
  refine sp_ (rs:= [.tmp 3]) (nt:=9) Tryz.func304 rfl fun X hX=>?_
  refine nm_ ?_
  repeat' ((first|contradiction|(with_reducible exact tt_)|((with_reducible show Wk (AwStep _ _ _ _ _));first|(refine pln_ ?_))|((with_reducible show Wk (boolK _ _ _ _));first|(refine bk_ (fun h h'=>?_) (fun h h'=>?_)))|((with_reducible show Wk (_∧_));first|(refine and_ ?_ ?_))|fail)<;>(try refine nm_ ?_))
  all_goals (refine ⟨?_⟩)
  all_goals first|contradiction|(exfalso;omega)|rfl
theorem indexPod_X (c:ClusterD) (nm:ByteArray) (hn:c.pods.length≤1048576):Spec Tryz.prog 303 [.sl c.pods.length (placedsD c.pods),.fn 304 [.cptr [.sc (.string nm)] 0]] (fun d=>d = .sc (.int .i64 (podAtB c nm))):=by
  have ex0:=@placedCells.eq_1
  refine sp_ (rs:= [.tmp 4]) (nt:=19) Tryz.func303 rfl fun X hX=>?_
  refine nm_ ?_
  repeat' ((first|contradiction|(with_reducible exact tt_)|((with_reducible show Wk (AwStepF _ _ _ _ _ _ _));first|(refine clC_ rfl rfl _ _ (podAt1_X (c.pods.getD k default) nm) rfl rfl rfl ?_;rintro _ rfl))|((with_reducible show Wk (AwStep _ _ _ _ _));first|(refine pln_ ?_))|((with_reducible show Wk (AwCode _ _ _ _ _));first|(refine lpU_ 0x183 (ι:=Nat) (fun k=> [(8,.sc (.int .i64 (k:Int)))]) (fun k=>k≤c.pods.length∧∀ j:Nat,j < k→(fun j=>!eqB (c.pods.getD j default).pod.name nm) j=true) (fun k=>c.pods.length - k) 0 ?_ ?_;(focus (exact ⟨by omega,allN_zero⟩));rintro _ hN0 k hinv;(try dsimp only at hinv);obtain ⟨hk,hj⟩:=hinv;replace hj:=Lib.hid hj;skip))|((with_reducible show Wk (boolK _ _ _ _));first|(refine bk_ (fun h h'=>?_) (fun h h'=>?_)))|((with_reducible show Wk (_∧_));first|(refine and_ ?_ ?_))|(refine hN0.go (k+1) ?_ ?_;(focus (exact ⟨by show k+1≤c.pods.length;omega,allN_step hj.out (by simp_all)⟩));(focus (show c.pods.length - (k+1) < c.pods.length - k;omega)))|fail)<;>(try refine nm_ ?_))
  all_goals clear ex0
  all_goals (refine ⟨?_⟩)
  all_goals first|contradiction|(exfalso;omega)|(rw [podAt_hit (k:=k) (by omega) (by simp_all) hj.out];done)|(rw [podAt_none (k:=k) (by omega) hj.out];done)
theorem impl_PodAt_X (c:ClusterD) (nm:ByteArray) (hn:c.pods.length≤1048576):Spec Tryz.prog 222 [c.d,.sc (.string nm)] (fun d=>d = .sc (.int .i64 (podAtB c nm))):=by
  unfold ClusterD.d
  refine sp_ (rs:= [.tmp 4]) (nt:=9) Tryz.func222 rfl fun X hX=>?_
  refine nm_ ?_
  repeat' ((first|contradiction|(with_reducible exact tt_)|((with_reducible show Wk (AwStepF _ _ _ _ _ _ _));first|(refine cl_ rfl _ _ (indexPod_X c nm hn) rfl rfl ?_;rintro _ rfl)|(refine afz_ [1] ?_;refine nm_ ?_;refine fn_ rfl rfl ?_))|((with_reducible show Wk (AwStep _ _ _ _ _));first|(refine pln_ ?_))|((with_reducible show Wk (boolK _ _ _ _));first|(refine bk_ (fun h h'=>?_) (fun h h'=>?_)))|((with_reducible show Wk (_∧_));first|(refine and_ ?_ ?_))|fail)<;>(try refine nm_ ?_))
  all_goals (refine ⟨?_⟩)
  all_goals first|contradiction|(exfalso;omega)|rfl
theorem impl_PlacePod_X (c:ClusterD) (nm:ByteArray) (hw:CluW 8 12 c) (hcb:clusterB c=true):SpecH Tryz.prog 130 [c.d,.sc (.string nm)] [] 0 (fun d os' nb'=>∃ (q:ClusterD) (v:ByteArray) (code:Int),PlcR c nm q v code∧d = .tup [.agg [.own 0 0 q.hosts.length,.own 1 0 q.pods.length,.sc (.int .i64 q.next),.sc (.int .i64 q.w1),.sc (.int .i64 q.w2),.sc (.int .i64 q.w3)],.sc (.string v),.sc (.int .i64 code)]∧os' = [(0,⟨119,6,q.hosts.length,hostsD q.hosts⟩),(1,⟨125,9,q.pods.length,placedsD q.pods⟩)]∧nb' = 2):=by
  have hcl:=hw.hosts.len;have hpl:=hw.pods.len;have hf:=hw.fine (by decide) (by decide);have hrp:=podAt_rng c;unfold ClusterD.d;have hrn:=hrp nm
  have ex0:=@placeds_on
  refine spH_ (rs:= [.cell 4 43,.tmp 5,.tmp 6]) (nt:=56) Tryz.func130 rfl fun X hX=>?_
  refine nm_ ?_
  repeat' ((first|contradiction|(with_reducible exact tt_)|((with_reducible show Wk (AwStepF _ _ _ _ _ _ _));first|(refine cl_ rfl _ _ (impl_PodAt_X c nm (by omega)) rfl rfl ?_;rintro _ rfl)|(refine cl_ rfl _ _ (impl_ClusterOk_D c hf) rfl rfl ?_;rintro _ rfl;(rw [hcb]))|(refine cl_ rfl _ _ (impl_BestHost_X c (podC c nm).pod hf (hf.pod _) (by omega)) rfl rfl ?_;rintro _ ⟨v,b,hb,rfl⟩)|(refine awH_ rfl (copyCluster_X c hf) [] ?_;rintro _ _ _ ⟨rfl,rfl,rfl⟩ _))|((with_reducible show Wk (AwStep _ _ _ _ _));first|(refine pln_ ?_))|((with_reducible show Wk (AwCode _ _ _ _ _));first|(refine wo_ (id:=9) [] [(0,true),(1,true),(2,true),(3,true),(4,true),(5,true),(6,true),(7,false),(8,true),(9,true),(10,true),(11,true),(12,true)] ?_))|((with_reducible show Wk (boolK _ _ _ _));first|(refine bk_ (fun h h'=>?_) (fun h h'=>?_)))|((with_reducible show Wk (_∧_));first|(refine and_ ?_ ?_))|((with_reducible show Wk (retOkH _ _ _ _ _));first|(refine rh_ [2,3] ?_))|fail)<;>(try refine nm_ ?_))
  all_goals clear ex0
  all_goals (refine ⟨?_⟩)
  all_goals first|contradiction|(exfalso;omega)|(refine ⟨c,_,_,plc_none (by omega),?_⟩<;>first|exact ⟨rfl,rfl,rfl⟩|exact ⟨rfl,rfl⟩|rfl|(constructor<;>simp [putOn,podC])|(simp [putOn,podC];done))|(refine ⟨c,_,_,plc_busy (by omega) (by assumption),?_⟩<;>first|exact ⟨rfl,rfl,rfl⟩|exact ⟨rfl,rfl⟩|rfl|(constructor<;>simp [putOn,podC])|(simp [putOn,podC];done))|(refine ⟨c,_,_,plc_no (by omega) (by assumption) hb (by assumption),?_⟩<;>first|exact ⟨rfl,rfl,rfl⟩|exact ⟨rfl,rfl⟩|rfl|(constructor<;>simp [putOn,podC])|(simp [putOn,podC];done))|(refine ⟨putOn c nm v,_,_,plc_yes (by omega) (by assumption) hb (by assumption),?_⟩<;>first|exact ⟨rfl,rfl,rfl⟩|exact ⟨rfl,rfl⟩|rfl|(constructor<;>simp [putOn,podC])|(simp [putOn,podC];done))
theorem impl_PlaceNext_X (c:ClusterD) (hw:CluW 8 12 c) (hcb:clusterB c=true):SpecH Tryz.prog 57 [c.d] [] 0 (fun d os' nb'=>∃ (q:ClusterD) (v u:ByteArray) (code:Int),NxtP c q v u code∧d = .tup [.agg [.own 0 0 q.hosts.length,.own 1 0 q.pods.length,.sc (.int .i64 q.next),.sc (.int .i64 q.w1),.sc (.int .i64 q.w2),.sc (.int .i64 q.w3)],.sc (.string v),.sc (.string u),.sc (.int .i64 code)]∧os' = [(0,⟨119,6,q.hosts.length,hostsD q.hosts⟩),(1,⟨125,9,q.pods.length,placedsD q.pods⟩)]∧nb' = 2):=by
  have hcl:=hw.hosts.len;have hpl:=hw.pods.len;have hf:=hw.fine (by decide) (by decide);have hrp:=podAt_rng c;unfold ClusterD.d
  refine spH_ (rs:= [.cell 2 43,.tmp 3,.tmp 4,.tmp 5]) (nt:=45) Tryz.func57 rfl fun X hX=>?_
  refine nm_ ?_
  repeat' ((first|contradiction|(with_reducible exact tt_)|((with_reducible show Wk (AwStepF _ _ _ _ _ _ _));first|(refine cl_ rfl _ _ (impl_ClusterOk_D c hf) rfl rfl ?_;rintro _ rfl;(rw [hcb]))|(refine cl_ rfl _ _ (impl_Waiting_X c (by omega)) rfl rfl ?_;rintro _ ⟨q,hq,rfl⟩;(have hql:=hq.len;have hwl:=wNm_all q;generalize hN:wNm q q.length=ws at *;replace hN:=Lib.hid hN;have hwl1:ws.length≤q.length:=(by omega);have hwl2:q.length≤ws.length:=(by omega);clear hwl))|(refine awH_ rfl (copyCluster_X c hf) [] ?_;rintro _ _ _ ⟨rfl,rfl,rfl⟩ _)|(refine awH_ rfl (impl_PlacePod_X c (ws.getD i default) hw hcb) [] ?_;rintro _ _ _ ⟨c2,v,code,hp,rfl,rfl,rfl⟩ _;(replace hp:=Lib.hid hp)))|((with_reducible show Wk (AwStep _ _ _ _ _));first|(refine pln_ ?_))|((with_reducible show Wk (AwCode _ _ _ _ _));first|(refine lpK_ (ι:=Nat) [] [0,1] 0x380046 (fun i=> [(21,.sc (.int .i64 (i:Int)))]) (fun i=> []) (fun i=>i≤ws.length∧NoneN c q i) (fun i=>ws.length - i) 0 ?_ ?_;(focus (exact ⟨Nat.zero_le _,nonN_0 c q⟩));rintro _ hN0 i hinv;(try dsimp only at hinv);obtain ⟨hi,hnn⟩:=hinv;replace hnn:=Lib.hid hnn;skip))|((with_reducible show Wk (boolK _ _ _ _));first|(refine bk_ (fun h h'=>?_) (fun h h'=>?_)))|((with_reducible show Wk (_∧_));first|(refine and_ ?_ ?_))|((with_reducible show Wk (retOkH _ _ _ _ _));first|(refine rh_ [2,3] ?_;refine nm_ ?_;fail_if_success (show Wk False))|(refine rh_ [3,4] ?_;refine nm_ ?_;fail_if_success (show Wk False))|(refine rh_ [5,6] ?_;refine nm_ ?_;fail_if_success (show Wk False)))|(refine hN0.run (i+1) [] [0,1] ?_ ?_;(focus (exact ⟨by show i+1≤ws.length;omega,none_at hnn.out (by omega) (by rw [hN.out];exact hp.out) (by omega)⟩));(focus (show ws.length - (i+1) < ws.length - i;omega)))|fail)<;>(try refine nm_ ?_))
  all_goals (refine ⟨?_⟩)
  all_goals first|contradiction|(exfalso;omega)|(refine ⟨_,_,_,_,nxt_empty hq (by omega),?_⟩<;>first|exact ⟨rfl,rfl,rfl⟩|exact ⟨rfl,rfl⟩|rfl)|(refine ⟨_,_,_,_,nxt_none hq (by omega) hnn.out (by omega),?_⟩<;>first|exact ⟨rfl,rfl,rfl⟩|exact ⟨rfl,rfl⟩|rfl)|(refine ⟨_,_,_,_,hN.out ▸ nxt_some (i:=i) hq (by omega) hnn.out (by rw [hN.out];exact hp.out) (by omega),?_⟩<;>first|exact ⟨rfl,rfl,rfl⟩|exact ⟨rfl,rfl⟩|rfl)
end Go.Proofs.YtgoeccemfgniiaaGreat
