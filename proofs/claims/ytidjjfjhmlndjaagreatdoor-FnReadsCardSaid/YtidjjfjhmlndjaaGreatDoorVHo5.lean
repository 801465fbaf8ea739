/- Ho5 (what is wanted of them). -/
import Derived.Test.YtidjjfjhmlndjaaGreatDoorVHo2
import Derived.Test.YtidjjfjhmlndjaaGreatDoorVNe5
namespace Go.Proofs.YtidjjfjhmlndjaaGreatDoor
open Go.RowKit
set_option linter.unusedVariables false
set_option linter.unusedSimpArgs false
set_option maxRecDepth 100000
set_option maxHeartbeats 4000000
def LbP (r:List LabelD × FaultD) (d:D) (os':List (Nat × Ob)) (nb':Nat):Prop:=(r.2=noF∧d = .tup [.own 0 0 r.1.length,.agg [.sc (.int .i64 0),.sc (.int .i64 0),.sc (.string ⟨#[]⟩)]]∧os' = [(0,⟨217,2,r.1.length,labelsD r.1⟩)]∧nb' = 1)∨(¬ r.2.code=0∧r.1 = []∧d = .tup [.sl 0 [],.agg [.sc (.int .i64 (r.2).code),.sc (.int .i64 (r.2).at_),.sc (.string (r.2).path)]]∧os' = []∧nb' = 0)
theorem lb_no {r:List LabelD × FaultD}{f:FaultD} (e:r=([],f)) (hc:¬ f.code=0):∃ d',SubT (.tup [.sc (.slice none 0 0),.agg [.sc (.int .i64 (f).code),.sc (.int .i64 (f).at_),.sc (.string (f).path)]]) d'∧LbP r d' [] 0:=by
  subst e
  exact ⟨.tup [.sl 0 [],.agg [.sc (.int .i64 (f).code),.sc (.int .i64 (f).at_),.sc (.string (f).path)]],.tup ⟨.nil,.same _,trivial⟩,.inr ⟨hc,rfl,rfl,rfl,rfl⟩⟩
theorem lb_yes {r:List LabelD × FaultD}{x:List LabelD} (e:r=(x,noF)):∃ d',SubT (.tup [.own 0 0 x.length,.agg [.sc (.int .i64 0),.sc (.int .i64 0),.sc (.string ⟨#[]⟩)]]) d'∧LbP r d' [(0,⟨217,2,x.length,labelsD x⟩)] 1:=by
  subst e
  exact ⟨_,.same _,.inl ⟨rfl,rfl,rfl,rfl⟩⟩
theorem effN_1 {s:ByteArray} (h:eqB s ⟨#[110,101,118,101,114]⟩=true):effN s=1:=by
  rw [eqB_comm] at h
  show wordI effW s 2 1=1
  rw [wordI]
  exact (if_pos (show eqB (effW.getD 1 default) s=true from h)).trans rfl
theorem effN_2 {s:ByteArray} (h0:eqB s ⟨#[110,101,118,101,114]⟩=false) (h:eqB s ⟨#[115,111,102,116]⟩=true):effN s=2:=by
  rw [eqB_comm] at h0 h
  show wordI effW s 2 1=2
  rw [wordI,if_neg (by rw [show effW.getD 1 default=⟨#[110,101,118,101,114]⟩ from rfl,h0];decide),wordI]
  exact (if_pos (show eqB (effW.getD 2 default) s=true from h)).trans rfl
theorem effN_0 {s:ByteArray} (h0:eqB s ⟨#[110,101,118,101,114]⟩=false) (h:eqB s ⟨#[115,111,102,116]⟩=false):effN s=0:=by
  rw [eqB_comm] at h0 h
  show wordI effW s 2 1=0
  rw [wordI,if_neg (by rw [show effW.getD 1 default=⟨#[110,101,118,101,114]⟩ from rfl,h0];decide),wordI,if_neg (by rw [show effW.getD (1+1) default=⟨#[115,111,102,116]⟩ from rfl,h];decide),wordI]
theorem tnI_y {t:TreeD}{p:ByteArray}{f0:FaultD}{a b c:ByteArray × FaultD} (hh:hasT t wValue=true) (hA:knownT t p kTaint=f0) (hB:rText t p f0 wKey keyB=a) (hC:rText t p a.2 wValue valueB=b) (hD:rText t p b.2 wEffect (fun s=>decide (effN s≠0))=c):taintM t p=taintI3 a.1 b.1 (effN c.1) c.2:=by
  rw [← taint_same]
  subst hA;subst hB;subst hC;subst hD
  unfold taintI rValue
  simp only [if_pos hh]
theorem tnI_n {t:TreeD}{p:ByteArray}{f0:FaultD}{a c:ByteArray × FaultD} (hh:hasT t wValue=false) (hA:knownT t p kTaint=f0) (hB:rText t p f0 wKey keyB=a) (hD:rText t p a.2 wEffect (fun s=>decide (effN s≠0))=c):taintM t p=taintI3 a.1 ⟨#[]⟩ (effN c.1) c.2:=by
  rw [← taint_same]
  subst hA;subst hB;subst hD
  have h:¬ hasT t wValue=true:=by rw [hh];decide
  unfold taintI rValue
  simp only [if_neg h]
theorem tnI_3 {k v:ByteArray}{e:Int}{f:FaultD} (h:f.code=0):taintI3 k v e f=(⟨k,v,e⟩,noF):=if_pos h
theorem tnI_4 {k v:ByteArray}{e:Int}{f:FaultD} (h:¬ f.code=0):taintI3 k v e f=(default,f):=if_neg h
theorem impl_MulT (n:Int) (hn:intOk n):Spec Tryz.prog 301 [.sc (.int .i64 1000),.sc (.int .i64 n)] (fun d=>d = .tup [.sc (.int .i64 (mulI n 1000).1),.sc (.bool (mulI n 1000).2)]):=by
  have h:=impl_MulInt_D 1000 n ⟨by decide,by decide⟩ hn
  rw [mulI_comm 1000 n] at h
  exact h
theorem impl_AmountField_D (t:TreeD) (p key:ByteArray) (hf:TFine t) (hp:p.size≤4194304) (hkz:key.size≤1048576):Spec Tryz.prog 235 [.agg (treeC t),.sc (.string p),.sc (.string key)] (fun d=>d = .tup [.sc (.int .i64 (amountF t p key).1),.agg [.sc (.int .i64 ((amountF t p key).2).code),.sc (.int .i64 ((amountF t p key).2).at_),.sc (.string ((amountF t p key).2).path)]]):=by
  unfold treeC
  refine sp_ (rs:= [.tmp 6,.cell 7 46]) (nt:=67) Tryz.func235 rfl fun X hX=>?_
  refine nm_ ?_
  repeat' ((first|contradiction|(with_reducible exact tt_)|((with_reducible show Wk (AwStepF _ _ _ _ _ _ _));first|(refine cl_ rfl _ _ (impl_KidOf_D t key hf) rfl rfl ?_;rintro _ (⟨hh,rfl⟩|⟨hh,rfl⟩)<;>(try have hkt:=(hf.of hh).text)<;>(try have hki:=(hf.of hh).num))|(refine cl_ rfl _ _ (impl_ReadAmount_D (kidT t key).text hkt) rfl rfl ?_;rintro _ rfl;(have hra:=readA_rng (kidT t key).text))|(refine cl_ rfl _ _ (impl_MulT (kidT t key).num hki) rfl rfl ?_;rintro _ rfl)|(refine cl_ rfl _ _ (impl_PathKey_D p key (by omega) (by omega)) rfl rfl ?_;rintro _ rfl))|((with_reducible show Wk (AwStep _ _ _ _ _));first|(refine pln_ ?_))|((with_reducible show Wk (boolK _ _ _ _));first|(refine bk_ (fun h h'=>?_) (fun h h'=>?_)))|((with_reducible show Wk (_∧_));first|(refine and_ ?_ ?_))|fail)<;>(try refine nm_ ?_))
  all_goals (refine ⟨?_⟩)
  all_goals first|contradiction|(exfalso;omega)|(rw [amountF_a hh (by omega) (by omega)];rfl)|(rw [amountF_b hh (by omega) (by omega)];rfl)|(rw [amountF_c hh (by omega) (by omega) (by omega)];rfl)|(rw [amountF_d hh (by omega) (by omega)];rfl)|(rw [amountF_e hh (by omega) (by omega) (by assumption)];rfl)|(rw [amountF_f hh (by omega) (by omega) (by assumption)];rfl)|(rw [amountF_h hh (by omega) (by omega)];rfl)|(rw [amountF_i hh];rfl)|(rw [amountF_g (c:=14+(readA (kidT t key).text).2 - 1) hh (by omega) (by omega) (by omega)];rfl)
theorem impl_WholeField_D (t:TreeD) (p key:ByteArray) (hf:TFine t) (hp:p.size≤4194304) (hkz:key.size≤1048576) (a b u:Int):Spec Tryz.prog 160 [.agg (treeC t),.sc (.string p),.sc (.string key),.sc (.int .i64 a),.sc (.int .i64 b),.sc (.int .i64 u)] (fun d=>d = .tup [.sc (.int .i64 (wholeF t p key a b u).1),.agg [.sc (.int .i64 ((wholeF t p key a b u).2).code),.sc (.int .i64 ((wholeF t p key a b u).2).at_),.sc (.string ((wholeF t p key a b u).2).path)]]):=by
  unfold treeC
  refine sp_ (rs:= [.tmp 12,.cell 13 46]) (nt:=46) Tryz.func160 rfl fun X hX=>?_
  refine nm_ ?_
  repeat' ((first|contradiction|(with_reducible exact tt_)|((with_reducible show Wk (AwStepF _ _ _ _ _ _ _));first|(refine cl_ rfl _ _ (impl_KidOf_D t key hf) rfl rfl ?_;rintro _ (⟨hh,rfl⟩|⟨hh,rfl⟩)<;>(try have hkt:=(hf.of hh).text)<;>(try have hki:=(hf.of hh).num))|(refine cl_ rfl _ _ (impl_PathKey_D p key (by omega) (by omega)) rfl rfl ?_;rintro _ rfl)|(refine cl_ rfl _ _ (within_D _ _ _) rfl rfl ?_;rintro _ rfl))|((with_reducible show Wk (AwStep _ _ _ _ _));first|(refine pln_ ?_))|((with_reducible show Wk (boolK _ _ _ _));first|(refine bk_ (fun h h'=>?_) (fun h h'=>?_)))|((with_reducible show Wk (_∧_));first|(refine and_ ?_ ?_))|fail)<;>(try refine nm_ ?_))
  all_goals (refine ⟨?_⟩)
  all_goals first|contradiction|(exfalso;omega)|(rw [wholeF_a hh (by omega) (inB_yes (by omega))];rfl)|(rw [wholeF_b hh (by omega) (inB_no (by omega))];rfl)|(rw [wholeF_c hh (by omega)];rfl)|(rw [wholeF_d hh];rfl)
theorem impl_MapField_O (t:TreeD) (p key:ByteArray) (hf:TFine t) (hp:p.size≤4194304) (hkz:key.size≤1048576):Spec Tryz.prog 157 [.agg (treeC t),.sc (.string p),.sc (.string key)] (fun d=>∃ d',SubT d d'∧d' = .tup [.agg (treeC (mapF t p key).1),.agg [.sc (.int .i64 ((mapF t p key).2).code),.sc (.int .i64 ((mapF t p key).2).at_),.sc (.string ((mapF t p key).2).path)]]):=by
  unfold treeC
  refine sp_ (rs:= [.cell 6 67,.cell 7 46]) (nt:=30) Tryz.func157 rfl fun X hX=>?_
  refine nm_ ?_
  repeat' ((first|contradiction|(with_reducible exact tt_)|((with_reducible show Wk (AwStepF _ _ _ _ _ _ _));first|(refine cl_ rfl _ _ (impl_KidOf_D t key hf) rfl rfl ?_;rintro _ (⟨hh,rfl⟩|⟨hh,rfl⟩)<;>(try have hkt:=(hf.of hh).text)<;>(try have hki:=(hf.of hh).num))|(refine cl_ rfl _ _ (impl_PathKey_D p key (by omega) (by omega)) rfl rfl ?_;rintro _ rfl))|((with_reducible show Wk (AwStep _ _ _ _ _));first|(refine pln_ ?_))|((with_reducible show Wk (boolK _ _ _ _));first|(refine bk_ (fun h h'=>?_) (fun h h'=>?_)))|((with_reducible show Wk (_∧_));first|(refine and_ ?_ ?_))|fail)<;>(try refine nm_ ?_))
  all_goals (refine ⟨?_⟩)
  all_goals (try refine ⟨_,?_,rfl⟩)
  all_goals first|(rw [mapF_a hh (by omega)];exact .same _)|(rw [mapF_b hh (by omega)];exact .tup ⟨.agg ⟨.inl rfl,.inl rfl,.inl rfl,.inl rfl,.inr ⟨rfl,rfl⟩,.inr ⟨rfl,rfl⟩,trivial⟩,.same _,trivial⟩)|(rw [mapF_c hh];exact .tup ⟨.agg ⟨.inl rfl,.inl rfl,.inl rfl,.inl rfl,.inr ⟨rfl,rfl⟩,.inr ⟨rfl,rfl⟩,trivial⟩,.same _,trivial⟩)
theorem impl_MapField_K (t:TreeD) (p key:ByteArray) (hf:TFine t) (hp:p.size≤4194304) (hkz:key.size≤1048576):Spec Tryz.prog 157 [.agg (treeC t),.sc (.string p),.sc (.string key)] (fun d=>d = .tup [.agg (treeC (mapF t p key).1),.agg [.sc (.int .i64 ((mapF t p key).2).code),.sc (.int .i64 ((mapF t p key).2).at_),.sc (.string ((mapF t p key).2).path)]]):=(impl_MapField_O t p key hf hp hkz).sub
theorem impl_LabelsIn_O (t:TreeD) (p:ByteArray) (hf:TFine t) (hp:p.size≤2097152):SpecH Tryz.prog 158 [.agg (treeC t),.sc (.string p)] [] 0 (fun d os' nb'=>∃ d',SubT d d'∧LbP (labsF t p) d' os' nb'):=by
  have hkn:=hf.keys;have hcn:=hf.kids;unfold treeC
  have ex0:=@labelsD_snoc;have ex1:=@treeC.eq_1
  refine spH_ (rs:= [.tmp 4,.cell 5 46]) (nt:=74) Tryz.func158 rfl fun X hX=>?_
  refine nm_ ?_
  repeat' ((first|contradiction|(with_reducible exact tt_)|((with_reducible show Wk (AwStepF _ _ _ _ _ _ _));first|(refine cl_ rfl _ _ (impl_PathKey_D p (t.keys.getD i default) (by omega) (by omega)) rfl rfl ?_;rintro _ rfl)|(refine cl_ rfl _ _ (impl_LabelKeyOk_D _) rfl rfl ?_;rintro _ rfl)|(refine cl_ rfl _ _ (impl_LabelValueOk_D _) rfl rfl ?_;rintro _ rfl)|(refine app_ rfl ?_))|((with_reducible show Wk (AwStep _ _ _ _ _));first|(refine pln_ ?_))|((with_reducible show Wk (AwCode _ _ _ _ _));first|(refine lpK_ (ι:=Nat × List LabelD) [] [0,1,2] 0x700000066 (fun ⟨i,o⟩=> [(34,.sc (.int .i64 (i:Int))),(6,.own 2 0 o.length)]) (fun ⟨i,o⟩=> [(2,⟨217,2,(o).length,labelsD (o)⟩)]) (fun ⟨i,o⟩=>i≤t.keys.length∧o=labsO t i∧labsE p t (t.keys.length - i) i=labsE p t t.keys.length 0) (fun ⟨i,o⟩=>t.keys.length - i) (0, []) ?_ ?_;(focus (exact ⟨Nat.zero_le _,rfl,rfl⟩));rintro _ hN0 ⟨i,o⟩ hinv;(try dsimp only at hinv);obtain ⟨hi,hO,hE⟩:=hinv;have hol1:o.length≤i:=(by rw [hO,labsO_len];omega);have hol2:i≤o.length:=(by rw [hO,labsO_len];omega);replace hO:=Lib.hid hO;replace hE:=Lib.hid hE;have hkz:=hf.key i;have hxt:i < t.kids.length→(t.kids.getD i default).text.size≤1048576:=fun h=>(hf.kid h).text;skip))|((with_reducible show Wk (boolK _ _ _ _));first|(refine bk_ (fun h h'=>?_) (fun h h'=>?_)))|((with_reducible show Wk (_∧_));first|(refine and_ ?_ ?_))|((with_reducible show Wk (retOkH _ _ _ _ _));first|(refine rh_ [] ?_;refine nm_ ?_;fail_if_success (show Wk False))|(refine rh_ [2] ?_;refine nm_ ?_;fail_if_success (show Wk False)))|(refine hN0.run ((i+1,o ++ [⟨(t.keys.getD i default),(t.kids.getD i default).text⟩])) [] [0,1,5] ?_ ?_;(focus (exact ⟨by show i+1≤t.keys.length;omega,by rw [hO.out];exact labsO_snoc t i,labsE_go (by omega) (by omega) (by simp_all) hE.out⟩));(focus (show t.keys.length - (i+1) < t.keys.length - i;omega)))|fail)<;>(try refine nm_ ?_))
  all_goals clear ex0 ex1
  all_goals (refine ⟨?_⟩)
  all_goals first|contradiction|(exfalso;omega)|(exact lb_no (labsF_a (by omega)) (nzF 11 _))|(exact lb_no (labsF_b (by omega) (by omega)) (nzF 16 _))|(exact lb_no (labsF_c (by omega) (by omega) (labsE_k (i:=i) (by omega) (by omega) hE.out) (nzF 11 _)) (nzF 11 _))|(exact lb_no (labsF_c (by omega) (by omega) (labsE_v (i:=i) (by omega) (by omega) (by simp_all) hE.out) (nzF 14 _)) (nzF 14 _))|(exact lb_yes ((labsF_d (by omega) (by omega) (labsE_end (i:=i) (by omega) hE.out)).trans (by rw [hO.out,show i=t.keys.length by omega])))
theorem impl_LabelsIn_K (t:TreeD) (p:ByteArray) (hf:TFine t) (hp:p.size≤2097152):SpecH Tryz.prog 158 [.agg (treeC t),.sc (.string p)] [] 0 (fun d os' nb'=>LbP (labsF t p) d os' nb'):=(impl_LabelsIn_O t p hf hp).sub
theorem r_has_K (t:TreeD) (p:ByteArray) (f:FaultD) (hf:TFine t) (hp:p.size≤4194304) (key:ByteArray):SpecH Tryz.prog 162 [.ptr 0 0,.sc (.string key)] [(0,⟨125,10,1, [.sc (.int .i64 t.kind),.sc (.bool t.flag),.sc (.int .i64 t.num),.sc (.string t.text),.sl t.keys.length (strsD t.keys),.sl t.kids.length (treesD t.kids),.sc (.string p),.sc (.int .i64 (f).code),.sc (.int .i64 (f).at_),.sc (.string (f).path)]⟩)] 1 (fun d os' nb'=>d = .sc (.bool (hasT t key))∧os' = [(0,⟨125,10,1, [.sc (.int .i64 t.kind),.sc (.bool t.flag),.sc (.int .i64 t.num),.sc (.string t.text),.sl t.keys.length (strsD t.keys),.sl t.kids.length (treesD t.kids),.sc (.string p),.sc (.int .i64 (f).code),.sc (.int .i64 (f).at_),.sc (.string (f).path)]⟩)]∧nb' = 1):=by
  refine spH_ (rs:= [.tmp 4]) (nt:=17) Tryz.func162 rfl fun X hX=>?_
  refine nm_ ?_
  repeat' ((first|contradiction|(with_reducible exact tt_)|((with_reducible show Wk (AwStepF _ _ _ _ _ _ _));first|(refine cl_ rfl _ _ (impl_KidOf_D t key hf) rfl rfl ?_;rintro _ (⟨hh,rfl⟩|⟨hh,rfl⟩)))|((with_reducible show Wk (AwStep _ _ _ _ _));first|(refine pln_ ?_))|((with_reducible show Wk (boolK _ _ _ _));first|(refine bk_ (fun h h'=>?_) (fun h h'=>?_)))|((with_reducible show Wk (_∧_));first|(refine and_ ?_ ?_))|((with_reducible show Wk (retOkH _ _ _ _ _));first|(refine rh_ [] ?_))|fail)<;>(try refine nm_ ?_))
  all_goals (refine ⟨?_⟩)
  all_goals first|contradiction|(exfalso;omega)|(rw [hh];(first|exact ⟨rfl,rfl,rfl⟩|exact ⟨rfl,rfl⟩|rfl))|(first|exact ⟨rfl,rfl,rfl⟩|exact ⟨rfl,rfl⟩|rfl)
theorem r_whole_K (t:TreeD) (p:ByteArray) (f:FaultD) (hf:TFine t) (hp:p.size≤4194304) (key:ByteArray) (hkz:key.size≤1048576) (a b u:Int):SpecH Tryz.prog 79 [.ptr 0 0,.sc (.string key),.sc (.int .i64 a),.sc (.int .i64 b),.sc (.int .i64 u)] [(0,⟨125,10,1, [.sc (.int .i64 t.kind),.sc (.bool t.flag),.sc (.int .i64 t.num),.sc (.string t.text),.sl t.keys.length (strsD t.keys),.sl t.kids.length (treesD t.kids),.sc (.string p),.sc (.int .i64 (f).code),.sc (.int .i64 (f).at_),.sc (.string (f).path)]⟩)] 1 (fun d os' nb'=>d = .sc (.int .i64 (rWhole t p f key a b u).1)∧os' = [(0,⟨125,10,1, [.sc (.int .i64 t.kind),.sc (.bool t.flag),.sc (.int .i64 t.num),.sc (.string t.text),.sl t.keys.length (strsD t.keys),.sl t.kids.length (treesD t.kids),.sc (.string p),.sc (.int .i64 ((rWhole t p f key a b u).2).code),.sc (.int .i64 ((rWhole t p f key a b u).2).at_),.sc (.string ((rWhole t p f key a b u).2).path)]⟩)]∧nb' = 1):=by
  refine spH_ (rs:= [.tmp 10]) (nt:=38) Tryz.func79 rfl fun X hX=>?_
  refine nm_ ?_
  repeat' ((first|contradiction|(with_reducible exact tt_)|((with_reducible show Wk (AwStepF _ _ _ _ _ _ _));first|(refine cl_ rfl _ _ (impl_WholeField_D t p key hf hp hkz a b u) rfl rfl ?_;rintro _ rfl))|((with_reducible show Wk (AwStep _ _ _ _ _));first|(refine pln_ ?_))|((with_reducible show Wk (AwCode _ _ _ _ _));first|(refine wtr_ (id:=4) [0] (.early 0 (.early 1 (.early 2 (.early 3 (.early 5 (.early 6 (.early 7 (.early 9 (.early 10 (.early 11 (.early 12 (.two 4 (.one 8 (.one 13 (.early 14 (.early 15 (.early 16 (.early 17 (.early 18 (.early 19 (.one 20 .done))))))))) 8 (.one 4 (.one 13 (.early 14 (.early 15 (.early 16 (.early 17 (.early 18 (.early 19 (.one 20 .done))))))))))))))))))))) ?_))|((with_reducible show Wk (boolK _ _ _ _));first|(refine bk_ (fun h h'=>?_) (fun h h'=>?_)))|((with_reducible show Wk (_∧_));first|(refine and_ ?_ ?_))|((with_reducible show Wk (retOkH _ _ _ _ _));first|(refine rh_ [] ?_))|fail)<;>(try refine nm_ ?_))
  all_goals (refine ⟨?_⟩)
  all_goals first|contradiction|(exfalso;omega)|(rw [rWhole_0 (by omega)]<;>(first|exact ⟨rfl,rfl,rfl⟩|exact ⟨rfl,rfl⟩|rfl))|(rw [rWhole_1 (by omega)]<;>(first|exact ⟨rfl,rfl,rfl⟩|exact ⟨rfl,rfl⟩|rfl))
theorem r_amount_K (t:TreeD) (p:ByteArray) (f:FaultD) (hf:TFine t) (hp:p.size≤4194304) (key:ByteArray) (hkz:key.size≤1048576):SpecH Tryz.prog 159 [.ptr 0 0,.sc (.string key)] [(0,⟨125,10,1, [.sc (.int .i64 t.kind),.sc (.bool t.flag),.sc (.int .i64 t.num),.sc (.string t.text),.sl t.keys.length (strsD t.keys),.sl t.kids.length (treesD t.kids),.sc (.string p),.sc (.int .i64 (f).code),.sc (.int .i64 (f).at_),.sc (.string (f).path)]⟩)] 1 (fun d os' nb'=>d = .sc (.int .i64 (rAmt t p f key).1)∧os' = [(0,⟨125,10,1, [.sc (.int .i64 t.kind),.sc (.bool t.flag),.sc (.int .i64 t.num),.sc (.string t.text),.sl t.keys.length (strsD t.keys),.sl t.kids.length (treesD t.kids),.sc (.string p),.sc (.int .i64 ((rAmt t p f key).2).code),.sc (.int .i64 ((rAmt t p f key).2).at_),.sc (.string ((rAmt t p f key).2).path)]⟩)]∧nb' = 1):=by
  refine spH_ (rs:= [.tmp 4]) (nt:=29) Tryz.func159 rfl fun X hX=>?_
  refine nm_ ?_
  repeat' ((first|contradiction|(with_reducible exact tt_)|((with_reducible show Wk (AwStepF _ _ _ _ _ _ _));first|(refine cl_ rfl _ _ (impl_AmountField_D t p key hf hp hkz) rfl rfl ?_;rintro _ rfl))|((with_reducible show Wk (AwStep _ _ _ _ _));first|(refine pln_ ?_))|((with_reducible show Wk (AwCode _ _ _ _ _));first|(refine wtr_ (id:=4) [0] (.early 0 (.early 1 (.early 2 (.early 3 (.early 5 (.early 6 (.early 7 (.early 9 (.two 4 (.one 8 (.one 10 (.early 11 (.early 12 (.early 13 (.early 14 (.early 15 (.early 16 (.one 17 .done))))))))) 8 (.one 4 (.one 10 (.early 11 (.early 12 (.early 13 (.early 14 (.early 15 (.early 16 (.one 17 .done)))))))))))))))))) ?_))|((with_reducible show Wk (boolK _ _ _ _));first|(refine bk_ (fun h h'=>?_) (fun h h'=>?_)))|((with_reducible show Wk (_∧_));first|(refine and_ ?_ ?_))|((with_reducible show Wk (retOkH _ _ _ _ _));first|(refine rh_ [] ?_))|fail)<;>(try refine nm_ ?_))
  all_goals (refine ⟨?_⟩)
  all_goals first|contradiction|(exfalso;omega)|(rw [rAmt_0 (by omega)]<;>(first|exact ⟨rfl,rfl,rfl⟩|exact ⟨rfl,rfl⟩|rfl))|(rw [rAmt_1 (by omega)]<;>(first|exact ⟨rfl,rfl,rfl⟩|exact ⟨rfl,rfl⟩|rfl))
theorem effectOf_K (s:ByteArray):Spec Tryz.prog 163 [.sc (.string s)] (fun d=>d = .sc (.int .i64 (effN s))):=by
  refine sp_ (rs:= [.tmp 2]) (nt:=8) Tryz.func163 rfl fun X hX=>?_
  refine nm_ ?_
  repeat' ((first|contradiction|(with_reducible exact tt_)|((with_reducible show Wk (AwStep _ _ _ _ _));first|(refine pln_ ?_))|((with_reducible show Wk (boolK _ _ _ _));first|(refine bk_ (fun h h'=>?_) (fun h h'=>?_)))|((with_reducible show Wk (_∧_));first|(refine and_ ?_ ?_))|fail)<;>(try refine nm_ ?_))
  all_goals (refine ⟨?_⟩)
  all_goals first|contradiction|(exfalso;omega)|(rw [effN_1 (by assumption)];done)|(rw [effN_2 (by assumption) (by assumption)];done)|(rw [effN_0 (by assumption) (by assumption)];done)
theorem isEffect_K (s:ByteArray):Spec Tryz.prog 164 [.sc (.string s)] (fun d=>d = .sc (.bool (decide (effN s≠0)))):=by
  refine sp_ (rs:= [.tmp 2]) (nt:=6) Tryz.func164 rfl fun X hX=>?_
  refine nm_ ?_
  repeat' ((first|contradiction|(with_reducible exact tt_)|((with_reducible show Wk (AwStepF _ _ _ _ _ _ _));first|(refine cl_ rfl _ _ (effectOf_K s) rfl rfl ?_;rintro _ rfl))|((with_reducible show Wk (AwStep _ _ _ _ _));first|(refine pln_ ?_))|((with_reducible show Wk (boolK _ _ _ _));first|(refine bk_ (fun h h'=>?_) (fun h h'=>?_)))|((with_reducible show Wk (_∧_));first|(refine and_ ?_ ?_))|fail)<;>(try refine nm_ ?_))
  all_goals (refine ⟨?_⟩)
  all_goals first|contradiction|(exfalso;omega)|rfl|(congr 2;simp [bne];done)|(congr 2;by_cases h:effN s=0<;>simp [h];done)
theorem common1_K (kd s:ByteArray):Spec Tryz.prog 155 [.sc (.string s),.cptr [.sc (.string kd)] 0] (fun d=>d = .sc (.bool (eqB s kd))):=by
  refine sp_ (rs:= [.tmp 3]) (nt:=7) Tryz.func155 rfl fun X hX=>?_
  refine nm_ ?_
  repeat' ((first|contradiction|(with_reducible exact tt_)|((with_reducible show Wk (AwStep _ _ _ _ _));first|(refine pln_ ?_))|((with_reducible show Wk (boolK _ _ _ _));first|(refine bk_ (fun h h'=>?_) (fun h h'=>?_)))|((with_reducible show Wk (_∧_));first|(refine and_ ?_ ?_))|fail)<;>(try refine nm_ ?_))
  all_goals (refine ⟨?_⟩)
  all_goals first|contradiction|(exfalso;omega)|rfl
theorem impl_TaintIn_X (t:TreeD) (p:ByteArray) (hf:TFine t) (hp:p.size≤2097152):Spec Tryz.prog 81 [.agg (treeC t),.sc (.string p)] (fun d=>d = .tup [.agg (taintCells (taintM t p).1),.agg [.sc (.int .i64 ((taintM t p).2).code),.sc (.int .i64 ((taintM t p).2).at_),.sc (.string ((taintM t p).2).path)]]):=by
  unfold treeC
  have ex0:=@treeC.eq_1
  refine spG_ (rs:= [.cell 4 118,.cell 5 46]) (nt:=30) Tryz.func81 rfl fun X hX=>?_
  refine nm_ ?_
  repeat' ((first|contradiction|(with_reducible exact tt_)|((with_reducible show Wk (AwStepF _ _ _ _ _ _ _));first|(refine cl_ rfl _ _ (effectOf_K c.1) rfl rfl ?_;rintro _ rfl;(have her:=effN_rng c.1))|(refine afz_ [4] ?_;refine nm_ ?_;refine awH_ rfl (r_known_K t p noF hf (by omega) kTaint (by decide)) [3] ?_;rintro _ _ _ ⟨rfl,rfl,rfl⟩ _;(generalize hA:knownT t p kTaint=f0 at *;replace hA:=Lib.hid hA))|(refine awH_ rfl (r_text_K t p f0 hf (by omega) wKey (by decide) 127 [] keyB rfl (fun s _=>impl_LabelKeyOk_D s)) [3] ?_;rintro _ _ _ ⟨rfl,rfl,rfl⟩ _;(generalize hB:rText t p f0 wKey keyB=a at *;replace hB:=Lib.hid hB))|(refine awH_ rfl (r_has_K t p a.2 hf (by omega) wValue) [3] ?_;rintro _ _ _ ⟨rfl,rfl,rfl⟩ _)|(refine awH_ rfl (r_text_K t p a.2 hf (by omega) wValue (by decide) 131 [] valueB rfl (fun s _=>impl_LabelValueOk_D s)) [3] ?_;rintro _ _ _ ⟨rfl,rfl,rfl⟩ _;(generalize hC:rText t p a.2 wValue valueB=b at *;replace hC:=Lib.hid hC))|(refine awH_ rfl (r_text_K t p b.2 hf (by omega) wEffect (by decide) 164 [] (fun s=>decide (effN s≠0)) rfl (fun s _=>isEffect_K s)) [3] ?_;rintro _ _ _ ⟨rfl,rfl,rfl⟩ _;(generalize hD:rText t p b.2 wEffect (fun s=>decide (effN s≠0))=c at *;replace hD:=Lib.hid hD))|(refine awH_ rfl (r_text_K t p a.2 hf (by omega) wEffect (by decide) 164 [] (fun s=>decide (effN s≠0)) rfl (fun s _=>isEffect_K s)) [3] ?_;rintro _ _ _ ⟨rfl,rfl,rfl⟩ _;(generalize hD:rText t p a.2 wEffect (fun s=>decide (effN s≠0))=c at *;replace hD:=Lib.hid hD)))|((with_reducible show Wk (AwStep _ _ _ _ _));first|(refine pln_ ?_))|((with_reducible show Wk (AwCode _ _ _ _ _));first|(refine wo_ (id:=8) [1,2] [(0,true),(1,true),(2,true),(3,false),(4,false)] ?_))|((with_reducible show Wk (boolK _ _ _ _));first|(refine bk_ (fun h h'=>?_) (fun h h'=>?_)))|((with_reducible show Wk (_∧_));first|(refine and_ ?_ ?_))|((with_reducible show Wk (retOkG _ _ _ _));first|(refine rgg_ [] ?_))|fail)<;>(try refine nm_ ?_))
  all_goals clear ex0
  all_goals (refine ⟨?_⟩)
  all_goals first|contradiction|(exfalso;omega)|(have e0:=tnI_y (by assumption) hA.out hB.out hC.out hD.out;first|(rw [tnI_4 (by omega)] at e0;rw [e0];rfl)|(rw [tnI_3 (by omega)] at e0;rw [e0];rfl))|(have e0:=tnI_n (by assumption) hA.out hB.out hD.out;first|(rw [tnI_4 (by omega)] at e0;rw [e0];rfl)|(rw [tnI_3 (by omega)] at e0;rw [e0];rfl))
end Go.Proofs.YtidjjfjhmlndjaaGreatDoor
