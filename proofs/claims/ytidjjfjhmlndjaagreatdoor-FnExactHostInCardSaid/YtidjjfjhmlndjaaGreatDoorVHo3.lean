/- Ho3 (what is wanted of them). -/
import Derived.Test.YtidjjfjhmlndjaaGreatDoorVHo2
import Derived.Test.YtidjjfjhmlndjaaGreatDoorVNe1
import Derived.Test.YtidjjfjhmlndjaaGreatDoorVDw
import Derived.Test.YtidjjfjhmlndjaaGreatDoorVSox
import Derived.Test.YtidjjfjhmlndjaaGreatDoorVNlx
namespace Go.Proofs.YtidjjfjhmlndjaaGreatDoor
open Go.RowKit
set_option linter.unusedVariables false
set_option linter.unusedSimpArgs false
set_option maxRecDepth 100000
set_option maxHeartbeats 4000000
theorem emptyT_fine (k:Int) (_:intOk k):TFine ⟨k,false,0,⟨#[]⟩, [], []⟩:=.mk (by show ByteArray.size ⟨#[]⟩≤1048576;decide) (by show intOk 0;decide) (Nat.zero_le _) (fun k=>Nat.zero_le _) (Nat.zero_le _) (fun x h=>by cases h)
theorem mapF_fine {t:TreeD} (hf:TFine t) (p key:ByteArray):TFine (mapF t p key).1:=by
  unfold mapF
  split
  · rename_i hh
    split
    · exact hf.of hh
    · exact emptyT_fine 0 (by decide)
  · exact emptyT_fine 6 (by decide)
theorem valueF_n {t:TreeD}{p:ByteArray} (h:hasT t wValue=false):valueF t p=(⟨#[]⟩,noF):=if_neg (by rw [h];decide)
theorem valueF_y {t:TreeD}{p:ByteArray} (h:hasT t wValue=true):valueF t p=fineF t p wValue valueB:=if_pos h
section
variable {t:TreeD}{p:ByteArray}
theorem taintM_1 (h:¬ (knownT t p kTaint).code=0):taintM t p=(default,knownT t p kTaint):=if_pos h
theorem taintM_2 (h0:(knownT t p kTaint).code=0) (h:¬ (fineF t p wKey keyB).2.code=0):taintM t p=(default,(fineF t p wKey keyB).2):=by unfold taintM;rw [if_neg (fun k=>k h0),if_pos h]
theorem taintM_3 (h0:(knownT t p kTaint).code=0) (h1:(fineF t p wKey keyB).2.code=0) (h:¬ (valueF t p).2.code=0):taintM t p=(default,(valueF t p).2):=by unfold taintM;rw [if_neg (fun k=>k h0),if_neg (fun k=>k h1),if_pos h]
theorem taintM_4 (h0:(knownT t p kTaint).code=0) (h1:(fineF t p wKey keyB).2.code=0) (h2:(valueF t p).2.code=0) (h:¬ (oneF t p wEffect effW).2.code=0):taintM t p=(default,(oneF t p wEffect effW).2):=by unfold taintM;rw [if_neg (fun k=>k h0),if_neg (fun k=>k h1),if_neg (fun k=>k h2),if_pos h]
theorem taintM_5 (h0:(knownT t p kTaint).code=0) (h1:(fineF t p wKey keyB).2.code=0) (h2:(valueF t p).2.code=0) (h3:(oneF t p wEffect effW).2.code=0):taintM t p=(⟨(fineF t p wKey keyB).1,(valueF t p).1,(oneF t p wEffect effW).1⟩,noF):=by unfold taintM;rw [if_neg (fun k=>k h0),if_neg (fun k=>k h1),if_neg (fun k=>k h2),if_neg (fun k=>k h3)]
end
def tntF (ls:List TaintD):List TaintD:=ls.foldl (fun o x=>insTnt x o) []
theorem tnt_end {ls o:List TaintD}{i:Nat} (h:ls.length≤i) (hO:o=foldTo (fun x o=>insD taintLess taintSame (id x) o) ls i):o=tntF ls:=by
  rw [hO,fold_all _ ls h]
  rfl
theorem srtTnt_a {ls:List TaintD} (h:40 < ls.length):srtTnt ls=(ls,false):=if_pos h
theorem srtTnt_c {ls:List TaintD} (h:ls.length≤40) (hb:taintsB (tntF ls)=true):srtTnt ls=(tntF ls,true):=by
  unfold srtTnt
  rw [if_neg (by omega)]
  exact if_pos hb
theorem srtTnt_d {ls:List TaintD} (h:ls.length≤40) (hb:taintsB (tntF ls)=false):srtTnt ls=(ls,false):=by
  unfold srtTnt
  rw [if_neg (by omega)]
  exact if_neg (by rw [show ls.foldl (fun o x=>insTnt x o) []=tntF ls from rfl,hb];decide)
theorem spec_AmountField_D (t:TreeD) (p key:ByteArray) (hf:TFine t) (hp:p.size≤4194304) (hkz:key.size≤1048576):Spec Tryz.prog 147 [.agg (treeC t),.sc (.string p),.sc (.string key)] (fun d=>d = .tup [.sc (.int .i64 (amountF t p key).1),.agg [.sc (.int .i64 ((amountF t p key).2).code),.sc (.int .i64 ((amountF t p key).2).at_),.sc (.string ((amountF t p key).2).path)]]):=by
  unfold treeC
  refine sp_ (rs:= [.tmp 6,.cell 7 46]) (nt:=69) Tryz.func147 rfl fun X hX=>?_
  refine nm_ ?_
  repeat' ((first|contradiction|(with_reducible exact tt_)|((with_reducible show Wk (AwStepF _ _ _ _ _ _ _));first|(refine cl_ rfl _ _ (spec_KidOf_D t key hf) rfl rfl ?_;rintro _ (⟨hh,rfl⟩|⟨hh,rfl⟩)<;>(try have hkt:=(hf.of hh).text)<;>(try have hki:=(hf.of hh).num))|(refine cl_ rfl _ _ (spec_PathKey_D p key (by omega) (by omega)) rfl rfl ?_;rintro _ rfl)|(refine cl_ rfl _ _ (spec_l18Fault_D _ _) rfl rfl ?_;rintro _ rfl)|(refine cl_ rfl _ _ (spec_ReadAmount_D (kidT t key).text hkt) rfl rfl ?_;rintro _ rfl;(have hra:=readA_rng (kidT t key).text))|(refine cl_ rfl _ _ (spec_MulInt_D (kidT t key).num 1000 hki ⟨by decide,by decide⟩) rfl rfl ?_;rintro _ rfl))|((with_reducible show Wk (AwStep _ _ _ _ _));first|(refine pln_ ?_))|((with_reducible show Wk (boolK _ _ _ _));first|(refine bk_ (fun h h'=>?_) (fun h h'=>?_)))|((with_reducible show Wk (_∧_));first|(refine and_ ?_ ?_))|fail)<;>(try refine nm_ ?_))
  all_goals (refine ⟨?_⟩)
  all_goals first|contradiction|(exfalso;omega)|(rw [amountF_a hh (by omega) (by omega)];rfl)|(rw [amountF_b hh (by omega) (by omega)];rfl)|(rw [amountF_c hh (by omega) (by omega) (by omega)];rfl)|(rw [amountF_d hh (by omega) (by omega)];rfl)|(rw [amountF_e hh (by omega) (by omega) (by assumption)];rfl)|(rw [amountF_f hh (by omega) (by omega) (by assumption)];rfl)|(rw [amountF_h hh (by omega) (by omega)];rfl)|(rw [amountF_i hh];rfl)
theorem spec_WholeField_D (t:TreeD) (p key:ByteArray) (hf:TFine t) (hp:p.size≤4194304) (hkz:key.size≤1048576) (a b u:Int):Spec Tryz.prog 72 [.agg (treeC t),.sc (.string p),.sc (.string key),.sc (.int .i64 a),.sc (.int .i64 b),.sc (.int .i64 u)] (fun d=>d = .tup [.sc (.int .i64 (wholeF t p key a b u).1),.agg [.sc (.int .i64 ((wholeF t p key a b u).2).code),.sc (.int .i64 ((wholeF t p key a b u).2).at_),.sc (.string ((wholeF t p key a b u).2).path)]]):=by
  unfold treeC
  refine sp_ (rs:= [.tmp 12,.cell 13 46]) (nt:=46) Tryz.func72 rfl fun X hX=>?_
  refine nm_ ?_
  repeat' ((first|contradiction|(with_reducible exact tt_)|((with_reducible show Wk (AwStepF _ _ _ _ _ _ _));first|(refine cl_ rfl _ _ (spec_KidOf_D t key hf) rfl rfl ?_;rintro _ (⟨hh,rfl⟩|⟨hh,rfl⟩)<;>(try have hkt:=(hf.of hh).text)<;>(try have hki:=(hf.of hh).num))|(refine cl_ rfl _ _ (spec_PathKey_D p key (by omega) (by omega)) rfl rfl ?_;rintro _ rfl)|(refine cl_ rfl _ _ (spec_l18Fault_D _ _) rfl rfl ?_;rintro _ rfl)|(refine cl_ rfl _ _ (l01In_D _ _ _) rfl rfl ?_;rintro _ rfl))|((with_reducible show Wk (AwStep _ _ _ _ _));first|(refine pln_ ?_))|((with_reducible show Wk (boolK _ _ _ _));first|(refine bk_ (fun h h'=>?_) (fun h h'=>?_)))|((with_reducible show Wk (_∧_));first|(refine and_ ?_ ?_))|fail)<;>(try refine nm_ ?_))
  all_goals (refine ⟨?_⟩)
  all_goals first|contradiction|(exfalso;omega)|(rw [wholeF_a hh (by omega) (inB_yes (by omega))];rfl)|(rw [wholeF_b hh (by omega) (inB_no (by omega))];rfl)|(rw [wholeF_c hh (by omega)];rfl)|(rw [wholeF_d hh];rfl)
theorem spec_MapField_O (t:TreeD) (p key:ByteArray) (hf:TFine t) (hp:p.size≤4194304) (hkz:key.size≤1048576):Spec Tryz.prog 145 [.agg (treeC t),.sc (.string p),.sc (.string key)] (fun d=>∃ d',SubT d d'∧d' = .tup [.agg (treeC (mapF t p key).1),.agg [.sc (.int .i64 ((mapF t p key).2).code),.sc (.int .i64 ((mapF t p key).2).at_),.sc (.string ((mapF t p key).2).path)]]):=by
  unfold treeC
  refine sp_ (rs:= [.cell 6 67,.cell 7 46]) (nt:=30) Tryz.func145 rfl fun X hX=>?_
  refine nm_ ?_
  repeat' ((first|contradiction|(with_reducible exact tt_)|((with_reducible show Wk (AwStepF _ _ _ _ _ _ _));first|(refine cl_ rfl _ _ (spec_KidOf_D t key hf) rfl rfl ?_;rintro _ (⟨hh,rfl⟩|⟨hh,rfl⟩)<;>(try have hkt:=(hf.of hh).text)<;>(try have hki:=(hf.of hh).num))|(refine cl_ rfl _ _ (spec_PathKey_D p key (by omega) (by omega)) rfl rfl ?_;rintro _ rfl)|(refine cl_ rfl _ _ (spec_l18Fault_D _ _) rfl rfl ?_;rintro _ rfl))|((with_reducible show Wk (AwStep _ _ _ _ _));first|(refine pln_ ?_))|((with_reducible show Wk (boolK _ _ _ _));first|(refine bk_ (fun h h'=>?_) (fun h h'=>?_)))|((with_reducible show Wk (_∧_));first|(refine and_ ?_ ?_))|fail)<;>(try refine nm_ ?_))
  all_goals (refine ⟨?_⟩)
  all_goals (try refine ⟨_,?_,rfl⟩)
  all_goals first|(rw [mapF_a hh (by omega)];exact .same _)|(rw [mapF_b hh (by omega)];exact .tup ⟨.agg ⟨.inl rfl,.inl rfl,.inl rfl,.inl rfl,.inr ⟨rfl,rfl⟩,.inr ⟨rfl,rfl⟩,trivial⟩,.same _,trivial⟩)|(rw [mapF_c hh];exact .tup ⟨.agg ⟨.inl rfl,.inl rfl,.inl rfl,.inl rfl,.inr ⟨rfl,rfl⟩,.inr ⟨rfl,rfl⟩,trivial⟩,.same _,trivial⟩)
theorem spec_MapField_K (t:TreeD) (p key:ByteArray) (hf:TFine t) (hp:p.size≤4194304) (hkz:key.size≤1048576):Spec Tryz.prog 145 [.agg (treeC t),.sc (.string p),.sc (.string key)] (fun d=>d = .tup [.agg (treeC (mapF t p key).1),.agg [.sc (.int .i64 ((mapF t p key).2).code),.sc (.int .i64 ((mapF t p key).2).at_),.sc (.string ((mapF t p key).2).path)]]):=(spec_MapField_O t p key hf hp hkz).sub
theorem spec_LabelsIn_X (t:TreeD) (p:ByteArray) (hf:TFine t) (hp:p.size≤2097152):Spec Tryz.prog 146 [.agg (treeC t),.sc (.string p)] (fun d=>d = .tup [.sl (labsF t p).1.length (labelsD (labsF t p).1),.agg [.sc (.int .i64 ((labsF t p).2).code),.sc (.int .i64 ((labsF t p).2).at_),.sc (.string ((labsF t p).2).path)]]):=by
  have hkn:=hf.keys;have hcn:=hf.kids;unfold treeC
  have ex0:=@labelsD_snoc
  refine spG_ (rs:= [.tmp 4,.cell 5 46]) (nt:=95) Tryz.func146 rfl fun X hX=>?_
  refine nm_ ?_
  repeat' ((first|contradiction|(with_reducible exact tt_)|((with_reducible show Wk (AwStepF _ _ _ _ _ _ _));first|(refine cl_ rfl _ _ (spec_l18Fault_D _ _) rfl rfl ?_;rintro _ rfl)|(refine cl_ rfl _ _ (spec_PathKey_D p (t.keys.getD i default) (by omega) (by omega)) rfl rfl ?_;rintro _ rfl)|(refine cl_ rfl _ _ (spec_LabelKeyOk_D _) rfl rfl ?_;rintro _ rfl)|(refine cl_ rfl _ _ (spec_LabelValueOk_D _) rfl rfl ?_;rintro _ rfl)|(refine app_ rfl ?_))|((with_reducible show Wk (AwStep _ _ _ _ _));first|(refine pln_ ?_))|((with_reducible show Wk (AwCode _ _ _ _ _));first|(refine wo_ (id:=15) [3] [(0,true),(1,true),(2,true),(3,true),(4,true),(5,true),(6,true),(7,true),(8,true),(9,true),(10,true),(11,true),(12,true),(13,false),(14,false),(15,true)] ?_)|(refine lpK_ (ι:=Nat × List LabelD) [] [0,1,2,3] 0x1e6 (fun ⟨i,o⟩=> [(8,.sc (.int .i64 (i:Int))),(7,.own 3 0 o.length)]) (fun ⟨i,o⟩=> [(3,⟨217,2,(o).length,labelsD (o)⟩)]) (fun ⟨i,o⟩=>i≤t.keys.length∧o=labsO t i∧labsE p t (t.keys.length - i) i=labsE p t t.keys.length 0) (fun ⟨i,o⟩=>t.keys.length - i) (0, []) ?_ ?_;(focus (exact ⟨Nat.zero_le _,rfl,rfl⟩));rintro _ hN0 ⟨i,o⟩ hinv;(try dsimp only at hinv);obtain ⟨hi,hO,hE⟩:=hinv;have hol1:o.length≤i:=(by rw [hO,labsO_len];omega);have hol2:i≤o.length:=(by rw [hO,labsO_len];omega);replace hO:=Lib.hid hO;replace hE:=Lib.hid hE;have hkz:=hf.key i;have hxt:i < t.kids.length→(t.kids.getD i default).text.size≤1048576:=fun h=>(hf.kid h).text;skip))|((with_reducible show Wk (boolK _ _ _ _));first|(refine bk_ (fun h h'=>?_) (fun h h'=>?_)))|((with_reducible show Wk (_∧_));first|(refine and_ ?_ ?_))|((with_reducible show Wk (retOkG _ _ _ _));first|(refine rgg_ [.frz 2] ?_;refine nm_ ?_;fail_if_success (show Wk False))|(refine rgg_ [.frz 3] ?_;refine nm_ ?_;fail_if_success (show Wk False))|(refine rgg_ [] ?_;refine nm_ ?_;fail_if_success (show Wk False)))|(refine hN0.run ((i+1,o ++ [⟨(t.keys.getD i default),(t.kids.getD i default).text⟩])) [] [0,1,2,5] ?_ ?_;(focus (exact ⟨by show i+1≤t.keys.length;omega,by rw [hO.out];exact labsO_snoc t i,labsE_go (by omega) (by omega) (by simp_all) hE.out⟩));(focus (show t.keys.length - (i+1) < t.keys.length - i;omega)))|fail)<;>(try refine nm_ ?_))
  all_goals clear ex0
  all_goals (refine ⟨?_⟩)
  all_goals first|contradiction|(exfalso;omega)|(rw [labsF_a (by omega)];rfl)|(rw [labsF_b (by omega) (by omega)];rfl)|(rw [labsF_c (by omega) (by omega) (labsE_k (i:=i) (by omega) (by omega) hE.out) (nzF 11 _)];rfl)|(rw [labsF_c (by omega) (by omega) (labsE_v (i:=i) (by omega) (by omega) (by simp_all) hE.out) (nzF 14 _)];rfl)|(rw [labsF_d (by omega) (by omega) (labsE_end (i:=i) (by omega) hE.out)];have e:=hO.out;have ei:i=t.keys.length:=(by omega);subst ei;rw [e];rfl)
theorem spec_l19Effects_D :Spec Tryz.prog 151 [] (fun d=>d = .sl 3 (strsD effW)):=by
  refine spG_ (rs:= [.tmp 0]) (nt:=2) Tryz.func151 rfl fun X hX=>?_
  refine nm_ ?_
  repeat' ((first|contradiction|(with_reducible exact tt_)|((with_reducible show Wk (AwStep _ _ _ _ _));first|(refine pln_ ?_))|((with_reducible show Wk (boolK _ _ _ _));first|(refine bk_ (fun h h'=>?_) (fun h h'=>?_)))|((with_reducible show Wk (_∧_));first|(refine and_ ?_ ?_))|((with_reducible show Wk (retOkG _ _ _ _));first|(refine rgg_ [.frz 0] ?_))|fail)<;>(try refine nm_ ?_))
  all_goals (refine ⟨?_⟩)
  all_goals first|contradiction|(exfalso;omega)|rfl
theorem spec_l19Value_D (t:TreeD) (p:ByteArray) (hf:TFine t) (hp:p.size≤2097152):Spec Tryz.prog 150 [.agg (treeC t),.sc (.string p)] (fun d=>d = .tup [.sc (.string (valueF t p).1),.sc (.bool (hasT t wValue)),.agg [.sc (.int .i64 ((valueF t p).2).code),.sc (.int .i64 ((valueF t p).2).at_),.sc (.string ((valueF t p).2).path)]]):=by
  unfold treeC;have hkz:wValue.size≤1048576:=by decide
  refine sp_ (rs:= [.tmp 4,.tmp 5,.cell 6 46]) (nt:=38) Tryz.func150 rfl fun X hX=>?_
  refine nm_ ?_
  repeat' ((first|contradiction|(with_reducible exact tt_)|((with_reducible show Wk (AwStepF _ _ _ _ _ _ _));first|(refine cl_ rfl _ _ (spec_KidOf_D t wValue hf) rfl rfl ?_;rintro _ (⟨hh,rfl⟩|⟨hh,rfl⟩))|(refine cl_ rfl _ _ (spec_TextField_D t p wValue hf (by omega) (by decide)) rfl rfl ?_;rintro _ rfl)|(refine cl_ rfl _ _ (spec_LabelValueOk_D _) rfl rfl ?_;rintro _ rfl)|(refine cl_ rfl _ _ (spec_PathKey_D p wValue (by omega) (by decide)) rfl rfl ?_;rintro _ rfl)|(refine cl_ rfl _ _ (spec_l18Fault_D _ _) rfl rfl ?_;rintro _ rfl))|((with_reducible show Wk (AwStep _ _ _ _ _));first|(refine pln_ ?_))|((with_reducible show Wk (AwCode _ _ _ _ _));first|(refine wo_ (id:=7) [1] [(0,true),(1,true),(2,true),(3,true),(4,false)] ?_))|((with_reducible show Wk (boolK _ _ _ _));first|(refine bk_ (fun h h'=>?_) (fun h h'=>?_)))|((with_reducible show Wk (_∧_));first|(refine and_ ?_ ?_))|fail)<;>(try refine nm_ ?_))
  all_goals (refine ⟨?_⟩)
  all_goals first|contradiction|(exfalso;omega)|(rw [valueF_n hh];rfl)|(rw [valueF_y hh,fineF_a (by omega) (by assumption)];rfl)|(rw [valueF_y hh,fineF_b (.inl (by omega))];done)|(rw [valueF_y hh,fineF_b (.inr (by assumption))];done)
theorem spec_TaintIn_X (t:TreeD) (p:ByteArray) (hf:TFine t) (hp:p.size≤2097152):Spec Tryz.prog 74 [.agg (treeC t),.sc (.string p)] (fun d=>d = .tup [.agg (taintCells (taintM t p).1),.agg [.sc (.int .i64 ((taintM t p).2).code),.sc (.int .i64 ((taintM t p).2).at_),.sc (.string ((taintM t p).2).path)]]):=by
  unfold treeC
  refine sp_ (rs:= [.cell 4 118,.cell 5 46]) (nt:=62) Tryz.func74 rfl fun X hX=>?_
  refine nm_ ?_
  repeat' ((first|contradiction|(with_reducible exact tt_)|((with_reducible show Wk (AwStepF _ _ _ _ _ _ _));first|(refine cl_ rfl _ _ (spec_l19Key_D t p hf (by omega)) rfl rfl ?_;rintro _ rfl)|(refine cl_ rfl _ _ (spec_l19Value_D t p hf hp) rfl rfl ?_;rintro _ rfl)|(refine cl_ rfl _ _ (spec_l19Effects_D) rfl rfl ?_;rintro _ rfl)|(refine cl_ rfl _ _ (spec_l19One_D t p wEffect hf (by omega) (by decide) effW (by decide)) rfl rfl ?_;rintro _ rfl)|(refine afz_ [3] ?_;refine nm_ ?_;refine cl_ rfl _ _ (spec_KnownKeys_D t p kTaint hf (by omega) (by decide)) rfl rfl ?_;rintro _ rfl))|((with_reducible show Wk (AwStep _ _ _ _ _));first|(refine pln_ ?_))|((with_reducible show Wk (AwCode _ _ _ _ _));first|(refine wo_ (id:=3) [1,2] [(0,true),(1,true),(2,false),(3,false)] ?_)|(refine wo_ (id:=7) [1,2] [(0,true),(1,true),(2,false),(3,false)] ?_)|(refine wo_ (id:=10) [1,2] [(0,true),(1,true),(2,false),(3,false)] ?_)|(refine wo_ (id:=12) [4,5] [(0,true),(1,true),(2,false),(3,false),(4,true),(5,true),(6,true),(7,true),(8,false),(9,false)] ?_)|(refine wo_ (id:=14) [1,2] [(0,true),(1,true),(2,false),(3,false)] ?_))|((with_reducible show Wk (boolK _ _ _ _));first|(refine bk_ (fun h h'=>?_) (fun h h'=>?_)))|((with_reducible show Wk (_∧_));first|(refine and_ ?_ ?_))|fail)<;>(try refine nm_ ?_))
  all_goals (refine ⟨?_⟩)
  all_goals first|contradiction|(exfalso;omega)|(rw [taintM_1 (by omega)];rfl)|(rw [taintM_2 (by omega) (by omega)];rfl)|(rw [taintM_3 (by omega) (by omega) (by omega)];rfl)|(rw [taintM_4 (by omega) (by omega) (by omega) (by omega)];rfl)|(rw [taintM_5 (by omega) (by omega) (by omega) (by omega)];rfl)
theorem spec_SortTaints_X (ls:List TaintD) (hn:ls.length≤1048576):Spec Tryz.prog 75 [.sl ls.length (taintsD ls)] (fun d=>d = .tup [.sl (srtTnt ls).1.length (taintsD (srtTnt ls).1),.sc (.bool (srtTnt ls).2)]):=by
  have ex0:=@taints_app;have ex1:=@Nat.sub_zero
  refine spG_ (rs:= [.tmp 2,.tmp 3]) (nt:=76) Tryz.func75 rfl fun X hX=>?_
  refine nm_ ?_
  repeat' ((first|contradiction|(with_reducible exact tt_)|((with_reducible show Wk (AwStepF _ _ _ _ _ _ _));first|(refine cl_ rfl _ _ (spec_l16Less_D (o.getD j default) (ls.getD i default)) rfl rfl ?_;rintro _ rfl)|(refine eqg_ rfl ?_)|(refine app_ rfl ?_)|(refine bo_ rfl [.frz 1] (spec_TaintsOk_D o) ?_;rintro _ rfl;refine ⟨rfl,?_⟩))|((with_reducible show Wk (AwStep _ _ _ _ _));first|(refine pln_ ?_))|((with_reducible show Wk (AwCode _ _ _ _ _));first|(refine wo_ (id:=9) [] [(0,true),(1,true),(2,true),(3,true),(4,true),(5,true),(6,true),(7,true),(8,true),(9,true),(10,true),(11,true),(12,true),(13,false),(14,true)] ?_)|(refine wo_ (id:=11) [] [(0,true),(1,true),(2,true),(3,true),(4,true),(5,true),(6,true),(7,true),(8,true),(9,true),(10,true),(11,true),(12,true),(13,false),(14,true)] ?_)|(refine wtr_ (id:=12) [] (.early 1 (.early 2 (.early 3 (.early 5 (.early 6 (.early 7 (.early 8 (.two 0 (.two 4 (.one 9 (.one 10 (.early 11 .done))) 9 (.one 4 (.one 10 (.early 11 .done)))) 9 (.one 0 (.one 4 (.one 10 (.early 11 .done)))))))))))) ?_)|((with_reducible show Wk (AwCode _ _ (.loop (.seq (.seq (.region 9 _ _) _) _)) _ _));refine lpK_ (ι:=Nat) [] [0,1] 0xf1 (fun j=> [(7,.sc (.int .i64 (j:Int)))]) (fun j=> []) (fun j=>j≤o.length∧o.take j++insD taintLess taintSame (id (ls.getD i default)) (o.drop j)=insD taintLess taintSame (id (ls.getD i default)) o) (fun j=>o.length - j) 0 ?_ ?_;(focus (exact ⟨Nat.zero_le _,rfl⟩));rintro _ hN1 j hinv;(try dsimp only at hinv);obtain ⟨hj,hR⟩:=hinv;replace hR:=Lib.hid hR;obtain ⟨a,b,hcut,la,lb,ta,tb⟩:=taints_cut o j j (by omega) (by omega);replace hcut:=Lib.hid hcut;skip)|((with_reducible show Wk (AwCode _ _ (.loop (.seq (.seq (.region 6 _ _) _) _)) _ _));refine lpK_ (ι:=Nat × List TaintD) [] [1,2] 0x71 (fun ⟨i,o⟩=> [(6,.sc (.int .i64 (i:Int))),(5,.own 1 0 o.length)]) (fun ⟨i,o⟩=> [(1,⟨118,3,(o).length,taintsD (o)⟩)]) (fun ⟨i,o⟩=>i≤ls.length∧o=foldTo (fun x o=>insD taintLess taintSame (id x) o) ls i) (fun ⟨i,o⟩=>ls.length - i) (0, []) ?_ ?_;(focus (exact ⟨Nat.zero_le _,rfl⟩));rintro _ hN0 ⟨i,o⟩ hinv;(try dsimp only at hinv);obtain ⟨hi,hO⟩:=hinv;have hol:=fold_sz hO hi;replace hO:=Lib.hid hO;skip))|((with_reducible show Wk (boolK _ _ _ _));first|(refine bk_ (fun h h'=>?_) (fun h h'=>?_)))|((with_reducible show Wk (_∧_));first|(refine and_ ?_ ?_))|((with_reducible show Wk (stepK _ _ _));first|(refine ite_ (fun hs=>?_) (fun hs=>?_)))|((with_reducible show Wk (retOkG _ _ _ _));first|(refine rgg_ [.frz 0] ?_;refine nm_ ?_;fail_if_success (show Wk False))|(refine rgg_ [.frz 1] ?_;refine nm_ ?_;fail_if_success (show Wk False))|(refine rgg_ [] ?_;refine nm_ ?_;fail_if_success (show Wk False)))|(refine hN1.run (j+1) [] [0,1] ?_ ?_;(focus (exact ⟨by show j+1≤o.length;omega,insD_step (by omega) (by assumption) hR.out⟩));(focus (show o.length - (j+1) < o.length - j;omega)))|(refine hN0.run ((i+1,a ++ [(ls.getD i default)]++b)) [] [0,6] ?_ ?_;(focus (exact ⟨by show i+1≤ls.length;omega,fold_lay hO.out (by omega) hR.out hcut.out (by first|exact .inl (by omega)|exact .inr ⟨by assumption,by assumption⟩|exact .inr ⟨by assumption,by simp_all [taintSame]⟩)⟩));(focus (show ls.length - (i+1) < ls.length - i;omega)))|(refine hN0.run ((i+1,a ++ [(ls.getD i default)])) [] [0,6] ?_ ?_;(focus (exact ⟨by show i+1≤ls.length;omega,fold_lay2 hO.out (by omega) hR.out hcut.out (by omega)⟩));(focus (show ls.length - (i+1) < ls.length - i;omega)))|(refine hN0.run ((i+1,o)) [] [0,1] ?_ ?_;(focus (exact ⟨by show i+1≤ls.length;omega,fold_there hO.out (by omega) hR.out (by omega) (by assumption) (by first|assumption|simp_all [taintSame])⟩));(focus (show ls.length - (i+1) < ls.length - i;omega)))|fail)<;>(try refine nm_ ?_))
  all_goals clear ex0 ex1
  all_goals (refine ⟨?_⟩)
  all_goals first|contradiction|(exfalso;omega)|(rw [srtTnt_a (by omega)];done)|(have e:=tnt_end (by omega) hO.out;first|(rw [srtTnt_c (by omega) (by rw [← e];assumption),← e];done)|(rw [srtTnt_d (by omega) (by rw [← e];assumption)];done))
end Go.Proofs.YtidjjfjhmlndjaaGreatDoor
