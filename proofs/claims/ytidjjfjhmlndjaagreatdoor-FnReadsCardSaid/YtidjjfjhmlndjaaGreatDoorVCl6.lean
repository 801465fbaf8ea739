/- Cl6 (what is wanted of them). -/
import Derived.Test.YtidjjfjhmlndjaaGreatDoorVCl3
import Derived.Test.YtidjjfjhmlndjaaGreatDoorVCl5
namespace Go.Proofs.YtidjjfjhmlndjaaGreatDoor
open Go.RowKit
set_option linter.unusedVariables false
set_option linter.unusedSimpArgs false
set_option maxRecDepth 100000
set_option maxHeartbeats 1000000
theorem bne_dec (a b:Int):(a != b)=decide (a≠b):=by by_cases h:a=b<;>simp [h]
theorem anyN_cons (n:Nat) (p:Nat→Bool):anyN (n+1) p=(p 0||anyN n fun k=>p (k+1)):=by
  unfold anyN
  rw [List.range_succ_eq_map,List.any_cons,List.any_map]
  rfl
theorem idx_neg:∀ (l:List UInt8) (c:UInt8),decide (Lib.indexByte l c < 0)=!(anyN l.length fun j=>c==l.getD j 0)
  | [],c=>rfl
  |b::l,c=>by
    rw [List.length_cons,anyN_cons]
    unfold Lib.indexByte
    have ih:=idx_neg l c
    have hge:=Lib.indexByte_ge l c
    by_cases h:b=c
    · subst h;simp
    · have h2:(b==c)=false:=by simpa using h
      have h3:(c==b)=false:=by simpa using fun e=>h e.symm
      simp only [h2,Bool.false_eq_true,if_false,List.getD_cons_zero,h3,Bool.false_or,List.getD_cons_succ]
      rw [← ih]
      by_cases h4:Lib.indexByte l c=-1
      · simp [h4]
      · have h5:(Lib.indexByte l c==-1)=false:=by simpa using h4
        simp only [h5,Bool.false_eq_true,if_false]
        rw [decide_eq_decide]
        omega
theorem byteAt_neg (o s:ByteArray) (k:Nat):decide (byteAt o (bytB s k) < 0)=!amongB (bytB s k) o:=by
  unfold byteAt amongB
  have e:(bytB s k).toNat.toUInt8=s.data.getD k 0:=by unfold bytB;simp
  rw [e,idx_neg]
  congr 1
  unfold anyN
  rw [show o.data.toList.length=o.size from rfl]
  congr 1
  funext j
  unfold bytB
  rw [show o.data.toList.getD j 0=o.data.getD j 0 by simp [Array.getD_eq_getD_getElem?, List.getD_eq_getElem?_getD]]
  rw [Bool.eq_iff_iff,beq_iff_eq,beq_iff_eq,Int.ofNat_inj,UInt8.toNat_inj]
theorem impl_NameOk_D (s:ByteArray) (hs:s.size≤1048576):Spec Tryz.prog 156 [.sc (.string s)] (fun d=>d = .sc (.bool (nmB s))):=by
  refine sp_ (rs:= [.tmp 2]) (nt:=42) Tryz.func156 rfl fun X hX=>?_
  refine nm_ ?_
  repeat' ((first|contradiction|(with_reducible exact tt_)|((with_reducible show Wk (AwStepF _ _ _ _ _ _ _));first|(refine cl_ rfl _ _ (isLower_D _) rfl rfl ?_;rintro _ rfl)|(refine cl_ rfl _ _ (isDigit_D _) rfl rfl ?_;rintro _ rfl)|(refine cl_ rfl _ _ (within_D _ _ _) rfl rfl ?_;rintro _ rfl))|((with_reducible show Wk (AwStep _ _ _ _ _));first|(refine pln_ ?_))|((with_reducible show Wk (AwCode _ _ _ _ _));first|(refine lpU_ 0xc1 (ι:=Nat) (fun k=> [(7,.sc (.int .i64 (k:Int)))]) (fun k=>k≤s.size∧∀ j:Nat,j < k→nmAt s j=true) (fun k=>s.size - k) 0 ?_ ?_;(focus (exact ⟨by omega,allN_zero⟩));rintro _ hN0 k hinv;(try dsimp only at hinv);obtain ⟨hk,hj⟩:=hinv;replace hj:=Lib.hid hj;skip))|((with_reducible show Wk (boolK _ _ _ _));first|(refine bk_ (fun h h'=>?_) (fun h h'=>?_)))|((with_reducible show Wk (_∧_));first|(refine and_ ?_ ?_))|(refine hN0.go (k+1) ?_ ?_;(focus (exact ⟨by show k+1≤s.size;omega,allN_step hj.out (by unfold nmAt letterB;first|(simp_all;done)|(simp_all;omega))⟩));(focus (show s.size - (k+1) < s.size - k;omega)))|fail)<;>(try refine nm_ ?_))
  all_goals (refine ⟨?_⟩)
  all_goals first|contradiction|(have e:=allN_no (n:=s.size) (p:=nmAt s) (k:=k) (by omega) (by unfold nmAt letterB;first|(simp_all;done)|(simp_all;omega));rw [nmB_eq,e];simp;done)|(rw [nmB_eq,allN_yes (n:=s.size) (p:=nmAt s) (by omega) hj.out];first|(simp_all;done)|(rw [show (inB s.size 1 20)=true from by assumption,show (bytB s (s.size - 1) != 45)=decide (bytB s (s.size - 1)≠45) from bne_dec _ _];simp_all;done))
theorem impl_wordOk_D (s o:ByteArray) (hz:s.size≠0) (hs:s.size≤1048576):Spec Tryz.prog 214 [.sc (.string s),.sc (.string o)] (fun d=>d = .sc (.bool (wordB s o))):=by
  have ex0:=@byteAt_neg
  refine sp_ (rs:= [.tmp 4]) (nt:=40) Tryz.func214 rfl fun X hX=>?_
  refine nm_ ?_
  repeat' ((first|contradiction|(with_reducible exact tt_)|((with_reducible show Wk (AwStepF _ _ _ _ _ _ _));first|(refine cl_ rfl _ _ (strings_IndexByte_D _ _) rfl rfl ?_;rintro _ rfl)|(refine clC_ rfl rfl _ _ (plain_D _) rfl rfl rfl ?_;rintro _ rfl))|((with_reducible show Wk (AwStep _ _ _ _ _));first|(refine pln_ ?_))|((with_reducible show Wk (AwCode _ _ _ _ _));first|(refine lpU_ 0x323 (ι:=Nat) (fun k=> [(9,.sc (.int .i64 (k:Int)))]) (fun k=>k≤s.size∧∀ j:Nat,j < k→wordAt s o j=true) (fun k=>s.size - k) 0 ?_ ?_;(focus (exact ⟨by omega,allN_zero⟩));rintro _ hN0 k hinv;(try dsimp only at hinv);obtain ⟨hk,hj⟩:=hinv;replace hj:=Lib.hid hj;skip))|((with_reducible show Wk (boolK _ _ _ _));first|(refine bk_ (fun h h'=>?_) (fun h h'=>?_)))|((with_reducible show Wk (_∧_));first|(refine and_ ?_ ?_))|(refine hN0.go (k+1) ?_ ?_;(focus (exact ⟨by show k+1≤s.size;omega,allN_step hj.out (by unfold wordAt;simp_all)⟩));(focus (show s.size - (k+1) < s.size - k;omega)))|fail)<;>(try refine nm_ ?_))
  all_goals clear ex0
  all_goals (refine ⟨?_⟩)
  all_goals first|contradiction|rfl|(have e:=allN_no (n:=s.size) (p:=wordAt s o) (k:=k) (by omega) (by unfold wordAt;simp_all);simp_all [wordB_eq]<;>omega)|(have e:=allN_yes (n:=s.size) (p:=wordAt s o) (by omega) hj.out;simp_all [wordB_eq]<;>omega)|(simp_all [wordB_eq]<;>omega)|(simp [wordB_eq, *]<;>omega)
theorem wordB_len {s o:ByteArray} (h:s.size=0):wordB s o=false:=by rw [wordB_eq];simp [h]
theorem value_ne {v:ByteArray} (h:valueB v=false):eqB v ⟨#[]⟩=false:=by
  unfold valueB at h
  rw [Bool.or_eq_false_iff] at h
  exact h.1
theorem eqB_nil {s:ByteArray} (h:eqB s ⟨#[]⟩=false):s.size≠0:=by
  intro e
  unfold eqB at h
  have:s.toList = []:=by rw [Lib.toList_data];exact List.eq_nil_of_length_eq_zero e
  rw [this,Lib.toList_data] at h
  simp at h
theorem impl_LabelKeyOk_D (s:ByteArray):Spec Tryz.prog 127 [.sc (.string s)] (fun d=>d = .sc (.bool (keyB s))):=by
  refine sp_ (rs:= [.tmp 2]) (nt:=10) Tryz.func127 rfl fun X hX=>?_
  refine nm_ ?_
  repeat' ((first|contradiction|(with_reducible exact tt_)|((with_reducible show Wk (AwStepF _ _ _ _ _ _ _));first|(refine cl_ rfl _ _ (within_D _ _ _) rfl rfl ?_;rintro _ rfl)|(refine cl_ rfl _ _ (impl_wordOk_D _ _ (by first|omega|exact eqB_nil (by assumption)) (by omega)) rfl rfl ?_;rintro _ rfl))|((with_reducible show Wk (AwStep _ _ _ _ _));first|(refine pln_ ?_))|((with_reducible show Wk (boolK _ _ _ _));first|(refine bk_ (fun h h'=>?_) (fun h h'=>?_)))|((with_reducible show Wk (_∧_));first|(refine and_ ?_ ?_))|fail)<;>(try refine nm_ ?_))
  all_goals (refine ⟨?_⟩)
  all_goals first|contradiction|(unfold keyB;rw [show decide (s.size≤30)=true from decide_eq_true (by omega)];rfl)|(unfold keyB;rw [show decide (s.size≤30)=false from decide_eq_false (by omega)];rfl)|(rcases (by assumption:(s.size:Int) < 1∨(30:Int) < s.size) with h1|h1;(focus (unfold keyB;rw [wordB_len (by omega)];simp;done));(focus (unfold keyB;rw [show decide (s.size≤30)=false from decide_eq_false (by omega)];rfl)))
theorem impl_LabelValueOk_D (s:ByteArray):Spec Tryz.prog 131 [.sc (.string s)] (fun d=>d = .sc (.bool (valueB s))):=by
  refine sp_ (rs:= [.tmp 2]) (nt:=14) Tryz.func131 rfl fun X hX=>?_
  refine nm_ ?_
  repeat' ((first|contradiction|(with_reducible exact tt_)|((with_reducible show Wk (AwStepF _ _ _ _ _ _ _));first|(refine cl_ rfl _ _ (impl_wordOk_D _ _ (by first|omega|exact eqB_nil (by assumption)) (by omega)) rfl rfl ?_;rintro _ rfl))|((with_reducible show Wk (AwStep _ _ _ _ _));first|(refine pln_ ?_))|((with_reducible show Wk (boolK _ _ _ _));first|(refine bk_ (fun h h'=>?_) (fun h h'=>?_)))|((with_reducible show Wk (_∧_));first|(refine and_ ?_ ?_))|fail)<;>(try refine nm_ ?_))
  all_goals (refine ⟨?_⟩)
  all_goals first|contradiction|rfl|(simp_all [valueB]<;>omega)|(simp [valueB, *]<;>omega)
theorem impl_NeedOk_D (n:NeedD) (hn:n.values.length≤1048576):Spec Tryz.prog 224 [.agg (needCells n)] (fun d=>d = .sc (.bool (needB n))):=by
  unfold needCells
  refine sp_ (rs:= [.tmp 2]) (nt:=52) Tryz.func224 rfl fun X hX=>?_
  refine nm_ ?_
  repeat' ((first|contradiction|(with_reducible exact tt_)|((with_reducible show Wk (AwStepF _ _ _ _ _ _ _));first|(refine cl_ rfl _ _ (impl_LabelKeyOk_D _) rfl rfl ?_;rintro _ rfl)|(refine cl_ rfl _ _ (within_D _ _ _) rfl rfl ?_;rintro _ rfl)|(refine cl_ rfl _ _ (impl_LabelValueOk_D _) rfl rfl ?_;rintro _ rfl))|((with_reducible show Wk (AwStep _ _ _ _ _));first|(refine pln_ ?_))|((with_reducible show Wk (AwCode _ _ _ _ _));first|(refine lpU_ 0x3800002 (ι:=Nat) (fun k=> [(25,.sc (.int .i64 (k:Int)))]) (fun k=>k≤n.values.length∧∀ j:Nat,j < k→valAt n.values j=true) (fun k=>n.values.length - k) 0 ?_ ?_;(focus (exact ⟨by omega,allN_zero⟩));rintro _ hN0 k hinv;(try dsimp only at hinv);obtain ⟨hk,hj⟩:=hinv;replace hj:=Lib.hid hj;skip))|((with_reducible show Wk (boolK _ _ _ _));first|(refine bk_ (fun h h'=>?_) (fun h h'=>?_)))|((with_reducible show Wk (_∧_));first|(refine and_ ?_ ?_))|(refine hN0.go (k+1) ?_ ?_;(focus (exact ⟨by show k+1≤n.values.length;omega,allN_step hj.out (by unfold valAt nextB;simp_all)⟩));(focus (show n.values.length - (k+1) < n.values.length - k;omega)))|fail)<;>(try refine nm_ ?_))
  all_goals (refine ⟨?_⟩)
  all_goals first|contradiction|rfl|(have e:=allN_no (n:=n.values.length) (p:=valAt n.values) (k:=k) (by omega) (by unfold valAt nextB;simp_all);simp_all [needB_eq]<;>omega)|(have e:=allN_yes (n:=n.values.length) (p:=valAt n.values) (by omega) hj.out;simp_all [needB_eq]<;>omega)|(simp_all [needB_eq]<;>omega)|(simp [needB_eq, *]<;>omega)
def or3 (a b c:Int):Int:=orN (fun k=> [a,b,c].getD k default) 3
theorem or3_eq (a b c:Int):or3 a b c=if a==0 then (if b==0 then c else b) else a:=by
  unfold or3
  simp only [orN,List.getD_cons_zero,List.getD_cons_succ]
  split
  · split
    · split
      · simp_all
      · rfl
    · rfl
  · rfl
def cmpNeed (a b:NeedD):Int:=or3 (cmpB a.key b.key) (cmpI a.op b.op) (cmpVals a.values b.values)
theorem cmpNeed_lt (a b:NeedD):decide (cmpNeed a b < 0)=needLess a b:=by
  unfold cmpNeed needLess
  rw [or3_eq,cmpB_eq,cmpI_eq]
  split
  · split
    · exact cmpVals_lt _ _
    · exact cmpI_lt _ _
  · exact cmpB_lt _ _
def cmpTaint (a b:TaintD):Int:=or3 (cmpB a.key b.key) (cmpB a.value b.value) (cmpI a.effect b.effect)
theorem cmpTaint_lt (a b:TaintD):decide (cmpTaint a b < 0)=taintLess a b:=by
  unfold cmpTaint taintLess
  rw [or3_eq,cmpB_eq,cmpB_eq]
  split
  · split
    · exact cmpI_lt _ _
    · exact cmpB_lt _ _
  · exact cmpB_lt _ _
theorem ge_lt (n:Int):decide (n≥0)=!decide (n < 0):=by by_cases h:n < 0<;>simp [h]<;>omega
theorem cmpTaint_ge (a b:TaintD):decide (cmpTaint a b≥0)=!taintLess a b:=by rw [ge_lt,cmpTaint_lt]
def cmpF (a b:Bool):Int:=if a==b then 0 else if b then -1 else 1
theorem cmpF_eq (a b:Bool):(cmpF a b==0)=(a==b):=by cases a<;>cases b<;>rfl
theorem cmpF_lt (a b:Bool) (h:(a==b)=false):decide (cmpF a b < 0)=b:=by cases a<;>cases b<;>first|rfl|cases h
def cmpToler (a b:TolerD):Int:=orN (fun k=> [cmpB a.key b.key,cmpF a.equal b.equal,cmpB a.value b.value,cmpI a.effect b.effect].getD k default) 4
theorem or4_eq (a b c d:Int):orN (fun k=> [a,b,c,d].getD k default) 4=if a==0 then (if b==0 then (if c==0 then d else c) else b) else a:=by
  simp only [orN,List.getD_cons_zero,List.getD_cons_succ]
  split
  · split
    · split
      · split
        · simp_all
        · rfl
      · rfl
    · rfl
  · rfl
theorem cmpToler_lt (a b:TolerD):decide (cmpToler a b < 0)=tolerLess a b:=by
  unfold cmpToler tolerLess
  rw [or4_eq,cmpB_eq,cmpF_eq,cmpB_eq]
  split
  · split
    · split
      · exact cmpI_lt _ _
      · exact cmpB_lt _ _
    · rename_i h
      exact cmpF_lt _ _ (by simpa using h)
  · exact cmpB_lt _ _
theorem cmpToler_ge (a b:TolerD):decide (cmpToler a b≥0)=!tolerLess a b:=by rw [ge_lt,cmpToler_lt]
theorem impl_compareNeeds_D (a b:NeedD) (hn:a.values.length≤1048576):Spec Tryz.prog 138 [.agg (needCells a),.agg (needCells b)] (fun d=>d = .sc (.int .i64 (cmpNeed a b))):=by
  unfold needCells
  refine sp_ (rs:= [.tmp 4]) (nt:=22) Tryz.func138 rfl fun X hX=>?_
  refine nm_ ?_
  repeat' ((first|contradiction|(with_reducible exact tt_)|((with_reducible show Wk (AwStepF _ _ _ _ _ _ _));first|(refine cl_ rfl _ _ (strings_Compare_D _ _) rfl rfl ?_;rintro _ rfl)|(refine cl_ rfl _ _ (cmp_Compare_int_D _ _) rfl rfl ?_;rintro _ rfl)|(refine cl_ rfl _ _ (slices_Compare_string_string_D _ _ (by assumption)) rfl rfl ?_;rintro _ rfl)|(refine afz_ [2] ?_;refine nm_ ?_;refine cl_ rfl _ _ (cmp_Or_int_D [_,_,_] (by simp)) rfl rfl ?_;rintro _ rfl))|((with_reducible show Wk (AwStep _ _ _ _ _));first|(refine pln_ ?_))|((with_reducible show Wk (AwCode _ _ _ _ _));first|(refine wo_ (id:=1) [] [(0,true),(1,true),(2,true),(3,true),(5,true),(6,true),(7,true),(8,true),(10,true),(11,true),(12,true),(13,true),(4,false),(9,false),(14,false),(15,false),(16,false),(17,true)] ?_))|((with_reducible show Wk (boolK _ _ _ _));first|(refine bk_ (fun h h'=>?_) (fun h h'=>?_)))|((with_reducible show Wk (_∧_));first|(refine and_ ?_ ?_))|fail)<;>(try refine nm_ ?_))
  all_goals (refine ⟨?_⟩)
  all_goals first|rfl
theorem impl_compareTaints_D (a b:TaintD):Spec Tryz.prog 167 [.agg (taintCells a),.agg (taintCells b)] (fun d=>d = .sc (.int .i64 (cmpTaint a b))):=by
  unfold taintCells
  refine sp_ (rs:= [.tmp 4]) (nt:=22) Tryz.func167 rfl fun X hX=>?_
  refine nm_ ?_
  repeat' ((first|contradiction|(with_reducible exact tt_)|((with_reducible show Wk (AwStepF _ _ _ _ _ _ _));first|(refine cl_ rfl _ _ (strings_Compare_D _ _) rfl rfl ?_;rintro _ rfl)|(refine cl_ rfl _ _ (cmp_Compare_int_D _ _) rfl rfl ?_;rintro _ rfl)|(refine afz_ [2] ?_;refine nm_ ?_;refine cl_ rfl _ _ (cmp_Or_int_D [_,_,_] (by simp)) rfl rfl ?_;rintro _ rfl))|((with_reducible show Wk (AwStep _ _ _ _ _));first|(refine pln_ ?_))|((with_reducible show Wk (AwCode _ _ _ _ _));first|(refine wo_ (id:=1) [] [(0,true),(1,true),(2,true),(3,true),(5,true),(6,true),(7,true),(8,true),(10,true),(11,true),(12,true),(13,true),(4,false),(9,false),(14,false),(15,false),(16,false),(17,true)] ?_))|((with_reducible show Wk (boolK _ _ _ _));first|(refine bk_ (fun h h'=>?_) (fun h h'=>?_)))|((with_reducible show Wk (_∧_));first|(refine and_ ?_ ?_))|fail)<;>(try refine nm_ ?_))
  all_goals (refine ⟨?_⟩)
  all_goals first|rfl
theorem impl_compareFlags_D (a b:Bool):Spec Tryz.prog 254 [.sc (.bool a),.sc (.bool b)] (fun d=>d = .sc (.int .i64 (cmpF a b))):=by
  refine sp_ (rs:= [.tmp 4]) (nt:=11) Tryz.func254 rfl fun X hX=>?_
  refine nm_ ?_
  repeat' ((first|contradiction|(with_reducible exact tt_)|((with_reducible show Wk (AwStep _ _ _ _ _));first|(refine pln_ ?_))|((with_reducible show Wk (boolK _ _ _ _));first|(refine bk_ (fun h h'=>?_) (fun h h'=>?_)))|((with_reducible show Wk (_∧_));first|(refine and_ ?_ ?_))|fail)<;>(try refine nm_ ?_))
  all_goals (refine ⟨?_⟩)
  all_goals first|rfl|(unfold cmpF;simp_all;done)
theorem impl_compareTolerances_D (a b:TolerD):Spec Tryz.prog 193 [.agg (tolerCells a),.agg (tolerCells b)] (fun d=>d = .sc (.int .i64 (cmpToler a b))):=by
  unfold tolerCells
  refine sp_ (rs:= [.tmp 4]) (nt:=27) Tryz.func193 rfl fun X hX=>?_
  refine nm_ ?_
  repeat' ((first|contradiction|(with_reducible exact tt_)|((with_reducible show Wk (AwStepF _ _ _ _ _ _ _));first|(refine cl_ rfl _ _ (strings_Compare_D _ _) rfl rfl ?_;rintro _ rfl)|(refine cl_ rfl _ _ (impl_compareFlags_D _ _) rfl rfl ?_;rintro _ rfl)|(refine cl_ rfl _ _ (cmp_Compare_int_D _ _) rfl rfl ?_;rintro _ rfl)|(refine afz_ [2] ?_;refine nm_ ?_;refine cl_ rfl _ _ (cmp_Or_int_D [_,_,_,_] (by simp)) rfl rfl ?_;rintro _ rfl))|((with_reducible show Wk (AwStep _ _ _ _ _));first|(refine pln_ ?_))|((with_reducible show Wk (AwCode _ _ _ _ _));first|(refine wo_ (id:=1) [] [(0,true),(1,true),(2,true),(3,true),(5,true),(6,true),(7,true),(8,true),(10,true),(11,true),(12,true),(13,true),(15,true),(16,true),(17,true),(18,true),(4,false),(9,false),(14,false),(19,false),(20,false),(21,false),(22,true)] ?_))|((with_reducible show Wk (boolK _ _ _ _));first|(refine bk_ (fun h h'=>?_) (fun h h'=>?_)))|((with_reducible show Wk (_∧_));first|(refine and_ ?_ ?_))|fail)<;>(try refine nm_ ?_))
  all_goals (refine ⟨?_⟩)
  all_goals first|rfl
theorem impl_NeedLess_D (a b:NeedD) (hn:a.values.length≤1048576):Spec Tryz.prog 225 [.agg (needCells a),.agg (needCells b)] (fun d=>d = .sc (.bool (needLess a b))):=by
  unfold needCells
  have ex0:=@cmpNeed_lt
  refine sp_ (rs:= [.tmp 4]) (nt:=9) Tryz.func225 rfl fun X hX=>?_
  refine nm_ ?_
  repeat' ((first|contradiction|(with_reducible exact tt_)|((with_reducible show Wk (AwStepF _ _ _ _ _ _ _));first|(refine cl_ rfl _ _ (impl_compareNeeds_D _ _ (by first|assumption|omega)) rfl rfl ?_;rintro _ rfl))|((with_reducible show Wk (AwStep _ _ _ _ _));first|(refine pln_ ?_))|((with_reducible show Wk (boolK _ _ _ _));first|(refine bk_ (fun h h'=>?_) (fun h h'=>?_)))|((with_reducible show Wk (_∧_));first|(refine and_ ?_ ?_))|fail)<;>(try refine nm_ ?_))
  all_goals clear ex0
  all_goals (refine ⟨?_⟩)
  all_goals first|rfl
theorem impl_TaintOk_D (t:TaintD):Spec Tryz.prog 237 [.agg (taintCells t)] (fun d=>d = .sc (.bool (taintB t))):=by
  unfold taintCells
  refine sp_ (rs:= [.tmp 2]) (nt:=16) Tryz.func237 rfl fun X hX=>?_
  refine nm_ ?_
  repeat' ((first|contradiction|(with_reducible exact tt_)|((with_reducible show Wk (AwStepF _ _ _ _ _ _ _));first|(refine cl_ rfl _ _ (impl_LabelKeyOk_D _) rfl rfl ?_;rintro _ rfl)|(refine cl_ rfl _ _ (impl_LabelValueOk_D _) rfl rfl ?_;rintro _ rfl)|(refine cl_ rfl _ _ (within_D _ _ _) rfl rfl ?_;rintro _ rfl))|((with_reducible show Wk (AwStep _ _ _ _ _));first|(refine pln_ ?_))|((with_reducible show Wk (boolK _ _ _ _));first|(refine bk_ (fun h h'=>?_) (fun h h'=>?_)))|((with_reducible show Wk (_∧_));first|(refine and_ ?_ ?_))|fail)<;>(try refine nm_ ?_))
  all_goals (refine ⟨?_⟩)
  all_goals first|contradiction|rfl|(simp_all [taintB]<;>omega)|(simp [taintB, *]<;>omega)
theorem impl_ToleranceOk_D (t:TolerD):Spec Tryz.prog 255 [.agg (tolerCells t)] (fun d=>d = .sc (.bool (tolerB t))):=by
  unfold tolerCells
  refine sp_ (rs:= [.tmp 2]) (nt:=35) Tryz.func255 rfl fun X hX=>?_
  refine nm_ ?_
  repeat' ((first|contradiction|(with_reducible exact tt_)|((with_reducible show Wk (AwStepF _ _ _ _ _ _ _));first|(refine cl_ rfl _ _ (impl_LabelKeyOk_D _) rfl rfl ?_;rintro _ rfl)|(refine cl_ rfl _ _ (impl_LabelValueOk_D _) rfl rfl ?_;rintro _ rfl)|(refine cl_ rfl _ _ (within_D _ _ _) rfl rfl ?_;rintro _ rfl))|((with_reducible show Wk (AwStep _ _ _ _ _));first|(refine pln_ ?_))|((with_reducible show Wk (boolK _ _ _ _));first|(refine bk_ (fun h h'=>?_) (fun h h'=>?_)))|((with_reducible show Wk (_∧_));first|(refine and_ ?_ ?_))|fail)<;>(try refine nm_ ?_))
  all_goals (refine ⟨?_⟩)
  all_goals first|contradiction|(have e:=value_ne (v:=t.value) (by assumption);simp_all [tolerB];done)|rfl|(simp_all [tolerB]<;>omega)|(simp [tolerB, *]<;>omega)
theorem impl_SelectorOk_D (ns:List NeedD) (hn:ns.length≤1048576) (hv:∀ k,(ns.getD k default).values.length≤1048576):Spec Tryz.prog 141 [.sl ns.length (needsD ns)] (fun d=>d = .sc (.bool (needsB ns))):=by
  refine sp_ (rs:= [.tmp 2]) (nt:=33) Tryz.func141 rfl fun X hX=>?_
  refine nm_ ?_
  repeat' ((first|contradiction|(with_reducible exact tt_)|((with_reducible show Wk (AwStepF _ _ _ _ _ _ _));first|(refine cl_ rfl _ _ (impl_NeedOk_D (ns.getD k default) (hv _)) rfl rfl ?_;rintro _ rfl)|(refine cl_ rfl _ _ (impl_NeedLess_D (ns.getD (k - 1) default) (ns.getD k default) (hv _)) rfl rfl ?_;rintro _ rfl))|((with_reducible show Wk (AwStep _ _ _ _ _));first|(refine pln_ ?_))|((with_reducible show Wk (AwCode _ _ _ _ _));first|(refine wo_ (id:=4) [] [(0,true),(1,false),(2,true),(3,true),(4,true),(5,true),(6,true),(7,true),(8,true),(9,true),(10,true),(12,true),(11,false),(13,false),(14,true),(15,true),(16,true)] ?_)|(refine lpU_ 0xe1 (ι:=Nat) (fun k=> [(7,.sc (.int .i64 (k:Int)))]) (fun k=>k≤ns.length∧∀ j:Nat,j < k→needAt ns j=true) (fun k=>ns.length - k) 0 ?_ ?_;(focus (exact ⟨by omega,allN_zero⟩));rintro _ hN0 k hinv;(try dsimp only at hinv);obtain ⟨hk,hj⟩:=hinv;replace hj:=Lib.hid hj;skip))|((with_reducible show Wk (boolK _ _ _ _));first|(refine bk_ (fun h h'=>?_) (fun h h'=>?_)))|((with_reducible show Wk (_∧_));first|(refine and_ ?_ ?_))|(refine hN0.go (k+1) ?_ ?_;(focus (exact ⟨by show k+1≤ns.length;omega,allN_step hj.out (by unfold needAt nextB;simp_all)⟩));(focus (show ns.length - (k+1) < ns.length - k;omega)))|fail)<;>(try refine nm_ ?_))
  all_goals (refine ⟨?_⟩)
  all_goals first|contradiction|rfl|(have e:=allN_no (n:=ns.length) (p:=needAt ns) (k:=k) (by omega) (by unfold needAt nextB;simp_all);simp_all [needsB_eq]<;>omega)|(have e:=allN_yes (n:=ns.length) (p:=needAt ns) (by omega) hj.out;simp_all [needsB_eq]<;>omega)|(simp_all [needsB_eq]<;>omega)|(simp [needsB_eq, *]<;>omega)
theorem impl_TaintsOk_D (ts:List TaintD) (hn:ts.length≤1048576):Spec Tryz.prog 169 [.sl ts.length (taintsD ts)] (fun d=>d = .sc (.bool (taintsB ts))):=by
  have ex0:=@cmpTaint_ge
  refine sp_ (rs:= [.tmp 2]) (nt:=33) Tryz.func169 rfl fun X hX=>?_
  refine nm_ ?_
  repeat' ((first|contradiction|(with_reducible exact tt_)|((with_reducible show Wk (AwStepF _ _ _ _ _ _ _));first|(refine cl_ rfl _ _ (impl_TaintOk_D _) rfl rfl ?_;rintro _ rfl)|(refine cl_ rfl _ _ (impl_compareTaints_D _ _) rfl rfl ?_;rintro _ rfl))|((with_reducible show Wk (AwStep _ _ _ _ _));first|(refine pln_ ?_))|((with_reducible show Wk (AwCode _ _ _ _ _));first|(refine wo_ (id:=4) [] [(0,true),(1,false),(2,true),(3,true),(4,true),(5,true),(6,true),(7,true),(8,true),(9,true),(10,true),(12,true),(11,false),(13,false),(14,true),(15,true),(16,true)] ?_)|(refine lpU_ 0xe1 (ι:=Nat) (fun k=> [(7,.sc (.int .i64 (k:Int)))]) (fun k=>k≤ts.length∧∀ j:Nat,j < k→taintAt ts j=true) (fun k=>ts.length - k) 0 ?_ ?_;(focus (exact ⟨by omega,allN_zero⟩));rintro _ hN0 k hinv;(try dsimp only at hinv);obtain ⟨hk,hj⟩:=hinv;replace hj:=Lib.hid hj;skip))|((with_reducible show Wk (boolK _ _ _ _));first|(refine bk_ (fun h h'=>?_) (fun h h'=>?_)))|((with_reducible show Wk (_∧_));first|(refine and_ ?_ ?_))|(refine hN0.go (k+1) ?_ ?_;(focus (exact ⟨by show k+1≤ts.length;omega,allN_step hj.out (by unfold taintAt nextB;simp_all)⟩));(focus (show ts.length - (k+1) < ts.length - k;omega)))|fail)<;>(try refine nm_ ?_))
  all_goals clear ex0
  all_goals (refine ⟨?_⟩)
  all_goals first|contradiction|rfl|(have e:=allN_no (n:=ts.length) (p:=taintAt ts) (k:=k) (by omega) (by unfold taintAt nextB;simp_all);simp_all [taintsB_eq]<;>omega)|(have e:=allN_yes (n:=ts.length) (p:=taintAt ts) (by omega) hj.out;simp_all [taintsB_eq]<;>omega)|(simp_all [taintsB_eq]<;>omega)|(simp [taintsB_eq, *]<;>omega)
theorem impl_TolerancesOk_D (ts:List TolerD) (hn:ts.length≤1048576):Spec Tryz.prog 195 [.sl ts.length (tolersD ts)] (fun d=>d = .sc (.bool (tolersB ts))):=by
  have ex0:=@cmpToler_ge
  refine sp_ (rs:= [.tmp 2]) (nt:=33) Tryz.func195 rfl fun X hX=>?_
  refine nm_ ?_
  repeat' ((first|contradiction|(with_reducible exact tt_)|((with_reducible show Wk (AwStepF _ _ _ _ _ _ _));first|(refine cl_ rfl _ _ (impl_ToleranceOk_D _) rfl rfl ?_;rintro _ rfl)|(refine cl_ rfl _ _ (impl_compareTolerances_D _ _) rfl rfl ?_;rintro _ rfl))|((with_reducible show Wk (AwStep _ _ _ _ _));first|(refine pln_ ?_))|((with_reducible show Wk (AwCode _ _ _ _ _));first|(refine wo_ (id:=4) [] [(0,true),(1,false),(2,true),(3,true),(4,true),(5,true),(6,true),(7,true),(8,true),(9,true),(10,true),(12,true),(11,false),(13,false),(14,true),(15,true),(16,true)] ?_)|(refine lpU_ 0xe1 (ι:=Nat) (fun k=> [(7,.sc (.int .i64 (k:Int)))]) (fun k=>k≤ts.length∧∀ j:Nat,j < k→tolerAt ts j=true) (fun k=>ts.length - k) 0 ?_ ?_;(focus (exact ⟨by omega,allN_zero⟩));rintro _ hN0 k hinv;(try dsimp only at hinv);obtain ⟨hk,hj⟩:=hinv;replace hj:=Lib.hid hj;skip))|((with_reducible show Wk (boolK _ _ _ _));first|(refine bk_ (fun h h'=>?_) (fun h h'=>?_)))|((with_reducible show Wk (_∧_));first|(refine and_ ?_ ?_))|(refine hN0.go (k+1) ?_ ?_;(focus (exact ⟨by show k+1≤ts.length;omega,allN_step hj.out (by unfold tolerAt nextB;simp_all)⟩));(focus (show ts.length - (k+1) < ts.length - k;omega)))|fail)<;>(try refine nm_ ?_))
  all_goals clear ex0
  all_goals (refine ⟨?_⟩)
  all_goals first|contradiction|rfl|(have e:=allN_no (n:=ts.length) (p:=tolerAt ts) (k:=k) (by omega) (by unfold tolerAt nextB;simp_all);simp_all [tolersB_eq]<;>omega)|(have e:=allN_yes (n:=ts.length) (p:=tolerAt ts) (by omega) hj.out;simp_all [tolersB_eq]<;>omega)|(simp_all [tolersB_eq]<;>omega)|(simp [tolersB_eq, *]<;>omega)
end Go.Proofs.YtidjjfjhmlndjaaGreatDoor
