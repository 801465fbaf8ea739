/- Cl2 (what is wanted of them). -/
import Derived.Test.YtidjjfjhmlndjaaGreatDoorVCl1
namespace Go.Proofs.YtidjjfjhmlndjaaGreatDoor
open Go.RowKit
set_option linter.unusedVariables false
set_option linter.unusedSimpArgs false
set_option maxRecDepth 100000
set_option maxHeartbeats 1000000
def wordAt (s others:ByteArray) (k:Nat):Bool:=letterB (bytB s k)||amongB (bytB s k) others
theorem wordB_eq (s o:ByteArray):wordB s o=(decide (s.size≠0)&&(letterB (bytB s 0)&&(letterB (bytB s (s.size - 1))&&allB s.size (wordAt s o)))):=rfl
theorem spec_l14Word_D (s o:ByteArray) (hs:s.size≤1048576) (ho:o.size≤1048576):Spec Tryz.prog 210 [.sc (.string s),.sc (.string o)] (fun d=>d = .sc (.bool (wordB s o))):=by
  refine sp_ (rs:= [.tmp 4]) (nt:=54) Tryz.func210 rfl fun X hX=>?_
  refine nm_ ?_
  repeat' ((first|contradiction|(with_reducible exact tt_)|((with_reducible show Wk (AwStepF _ _ _ _ _ _ _));first|(refine cl_ rfl _ _ (l14Letter_D _) rfl rfl ?_;rintro _ rfl))|((with_reducible show Wk (AwStep _ _ _ _ _));first|(refine pln_ ?_))|((with_reducible show Wk (AwCode _ _ _ _ _));first|(refine wo_ (id:=10) [] [(0,true),(1,true),(2,true),(3,true),(4,true),(5,true),(6,true),(7,true),(8,true),(9,true),(10,true)] ?_)|(refine lpU_ 0x23 (ι:=Nat) (fun k=> [(5,.sc (.int .i64 (k:Int)))]) (fun k=>k≤s.size∧∀ j:Nat,j < k→wordAt s o j=true) (fun k=>s.size - k) 0 ?_ ?_;(focus (exact ⟨by omega,allN_zero⟩));rintro _ hN0 k hinv;(try dsimp only at hinv);obtain ⟨hk,hj⟩:=hinv;replace hj:=Lib.hid hj;skip)|(refine lpU_ 0xe3 (ι:=Nat × Bool) (fun ⟨j,ok⟩=> [(6,.sc (.bool ok)),(7,.sc (.int .i64 (j:Int)))]) (fun ⟨j,ok⟩=>j≤o.size∧ok=(letterB (bytB s k)||anyN j fun q=>bytB s k==bytB o q)) (fun ⟨j,ok⟩=>o.size - j) (0,letterB (bytB s k)) ?_ ?_;(focus (refine ⟨Nat.zero_le _,?_⟩;simp [anyN_zero]));rintro _ hN1 ⟨j,ok⟩ hinv;(try dsimp only at hinv);obtain ⟨hj1,hj2⟩:=hinv;replace hj2:=Lib.hid hj2;skip))|((with_reducible show Wk (boolK _ _ _ _));first|(refine bk_ (fun h h'=>?_) (fun h h'=>?_)))|((with_reducible show Wk (_∧_));first|(refine and_ ?_ ?_))|(refine hN0.go (k+1) ?_ ?_;(focus (exact ⟨by show k+1≤s.size;omega,allN_step hj.out (by unfold wordAt amongB;have e1:=hj2.out;obtain rfl:j=o.size:=(by omega);simp_all)⟩));(focus (show s.size - (k+1) < s.size - k;omega)))|(refine hN1.go ((j+1,_)) ?_ ?_;(focus (refine ⟨by show j+1≤o.size;omega,?_⟩;rw [anyN_succ,← Bool.or_assoc,← hj2.out];simp_all));(focus (show o.size - (j+1) < o.size - j;omega)))|fail)<;>(try refine nm_ ?_))
  all_goals (refine ⟨?_⟩)
  all_goals first|contradiction|rfl|(have e:=allN_no (n:=s.size) (p:=wordAt s o) (k:=k) (by omega) (by unfold wordAt amongB;have e1:=hj2.out;obtain rfl:j=o.size:=(by omega);simp_all);simp_all [wordB_eq]<;>omega)|(have e:=allN_yes (n:=s.size) (p:=wordAt s o) (by omega) hj.out;simp_all [wordB_eq]<;>omega)|(simp_all [wordB_eq]<;>omega)|(simp [wordB_eq, *]<;>omega)
theorem spec_LabelKeyOk_D (s:ByteArray):Spec Tryz.prog 209 [.sc (.string s)] (fun d=>d = .sc (.bool (keyB s))):=by
  refine sp_ (rs:= [.tmp 2]) (nt:=10) Tryz.func209 rfl fun X hX=>?_
  refine nm_ ?_
  repeat' ((first|contradiction|(with_reducible exact tt_)|((with_reducible show Wk (AwStepF _ _ _ _ _ _ _));first|(refine cl_ rfl _ _ (spec_l14Word_D _ _ (by first|assumption|omega|decide) (by first|assumption|omega|decide)) rfl rfl ?_;rintro _ rfl))|((with_reducible show Wk (AwStep _ _ _ _ _));first|(refine pln_ ?_))|((with_reducible show Wk (boolK _ _ _ _));first|(refine bk_ (fun h h'=>?_) (fun h h'=>?_)))|((with_reducible show Wk (_∧_));first|(refine and_ ?_ ?_))|fail)<;>(try refine nm_ ?_))
  all_goals (refine ⟨?_⟩)
  all_goals first|contradiction|rfl|(simp_all [keyB]<;>omega)|(simp [keyB, *]<;>omega)
theorem spec_LabelValueOk_D (s:ByteArray):Spec Tryz.prog 121 [.sc (.string s)] (fun d=>d = .sc (.bool (valueB s))):=by
  refine sp_ (rs:= [.tmp 2]) (nt:=14) Tryz.func121 rfl fun X hX=>?_
  refine nm_ ?_
  repeat' ((first|contradiction|(with_reducible exact tt_)|((with_reducible show Wk (AwStepF _ _ _ _ _ _ _));first|(refine cl_ rfl _ _ (spec_l14Word_D _ _ (by first|assumption|omega|decide) (by first|assumption|omega|decide)) rfl rfl ?_;rintro _ rfl))|((with_reducible show Wk (AwStep _ _ _ _ _));first|(refine pln_ ?_))|((with_reducible show Wk (boolK _ _ _ _));first|(refine bk_ (fun h h'=>?_) (fun h h'=>?_)))|((with_reducible show Wk (_∧_));first|(refine and_ ?_ ?_))|fail)<;>(try refine nm_ ?_))
  all_goals (refine ⟨?_⟩)
  all_goals first|contradiction|rfl|(simp_all [valueB]<;>omega)|(simp [valueB, *]<;>omega)
def labelAt (ls:List LabelD) (i:Nat):Bool:=keyB (ls.getD i default).key&&(valueB (ls.getD i default).value&&nextB (fun a b=>lessB a.key b.key) ls i)
theorem labelsB_eq (ls:List LabelD):labelsB ls=(decide (ls.length≤6)&&allB ls.length (labelAt ls)):=rfl
def valAt (vs:List ByteArray) (i:Nat):Bool:=valueB (vs.getD i default)&&nextB lessB vs i
theorem needB_eq (n:NeedD):needB n=(keyB n.key&&(inB n.op 1 4&&if 3≤n.op then ((n.values.length:Int)==0) else (inB n.values.length 1 4&&allB n.values.length (valAt n.values)))):=rfl
def needAt (ns:List NeedD) (i:Nat):Bool:=needB (ns.getD i default)&&nextB needLess ns i
theorem needsB_eq (ns:List NeedD):needsB ns=(decide (ns.length≤4)&&allB ns.length (needAt ns)):=rfl
def taintAt (ns:List TaintD) (i:Nat):Bool:=taintB (ns.getD i default)&&nextB taintLess ns i
theorem taintsB_eq (ns:List TaintD):taintsB ns=(decide (ns.length≤4)&&allB ns.length (taintAt ns)):=rfl
def tolerAt (ns:List TolerD) (i:Nat):Bool:=tolerB (ns.getD i default)&&nextB tolerLess ns i
theorem tolersB_eq (ns:List TolerD):tolersB ns=(decide (ns.length≤4)&&allB ns.length (tolerAt ns)):=rfl
theorem spec_LabelsOk_D (ls:List LabelD):Spec Tryz.prog 246 [.sl ls.length (labelsD ls)] (fun d=>d = .sc (.bool (labelsB ls))):=by
  refine sp_ (rs:= [.tmp 2]) (nt:=47) Tryz.func246 rfl fun X hX=>?_
  refine nm_ ?_
  repeat' ((first|contradiction|(with_reducible exact tt_)|((with_reducible show Wk (AwStepF _ _ _ _ _ _ _));first|(refine cl_ rfl _ _ (spec_LabelKeyOk_D _) rfl rfl ?_;rintro _ rfl)|(refine cl_ rfl _ _ (spec_LabelValueOk_D _) rfl rfl ?_;rintro _ rfl))|((with_reducible show Wk (AwStep _ _ _ _ _));first|(refine pln_ ?_))|((with_reducible show Wk (AwCode _ _ _ _ _));first|(refine wtr_ (id:=6) [] (.early 0 (.early 1 (.early 2 (.early 3 (.early 4 (.one 5 (.early 6 (.early 7 (.early 8 (.early 9 (.early 10 (.early 11 (.one 12 (.one 13 (.early 14 (.early 15 (.early 16 (.early 17 (.early 18 (.early 19 (.early 20 (.early 21 (.early 22 (.early 23 (.early 24 (.early 26 (.early 27 (.early 28 (.early 29 (.two 25 (.one 30 (.early 31 (.early 32 (.early 33 .done)))) 30 (.one 25 (.early 31 (.early 32 (.early 33 .done)))))))))))))))))))))))))))))))))) ?_)|(refine lpU_ 0x9 (ι:=Nat) (fun k=> [(3,.sc (.int .i64 (k:Int)))]) (fun k=>k≤ls.length∧∀ j:Nat,j < k→labelAt ls j=true) (fun k=>ls.length - k) 0 ?_ ?_;(focus (exact ⟨by omega,allN_zero⟩));rintro _ hN0 k hinv;(try dsimp only at hinv);obtain ⟨hk,hj⟩:=hinv;replace hj:=Lib.hid hj;skip))|((with_reducible show Wk (boolK _ _ _ _));first|(refine bk_ (fun h h'=>?_) (fun h h'=>?_)))|((with_reducible show Wk (_∧_));first|(refine and_ ?_ ?_))|(refine hN0.go (k+1) ?_ ?_;(focus (exact ⟨by show k+1≤ls.length;omega,allN_step hj.out (by unfold labelAt nextB;simp_all)⟩));(focus (show ls.length - (k+1) < ls.length - k;omega)))|fail)<;>(try refine nm_ ?_))
  all_goals (refine ⟨?_⟩)
  all_goals first|contradiction|rfl|(have e:=allN_no (n:=ls.length) (p:=labelAt ls) (k:=k) (by omega) (by unfold labelAt nextB;simp_all);simp_all [labelsB_eq]<;>omega)|(have e:=allN_yes (n:=ls.length) (p:=labelAt ls) (by omega) hj.out;simp_all [labelsB_eq]<;>omega)|(simp_all [labelsB_eq]<;>omega)|(simp [labelsB_eq, *]<;>omega)
theorem spec_NeedOk_D (n:NeedD):Spec Tryz.prog 211 [.agg (needCells n)] (fun d=>d = .sc (.bool (needB n))):=by
  unfold needCells
  refine sp_ (rs:= [.tmp 2]) (nt:=58) Tryz.func211 rfl fun X hX=>?_
  refine nm_ ?_
  repeat' ((first|contradiction|(with_reducible exact tt_)|((with_reducible show Wk (AwStepF _ _ _ _ _ _ _));first|(refine cl_ rfl _ _ (spec_LabelKeyOk_D _) rfl rfl ?_;rintro _ rfl)|(refine cl_ rfl _ _ (l01In_D _ _ _) rfl rfl ?_;rintro _ rfl)|(refine cl_ rfl _ _ (spec_LabelValueOk_D _) rfl rfl ?_;rintro _ rfl))|((with_reducible show Wk (AwStep _ _ _ _ _));first|(refine pln_ ?_))|((with_reducible show Wk (AwCode _ _ _ _ _));first|(refine wtr_ (id:=10) [] (.early 0 (.early 1 (.early 2 (.early 3 (.early 4 (.one 5 (.early 6 (.early 7 (.early 8 (.early 9 (.early 10 (.early 11 (.early 12 (.early 13 (.early 14 (.early 15 (.early 17 (.early 18 (.early 19 (.early 20 (.two 16 (.one 21 (.early 22 (.early 23 (.early 24 .done)))) 21 (.one 16 (.early 22 (.early 23 (.early 24 .done))))))))))))))))))))))))) ?_)|(refine lpU_ 0xa (ι:=Nat) (fun k=> [(3,.sc (.int .i64 (k:Int)))]) (fun k=>k≤n.values.length∧∀ j:Nat,j < k→valAt n.values j=true) (fun k=>n.values.length - k) 0 ?_ ?_;(focus (exact ⟨by omega,allN_zero⟩));rintro _ hN0 k hinv;(try dsimp only at hinv);obtain ⟨hk,hj⟩:=hinv;replace hj:=Lib.hid hj;skip))|((with_reducible show Wk (boolK _ _ _ _));first|(refine bk_ (fun h h'=>?_) (fun h h'=>?_)))|((with_reducible show Wk (_∧_));first|(refine and_ ?_ ?_))|(refine hN0.go (k+1) ?_ ?_;(focus (exact ⟨by show k+1≤n.values.length;omega,allN_step hj.out (by unfold valAt nextB;simp_all)⟩));(focus (show n.values.length - (k+1) < n.values.length - k;omega)))|fail)<;>(try refine nm_ ?_))
  all_goals (refine ⟨?_⟩)
  all_goals first|contradiction|rfl|(have e:=allN_no (n:=n.values.length) (p:=valAt n.values) (k:=k) (by omega) (by unfold valAt nextB;simp_all);simp_all [needB_eq]<;>omega)|(have e:=allN_yes (n:=n.values.length) (p:=valAt n.values) (by omega) hj.out;simp_all [needB_eq]<;>omega)|(simp_all [needB_eq]<;>omega)|(simp [needB_eq, *]<;>omega)
theorem spec_TaintOk_D (t:TaintD):Spec Tryz.prog 230 [.agg (taintCells t)] (fun d=>d = .sc (.bool (taintB t))):=by
  unfold taintCells
  refine sp_ (rs:= [.tmp 2]) (nt:=16) Tryz.func230 rfl fun X hX=>?_
  refine nm_ ?_
  repeat' ((first|contradiction|(with_reducible exact tt_)|((with_reducible show Wk (AwStepF _ _ _ _ _ _ _));first|(refine cl_ rfl _ _ (spec_LabelKeyOk_D _) rfl rfl ?_;rintro _ rfl)|(refine cl_ rfl _ _ (spec_LabelValueOk_D _) rfl rfl ?_;rintro _ rfl)|(refine cl_ rfl _ _ (l01In_D _ _ _) rfl rfl ?_;rintro _ rfl))|((with_reducible show Wk (AwStep _ _ _ _ _));first|(refine pln_ ?_))|((with_reducible show Wk (boolK _ _ _ _));first|(refine bk_ (fun h h'=>?_) (fun h h'=>?_)))|((with_reducible show Wk (_∧_));first|(refine and_ ?_ ?_))|fail)<;>(try refine nm_ ?_))
  all_goals (refine ⟨?_⟩)
  all_goals first|contradiction|rfl|(simp_all [taintB]<;>omega)|(simp [taintB, *]<;>omega)
theorem spec_l16Less_D (a b:TaintD):Spec Tryz.prog 152 [.agg (taintCells a),.agg (taintCells b)] (fun d=>d = .sc (.bool (taintLess a b))):=by
  unfold taintCells
  refine sp_ (rs:= [.tmp 4]) (nt:=30) Tryz.func152 rfl fun X hX=>?_
  refine nm_ ?_
  repeat' ((first|contradiction|(with_reducible exact tt_)|((with_reducible show Wk (AwStep _ _ _ _ _));first|(refine pln_ ?_))|((with_reducible show Wk (boolK _ _ _ _));first|(refine bk_ (fun h h'=>?_) (fun h h'=>?_)))|((with_reducible show Wk (_∧_));first|(refine and_ ?_ ?_))|fail)<;>(try refine nm_ ?_))
  all_goals (refine ⟨?_⟩)
  all_goals first|contradiction|rfl|(simp_all [taintLess]<;>omega)|(simp [taintLess, *]<;>omega)
theorem spec_TaintsOk_D (ts:List TaintD):Spec Tryz.prog 153 [.sl ts.length (taintsD ts)] (fun d=>d = .sc (.bool (taintsB ts))):=by
  refine sp_ (rs:= [.tmp 2]) (nt:=36) Tryz.func153 rfl fun X hX=>?_
  refine nm_ ?_
  repeat' ((first|contradiction|(with_reducible exact tt_)|((with_reducible show Wk (AwStepF _ _ _ _ _ _ _));first|(refine cl_ rfl _ _ (spec_TaintOk_D _) rfl rfl ?_;rintro _ rfl)|(refine cl_ rfl _ _ (spec_l16Less_D _ _) rfl rfl ?_;rintro _ rfl))|((with_reducible show Wk (AwStep _ _ _ _ _));first|(refine pln_ ?_))|((with_reducible show Wk (AwCode _ _ _ _ _));first|(refine wtr_ (id:=6) [] (.early 0 (.early 1 (.early 2 (.early 3 (.one 4 (.early 5 (.early 6 (.early 7 (.early 8 (.early 9 (.early 10 (.early 11 (.early 12 (.early 13 (.early 15 (.early 16 (.early 17 (.two 14 (.one 18 (.one 19 (.early 20 (.early 21 (.early 22 .done))))) 18 (.one 14 (.one 19 (.early 20 (.early 21 (.early 22 .done))))))))))))))))))))))) ?_)|(refine lpU_ 0x9 (ι:=Nat) (fun k=> [(3,.sc (.int .i64 (k:Int)))]) (fun k=>k≤ts.length∧∀ j:Nat,j < k→taintAt ts j=true) (fun k=>ts.length - k) 0 ?_ ?_;(focus (exact ⟨by omega,allN_zero⟩));rintro _ hN0 k hinv;(try dsimp only at hinv);obtain ⟨hk,hj⟩:=hinv;replace hj:=Lib.hid hj;skip))|((with_reducible show Wk (boolK _ _ _ _));first|(refine bk_ (fun h h'=>?_) (fun h h'=>?_)))|((with_reducible show Wk (_∧_));first|(refine and_ ?_ ?_))|(refine hN0.go (k+1) ?_ ?_;(focus (exact ⟨by show k+1≤ts.length;omega,allN_step hj.out (by unfold taintAt nextB;simp_all)⟩));(focus (show ts.length - (k+1) < ts.length - k;omega)))|fail)<;>(try refine nm_ ?_))
  all_goals (refine ⟨?_⟩)
  all_goals first|contradiction|rfl|(have e:=allN_no (n:=ts.length) (p:=taintAt ts) (k:=k) (by omega) (by unfold taintAt nextB;simp_all);simp_all [taintsB_eq]<;>omega)|(have e:=allN_yes (n:=ts.length) (p:=taintAt ts) (by omega) hj.out;simp_all [taintsB_eq]<;>omega)|(simp_all [taintsB_eq]<;>omega)|(simp [taintsB_eq, *]<;>omega)
theorem spec_ToleranceOk_D (t:TolerD):Spec Tryz.prog 251 [.agg (tolerCells t)] (fun d=>d = .sc (.bool (tolerB t))):=by
  unfold tolerCells
  refine sp_ (rs:= [.tmp 2]) (nt:=31) Tryz.func251 rfl fun X hX=>?_
  refine nm_ ?_
  repeat' ((first|contradiction|(with_reducible exact tt_)|((with_reducible show Wk (AwStepF _ _ _ _ _ _ _));first|(refine cl_ rfl _ _ (l01In_D _ _ _) rfl rfl ?_;rintro _ rfl)|(refine cl_ rfl _ _ (spec_LabelKeyOk_D _) rfl rfl ?_;rintro _ rfl)|(refine cl_ rfl _ _ (spec_LabelValueOk_D _) rfl rfl ?_;rintro _ rfl))|((with_reducible show Wk (AwStep _ _ _ _ _));first|(refine pln_ ?_))|((with_reducible show Wk (boolK _ _ _ _));first|(refine bk_ (fun h h'=>?_) (fun h h'=>?_)))|((with_reducible show Wk (_∧_));first|(refine and_ ?_ ?_))|fail)<;>(try refine nm_ ?_))
  all_goals (refine ⟨?_⟩)
  all_goals first|contradiction|rfl|(simp_all [tolerB]<;>omega)|(simp [tolerB, *]<;>omega)
theorem spec_l16Before_D (a b:TolerD):Spec Tryz.prog 318 [.agg (tolerCells a),.agg (tolerCells b)] (fun d=>d = .sc (.bool (tolerLess a b))):=by
  unfold tolerCells
  refine sp_ (rs:= [.tmp 4]) (nt:=37) Tryz.func318 rfl fun X hX=>?_
  refine nm_ ?_
  repeat' ((first|contradiction|(with_reducible exact tt_)|((with_reducible show Wk (AwStep _ _ _ _ _));first|(refine pln_ ?_))|((with_reducible show Wk (boolK _ _ _ _));first|(refine bk_ (fun h h'=>?_) (fun h h'=>?_)))|((with_reducible show Wk (_∧_));first|(refine and_ ?_ ?_))|fail)<;>(try refine nm_ ?_))
  all_goals (refine ⟨?_⟩)
  all_goals first|contradiction|rfl|(simp_all [tolerLess]<;>omega)|(simp [tolerLess, *]<;>omega)
theorem spec_TolerancesOk_D (ts:List TolerD):Spec Tryz.prog 247 [.sl ts.length (tolersD ts)] (fun d=>d = .sc (.bool (tolersB ts))):=by
  refine sp_ (rs:= [.tmp 2]) (nt:=36) Tryz.func247 rfl fun X hX=>?_
  refine nm_ ?_
  repeat' ((first|contradiction|(with_reducible exact tt_)|((with_reducible show Wk (AwStepF _ _ _ _ _ _ _));first|(refine cl_ rfl _ _ (spec_ToleranceOk_D _) rfl rfl ?_;rintro _ rfl)|(refine cl_ rfl _ _ (spec_l16Before_D _ _) rfl rfl ?_;rintro _ rfl))|((with_reducible show Wk (AwStep _ _ _ _ _));first|(refine pln_ ?_))|((with_reducible show Wk (AwCode _ _ _ _ _));first|(refine wtr_ (id:=6) [] (.early 0 (.early 1 (.early 2 (.early 3 (.one 4 (.early 5 (.early 6 (.early 7 (.early 8 (.early 9 (.early 10 (.early 11 (.early 12 (.early 13 (.early 15 (.early 16 (.early 17 (.two 14 (.one 18 (.one 19 (.early 20 (.early 21 (.early 22 .done))))) 18 (.one 14 (.one 19 (.early 20 (.early 21 (.early 22 .done))))))))))))))))))))))) ?_)|(refine lpU_ 0x9 (ι:=Nat) (fun k=> [(3,.sc (.int .i64 (k:Int)))]) (fun k=>k≤ts.length∧∀ j:Nat,j < k→tolerAt ts j=true) (fun k=>ts.length - k) 0 ?_ ?_;(focus (exact ⟨by omega,allN_zero⟩));rintro _ hN0 k hinv;(try dsimp only at hinv);obtain ⟨hk,hj⟩:=hinv;replace hj:=Lib.hid hj;skip))|((with_reducible show Wk (boolK _ _ _ _));first|(refine bk_ (fun h h'=>?_) (fun h h'=>?_)))|((with_reducible show Wk (_∧_));first|(refine and_ ?_ ?_))|(refine hN0.go (k+1) ?_ ?_;(focus (exact ⟨by show k+1≤ts.length;omega,allN_step hj.out (by unfold tolerAt nextB;simp_all)⟩));(focus (show ts.length - (k+1) < ts.length - k;omega)))|fail)<;>(try refine nm_ ?_))
  all_goals (refine ⟨?_⟩)
  all_goals first|contradiction|rfl|(have e:=allN_no (n:=ts.length) (p:=tolerAt ts) (k:=k) (by omega) (by unfold tolerAt nextB;simp_all);simp_all [tolersB_eq]<;>omega)|(have e:=allN_yes (n:=ts.length) (p:=tolerAt ts) (by omega) hj.out;simp_all [tolersB_eq]<;>omega)|(simp_all [tolersB_eq]<;>omega)|(simp [tolersB_eq, *]<;>omega)
end Go.Proofs.YtidjjfjhmlndjaaGreatDoor
