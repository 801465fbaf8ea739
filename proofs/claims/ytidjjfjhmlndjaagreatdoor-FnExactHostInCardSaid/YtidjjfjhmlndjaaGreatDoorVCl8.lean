/- Cl8 (what is wanted of them). -/
import Derived.Test.YtidjjfjhmlndjaaGreatDoorVCl1
import Derived.Test.YtidjjfjhmlndjaaGreatDoorVAwb
namespace Go.Proofs.YtidjjfjhmlndjaaGreatDoor
open Go.RowKit
set_option linter.unusedVariables false
set_option linter.unusedSimpArgs false
set_option maxRecDepth 100000
set_option maxHeartbeats 1000000
theorem eqB_refl (s:ByteArray):eqB s s=true:=by simp [eqB]
theorem laws_eqLabel_D (x:LabelD):Spec Tryz.prog 170 [.agg (labelCells x),.agg (labelCells x)] (fun d=>d = .sc (.bool true)):=by
  unfold labelCells
  have ex0:=@eqB_refl
  refine sp_ (rs:= [.tmp 4]) (nt:=15) Tryz.func170 rfl fun X hX=>?_
  refine nm_ ?_
  repeat' ((first|contradiction|(with_reducible exact tt_)|((with_reducible show Wk (AwStep _ _ _ _ _));first|(refine pln_ ?_))|((with_reducible show Wk (boolK _ _ _ _));first|(refine bk_ (fun h h'=>?_) (fun h h'=>?_)))|((with_reducible show Wk (_∧_));first|(refine and_ ?_ ?_))|fail)<;>(try refine nm_ ?_))
  all_goals clear ex0
  all_goals (refine ⟨?_⟩)
  all_goals first|contradiction|rfl|(exfalso;omega)
theorem laws_eqLabelS_D (xs:List LabelD) (hn:xs.length≤9223372036854775807):Spec Tryz.prog 84 [.sl xs.length (labelsD xs),.sl xs.length (labelsD xs)] (fun d=>d = .sc (.bool true)):=by
  have ex0:=@eqB_refl
  refine sp_ (rs:= [.tmp 4]) (nt:=27) Tryz.func84 rfl fun X hX=>?_
  refine nm_ ?_
  repeat' ((first|contradiction|(with_reducible exact tt_)|((with_reducible show Wk (AwStepF _ _ _ _ _ _ _));first|(refine cl_ rfl _ _ (laws_eqLabel_D (xs.getD k default)) rfl rfl ?_;rintro _ rfl))|((with_reducible show Wk (AwStep _ _ _ _ _));first|(refine pln_ ?_))|((with_reducible show Wk (AwCode _ _ _ _ _));first|(refine wo_ (id:=6) [] [(0,true),(1,true),(2,true),(3,true),(4,true),(5,true),(6,true),(7,true),(8,false),(9,true)] ?_)|(refine lpU_ 0x23 (ι:=Nat) (fun k=> [(5,.sc (.int .i64 (k:Int)))]) (fun k=>k≤xs.length) (fun k=>xs.length - k) 0 ?_ ?_;(focus (omega));rintro _ hN0 k hinv;(try dsimp only at hinv);have hk:k≤xs.length:=hinv;skip))|((with_reducible show Wk (boolK _ _ _ _));first|(refine bk_ (fun h h'=>?_) (fun h h'=>?_)))|((with_reducible show Wk (_∧_));first|(refine and_ ?_ ?_))|(refine hN0.go (k+1) ?_ ?_;(focus (show k+1≤xs.length;omega));(focus (show xs.length - (k+1) < xs.length - k;omega)))|fail)<;>(try refine nm_ ?_))
  all_goals clear ex0
  all_goals (refine ⟨?_⟩)
  all_goals first|contradiction|rfl|(exfalso;omega)
theorem laws_eqTaint_D (x:TaintD):Spec Tryz.prog 171 [.agg (taintCells x),.agg (taintCells x)] (fun d=>d = .sc (.bool true)):=by
  unfold taintCells
  have ex0:=@eqB_refl
  refine sp_ (rs:= [.tmp 4]) (nt:=20) Tryz.func171 rfl fun X hX=>?_
  refine nm_ ?_
  repeat' ((first|contradiction|(with_reducible exact tt_)|((with_reducible show Wk (AwStep _ _ _ _ _));first|(refine pln_ ?_))|((with_reducible show Wk (boolK _ _ _ _));first|(refine bk_ (fun h h'=>?_) (fun h h'=>?_)))|((with_reducible show Wk (_∧_));first|(refine and_ ?_ ?_))|fail)<;>(try refine nm_ ?_))
  all_goals clear ex0
  all_goals (refine ⟨?_⟩)
  all_goals first|contradiction|rfl|(exfalso;omega)
theorem laws_eqTaintS_D (xs:List TaintD) (hn:xs.length≤9223372036854775807):Spec Tryz.prog 85 [.sl xs.length (taintsD xs),.sl xs.length (taintsD xs)] (fun d=>d = .sc (.bool true)):=by
  have ex0:=@eqB_refl
  refine sp_ (rs:= [.tmp 4]) (nt:=27) Tryz.func85 rfl fun X hX=>?_
  refine nm_ ?_
  repeat' ((first|contradiction|(with_reducible exact tt_)|((with_reducible show Wk (AwStepF _ _ _ _ _ _ _));first|(refine cl_ rfl _ _ (laws_eqTaint_D (xs.getD k default)) rfl rfl ?_;rintro _ rfl))|((with_reducible show Wk (AwStep _ _ _ _ _));first|(refine pln_ ?_))|((with_reducible show Wk (AwCode _ _ _ _ _));first|(refine wo_ (id:=6) [] [(0,true),(1,true),(2,true),(3,true),(4,true),(5,true),(6,true),(7,true),(8,false),(9,true)] ?_)|(refine lpU_ 0x23 (ι:=Nat) (fun k=> [(5,.sc (.int .i64 (k:Int)))]) (fun k=>k≤xs.length) (fun k=>xs.length - k) 0 ?_ ?_;(focus (omega));rintro _ hN0 k hinv;(try dsimp only at hinv);have hk:k≤xs.length:=hinv;skip))|((with_reducible show Wk (boolK _ _ _ _));first|(refine bk_ (fun h h'=>?_) (fun h h'=>?_)))|((with_reducible show Wk (_∧_));first|(refine and_ ?_ ?_))|(refine hN0.go (k+1) ?_ ?_;(focus (show k+1≤xs.length;omega));(focus (show xs.length - (k+1) < xs.length - k;omega)))|fail)<;>(try refine nm_ ?_))
  all_goals clear ex0
  all_goals (refine ⟨?_⟩)
  all_goals first|contradiction|rfl|(exfalso;omega)
theorem laws_eqStringS_D (xs:List ByteArray) (hn:xs.length≤9223372036854775807):Spec Tryz.prog 11 [.sl xs.length (strsD xs),.sl xs.length (strsD xs)] (fun d=>d = .sc (.bool true)):=by
  have ex0:=@eqB_refl
  refine sp_ (rs:= [.tmp 4]) (nt:=26) Tryz.func11 rfl fun X hX=>?_
  refine nm_ ?_
  repeat' ((first|contradiction|(with_reducible exact tt_)|((with_reducible show Wk (AwStep _ _ _ _ _));first|(refine pln_ ?_))|((with_reducible show Wk (AwCode _ _ _ _ _));first|(refine wo_ (id:=6) [] [(0,true),(1,true),(2,true),(3,true),(4,true),(5,true),(6,true),(7,true),(8,true)] ?_)|(refine lpU_ 0x23 (ι:=Nat) (fun k=> [(5,.sc (.int .i64 (k:Int)))]) (fun k=>k≤xs.length) (fun k=>xs.length - k) 0 ?_ ?_;(focus (omega));rintro _ hN0 k hinv;(try dsimp only at hinv);have hk:k≤xs.length:=hinv;skip))|((with_reducible show Wk (boolK _ _ _ _));first|(refine bk_ (fun h h'=>?_) (fun h h'=>?_)))|((with_reducible show Wk (_∧_));first|(refine and_ ?_ ?_))|(refine hN0.go (k+1) ?_ ?_;(focus (show k+1≤xs.length;omega));(focus (show xs.length - (k+1) < xs.length - k;omega)))|fail)<;>(try refine nm_ ?_))
  all_goals clear ex0
  all_goals (refine ⟨?_⟩)
  all_goals first|contradiction|rfl|(exfalso;omega)
def NeedD.rl (x:NeedD):Prop:=x.values.length≤9223372036854775807
def PodD.rl (x:PodD):Prop:=x.labels.length≤9223372036854775807∧x.tolers.length≤9223372036854775807∧x.needs.length≤9223372036854775807∧∀ k,(x.needs.getD k default).rl
def HostD.rl (x:HostD):Prop:=x.labels.length≤9223372036854775807∧x.taints.length≤9223372036854775807
def ClusterD.rl (c:ClusterD):Prop:=c.hosts.length≤9223372036854775807∧c.pods.length≤9223372036854775807∧(∀ k,(c.hosts.getD k default).rl)∧∀ k,(c.pods.getD k default).pod.rl
theorem laws_eqHost_D (x:HostD) (hr:x.rl):Spec Tryz.prog 30 [.agg (hostCells x),.agg (hostCells x)] (fun d=>d = .sc (.bool true)):=by
  unfold hostCells
  have ex0:=@eqB_refl
  refine sp_ (rs:= [.tmp 4]) (nt:=37) Tryz.func30 rfl fun X hX=>?_
  refine nm_ ?_
  repeat' ((first|contradiction|(with_reducible exact tt_)|((with_reducible show Wk (AwStepF _ _ _ _ _ _ _));first|(refine cl_ rfl _ _ (laws_eqLabelS_D _ hr.1) rfl rfl ?_;rintro _ rfl)|(refine cl_ rfl _ _ (laws_eqTaintS_D _ hr.2) rfl rfl ?_;rintro _ rfl))|((with_reducible show Wk (AwStep _ _ _ _ _));first|(refine pln_ ?_))|((with_reducible show Wk (boolK _ _ _ _));first|(refine bk_ (fun h h'=>?_) (fun h h'=>?_)))|((with_reducible show Wk (_∧_));first|(refine and_ ?_ ?_))|fail)<;>(try refine nm_ ?_))
  all_goals clear ex0
  all_goals (refine ⟨?_⟩)
  all_goals first|contradiction|rfl|(exfalso;omega)
end Go.Proofs.YtidjjfjhmlndjaaGreatDoor
