/- Dr5 (what is wanted of them). -/
import Derived.Test.YtgoeccemfgniiaaGreatUDr4
namespace Go.Proofs.YtgoeccemfgniiaaGreat
open Go.RowKit
set_option linter.unusedVariables false
set_option linter.unusedSimpArgs false
set_option maxRecDepth 100000
set_option maxHeartbeats 4000000
theorem nn_t {b:Bool} (h:(!b)=false):b=true:=by cases b;cases h;rfl
theorem spec_HostNormal_D (x:HostD) (hw:HostW x):Spec Tryz.prog 268 [.agg (hostCells x)] (fun d=>∃ q b,HostW q∧(b=true→hostB q=true)∧d = .tup [.agg (hostCells q),.sc (.bool b)]):=by
  have hll:=hw.labels.len;have htl:=hw.taints.len;unfold hostCells
  refine spG_ (rs:= [.cell 2 119,.tmp 3]) (nt:=40) Tryz.func268 rfl fun X hX=>?_
  refine nm_ ?_
  repeat' ((first|contradiction|(with_reducible exact tt_)|((with_reducible show Wk (AwStepF _ _ _ _ _ _ _));first|(refine cl_ rfl _ _ (spec_l17Host_D x hw) rfl rfl ?_;rintro _ rfl;(unfold hostCells))|(refine awH_ rfl (spec_SortLabels_D x.labels hw.labels) [] ?_;rintro _ _ _ ⟨r1,b1,hr1,rfl,rfl,rfl⟩ _;(have hr1l:=hr1.row.len;replace hr1:=Lib.hid hr1))|(refine awH_ rfl (spec_SortTaints_D x.taints hw.taints) [] ?_;rintro _ _ _ ⟨r2,b2,hr2,rfl,rfl,rfl⟩ _;(have hr2l:=hr2.row.len;replace hr2:=Lib.hid hr2))|(refine afz_ [3,4] ?_;refine nm_ ?_;refine cl_ rfl _ _ (spec_HostOk_D ⟨x.name,r1,x.cpu,x.mem,x.slots,r2⟩) rfl rfl ?_;rintro _ rfl))|((with_reducible show Wk (AwStep _ _ _ _ _));first|(refine pln_ ?_))|((with_reducible show Wk (boolK _ _ _ _));first|(refine bk_ (fun h h'=>?_) (fun h h'=>?_)))|((with_reducible show Wk (_∧_));first|(refine and_ ?_ ?_))|((with_reducible show Wk (retOkG _ _ _ _));first|(refine rgg_ [] ?_))|fail)<;>(try refine nm_ ?_))
  all_goals (refine ⟨?_⟩)
  all_goals first|contradiction|(exfalso;omega)|(refine ⟨x,false,hw,?_,rfl⟩;intro h;cases h;done)|(refine ⟨⟨x.name,r1,x.cpu,x.mem,x.slots,r2⟩,true,⟨hw.name,hr1.out.row,hw.cpu,hw.mem,hw.slots,hr2.out.row⟩,?_,rfl⟩;intro _;first|assumption|exact nn_t (by assumption))
theorem spec_PodNormal_D (p:PodD) (hw:PodW p):Spec Tryz.prog 272 [.agg (podCells p)] (fun d=>∃ q b,PodW q∧(b=true→podB q=true)∧d = .tup [.agg (podCells q),.sc (.bool b)]):=by
  have hll:=hw.labels.len;have hnl:=hw.needs.len;have htl:=hw.tolers.len;unfold podCells
  refine spG_ (rs:= [.cell 2 123,.tmp 3]) (nt:=54) Tryz.func272 rfl fun X hX=>?_
  refine nm_ ?_
  repeat' ((first|contradiction|(with_reducible exact tt_)|((with_reducible show Wk (AwStepF _ _ _ _ _ _ _));first|(refine cl_ rfl _ _ (spec_l17Pod_D p hw) rfl rfl ?_;rintro _ rfl;(unfold podCells))|(refine awH_ rfl (spec_SortLabels_D p.labels hw.labels) [] ?_;rintro _ _ _ ⟨r1,b1,hr1,rfl,rfl,rfl⟩ _;(have hr1l:=hr1.row.len;replace hr1:=Lib.hid hr1))|(refine awH_ rfl (spec_SortNeeds_D p.needs hw.needs) [] ?_;rintro _ _ _ ⟨r2,b2,hr2,rfl,rfl,rfl⟩ _;(have hr2l:=hr2.row.len;replace hr2:=Lib.hid hr2))|(refine awH_ rfl (spec_SortTolerances_D p.tolers hw.tolers) [] ?_;rintro _ _ _ ⟨r3,b3,hr3,rfl,rfl,rfl⟩ _;(have hr3l:=hr3.row.len;replace hr3:=Lib.hid hr3))|(refine afz_ [3,4,5] ?_;refine nm_ ?_;refine cl_ rfl _ _ (spec_PodOk_D ⟨p.name,r1,p.cpu,p.mem,p.rank,r2,r3⟩) rfl rfl ?_;rintro _ rfl))|((with_reducible show Wk (AwStep _ _ _ _ _));first|(refine pln_ ?_))|((with_reducible show Wk (boolK _ _ _ _));first|(refine bk_ (fun h h'=>?_) (fun h h'=>?_)))|((with_reducible show Wk (_∧_));first|(refine and_ ?_ ?_))|((with_reducible show Wk (retOkG _ _ _ _));first|(refine rgg_ [] ?_))|fail)<;>(try refine nm_ ?_))
  all_goals (refine ⟨?_⟩)
  all_goals first|contradiction|(exfalso;omega)|(refine ⟨p,false,hw,?_,rfl⟩;intro h;cases h;done)|(refine ⟨⟨p.name,r1,p.cpu,p.mem,p.rank,r2,r3⟩,true,⟨hw.name,hr1.out.row,hw.cpu,hw.mem,hw.rank,hr2.out.row,hr3.out.row⟩,?_,rfl⟩;intro _;first|assumption|exact nn_t (by assumption))
end Go.Proofs.YtgoeccemfgniiaaGreat
