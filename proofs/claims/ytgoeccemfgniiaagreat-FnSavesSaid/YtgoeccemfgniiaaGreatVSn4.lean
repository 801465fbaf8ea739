/- Cl9, Cl10, Sn4, Mk2, Dk6 (what is wanted of them). -/
import Derived.Test.YtgoeccemfgniiaaGreatVCl1
import Derived.Test.YtgoeccemfgniiaaGreatVAwb
import Derived.Test.YtgoeccemfgniiaaGreatVSn2
import Derived.Test.YtgoeccemfgniiaaGreatVSn3
import Derived.Test.YtgoeccemfgniiaaGreatVNn
import Derived.Test.YtgoeccemfgniiaaGreatProg
import Derived.Test.YtgoeccemfgniiaaGreatVAwa
import Derived.Lib.SlBytesConst
import Derived.Test.YtgoeccemfgniiaaGreatVDk5
import Derived.Test.YtgoeccemfgniiaaGreatVDk
import Derived.Test.YtgoeccemfgniiaaGreatVNo
import Derived.Test.YtgoeccemfgniiaaGreatVNm
namespace Go.Proofs.YtgoeccemfgniiaaGreat
open Go.RowKit
set_option linter.unusedVariables false
set_option linter.unusedSimpArgs false
set_option maxRecDepth 100000
set_option maxHeartbeats 1000000
def oneCell (x:ByteArray):List D:= [.sc (.string x)]
end Go.Proofs.YtgoeccemfgniiaaGreat
namespace Go.Proofs.YtgoeccemfgniiaaGreat
open Go.RowKit
set_option linter.unusedVariables false
set_option linter.unusedSimpArgs false
set_option maxRecDepth 100000
set_option maxHeartbeats 1000000
def LabelD.fine (x:LabelD):Prop:=strOk x.key∧strOk x.value
structure PlacedD.fine (x:PlacedD):Prop where
  pod:x.pod.fine
  on:strOk x.on
  seq:intOk x.seq
end Go.Proofs.YtgoeccemfgniiaaGreat
namespace Go.Proofs.YtgoeccemfgniiaaGreat
open Go.RowKit
set_option linter.unusedVariables false
set_option linter.unusedSimpArgs false
set_option maxRecDepth 100000
set_option maxHeartbeats 1000000
def storedT (c:ClusterD) (k:Int):ByteArray:=if expB c k then frameB k (snapAtT c k) else ⟨#[]⟩
def storedN (c:ClusterD) (k:Int):Int:=if expB c k then 0 else 8
theorem storedT_size (c:ClusterD) (k:Int):(storedT c k).size≤20000:=by
  unfold storedT;split
  · exact frameB_size _ _
  · exact Nat.zero_le _
theorem stored_bad {c:ClusterD}{k:Int} (h:(!(expB c k))=true):storedT c k=⟨#[]⟩∧storedN c k=8:=by
  unfold storedT storedN;revert h;generalize expB c k=b;cases b<;>simp
theorem stored_ok {c:ClusterD}{k:Int} (h:(!(expB c k))=false):storedT c k=frameB k (snapAtT c k)∧storedN c k=0:=by
  unfold storedT storedN;revert h;generalize expB c k=b;cases b<;>simp
theorem spec_StoredText_D (c:ClusterD) (k:Int) (hc:c.fine):Spec Tryz.prog 63 [c.d,.sc (.int .i64 k)] (fun d=>d = .tup [.sc (.string (storedT c k)),.sc (.int .i64 (storedN c k))]∧(storedT c k).size≤20000):=by
  unfold ClusterD.d
  refine sp_ (rs:= [.tmp 4,.tmp 5]) (nt:=16) Tryz.func63 rfl fun X hX=>?_
  refine nm_ ?_
  repeat' ((first|contradiction|(with_reducible exact tt_)|((with_reducible show Wk (AwStepF _ _ _ _ _ _ _));first|(refine cl_ rfl _ _ (spec_Expressible_D c k hc) rfl rfl ?_;rintro _ rfl)|(refine cl_ rfl _ _ (spec_SnapAt_D c k hc) rfl rfl ?_;rintro _ ⟨rfl,hz⟩)|(refine cl_ rfl _ _ (spec_FrameText_D _ _) rfl rfl ?_;rintro _ ⟨rfl,hz⟩))|((with_reducible show Wk (AwStep _ _ _ _ _));first|(refine pln_ ?_))|((with_reducible show Wk (boolK _ _ _ _));first|(refine bk_ (fun h h'=>?_) (fun h h'=>?_)))|((with_reducible show Wk (_∧_));first|(refine and_ ?_ ?_))|fail)<;>(try refine nm_ ?_))
  all_goals (refine ⟨?_⟩)
  all_goals first|contradiction|(exact storedT_size c k)|(rw [(stored_bad (by assumption)).1,(stored_bad (by assumption)).2])|(rw [(stored_ok (by assumption)).1,(stored_ok (by assumption)).2])
theorem impl_StoredText_D (c:ClusterD) (k:Int) (hc:c.fine):Spec Tryz.prog 37 [c.d,.sc (.int .i64 k)] (fun d=>d = .tup [.sc (.string (storedT c k)),.sc (.int .i64 (storedN c k))]∧(storedT c k).size≤20000):=by
  unfold ClusterD.d
  refine sp_ (rs:= [.tmp 4,.tmp 5]) (nt:=16) Tryz.func37 rfl fun X hX=>?_
  refine nm_ ?_
  repeat' ((first|contradiction|(with_reducible exact tt_)|((with_reducible show Wk (AwStepF _ _ _ _ _ _ _));first|(refine cl_ rfl _ _ (impl_Expressible_D c k hc) rfl rfl ?_;rintro _ rfl)|(refine cl_ rfl _ _ (impl_SnapAt_D c k hc) rfl rfl ?_;rintro _ ⟨rfl,hz⟩)|(refine cl_ rfl _ _ (impl_FrameText_D _ _) rfl rfl ?_;rintro _ ⟨rfl,hz⟩))|((with_reducible show Wk (AwStep _ _ _ _ _));first|(refine pln_ ?_))|((with_reducible show Wk (boolK _ _ _ _));first|(refine bk_ (fun h h'=>?_) (fun h h'=>?_)))|((with_reducible show Wk (_∧_));first|(refine and_ ?_ ?_))|fail)<;>(try refine nm_ ?_))
  all_goals (refine ⟨?_⟩)
  all_goals first|contradiction|(exact storedT_size c k)|(rw [(stored_bad (by assumption)).1,(stored_bad (by assumption)).2])|(rw [(stored_ok (by assumption)).1,(stored_ok (by assumption)).2])
end Go.Proofs.YtgoeccemfgniiaaGreat
namespace Go.Proofs.YtgoeccemfgniiaaGreat
open Go.RowKit
set_option linter.unusedVariables false
set_option linter.unusedSimpArgs false
set_option maxRecDepth 100000
set_option maxHeartbeats 1000000
/-- How many marks a row takes, at most. -/
structure Few {α:Type} (P:α→Prop) (xs:List α):Prop where
  out:∀ x,x ∈ xs→P x
theorem Few.head {α:Type}{P:α→Prop}{x:α}{r:List α} (h:Few P (x::r)):P x:=h.out x (List.mem_cons_self ..)
end Go.Proofs.YtgoeccemfgniiaaGreat
namespace Go.Proofs.YtgoeccemfgniiaaGreat
open Go.RowKit
set_option linter.unusedVariables false
set_option linter.unusedSimpArgs false
set_option maxRecDepth 100000
set_option maxHeartbeats 4000000
def svR (fs:List FileD) (c:ClusterD) (k:Int):List FileD × Int:=if storedN c k=0 then tillR fs (storedT c k) 3 else (fs,storedN c k)
theorem sv_0 {fs:List FileD}{c:ClusterD}{k:Int} (h:storedN c k=0):svR fs c k=tillR fs (storedT c k) 3:=if_pos h
theorem sv_1 {fs:List FileD}{c:ClusterD}{k:Int} (h:¬ storedN c k=0):svR fs c k=(fs,storedN c k):=if_neg h
theorem impl_SaveCluster_D (fs:List FileD) (c:ClusterD) (k:Int) (hc:c.fine) (hf:DiskF fs) (hn:fs.length≤1048576):SpecH Tryz.prog 17 [.agg [.sl fs.length (filesD fs)],c.d,.sc (.int .i64 k)] [] 0 (fun d os' nb'=>d = .tup [.agg [.own 0 0 (svR fs c k).1.length],.sc (.int .i64 (svR fs c k).2)]∧os' = [(0,⟨160,3,((svR fs c k).1).length,filesD ((svR fs c k).1)⟩)]∧nb' = 1):=by
  unfold ClusterD.d
  refine spH_ (rs:= [.cell 6 35,.tmp 7]) (nt:=26) Tryz.func17 rfl fun X hX=>?_
  refine nm_ ?_
  repeat' ((first|contradiction|(with_reducible exact tt_)|((with_reducible show Wk (AwStepF _ _ _ _ _ _ _));first|(refine cl_ rfl _ _ (impl_StoredText_D c k hc) rfl rfl ?_;rintro _ ⟨rfl,hts⟩)|(refine awH_ rfl (impl_copyDisk_D fs hf.len) [] ?_;rintro _ _ _ ⟨rfl,rfl,rfl⟩ _)|(refine awH_ rfl (impl_SavedTill_D fs (storedT c k) 3 (by omega) hf hn) [] ?_;rintro _ _ _ ⟨rfl,rfl,rfl⟩ _))|((with_reducible show Wk (AwStep _ _ _ _ _));first|(refine pln_ ?_))|((with_reducible show Wk (boolK _ _ _ _));first|(refine bk_ (fun h h'=>?_) (fun h h'=>?_)))|((with_reducible show Wk (_∧_));first|(refine and_ ?_ ?_))|((with_reducible show Wk (retOkH _ _ _ _ _));first|(refine rh_ [2] ?_;refine nm_ ?_;fail_if_success (show Wk False))|(refine rh_ [3] ?_;refine nm_ ?_;fail_if_success (show Wk False))|(refine rh_ [4] ?_;refine nm_ ?_;fail_if_success (show Wk False)))|fail)<;>(try refine nm_ ?_))
  all_goals (refine ⟨?_⟩)
  all_goals first|contradiction|(exfalso;omega)|(rw [sv_0 (by omega)]<;>first|exact ⟨rfl,rfl,rfl⟩|rfl)|(rw [sv_1 (by omega)]<;>first|exact ⟨rfl,rfl,rfl⟩|rfl)
end Go.Proofs.YtgoeccemfgniiaaGreat
