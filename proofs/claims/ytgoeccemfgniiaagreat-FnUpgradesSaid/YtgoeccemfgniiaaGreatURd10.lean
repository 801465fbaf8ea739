/- Rd10, Scp, Sc1 (what is wanted of them). -/
import Derived.Test.YtgoeccemfgniiaaGreatURd7
import Derived.Test.YtgoeccemfgniiaaGreatURd8
import Derived.Test.YtgoeccemfgniiaaGreatURds
import Derived.Test.YtgoeccemfgniiaaGreatUSn2
import Derived.Test.YtgoeccemfgniiaaGreatUSwx
import Derived.Test.YtgoeccemfgniiaaGreatUTr2
import Derived.Test.YtgoeccemfgniiaaGreatURd5
import Derived.Test.YtgoeccemfgniiaaGreatUSn3
import Derived.Test.YtgoeccemfgniiaaGreatUDr9
namespace Go.Proofs.YtgoeccemfgniiaaGreat
open Go.RowKit
set_option linter.unusedVariables false
set_option linter.unusedSimpArgs false
set_option maxRecDepth 100000
set_option maxHeartbeats 4000000
theorem impl_ReadSnap1_C (s:ByteArray) (hz:s.size≤1048576):SpecH Tryz.prog 53 [.sc (.string s)] [] 0 (fun d os' nb'=>∃ c ok,Fin (rd1 s) c ok∧(c.fine∧c.hosts.length≤8∧c.pods.length≤12∧(ok=true→expB c 1=true))∧d = .tup [.agg [.own 0 0 (c.hosts).length,.own 1 0 (c.pods).length,.sc (.int .i64 c.next),.sc (.int .i64 c.w1),.sc (.int .i64 c.w2),.sc (.int .i64 c.w3)],.sc (.bool ok)]∧os' = [(0,⟨119,6,(c.hosts).length,hostsT (c.hosts)⟩),(1,⟨125,9,(c.pods).length,placedsT (c.pods)⟩)]∧nb' = 2):=by
  have h:=impl_ReadSnap1_D s hz
  rw [snap1_ag] at h
  exact h
theorem spec_ReadSnap1_C (s:ByteArray) (hz:s.size≤1048576):Spec Tryz.prog 135 [.sc (.string s)] (fun d=>∃ c ok,Fin (rd1 s) c ok∧c.fine∧d = .tup [c.d,.sc (.bool ok)]):=spec_ReadSnap1_D s hz
theorem impl_Upgraded12_D (s:ByteArray) (hz:s.size≤1048576):Spec Tryz.prog 50 [.sc (.string s)] (fun d=>∃ t ok,Txt (up12 s) t ok∧t.size≤60000∧d = .tup [.sc (.string t),.sc (.bool ok)]):=by
  refine sp_ (rs:= [.tmp 2,.tmp 3]) (nt:=15) Tryz.func50 rfl fun X hX=>?_
  refine nm_ ?_
  repeat' ((first|contradiction|(with_reducible exact tt_)|(refine bk_ (fun h h'=>?_) (fun h h'=>?_))|(refine and_ ?_ ?_)|(refine pln_ ?_)|(refine awH_ rfl (impl_ReadSnap1_C s hz) [] ?_;rintro _ _ _ ⟨c,ok,hf,⟨hc,h8,h12,hk⟩,rfl,rfl,rfl⟩ _)|(refine bo_ rfl [.cool 0,.frz 0,.cool 1,.frz 1] (impl_Snap2Text_D c hc) ?_;rintro _ ⟨rfl,hs⟩;refine ⟨rfl,?_⟩)|fail)<;>(try refine nm_ ?_))
  all_goals (refine ⟨?_⟩)
  all_goals first|contradiction|(exact ⟨_,_,up12_no hf (by first|assumption|simp_all),(by decide),rfl⟩)|(exact ⟨_,_,up12_yes hf (by first|assumption|simp_all),snap2T_le hc,rfl⟩)
theorem spec_Upgraded12_D (s:ByteArray) (hz:s.size≤1048576):Spec Tryz.prog 60 [.sc (.string s)] (fun d=>∃ t ok,Txt (up12 s) t ok∧t.size≤60000∧d = .tup [.sc (.string t),.sc (.bool ok)]):=by
  refine sp_ (rs:= [.tmp 2,.tmp 3]) (nt:=15) Tryz.func60 rfl fun X hX=>?_
  refine nm_ ?_
  repeat' ((first|contradiction|(with_reducible exact tt_)|(refine bk_ (fun h h'=>?_) (fun h h'=>?_))|(refine and_ ?_ ?_)|(refine pln_ ?_)|(refine cl_ rfl _ _ (spec_ReadSnap1_C s hz) rfl rfl ?_;rintro _ ⟨c,ok,hf,hc,rfl⟩;(unfold ClusterD.d))|(refine cl_ rfl _ _ (spec_Snap2Text_D c hc) rfl rfl ?_;rintro _ ⟨rfl,hs⟩)|fail)<;>(try refine nm_ ?_))
  all_goals (refine ⟨?_⟩)
  all_goals first|contradiction|(exact ⟨_,_,up12_no hf (by first|assumption|simp_all),(by decide),rfl⟩)|(exact ⟨_,_,up12_yes hf (by first|assumption|simp_all),snap2T_le hc,rfl⟩)
end Go.Proofs.YtgoeccemfgniiaaGreat
namespace Go.Proofs.YtgoeccemfgniiaaGreat
open Go.RowKit
set_option linter.unusedVariables false
theorem eqB_same (a:ByteArray):eqB a a=true:=by unfold eqB;exact beq_self_eq_true _
theorem sameRow_self {α:Type} [Inhabited α] {p:α→α→Bool} (h:∀ x,p x x=true) (a:List α):sameRow p a a=true:=by
  unfold sameRow
  rw [decide_eq_true rfl,Bool.true_and]
  exact allN_yes (Nat.le_refl _) fun j _=>h _
theorem labelSame_self (a:LabelD):labelSame a a=true:=by unfold labelSame;rw [eqB_same,eqB_same];rfl
theorem taintSame_self (a:TaintD):taintSame a a=true:=by unfold taintSame;rw [eqB_same,eqB_same,beq_self_eq_true];rfl
theorem tolerSame_self (a:TolerD):tolerSame a a=true:=by unfold tolerSame;rw [eqB_same,eqB_same,beq_self_eq_true,beq_self_eq_true];rfl
theorem needSame_self (a:NeedD):needSame a a=true:=by
  rw [← cmpNeed_0,beq_iff_eq]
  have:=cmpNeed_neg a a
  omega
theorem podSame_self (a:PodD):podSame a a=true:=by
  unfold podSame
  rw [eqB_same,sameRow_self labelSame_self,sameRow_self needSame_self,sameRow_self tolerSame_self,beq_self_eq_true,beq_self_eq_true,beq_self_eq_true];rfl
theorem hostSame_self (a:HostD):hostSame a a=true:=by
  unfold hostSame
  rw [eqB_same,sameRow_self labelSame_self,sameRow_self taintSame_self,beq_self_eq_true,beq_self_eq_true,beq_self_eq_true];rfl
theorem placedSame_self (a:PlacedD):placedSame a a=true:=by unfold placedSame;rw [eqB_same,beq_self_eq_true,podSame_self];rfl
theorem clSame_self (c:ClusterD):clSame c c=true:=by
  unfold clSame
  rw [sameRow_self hostSame_self,sameRow_self placedSame_self,beq_self_eq_true,beq_self_eq_true,beq_self_eq_true,beq_self_eq_true];rfl
theorem snapAt_3 (c:ClusterD):snapAtT c 3=snapT c:=rfl
theorem exp_next {c:ClusterD}{k:Int} (hk:k < 3) (h:expB c k=true):expB c (k+1)=true:=by
  have hr:=exp_rng h
  rcases (by omega:k=1∨k=2) with rfl|rfl
  · exact exp_up12 h
  · exact exp_up23 h
end Go.Proofs.YtgoeccemfgniiaaGreat
namespace Go.Proofs.YtgoeccemfgniiaaGreat
open Go.RowKit
set_option linter.unusedVariables false
set_option linter.unusedSimpArgs false
set_option maxRecDepth 100000
set_option maxHeartbeats 4000000
theorem laws_big_D (bs:List Int) (hb:bs.length≤9223372036854775807):Spec Tryz.prog 28 [.sl bs.length (u8D bs)] (fun d=>d = .sc (.bool (decide ((1048576:Int) < bs.length)))):=by
  refine sp_ (rs:= [.tmp 2]) (nt:=6) Tryz.func28 rfl fun X hX=>?_
  refine nm_ ?_
  repeat' ((first|contradiction|(with_reducible exact tt_)|((with_reducible show Wk (AwStep _ _ _ _ _));first|(refine pln_ ?_))|((with_reducible show Wk (boolK _ _ _ _));first|(refine bk_ (fun h h'=>?_) (fun h h'=>?_)))|((with_reducible show Wk (_∧_));first|(refine and_ ?_ ?_))|fail)<;>(try refine nm_ ?_))
  all_goals (refine ⟨?_⟩)
  all_goals first|rfl
end Go.Proofs.YtgoeccemfgniiaaGreat
