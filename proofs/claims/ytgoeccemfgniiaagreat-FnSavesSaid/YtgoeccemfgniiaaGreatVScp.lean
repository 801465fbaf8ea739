/- Scp, Sc1, Bu1 (what is wanted of them). -/
import Derived.Test.YtgoeccemfgniiaaGreatVSwx
import Derived.Test.YtgoeccemfgniiaaGreatVTr2
import Derived.Test.YtgoeccemfgniiaaGreatVRd9
import Derived.Test.YtgoeccemfgniiaaGreatVSn4
import Derived.Test.YtgoeccemfgniiaaGreatVDr9
import Derived.Test.YtgoeccemfgniiaaGreatVRdf
import Derived.Test.YtgoeccemfgniiaaGreatVAwc
namespace Go.Proofs.YtgoeccemfgniiaaGreat
open Go.RowKit
set_option linter.unusedVariables false
theorem eqB_same (a:ByteArray):eqB a a=true:=by unfold eqB;exact beq_self_eq_true _
theorem sameRow_self {α:Type} [Inhabited α] {p:α→α→Bool} (h:∀ x,p x x=true) (a:List α):sameRow p a a=true:=by
  unfold sameRow
  rw [decide_eq_true rfl,Bool.true_and]
  exact allN_yes (Nat.le_refl _) fun j _=>h _
theorem labelSame_self (a:LabelD):labelSame a a=true:=by unfold labelSame;rw [eqB_same,eqB_same];rfl
theorem taintSame_self (a:TaintD):taintSame a a=true:=by unfold taintSame;rw [eqB_same,eqB_same,beq_self_eq_true];rfl
theorem tolerSame_self (a:TolerD):tolerSame a a=true:=by unfold tolerSame;rw [eqB_same,eqB_same,beq_self_eq_true,beq_self_eq_true];rfl
theorem needSame_self (a:NeedD):needSame a a=true:=by
  rw [← cmpNeed_0,beq_iff_eq]
  have:=cmpNeed_neg a a
  omega
theorem podSame_self (a:PodD):podSame a a=true:=by
  unfold podSame
  rw [eqB_same,sameRow_self labelSame_self,sameRow_self needSame_self,sameRow_self tolerSame_self,beq_self_eq_true,beq_self_eq_true,beq_self_eq_true];rfl
theorem hostSame_self (a:HostD):hostSame a a=true:=by
  unfold hostSame
  rw [eqB_same,sameRow_self labelSame_self,sameRow_self taintSame_self,beq_self_eq_true,beq_self_eq_true,beq_self_eq_true];rfl
theorem placedSame_self (a:PlacedD):placedSame a a=true:=by unfold placedSame;rw [eqB_same,beq_self_eq_true,podSame_self];rfl
theorem clSame_self (c:ClusterD):clSame c c=true:=by
  unfold clSame
  rw [sameRow_self hostSame_self,sameRow_self placedSame_self,beq_self_eq_true,beq_self_eq_true,beq_self_eq_true,beq_self_eq_true];rfl
theorem st_read {c q:ClusterD}{code:Int}{k:Int} (hf:c.fine) (he:expB c k=true) (h:St8 (storedT c k) q code):c=q∧0=code:=by
  have e:=(stored_at hf he).symm.trans h.eq
  injection e with e1 e2
  exact ⟨e1,e2⟩
theorem storedN_0 {c:ClusterD}{k:Int} (he:expB c k=true):storedN c k=0:=by unfold storedN;rw [if_pos he]
end Go.Proofs.YtgoeccemfgniiaaGreat
namespace Go.Proofs.YtgoeccemfgniiaaGreat
open Go.RowKit
set_option linter.unusedVariables false
set_option linter.unusedSimpArgs false
set_option maxRecDepth 100000
set_option maxHeartbeats 4000000
theorem laws_big_D (bs:List Int) (hb:bs.length≤9223372036854775807):Spec Tryz.prog 28 [.sl bs.length (u8D bs)] (fun d=>d = .sc (.bool (decide ((1048576:Int) < bs.length)))):=by
  refine sp_ (rs:= [.tmp 2]) (nt:=6) Tryz.func28 rfl fun X hX=>?_
  refine nm_ ?_
  repeat' ((first|contradiction|(with_reducible exact tt_)|((with_reducible show Wk (AwStep _ _ _ _ _));first|(refine pln_ ?_))|((with_reducible show Wk (boolK _ _ _ _));first|(refine bk_ (fun h h'=>?_) (fun h h'=>?_)))|((with_reducible show Wk (_∧_));first|(refine and_ ?_ ?_))|fail)<;>(try refine nm_ ?_))
  all_goals (refine ⟨?_⟩)
  all_goals first|rfl
end Go.Proofs.YtgoeccemfgniiaaGreat
namespace Go.Proofs.YtgoeccemfgniiaaGreat
open Go.RowKit
set_option linter.unusedVariables false
set_option linter.unusedSimpArgs false
set_option maxRecDepth 100000
set_option maxHeartbeats 4000000
theorem tdiv8 {m:Int} (h:0≤m):m.tdiv 8=m / 8:=Int.tdiv_eq_ediv_of_nonneg h
def qk (p i:Nat):Nat:=(p+i) / 8
theorem k8 {p:Int}{i:Nat} (hp:0≤p) (hl:p+(i:Int)≤4611686018427387904):IntKind.i64.wrap ((p+(i:Int)).tdiv 8)=(qk p.toNat i:Int):=by
  unfold qk;rw [tdiv8 (by omega),wrap_in _ (by omega)];omega
/-- What reads as d reads as d' too. -/
def ASub (d d':D):Prop:=∀ (E:Env) (w:World) (v:Value),Rep E w d v→Rep E w d' v
def ASub1 (d d':D):Prop:=d' = d∨(d = .sc (.slice none 0 0)∧d' = .sl 0 [])
theorem ASub1.rep1 {d d':D} (h:ASub1 d d') {E:Env}{w:World}{v:Value} (hr:Rep1 E w d v):Rep1 E w d' v:=by
  rcases h with rfl|⟨rfl,rfl⟩
  · exact hr
  · obtain ⟨rfl,_⟩:=hr
    exact .sl 0 [] none 0 [] rfl (Nat.le_refl _) (Nat.zero_le _) (fun j u h=>by simp at h) (fun j d u h=>by simp at h)
theorem ASub.agg {cs cs':List D} (hl:cs.length=cs'.length) (h:∀ (j:Nat) (d d':D),cs[j]? = some d→cs'[j]? = some d'→ASub1 d d'):ASub (.agg cs) (.agg cs'):=by
  rintro E w v ⟨us,h1,h2,h3⟩
  refine ⟨us,h1,h2.trans hl,fun j d' u hd' hu=>?_⟩
  cases hc:cs[j]? with
  |none=>
    have:=List.getElem?_eq_none_iff.1 hc
    have h4:j < cs'.length:=(List.getElem?_eq_some_iff.1 hd').1
    omega
  |some d=>exact ⟨(h j d d' hc hd').rep1 (h3 j d u hc hu).1,(h3 j d u hc hu).2⟩
theorem Spec.argsA {P:Program}{f:FuncId}{ds ds':List D}{Q:D→Prop} (h:Spec P f ds' Q) (hl:ds.length=ds'.length) (hs:∀ (j:Nat) (d d':D),ds[j]? = some d→ds'[j]? = some d'→ASub d d'):Spec P f ds Q:=by
  refine ⟨h.1,fun ro w args h1 h2 h3=>h.2 ro w args h1 (h2.trans hl) fun j d' hd'=>?_⟩
  cases hc:ds[j]? with
  |none=>
    have:=List.getElem?_eq_none_iff.1 hc
    have h4:j < ds'.length:=(List.getElem?_eq_some_iff.1 hd').1
    omega
  |some d=>exact hs j d d' hc hd' _ _ _ (h3 j d hc)
def nilC:D:=.agg [.sc (.slice none 0 0),.sc (.slice none 0 0),.sc (.int .i64 0),.sc (.int .i64 0),.sc (.int .i64 0),.sc (.int .i64 0)]
theorem nilC_sub:ASub nilC zeroC.d:=by
  refine ASub.agg rfl fun j d d' h h'=>?_
  match j with
  |0=>exact .inr ⟨(Option.some.inj h).symm,(Option.some.inj h').symm⟩
  |1=>exact .inr ⟨(Option.some.inj h).symm,(Option.some.inj h').symm⟩
  |2|3|4|5=>exact .inl ((Option.some.inj h').symm.trans (Option.some.inj h))
  |n+6=>cases h
theorem same_nil:Spec Tryz.prog 34 [zeroC.d,nilC] (fun d=>d = .sc (.bool true)):=by
  have h:=spec_SameCluster_D zeroC zeroC zero_fine
  rw [clSame_self] at h
  refine Spec.argsA h rfl fun j d d' h1 h2=>?_
  match j with
  |0=>rw [← Option.some.inj h1,← Option.some.inj h2];exact fun _ _ _ h=>h
  |1=>rw [← Option.some.inj h1,← Option.some.inj h2];exact nilC_sub
  |n+2=>cases h1
end Go.Proofs.YtgoeccemfgniiaaGreat
