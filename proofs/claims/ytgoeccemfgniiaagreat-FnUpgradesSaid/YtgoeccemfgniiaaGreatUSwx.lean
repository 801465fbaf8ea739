/- Swx (what is wanted of them). -/
import Derived.Test.YtgoeccemfgniiaaGreatUDk
import Derived.Test.YtgoeccemfgniiaaGreatUCl6
import Derived.Test.YtgoeccemfgniiaaGreatUCl11
import Derived.Test.YtgoeccemfgniiaaGreatUCl1
import Derived.Test.YtgoeccemfgniiaaGreatUAwb
namespace Go.Proofs.YtgoeccemfgniiaaGreat
open Go.RowKit
theorem lessB_asym {a b:ByteArray} (h:lessB a b=true):lessB b a=false:=by
  cases h2:lessB b a with
  |false=>rfl
  |true=>have:=lessB_tr h h2;rw [lessB_irr] at this;cases this
theorem cmpB_neg (a b:ByteArray):cmpB b a=-cmpB a b:=by
  rw [cmpB_if,cmpB_if a b]
  cases h1:lessB a b with
  |true=>rw [lessB_asym h1];rfl
  |false=>cases h2:lessB b a<;>rfl
theorem cmpI_neg (a b:Int):cmpI b a=-cmpI a b:=by
  unfold cmpI
  split<;>split<;>(try split)<;>omega
theorem cmpVals_neg:∀ a b:List ByteArray,cmpVals b a=-cmpVals a b
  | [], []=>rfl
  | [],_::_=>rfl
  |_::_, []=>rfl
  |x::r,y::q=>by
    unfold cmpVals
    rw [cmpB_neg x y,cmpVals_neg r q]
    by_cases h:cmpB x y=0
    · simp [h]
    · have h2:¬ -cmpB x y=0:=by omega
      simp [h,h2]
theorem cmpNeed_neg (a b:NeedD):cmpNeed b a=-cmpNeed a b:=by
  unfold cmpNeed
  rw [or3_eq,or3_eq,cmpB_neg a.key b.key,cmpI_neg a.op b.op,cmpVals_neg a.values b.values]
  by_cases h:cmpB a.key b.key=0
  · by_cases h2:cmpI a.op b.op=0
    · simp [h,h2]
    · have h3:¬ -cmpI a.op b.op=0:=by omega
      simp [h,h2,h3]
  · have h2:¬ -cmpB a.key b.key=0:=by omega
    simp [h,h2]
/-- Needs are the same where neither comes ahead of the other. -/
def needSame (a b:NeedD):Bool:=!needLess a b&&!needLess b a
theorem cmpNeed_0 (a b:NeedD):(cmpNeed a b==0)=needSame a b:=by
  unfold needSame
  rw [← cmpNeed_lt a b,← cmpNeed_lt b a,cmpNeed_neg a b]
  generalize cmpNeed a b=c
  rw [Bool.eq_iff_iff]
  simp only [beq_iff_eq,Bool.and_eq_true,Bool.not_eq_true',decide_eq_false_iff_not]
  omega
/-- Two rows of a length, same place by place. -/
def sameRow {α:Type} [Inhabited α] (p:α→α→Bool) (a b:List α):Bool:=decide (a.length=b.length)&&allB a.length fun k=>p (a.getD k default) (b.getD k default)
theorem same_no {α:Type} [Inhabited α] {p:α→α→Bool}{a b:List α} (h:¬ a.length=b.length):sameRow p a b=false:=by unfold sameRow;rw [decide_eq_false h];rfl
theorem same_at {α:Type} [Inhabited α] {p:α→α→Bool}{a b:List α}{k:Nat} (hk:k < a.length) (h:p (a.getD k default) (b.getD k default)=false):sameRow p a b=false:=by unfold sameRow;rw [allN_no hk h,Bool.and_false]
theorem same_yes {α:Type} [Inhabited α] {p:α→α→Bool}{a b:List α}{k:Nat} (hl:a.length=b.length) (hk:a.length≤k) (h:∀ j:Nat,j < k→p (a.getD j default) (b.getD j default)=true):sameRow p a b=true:=by unfold sameRow;rw [allN_yes hk h,decide_eq_true hl];rfl
def labelSame (a b:LabelD):Bool:=eqB a.key b.key&&eqB a.value b.value
def taintSame (a b:TaintD):Bool:=eqB a.key b.key&&(eqB a.value b.value&&(a.effect==b.effect))
def tolerSame (a b:TolerD):Bool:=eqB a.key b.key&&((a.equal==b.equal)&&(eqB a.value b.value&&(a.effect==b.effect)))
def podSame (a b:PodD):Bool:=eqB a.name b.name&&(sameRow labelSame a.labels b.labels&&((a.cpu==b.cpu)&&((a.mem==b.mem)&&((a.rank==b.rank)&&(sameRow needSame a.needs b.needs&&sameRow tolerSame a.tolers b.tolers)))))
def hostSame (a b:HostD):Bool:=eqB a.name b.name&&(sameRow labelSame a.labels b.labels&&((a.cpu==b.cpu)&&((a.mem==b.mem)&&((a.slots==b.slots)&&sameRow taintSame a.taints b.taints))))
def placedSame (a b:PlacedD):Bool:=eqB a.on b.on&&((a.seq==b.seq)&&podSame a.pod b.pod)
def clSame (a b:ClusterD):Bool:=sameRow hostSame a.hosts b.hosts&&(sameRow placedSame a.pods b.pods&&((a.next==b.next)&&((a.w1==b.w1)&&((a.w2==b.w2)&&(a.w3==b.w3)))))
end Go.Proofs.YtgoeccemfgniiaaGreat
namespace Go.Proofs.YtgoeccemfgniiaaGreat
open Go.RowKit
set_option linter.unusedVariables false
set_option linter.unusedSimpArgs false
set_option maxRecDepth 100000
set_option maxHeartbeats 4000000
theorem not_t {b:Bool} (h:(!b)=true):b=false:=by cases b;rfl;cases h
theorem not_f {b:Bool} (h:(!b)=false):b=true:=by cases b;cases h;rfl
theorem spec_SameLabels_D (a b:List LabelD) (ha:a.length≤1048576):Spec Tryz.prog 191 [.sl a.length (labelsD a),.sl b.length (labelsD b)] (fun d=>d = .sc (.bool (sameRow labelSame a b))):=by
  refine sp_ (rs:= [.tmp 4]) (nt:=26) Tryz.func191 rfl fun X hX=>?_
  refine nm_ ?_
  repeat' ((first|contradiction|(with_reducible exact tt_)|(refine bk_ (fun h h'=>?_) (fun h h'=>?_))|(refine and_ ?_ ?_)|(refine pln_ ?_)|(refine eqg_ rfl ?_)|(refine wo_ (id:=6) [] [(0,true),(1,true),(2,true),(3,true),(4,true),(5,true),(6,true),(7,true),(8,false)] ?_)|(refine lpU_ 0x23 (ι:=Nat) (fun k=> [(5,.sc (.int .i64 (k:Int)))]) (fun k=>k≤a.length∧∀ j:Nat,j < k→(fun j=>labelSame (a.getD j default) (b.getD j default)) j=true) (fun k=>a.length - k) 0 ?_ ?_;(focus (exact ⟨by omega,allN_zero⟩));rintro _ hN0 k hinv;(try dsimp only at hinv);obtain ⟨hk,hj⟩:=hinv;replace hj:=Lib.hid hj;skip)|(refine hN0.go (k+1) ?_ ?_;(focus (exact ⟨by show k+1≤a.length;omega,allN_step hj.out (by unfold labelSame;first|assumption|exact not_t (by assumption)|exact not_f (by assumption)|(simp_all;done)|(simp_all [needSame];done))⟩));(focus (show a.length - (k+1) < a.length - k;omega)))|fail)<;>(try refine nm_ ?_))
  all_goals (refine ⟨?_⟩)
  all_goals first|contradiction|(exfalso;omega)|(rw [same_no (by omega)];done)|(rw [same_at (k:=k) (by omega) (by unfold labelSame;first|assumption|exact not_t (by assumption)|exact not_f (by assumption)|(simp_all;done)|(simp_all [needSame];done))];done)|(rw [same_yes (k:=k) (by omega) (by omega) hj.out];done)
theorem spec_SameNeeds_D (a b:List NeedD) (ha:a.length≤1048576) (hv:∀ k,(a.getD k default).values.length≤1048576):Spec Tryz.prog 192 [.sl a.length (needsD a),.sl b.length (needsD b)] (fun d=>d = .sc (.bool (sameRow needSame a b))):=by
  refine sp_ (rs:= [.tmp 4]) (nt:=37) Tryz.func192 rfl fun X hX=>?_
  refine nm_ ?_
  repeat' ((first|contradiction|(with_reducible exact tt_)|(refine bk_ (fun h h'=>?_) (fun h h'=>?_))|(refine and_ ?_ ?_)|(refine pln_ ?_)|(refine cl_ rfl _ _ (spec_NeedLess_D (a.getD k default) (b.getD k default) (.inl (hv k))) rfl rfl ?_;rintro _ rfl)|(refine cl_ rfl _ _ (spec_NeedLess_D (b.getD k default) (a.getD k default) (.inr (hv k))) rfl rfl ?_;rintro _ rfl)|(refine wtr_ (id:=6) [] (.early 0 (.early 1 (.early 2 (.early 3 (.early 4 (.early 5 (.early 6 (.early 7 (.one 8 (.early 9 (.early 10 (.early 11 (.early 12 (.early 14 (.early 15 (.early 16 (.two 13 (.one 17 (.one 18 (.early 19 .done))) 17 (.one 13 (.one 18 (.early 19 .done)))))))))))))))))))) ?_)|(refine lpU_ 0x23 (ι:=Nat) (fun k=> [(5,.sc (.int .i64 (k:Int)))]) (fun k=>k≤a.length∧∀ j:Nat,j < k→(fun j=>needSame (a.getD j default) (b.getD j default)) j=true) (fun k=>a.length - k) 0 ?_ ?_;(focus (exact ⟨by omega,allN_zero⟩));rintro _ hN0 k hinv;(try dsimp only at hinv);obtain ⟨hk,hj⟩:=hinv;replace hj:=Lib.hid hj;skip)|(refine hN0.go (k+1) ?_ ?_;(focus (exact ⟨by show k+1≤a.length;omega,allN_step hj.out (by first|assumption|exact not_t (by assumption)|exact not_f (by assumption)|(simp_all;done)|(simp_all [needSame];done))⟩));(focus (show a.length - (k+1) < a.length - k;omega)))|fail)<;>(try refine nm_ ?_))
  all_goals (refine ⟨?_⟩)
  all_goals first|contradiction|(exfalso;omega)|(rw [same_no (by omega)];done)|(rw [same_at (k:=k) (by omega) (by first|assumption|exact not_t (by assumption)|exact not_f (by assumption)|(simp_all;done)|(simp_all [needSame];done))];done)|(rw [same_yes (k:=k) (by omega) (by omega) hj.out];done)
theorem spec_SameHost_D (a b:HostD) (ha:a.fine):Spec Tryz.prog 105 [.agg (hostCells a),.agg (hostCells b)] (fun d=>d = .sc (.bool (hostSame a b))):=by
  unfold hostCells;have hl:=ha.tlen
  refine sp_ (rs:= [.tmp 4]) (nt:=67) Tryz.func105 rfl fun X hX=>?_
  refine nm_ ?_
  repeat' ((first|contradiction|(with_reducible exact tt_)|(refine bk_ (fun h h'=>?_) (fun h h'=>?_))|(refine and_ ?_ ?_)|(refine pln_ ?_)|(refine cl_ rfl _ _ (spec_SameLabels_D a.labels b.labels ha.labels.len) rfl rfl ?_;rintro _ rfl)|(refine eqg_ rfl ?_)|(refine wo_ (id:=6) [] [(0,true),(1,true),(2,true),(3,true),(4,true),(5,true),(6,true),(7,true),(8,true),(9,true),(10,false)] ?_)|(refine lpU_ 0x2c (ι:=Nat) (fun k=> [(5,.sc (.int .i64 (k:Int)))]) (fun k=>k≤a.taints.length∧∀ j:Nat,j < k→(fun j=>taintSame (a.taints.getD j default) (b.taints.getD j default)) j=true) (fun k=>a.taints.length - k) 0 ?_ ?_;(focus (exact ⟨by omega,allN_zero⟩));rintro _ hN0 k hinv;(try dsimp only at hinv);obtain ⟨hk,hj⟩:=hinv;replace hj:=Lib.hid hj;skip)|(refine hN0.go (k+1) ?_ ?_;(focus (exact ⟨by show k+1≤a.taints.length;omega,allN_step hj.out (by unfold taintSame;first|assumption|exact not_t (by assumption)|exact not_f (by assumption)|(simp_all;done))⟩));(focus (show a.taints.length - (k+1) < a.taints.length - k;omega)))|fail)<;>(try refine nm_ ?_))
  all_goals (refine ⟨?_⟩)
  all_goals first|contradiction|(exfalso;omega)|(have e:=same_no (p:=taintSame) (a:=a.taints) (b:=b.taints) (by omega);simp_all [hostSame];done)|(have e:=same_at (p:=taintSame) (a:=a.taints) (b:=b.taints) (k:=k) (by omega) (by unfold taintSame;first|assumption|exact not_t (by assumption)|exact not_f (by assumption)|(simp_all;done));simp_all [hostSame];done)|(have e:=same_yes (p:=taintSame) (a:=a.taints) (b:=b.taints) (k:=k) (by omega) (by omega) hj.out;simp_all [hostSame];done)|(simp_all [hostSame];done)
theorem spec_SamePod_D (a b:PodD) (ha:a.fine):Spec Tryz.prog 106 [.agg (podCells a),.agg (podCells b)] (fun d=>d = .sc (.bool (podSame a b))):=by
  unfold podCells;have hl:=ha.tlen
  refine sp_ (rs:= [.tmp 4]) (nt:=75) Tryz.func106 rfl fun X hX=>?_
  refine nm_ ?_
  repeat' ((first|contradiction|(with_reducible exact tt_)|(refine bk_ (fun h h'=>?_) (fun h h'=>?_))|(refine and_ ?_ ?_)|(refine pln_ ?_)|(refine cl_ rfl _ _ (spec_SameLabels_D a.labels b.labels ha.labels.len) rfl rfl ?_;rintro _ rfl)|(refine cl_ rfl _ _ (spec_SameNeeds_D a.needs b.needs ha.nlen (fun k=>(ha.need k).len)) rfl rfl ?_;rintro _ rfl)|(refine eqg_ rfl ?_)|(refine wo_ (id:=6) [] [(0,true),(1,true),(2,true),(3,true),(4,true),(5,true),(6,true),(7,true),(8,true),(9,true),(10,false)] ?_)|(refine lpU_ 0x2c (ι:=Nat) (fun k=> [(5,.sc (.int .i64 (k:Int)))]) (fun k=>k≤a.tolers.length∧∀ j:Nat,j < k→(fun j=>tolerSame (a.tolers.getD j default) (b.tolers.getD j default)) j=true) (fun k=>a.tolers.length - k) 0 ?_ ?_;(focus (exact ⟨by omega,allN_zero⟩));rintro _ hN0 k hinv;(try dsimp only at hinv);obtain ⟨hk,hj⟩:=hinv;replace hj:=Lib.hid hj;skip)|(refine hN0.go (k+1) ?_ ?_;(focus (exact ⟨by show k+1≤a.tolers.length;omega,allN_step hj.out (by unfold tolerSame;first|assumption|exact not_t (by assumption)|exact not_f (by assumption)|(simp_all;done))⟩));(focus (show a.tolers.length - (k+1) < a.tolers.length - k;omega)))|fail)<;>(try refine nm_ ?_))
  all_goals (refine ⟨?_⟩)
  all_goals first|contradiction|(exfalso;omega)|(have e:=same_no (p:=tolerSame) (a:=a.tolers) (b:=b.tolers) (by omega);simp_all [podSame];done)|(have e:=same_at (p:=tolerSame) (a:=a.tolers) (b:=b.tolers) (k:=k) (by omega) (by unfold tolerSame;first|assumption|exact not_t (by assumption)|exact not_f (by assumption)|(simp_all;done));simp_all [podSame];done)|(have e:=same_yes (p:=tolerSame) (a:=a.tolers) (b:=b.tolers) (k:=k) (by omega) (by omega) hj.out;simp_all [podSame];done)|(simp_all [podSame];done)
end Go.Proofs.YtgoeccemfgniiaaGreat
namespace Go.Proofs.YtgoeccemfgniiaaGreat
open Go.RowKit
set_option linter.unusedVariables false
set_option linter.unusedSimpArgs false
set_option maxRecDepth 100000
set_option maxHeartbeats 4000000
theorem spec_SameCluster_D (a b:ClusterD) (ha:a.fine):Spec Tryz.prog 34 [a.d,b.d] (fun d=>d = .sc (.bool (clSame a b))):=by
  unfold ClusterD.d;have hl1:=ha.hlen;have hl2:=ha.plen
  refine sp_ (rs:= [.tmp 4]) (nt:=95) Tryz.func34 rfl fun X hX=>?_
  refine nm_ ?_
  repeat' ((first|contradiction|(with_reducible exact tt_)|(refine bk_ (fun h h'=>?_) (fun h h'=>?_))|(refine and_ ?_ ?_)|(refine pln_ ?_)|(refine cl_ rfl _ _ (spec_SameHost_D (a.hosts.getD k default) (b.hosts.getD k default) (ha.host k)) rfl rfl ?_;rintro _ rfl)|(refine cl_ rfl _ _ (spec_SamePod_D (a.pods.getD m default).pod (b.pods.getD m default).pod (ha.pod m)) rfl rfl ?_;rintro _ rfl)|(refine eqg_ rfl ?_)|(refine wo_ (id:=6) [] [(0,true),(1,true),(2,true),(3,true),(4,true),(5,true),(6,true),(7,true),(8,true),(9,true),(10,false),(11,true)] ?_)|(refine lpU_ 0x2c (ι:=Nat) (fun k=> [(5,.sc (.int .i64 (k:Int)))]) (fun k=>k≤a.hosts.length∧∀ j:Nat,j < k→(fun j=>hostSame (a.hosts.getD j default) (b.hosts.getD j default)) j=true) (fun k=>a.hosts.length - k) 0 ?_ ?_;(focus (exact ⟨by omega,allN_zero⟩));rintro _ hN0 k hinv;(try dsimp only at hinv);obtain ⟨hk,hj⟩:=hinv;replace hj:=Lib.hid hj;skip)|(refine hN0.go (k+1) ?_ ?_;(focus (exact ⟨by show k+1≤a.hosts.length;omega,allN_step hj.out (by first|assumption|exact not_t (by assumption)|exact not_f (by assumption)|(simp_all;done))⟩));(focus (show a.hosts.length - (k+1) < a.hosts.length - k;omega)))|(refine lpU_ 0x4c (ι:=Nat) (fun m=> [(6,.sc (.int .i64 (m:Int)))]) (fun m=>m≤a.pods.length∧∀ j:Nat,j < m→(fun j=>placedSame (a.pods.getD j default) (b.pods.getD j default)) j=true) (fun m=>a.pods.length - m) 0 ?_ ?_;(focus (exact ⟨by omega,allN_zero⟩));rintro _ hN1 m hinv;(try dsimp only at hinv);obtain ⟨hkm,hjm⟩:=hinv;replace hjm:=Lib.hid hjm;skip)|(refine hN1.go (m+1) ?_ ?_;(focus (exact ⟨by show m+1≤a.pods.length;omega,allN_step hjm.out (by unfold placedSame;first|assumption|exact not_t (by assumption)|exact not_f (by assumption)|(simp_all;done))⟩));(focus (show a.pods.length - (m+1) < a.pods.length - m;omega)))|fail)<;>(try refine nm_ ?_))
  all_goals (refine ⟨?_⟩)
  all_goals first|contradiction|(exfalso;omega)|(have e:=same_no (p:=hostSame) (a:=a.hosts) (b:=b.hosts) (by omega);simp_all [clSame];done)|(have e:=same_no (p:=placedSame) (a:=a.pods) (b:=b.pods) (by omega);simp_all [clSame];done)|(have e:=same_at (p:=placedSame) (a:=a.pods) (b:=b.pods) (k:=m) (by omega) (by unfold placedSame;first|assumption|exact not_t (by assumption)|exact not_f (by assumption)|(simp_all;done));simp_all [clSame];done)|(have e:=same_at (p:=hostSame) (a:=a.hosts) (b:=b.hosts) (k:=k) (by omega) (by first|assumption|exact not_t (by assumption)|exact not_f (by assumption)|(simp_all;done));simp_all [clSame];done)|(have e:=same_yes (p:=hostSame) (a:=a.hosts) (b:=b.hosts) (k:=k) (by omega) (by omega) hj.out;have e2:=same_yes (p:=placedSame) (a:=a.pods) (b:=b.pods) (k:=m) (by omega) (by omega) hjm.out;simp_all [clSame];done)|(simp_all [clSame];done)|(simp_all [clSame];omega)
end Go.Proofs.YtgoeccemfgniiaaGreat
