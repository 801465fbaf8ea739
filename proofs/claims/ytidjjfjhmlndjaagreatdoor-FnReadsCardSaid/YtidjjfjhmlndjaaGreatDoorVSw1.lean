/- Sw1, Fr10 (what is wanted of them). -/
import Derived.Test.YtidjjfjhmlndjaaGreatDoorVDk
import Derived.Test.YtidjjfjhmlndjaaGreatDoorVFr4
import Derived.Test.YtidjjfjhmlndjaaGreatDoorVFr6
import Derived.Test.YtidjjfjhmlndjaaGreatDoorVFr9
namespace Go.Proofs.YtidjjfjhmlndjaaGreatDoor
open Go.RowKit
set_option linter.unusedVariables false
set_option linter.unusedSimpArgs false
set_option maxRecDepth 100000
set_option maxHeartbeats 4000000
theorem not_t {b:Bool} (h:(!b)=true):b=false:=by cases b;rfl;cases h
theorem not_f {b:Bool} (h:(!b)=false):b=true:=by cases b;cases h;rfl
theorem spec_SameLabels_D (a b:List LabelD) (ha:a.length≤1048576):Spec Tryz.prog 99 [.sl a.length (labelsD a),.sl b.length (labelsD b)] (fun d=>d = .sc (.bool (sameRow labelSame a b))):=by
  refine sp_ (rs:= [.tmp 4]) (nt:=26) Tryz.func99 rfl fun X hX=>?_
  refine nm_ ?_
  repeat' ((first|contradiction|(with_reducible exact tt_)|(refine bk_ (fun h h'=>?_) (fun h h'=>?_))|(refine and_ ?_ ?_)|(refine pln_ ?_)|(refine eqg_ rfl ?_)|(refine wo_ (id:=6) [] [(0,true),(1,true),(2,true),(3,true),(4,true),(5,true),(6,true),(7,true),(8,false)] ?_)|(refine lpU_ 0x23 (ι:=Nat) (fun k=> [(5,.sc (.int .i64 (k:Int)))]) (fun k=>k≤a.length∧∀ j:Nat,j < k→(fun j=>labelSame (a.getD j default) (b.getD j default)) j=true) (fun k=>a.length - k) 0 ?_ ?_;(focus (exact ⟨by omega,allN_zero⟩));rintro _ hN0 k hinv;(try dsimp only at hinv);obtain ⟨hk,hj⟩:=hinv;replace hj:=Lib.hid hj;skip)|(refine hN0.go (k+1) ?_ ?_;(focus (exact ⟨by show k+1≤a.length;omega,allN_step hj.out (by unfold labelSame;first|assumption|exact not_t (by assumption)|exact not_f (by assumption)|(simp_all;done)|(simp_all [needSame];done))⟩));(focus (show a.length - (k+1) < a.length - k;omega)))|fail)<;>(try refine nm_ ?_))
  all_goals (refine ⟨?_⟩)
  all_goals first|contradiction|(exfalso;omega)|(rw [same_no (by omega)];done)|(rw [same_at (k:=k) (by omega) (by unfold labelSame;first|assumption|exact not_t (by assumption)|exact not_f (by assumption)|(simp_all;done)|(simp_all [needSame];done))];done)|(rw [same_yes (k:=k) (by omega) (by omega) hj.out];done)
theorem spec_SameNeeds_D (a b:List NeedD) (ha:a.length≤1048576) (hv:∀ k,(a.getD k default).values.length≤1048576):Spec Tryz.prog 100 [.sl a.length (needsD a),.sl b.length (needsD b)] (fun d=>d = .sc (.bool (sameRow needSame a b))):=by
  refine sp_ (rs:= [.tmp 4]) (nt:=37) Tryz.func100 rfl fun X hX=>?_
  refine nm_ ?_
  repeat' ((first|contradiction|(with_reducible exact tt_)|(refine bk_ (fun h h'=>?_) (fun h h'=>?_))|(refine and_ ?_ ?_)|(refine pln_ ?_)|(refine cl_ rfl _ _ (spec_NeedLess_D (a.getD k default) (b.getD k default) (.inl (hv k))) rfl rfl ?_;rintro _ rfl)|(refine cl_ rfl _ _ (spec_NeedLess_D (b.getD k default) (a.getD k default) (.inr (hv k))) rfl rfl ?_;rintro _ rfl)|(refine wtr_ (id:=6) [] (.early 0 (.early 1 (.early 2 (.early 3 (.early 4 (.early 5 (.early 6 (.early 7 (.one 8 (.early 9 (.early 10 (.early 11 (.early 12 (.early 14 (.early 15 (.early 16 (.two 13 (.one 17 (.one 18 (.early 19 .done))) 17 (.one 13 (.one 18 (.early 19 .done)))))))))))))))))))) ?_)|(refine lpU_ 0x23 (ι:=Nat) (fun k=> [(5,.sc (.int .i64 (k:Int)))]) (fun k=>k≤a.length∧∀ j:Nat,j < k→(fun j=>needSame (a.getD j default) (b.getD j default)) j=true) (fun k=>a.length - k) 0 ?_ ?_;(focus (exact ⟨by omega,allN_zero⟩));rintro _ hN0 k hinv;(try dsimp only at hinv);obtain ⟨hk,hj⟩:=hinv;replace hj:=Lib.hid hj;skip)|(refine hN0.go (k+1) ?_ ?_;(focus (exact ⟨by show k+1≤a.length;omega,allN_step hj.out (by first|assumption|exact not_t (by assumption)|exact not_f (by assumption)|(simp_all;done)|(simp_all [needSame];done))⟩));(focus (show a.length - (k+1) < a.length - k;omega)))|fail)<;>(try refine nm_ ?_))
  all_goals (refine ⟨?_⟩)
  all_goals first|contradiction|(exfalso;omega)|(rw [same_no (by omega)];done)|(rw [same_at (k:=k) (by omega) (by first|assumption|exact not_t (by assumption)|exact not_f (by assumption)|(simp_all;done)|(simp_all [needSame];done))];done)|(rw [same_yes (k:=k) (by omega) (by omega) hj.out];done)
theorem spec_SameHost_D (a b:HostD) (ha:a.fine):Spec Tryz.prog 42 [.agg (hostCells a),.agg (hostCells b)] (fun d=>d = .sc (.bool (hostSame a b))):=by
  unfold hostCells;have hl:=ha.tlen
  refine sp_ (rs:= [.tmp 4]) (nt:=67) Tryz.func42 rfl fun X hX=>?_
  refine nm_ ?_
  repeat' ((first|contradiction|(with_reducible exact tt_)|(refine bk_ (fun h h'=>?_) (fun h h'=>?_))|(refine and_ ?_ ?_)|(refine pln_ ?_)|(refine cl_ rfl _ _ (spec_SameLabels_D a.labels b.labels ha.labels.len) rfl rfl ?_;rintro _ rfl)|(refine eqg_ rfl ?_)|(refine wo_ (id:=6) [] [(0,true),(1,true),(2,true),(3,true),(4,true),(5,true),(6,true),(7,true),(8,true),(9,true),(10,false)] ?_)|(refine lpU_ 0x2c (ι:=Nat) (fun k=> [(5,.sc (.int .i64 (k:Int)))]) (fun k=>k≤a.taints.length∧∀ j:Nat,j < k→(fun j=>taintSame (a.taints.getD j default) (b.taints.getD j default)) j=true) (fun k=>a.taints.length - k) 0 ?_ ?_;(focus (exact ⟨by omega,allN_zero⟩));rintro _ hN0 k hinv;(try dsimp only at hinv);obtain ⟨hk,hj⟩:=hinv;replace hj:=Lib.hid hj;skip)|(refine hN0.go (k+1) ?_ ?_;(focus (exact ⟨by show k+1≤a.taints.length;omega,allN_step hj.out (by unfold taintSame;first|assumption|exact not_t (by assumption)|exact not_f (by assumption)|(simp_all;done))⟩));(focus (show a.taints.length - (k+1) < a.taints.length - k;omega)))|fail)<;>(try refine nm_ ?_))
  all_goals (refine ⟨?_⟩)
  all_goals first|contradiction|(exfalso;omega)|(have e:=same_no (p:=taintSame) (a:=a.taints) (b:=b.taints) (by omega);simp_all [hostSame];done)|(have e:=same_at (p:=taintSame) (a:=a.taints) (b:=b.taints) (k:=k) (by omega) (by unfold taintSame;first|assumption|exact not_t (by assumption)|exact not_f (by assumption)|(simp_all;done));simp_all [hostSame];done)|(have e:=same_yes (p:=taintSame) (a:=a.taints) (b:=b.taints) (k:=k) (by omega) (by omega) hj.out;simp_all [hostSame];done)|(simp_all [hostSame];done)
theorem spec_SamePod_D (a b:PodD) (ha:a.fine):Spec Tryz.prog 41 [.agg (podCells a),.agg (podCells b)] (fun d=>d = .sc (.bool (podSame a b))):=by
  unfold podCells;have hl:=ha.tlen
  refine sp_ (rs:= [.tmp 4]) (nt:=75) Tryz.func41 rfl fun X hX=>?_
  refine nm_ ?_
  repeat' ((first|contradiction|(with_reducible exact tt_)|(refine bk_ (fun h h'=>?_) (fun h h'=>?_))|(refine and_ ?_ ?_)|(refine pln_ ?_)|(refine cl_ rfl _ _ (spec_SameLabels_D a.labels b.labels ha.labels.len) rfl rfl ?_;rintro _ rfl)|(refine cl_ rfl _ _ (spec_SameNeeds_D a.needs b.needs ha.nlen (fun k=>(ha.need k).len)) rfl rfl ?_;rintro _ rfl)|(refine eqg_ rfl ?_)|(refine wo_ (id:=6) [] [(0,true),(1,true),(2,true),(3,true),(4,true),(5,true),(6,true),(7,true),(8,true),(9,true),(10,false)] ?_)|(refine lpU_ 0x2c (ι:=Nat) (fun k=> [(5,.sc (.int .i64 (k:Int)))]) (fun k=>k≤a.tolers.length∧∀ j:Nat,j < k→(fun j=>tolerSame (a.tolers.getD j default) (b.tolers.getD j default)) j=true) (fun k=>a.tolers.length - k) 0 ?_ ?_;(focus (exact ⟨by omega,allN_zero⟩));rintro _ hN0 k hinv;(try dsimp only at hinv);obtain ⟨hk,hj⟩:=hinv;replace hj:=Lib.hid hj;skip)|(refine hN0.go (k+1) ?_ ?_;(focus (exact ⟨by show k+1≤a.tolers.length;omega,allN_step hj.out (by unfold tolerSame;first|assumption|exact not_t (by assumption)|exact not_f (by assumption)|(simp_all;done))⟩));(focus (show a.tolers.length - (k+1) < a.tolers.length - k;omega)))|fail)<;>(try refine nm_ ?_))
  all_goals (refine ⟨?_⟩)
  all_goals first|contradiction|(exfalso;omega)|(have e:=same_no (p:=tolerSame) (a:=a.tolers) (b:=b.tolers) (by omega);simp_all [podSame];done)|(have e:=same_at (p:=tolerSame) (a:=a.tolers) (b:=b.tolers) (k:=k) (by omega) (by unfold tolerSame;first|assumption|exact not_t (by assumption)|exact not_f (by assumption)|(simp_all;done));simp_all [podSame];done)|(have e:=same_yes (p:=tolerSame) (a:=a.tolers) (b:=b.tolers) (k:=k) (by omega) (by omega) hj.out;simp_all [podSame];done)|(simp_all [podSame];done)
end Go.Proofs.YtidjjfjhmlndjaaGreatDoor
namespace Go.Proofs.YtidjjfjhmlndjaaGreatDoor
open Go.RowKit
set_option linter.unusedVariables false
set_option linter.unusedSimpArgs false
set_option maxRecDepth 100000
set_option maxHeartbeats 20000000
theorem SpecH.argsA {P:Program}{f:FuncId}{ds ds':List D}{os:List (Nat × Ob)}{k:Nat}{Q:D→List (Nat × Ob)→Nat→Prop} (h:SpecH P f ds' os k Q) (hl:ds.length=ds'.length) (hs:∀ (j:Nat) (d d':D),ds[j]? = some d→ds'[j]? = some d'→ASub d d'):SpecH P f ds os k Q:=by
  refine ⟨h.1,fun E M w args h1 h2 h3=>h.2 E M w args h1 (h2.trans hl) fun j d' hd'=>?_⟩
  cases hc:ds[j]? with
  |none=>
    have:=List.getElem?_eq_none_iff.1 hc
    have h4:j < ds'.length:=(List.getElem?_eq_some_iff.1 hd').1
    omega
  |some d=>exact hs j d d' hc hd' _ _ _ (h3 j d hc)
theorem sameRow_self {α:Type} [Inhabited α] {p:α→α→Bool} (h:∀ x,p x x=true) (a:List α):sameRow p a a=true:=by
  unfold sameRow
  rw [decide_eq_true rfl,Bool.true_and]
  exact allN_yes (Nat.le_refl _) fun j _=>h _
theorem labelSame_self (a:LabelD):labelSame a a=true:=by unfold labelSame;rw [eqB_refl',eqB_refl'];rfl
theorem taintSame_self (a:TaintD):taintSame a a=true:=by unfold taintSame;rw [eqB_refl',eqB_refl',beq_self_eq_true];rfl
theorem tolerSame_self (a:TolerD):tolerSame a a=true:=by unfold tolerSame;rw [eqB_refl',eqB_refl',beq_self_eq_true,beq_self_eq_true];rfl
theorem needSame_self (a:NeedD):needSame a a=true:=by
  rw [← cmpNeed_0,beq_iff_eq]
  have:=cmpNeed_neg a a
  omega
theorem podSame_self (a:PodD):podSame a a=true:=by
  unfold podSame
  rw [eqB_refl',sameRow_self labelSame_self,sameRow_self needSame_self,sameRow_self tolerSame_self,beq_self_eq_true,beq_self_eq_true,beq_self_eq_true];rfl
theorem hostSame_self (a:HostD):hostSame a a=true:=by
  unfold hostSame
  rw [eqB_refl',sameRow_self labelSame_self,sameRow_self taintSame_self,beq_self_eq_true,beq_self_eq_true,beq_self_eq_true];rfl
theorem sh_len {ks:List ByteArray}{cs:List TreeD} (h:ShT (mapTr ks cs)):cs.length=ks.length:=by
  generalize e:mapTr ks cs=t at h
  cases h with
  |text _=>exact absurd (congrArg TreeD.kind e) (by show ¬ (6:Int)=4;decide)
  |int _=>exact absurd (congrArg TreeD.kind e) (by show ¬ (6:Int)=3;decide)
  |list _ _=>exact absurd (congrArg TreeD.kind e) (by show ¬ (6:Int)=5;decide)
  |map hn he _ _ _=>
    have e1:=congrArg TreeD.keys e
    have e2:=congrArg TreeD.kids e
    simp only [mapTr] at e1 e2
    rw [e1,e2]
    exact he
theorem podKs_le (p:PodD):(podKs p).length≤20:=by
  unfold podKs
  rw [List.length_append,List.length_append,List.length_append]
  have h1:=headKs_le p.labels
  have h2:(optL (p.needs.length=0) wNeeds).length≤1:=optL_le
  have h3:(optL (p.rank=0) wRank).length≤1:=optL_le
  have h4:(optL (p.tolers.length=0) wToler).length≤1:=optL_le
  omega
theorem hostKs_le (x:HostD):(hostKs x).length≤20:=by
  unfold hostKs
  rw [List.length_append,List.length_append]
  have h1:=headKs_le x.labels
  have h2:(optL (x.slots=20) wSlots).length≤1:=optL_le
  have h3:(optL (x.taints.length=0) wTaints).length≤1:=optL_le
  omega
theorem sh_fine:∀ t:TreeD,ShT t→TFine t:=TreeD.ind fun t ih h=>by
  cases h with
  |text ha=>exact textTr_fine (by have:=ha.sz;omega)
  |int hn=>exact intTr_fine hn
  |list hn h=>exact listTr_fine (by omega) fun x hx=>ih x hx (h x hx)
  |map hn he ha hl h=>
    refine mapTr_fine (by omega) (fun x hx=>?_) (by omega) fun x hx=>ih x hx (h x hx)
    obtain ⟨i,hi,rfl⟩:=List.getElem_of_mem hx
    have:=(ha i hi).sz
    rw [List.getD_eq_getElem?_getD,List.getElem?_eq_getElem hi] at this
    exact Nat.le_trans this (by decide)
/-- What the law does with a tree that tells of a pod, and with one field more. -/
structure PodT (p:PodD) (t z:TreeD):Prop where
  man:Spec Tryz.prog 37 [.agg (manPodCells p)] (fun d=>d = .agg (treeC t))
  put:Spec Tryz.prog 38 [.agg (treeC t),.sc (.string ⟨#[122,122]⟩),.agg (treeC (intTr 1))] (fun d=>d = .tup [.agg (treeC z),.sc (.bool true)])
  pod:SpecH Tryz.prog 40 [.agg (treeC t)] [] 0 (fun d os' nb'=>d = .tup [.agg [.sc (.string p.name),.own 0 0 p.labels.length,.sc (.int .i64 p.cpu),.sc (.int .i64 p.mem),.sc (.int .i64 p.rank),.own 1 0 p.needs.length,.own 2 0 p.tolers.length],.agg [.sc (.int .i64 0),.sc (.int .i64 0),.sc (.string ⟨#[]⟩)]]∧os' = [(0,⟨217,2,(p.labels).length,labelsD (p.labels)⟩),(1,⟨103,3,(p.needs).length,needsT (p.needs)⟩),(2,⟨145,4,(p.tolers).length,tolersD (p.tolers)⟩)]∧nb' = 3)
  bad:SpecH Tryz.prog 40 [.agg (treeC z)] [] 0 (fun d os' nb'=>d = .tup [.agg [.sc (.string ⟨#[]⟩),.sc (.slice none 0 0),.sc (.int .i64 0),.sc (.int .i64 0),.sc (.int .i64 0),.sc (.slice none 0 0),.sc (.slice none 0 0)],.agg [.sc (.int .i64 13),.sc (.int .i64 0),.sc (.string ⟨#[122,122]⟩)]]∧os' = []∧nb' = 0)
  host:∃ f:FaultD,(f.code != 0)=true∧SpecH Tryz.prog 29 [.agg (treeC t)] [] 0 (fun d os' nb'=>d = .tup [.agg [.sc (.string ⟨#[]⟩),.sc (.slice none 0 0),.sc (.int .i64 0),.sc (.int .i64 0),.sc (.int .i64 0),.sc (.slice none 0 0)],.agg [.sc (.int .i64 (f).code),.sc (.int .i64 (f).at_),.sc (.string (f).path)]]∧os' = []∧nb' = 0)
structure HostT (x:HostD) (t z:TreeD):Prop where
  man:Spec Tryz.prog 37 [.agg (manHostCells x)] (fun d=>d = .agg (treeC t))
  put:Spec Tryz.prog 38 [.agg (treeC t),.sc (.string ⟨#[122,122]⟩),.agg (treeC (intTr 1))] (fun d=>d = .tup [.agg (treeC z),.sc (.bool true)])
  host:SpecH Tryz.prog 29 [.agg (treeC t)] [] 0 (fun d os' nb'=>d = .tup [.agg [.sc (.string x.name),.own 0 0 x.labels.length,.sc (.int .i64 x.cpu),.sc (.int .i64 x.mem),.sc (.int .i64 x.slots),.own 1 0 x.taints.length],.agg [.sc (.int .i64 0),.sc (.int .i64 0),.sc (.string ⟨#[]⟩)]]∧os' = [(0,⟨217,2,(x.labels).length,labelsD (x.labels)⟩),(1,⟨118,3,(x.taints).length,taintsD (x.taints)⟩)]∧nb' = 2)
  bad:SpecH Tryz.prog 29 [.agg (treeC z)] [] 0 (fun d os' nb'=>d = .tup [.agg [.sc (.string ⟨#[]⟩),.sc (.slice none 0 0),.sc (.int .i64 0),.sc (.int .i64 0),.sc (.int .i64 0),.sc (.slice none 0 0)],.agg [.sc (.int .i64 13),.sc (.int .i64 0),.sc (.string ⟨#[122,122]⟩)]]∧os' = []∧nb' = 0)
theorem SpecH.impR {P:Program}{f:FuncId}{ds:List D}{os:List (Nat × Ob)}{k:Nat}{Q Q':D→List (Nat × Ob)→Nat→Prop} (h:SpecH P f ds os k Q) (hq:∀ d os' nb',Q d os' nb'→Q' d os' nb'):SpecH P f ds os k Q':=
  ⟨h.1,fun E M w args h1 h2 h3=>(h.2 E M w args h1 h2 h3).mono fun _ _ ⟨d,os',nb',E',u,h4,h5⟩=>⟨d,os',nb',E',u,hq _ _ _ h4,h5⟩⟩
theorem podIn_bad {t:TreeD} (hf:TFine t) {f:FaultD} (e:podF t=f) (hc:¬ f.code=0):SpecH Tryz.prog 40 [.agg (treeC t)] [] 0 (fun d os' nb'=>d = .tup [.agg [.sc (.string ⟨#[]⟩),.sc (.slice none 0 0),.sc (.int .i64 0),.sc (.int .i64 0),.sc (.int .i64 0),.sc (.slice none 0 0),.sc (.slice none 0 0)],.agg [.sc (.int .i64 (f).code),.sc (.int .i64 (f).at_),.sc (.string (f).path)]]∧os' = []∧nb' = 0):=(impl_PodIn_K t hf).impR fun d os' nb' hq=>by
  rcases hq with ⟨h0,_⟩|⟨_,h1,h2,h3⟩
  · exact absurd (by rw [← e,h0];rfl) hc
  · rw [e] at h1
    exact ⟨h1,h2,h3⟩
theorem hostIn_bad {t:TreeD} (hf:TFine t) {f:FaultD} (e:hostF t=f) (hc:¬ f.code=0):SpecH Tryz.prog 29 [.agg (treeC t)] [] 0 (fun d os' nb'=>d = .tup [.agg [.sc (.string ⟨#[]⟩),.sc (.slice none 0 0),.sc (.int .i64 0),.sc (.int .i64 0),.sc (.int .i64 0),.sc (.slice none 0 0)],.agg [.sc (.int .i64 (f).code),.sc (.int .i64 (f).at_),.sc (.string (f).path)]]∧os' = []∧nb' = 0):=(impl_HostIn_O t hf).sub.impR fun d os' nb' hq=>by
  rcases hq with ⟨h0,_⟩|⟨_,h1,h2,h3⟩
  · exact absurd (by rw [← e,h0];rfl) hc
  · rw [e] at h1
    exact ⟨h1,h2,h3⟩
theorem zz_sh {ks:List ByteArray}{cs:List TreeD} (hs:ShT (mapTr ks cs)) (hn:ks.length≤20) (hk:kLt ks wZz=true) (hz:szTr (mapTr ks cs)≤100) (hd:dpTr (mapTr ks cs)≤6):ShT (mapTr (ks ++ [wZz]) (cs ++ [intTr 1]))∧szTr (mapTr (ks ++ [wZz]) (cs ++ [intTr 1]))≤300∧dpTr (mapTr (ks ++ [wZz]) (cs ++ [intTr 1]))≤8:=by
  refine ⟨sh_snoc hs (by omega) hk wZz_asc (.int ⟨by decide,by decide⟩),?_,?_⟩
  · rw [sz_zz];omega
  · have:=dp_zz ks cs wZz 1;omega
theorem podT_ex {p:PodD} (hp:PodR p):∃ t z,PodT p t z:=by
  have hb:=hp.ok
  have hc:=hp.w.cpu.2
  have hm:=hp.w.mem.2
  have hs:ShT (podTr p):=sh_pod hb (amt_asc hc) (amt_asc hm)
  have hl:(podCs p).length=(podKs p).length:=sh_len hs
  have hn:(podKs p).length≤20:=podKs_le p
  obtain ⟨g1,g3,g2⟩:=zz_sh (ks:=podKs p) (cs:=podCs p) hs hn (pod_zz p) (sz_pod hb) (dp_pod p)
  have hf:=sh_fine _ hs
  have hz:=sh_fine _ g1
  obtain ⟨e1,e2⟩:=pod_back hb hc hm
  refine ⟨podTr p,mapTr (podKs p ++ [wZz]) (podCs p ++ [intTr 1]),manTree_P p hb hc hm,putKid_K (podKs p) (podCs p) wZz (intTr 1) hl (Lib.hid (pod_zz p)) (intTr_fine ⟨by decide,by decide⟩) (Lib.hid fun x hx=>hf.mem hx) hs (by have:=dp_pod p;unfold podTr at this;omega) (by have:=sz_pod hb;unfold podTr at this;omega) g1 g2 g3,?_,podIn_bad hz (pod_zzF p) (nzF 13 _),hostF (podTr p),bne_iff_ne.2 (host_no p),hostIn_bad hf rfl (host_no p)⟩
  refine (impl_PodIn_K _ hf).impR fun d os' nb' hq=>?_
  rcases hq with ⟨_,h1,h2,h3⟩|⟨h0,_⟩
  · rw [e2] at h1 h2
    exact ⟨h1,h2,h3⟩
  · exact absurd (by rw [e1];rfl) h0
theorem hostT_ex {x:HostD} (hp:HostR x):∃ t z,HostT x t z:=by
  have hb:=hp.ok
  have hc:=hp.w.cpu.2
  have hm:=hp.w.mem.2
  have hs:ShT (hostTr x):=sh_host hb (amt_asc hc) (amt_asc hm)
  have hl:(hostCs x).length=(hostKs x).length:=sh_len hs
  have hn:(hostKs x).length≤20:=hostKs_le x
  obtain ⟨g1,g3,g2⟩:=zz_sh (ks:=hostKs x) (cs:=hostCs x) hs hn (host_zz x) (sz_host hb) (Nat.le_trans (dp_host x) (by decide))
  have hf:=sh_fine _ hs
  have hz:=sh_fine _ g1
  obtain ⟨e1,e2⟩:=host_back hb hc hm
  refine ⟨hostTr x,mapTr (hostKs x ++ [wZz]) (hostCs x ++ [intTr 1]),manTree_H x hb hc hm,putKid_K (hostKs x) (hostCs x) wZz (intTr 1) hl (Lib.hid (host_zz x)) (intTr_fine ⟨by decide,by decide⟩) (Lib.hid fun y hy=>hf.mem hy) hs (by have:=dp_host x;unfold hostTr at this;omega) (by have:=sz_host hb;unfold hostTr at this;omega) g1 g2 g3,?_,hostIn_bad hz (host_zzF x) (nzF 13 _)⟩
  refine (impl_HostIn_O _ hf).sub.impR fun d os' nb' hq=>?_
  rcases hq with ⟨_,h1,h2,h3⟩|⟨h0,_⟩
  · rw [e2] at h1 h2
    exact ⟨h1,h2,h3⟩
  · exact absurd (by rw [e1];rfl) h0
theorem podIn_0:SpecH Tryz.prog 40 [.agg [.sc (.int .i64 6),.sc (.bool false),.sc (.int .i64 0),.sc (.string ⟨#[]⟩),.sc (.slice none 0 0),.sc (.slice none 0 0)]] [] 0 (fun d os' nb'=>d = .tup [.agg [.sc (.string ⟨#[]⟩),.sc (.slice none 0 0),.sc (.int .i64 0),.sc (.int .i64 0),.sc (.int .i64 0),.sc (.slice none 0 0),.sc (.slice none 0 0)],.agg [.sc (.int .i64 12),.sc (.int .i64 0),.sc (.string ⟨#[107,105,110,100]⟩)]]∧os' = []∧nb' = 0):=by
  refine (podIn_bad (t:=mapTr [] []) (mapTr_fine (Nat.zero_le _) (fun x h=>by cases h) (Nat.zero_le _) (fun x h=>by cases h)) pod_0 (nzF 12 _)).argsA rfl fun j d d' h1 h2=>?_
  match j with
  |0=>
    rw [← Option.some.inj h1,← Option.some.inj h2]
    refine ASub.agg rfl fun j d d' h1 h2=>?_
    match j with
    |4|5=>exact .inr ⟨(Option.some.inj h1).symm,(Option.some.inj h2).symm⟩
    |0|1|2|3=>exact .inl ((Option.some.inj h2).symm.trans (Option.some.inj h1))
theorem laws_big_D (bs:List Int) (hb:bs.length≤9223372036854775807):Spec Tryz.prog 35 [.sl bs.length (u8D bs)] (fun d=>d = .sc (.bool (decide ((1048576:Int) < bs.length)))):=by
  refine sp_ (rs:= [.tmp 2]) (nt:=6) Tryz.func35 rfl fun X hX=>?_
  refine nm_ ?_
  repeat' ((first|contradiction|(with_reducible exact tt_)|((with_reducible show Wk (AwStep _ _ _ _ _));first|(refine pln_ ?_))|((with_reducible show Wk (boolK _ _ _ _));first|(refine bk_ (fun h h'=>?_) (fun h h'=>?_)))|((with_reducible show Wk (_∧_));first|(refine and_ ?_ ?_))|fail)<;>(try refine nm_ ?_))
  all_goals (refine ⟨?_⟩)
  all_goals first|rfl
set_option maxHeartbeats 20000000 in
theorem lawFnReads_A (bs:List Int) (hb:bs.length≤9223372036854775807):Spec Tryz.prog 6 [.sl bs.length (u8D bs)] (fun d=>d = .sc (.bool true)):=by
  have ex0:=@treeC.eq_1;have ex1:=@manPodCells.eq_1;have ex2:=@manHostCells.eq_1;have ex3:=@eqB_refl'
  refine sp_ (rs:= [.tmp 2]) (nt:=104) Tryz.func6 rfl fun X hX=>?_
  refine nm_ ?_
  repeat' ((first|contradiction|(with_reducible exact tt_)|((with_reducible show Wk (AwStepF _ _ _ _ _ _ _));first|(refine cl_ rfl _ _ (laws_big_D bs hb) rfl rfl ?_;rintro _ rfl)|(refine cl_ rfl _ _ (drawManifest_R bs (by omega)) rfl rfl ?_;rintro _ (⟨p,hp,rfl⟩|⟨x,hx,rfl⟩);(all_goals (first|(obtain ⟨t,z,hT⟩:=podT_ex hp;obtain ⟨f,hfz,hHI⟩:=hT.host;have hsm:=podSame_self p;replace hHI:=Lib.hid hHI;replace hT:=Lib.hid hT)|(obtain ⟨t,z,hT⟩:=hostT_ex hx;have hsm:=hostSame_self x;replace hT:=Lib.hid hT))))|(refine cl_ rfl _ _ (hT.out.man) rfl rfl ?_;rintro _ rfl)|(refine cl_ rfl _ _ (intTree_K 1) rfl rfl ?_;rintro _ rfl)|(refine cl_ rfl _ _ (hT.out.put) rfl rfl ?_;rintro _ rfl)|(refine eqg_ rfl ?_)|(refine awH_ rfl (hT.out.pod) [] ?_;rintro _ _ _ ⟨rfl,rfl,rfl⟩ _)|(refine awH_ rfl (hT.out.host) [] ?_;rintro _ _ _ ⟨rfl,rfl,rfl⟩ _)|(refine awH_ rfl (hT.out.bad) [] ?_;rintro _ _ _ ⟨rfl,rfl,rfl⟩ _)|(refine awH_ rfl (hHI.out) [] ?_;rintro _ _ _ ⟨rfl,rfl,rfl⟩ _)|(refine awH_ rfl (podIn_0) [] ?_;rintro _ _ _ ⟨rfl,rfl,rfl⟩ _)|(refine bo_ rfl [.cool 3,.frz 3,.cool 4,.frz 4,.cool 5,.frz 5] (spec_SamePod_D p p hp.w.fine) ?_;rintro _ rfl;refine ⟨rfl,?_⟩)|(refine bo_ rfl [.cool 3,.frz 3,.cool 4,.frz 4] (spec_SameHost_D x x hx.w.fine) ?_;rintro _ rfl;refine ⟨rfl,?_⟩))|((with_reducible show Wk (AwStep _ _ _ _ _));first|(refine pln_ ?_))|((with_reducible show Wk (AwCode _ _ _ _ _));first|(refine wtr_ (id:=5) [] (.early 0 (.two 1 (.two 2 (.early 3 (.early 4 (.early 5 (.one 6 (.one 7 (.early 8 .done)))))) 6 (.one 2 (.early 3 (.early 4 (.early 5 (.one 7 (.early 8 .done))))))) 6 (.one 1 (.one 2 (.early 3 (.early 4 (.early 5 (.one 7 (.early 8 .done))))))))) ?_))|((with_reducible show Wk (boolK _ _ _ _));first|(refine bk_ (fun h h'=>?_) (fun h h'=>?_)))|((with_reducible show Wk (_∧_));first|(refine and_ ?_ ?_))|fail)<;>(try refine nm_ ?_))
  all_goals clear ex0 ex1 ex2 ex3
  all_goals (refine ⟨?_⟩)
  all_goals first|contradiction|rfl
end Go.Proofs.YtidjjfjhmlndjaaGreatDoor
