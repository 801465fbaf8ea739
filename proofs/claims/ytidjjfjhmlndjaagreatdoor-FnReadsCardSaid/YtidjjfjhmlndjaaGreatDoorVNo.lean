/- No, Nlx (what is wanted of them). -/
import Derived.Test.YtidjjfjhmlndjaaGreatDoorVNn
import Derived.Test.YtidjjfjhmlndjaaGreatDoorVAwc
import Derived.Test.YtidjjfjhmlndjaaGreatDoorVAwb
import Derived.Test.YtidjjfjhmlndjaaGreatDoorVClx
namespace Go.Proofs.YtidjjfjhmlndjaaGreatDoor
open Go.RowKit
set_option maxRecDepth 100000
theorem ite_ {c:Prop} [Decidable c] {f:D→St}{x y:Option D}{k:St→Prop}{e:Prop} (h1:c→Wk (stepK (Option.map f x) k e)) (h2:¬ c→Wk (stepK (Option.map f y) k e)):Wk (stepK (Option.map f (if c then x else y)) k e):=by
  split
  · rename_i h
    exact h1 h
  · rename_i h
    exact h2 h
theorem gpos2 {c:Prop} [Decidable c] {α:Type}{a b:α} (h:c):(if c then some a else some b)=some a:=if_pos h
theorem gneg2 {c:Prop} [Decidable c] {α:Type}{a b:α} (h:¬ c):(if c then some a else some b)=some b:=if_neg h
theorem bleT_ {n m:Nat} (h:n≤m):Nat.ble n m=true:=Nat.ble_eq_true_of_le h
theorem bleF_ {n m:Nat} (h:m < n):Nat.ble n m=false:=by
  cases e:Nat.ble n m with
  |false=>rfl
  |true=>have:=Nat.le_of_ble_eq_true e;omega
attribute [push_cast] gpos2 gneg2 bleT_ bleF_
theorem tps_dry {cs:List D} (h:cs.all D.tp=true):cs.all D.dryC=true:=all_to h fun d h=>by cases d<;>first|rfl|cases h
theorem dryO_ {os:List (Nat × Ob)} (h:dryO os=true:=by first|rfl|(simp [dryO,tps_dry (strsD_tp _),tps_dry (intsD_tp _),tps_dry (u8D_tp _),tps_dry (treesT_tp _),tps_dry (labelsD_tp _),tps_dry (filesD_tp _),tps_dry (taintsD_tp _),tps_dry (tolersD_tp _),tps_dry (needsT_tp _),tps_dry (hostsT_tp _),tps_dry (placedsT_tp _),D.dryC]<;>fail)):dryO os=true:=h
theorem boH_ {X:Ctx}{P:Program}{o:Oper}{s:St}{wr:List Nat}{nb:Nat}{f:FuncId}{xs:Array Operand}{ats:Array TypeId}{K:St→Prop} (ho:o.op = .call { callee:=.value (.func f),args:=xs,argTypes:=ats }) (gs:List Gop) {ds:List D}{Q:D→List (Nat × Ob)→Nat→Prop} (hs:SpecH P f ds [] 0 Q)
    (hk:∀ d os' nb',Q d os' nb'→(d.dryT=true∧dryO os' = true)∧Wk (K ((s.back [] os' nb').put o.dst (d.ren (tau [] s.nb))))) (hds:xs.toList.map (gops s gs).ev=ds:=by first|exact nme_ rfl|exact rfl) (hok:gopsOk s gs=true:=by first|rfl|exact cal2_ rfl|exact gok2_) (hno:ds.all D.noid=true:=by rfl):Wk (AwStepF X P o s wr nb K):=⟨awborHF gs hok ho ds Q hs hds hno fun d os' nb' h=>⟨(hk d os' nb' h).1,(hk d os' nb' h).2.out⟩⟩
theorem fnP_ {X:Ctx}{P:Program}{o:Oper}{s:St}{wr:List Nat}{nb:Nat}{f:FuncId}{caps:Array Operand}{K:St→Prop} (ho:o.op = .makeFunc (.func f) #[] caps) (hc:(caps.toList.map s.ev).all D.heldP=true) (h:Wk (K (s.put o.dst (.fn f (caps.toList.map s.ev))))):Wk (AwStepF X P o s wr nb K):=⟨awfnPF ho hc (h.out)⟩
theorem clCH_ {X:Ctx}{P:Program}{o:Oper}{s:St}{wr:List Nat}{nb:Nat}{t:Tmp}{f:FuncId}{cap:List D}{xs:Array Operand}{ats:Array TypeId}{K:St→Prop} (ho:o.op = .call { callee:=.value (.tmp t),args:=xs,argTypes:=ats }) (hf:s.get t = .fn f cap) {ds:List D}{os:List (Nat × Ob)}{k:Nat}{Q:D→List (Nat × Ob)→Nat→Prop} (hs:SpecH P f ds os k Q) (ρ:List Nat)
    (hk:∀ d os' nb',Q d os' nb'→k≤nb'→Wk (K ((s.back ρ os' nb').put o.dst (d.ren (tau ρ s.nb))))) (hlen:ρ.length=k:=by rfl) (hos:handOs s.os (sg ρ) ρ=os:=by first|exact nme_ rfl|exact rfl) (hds:(xs.toList.map s.ev++cap).map (D.ren (sg ρ))=ds:=by first|exact nme_ rfl|exact rfl) (hcap:cap.all D.heldP=true:=by rfl)
    (hρ:ρ.Nodup:=by decide) (hin:insOk s.os ρ false=true:=by first|rfl|exact nme_ rfl|exact si2_) (hdin:(xs.toList.map s.ev++cap).all (D.inn ρ.contains)=true:=by first|rfl|exact nme_ rfl|exact si2_) (hwr:∀ j ∈ ρ,wr.contains j=true∨nb≤j:=by first|exact fun _ _=>.inr (Nat.zero_le _)|decide):Wk (AwStepF X P o s wr nb K):=⟨awcallCHF ho hf hs ρ hρ hlen hin hos hdin hds hcap hwr fun d os' nb' h1 h2=>(hk d os' nb' h1 h2).out⟩
end Go.Proofs.YtidjjfjhmlndjaaGreatDoor
namespace Go.Proofs.YtidjjfjhmlndjaaGreatDoor
open Go.RowKit
def St.nilSlot (s:St) (t:Nat) (e:TypeId) (size:Nat):St:=⟨s.tm.set t (.own s.nb 0 0),(s.nb,nilOb e size)::s.os,s.nb+1⟩
theorem nilS_sound {X:Ctx}{s:St}{t:Nat} (hat:s.tm[t]? = some (.sc (.slice none 0 0))) (e:TypeId) (size:Nat) {E:Env}{a:Act}{w:World} (hr:Rel X s E a w):Rel X (s.nilSlot t e size) (E.with s.nb none) a w:=by
  have hnew:=hr.sr.new s.nb (Nat.le_refl _)
  have hle:E.le (E.with s.nb none):=Env.with_le hnew
  have hne:∀ j z,(j,z) ∈ s.os→(E.with s.nb none).at_ j=E.at_ j:=fun j z h=>Env.with_ne (Nat.ne_of_lt (hr.sr.idlt h))
  refine ⟨by simpa [St.nilSlot] using hr.sz,fun q d hd=>?_,hr.df,⟨fun j y hj=>?_,fun j hj=>?_,hr.sr.rolt,fun j y k z hj hk hjk l m hl hm=>?_,?_,?_⟩,⟨hr.st.le.trans hle,hr.st.os,hr.st.tape,hr.st.output,hr.st.size,hr.st.block,hr.st.ro,Nat.le_succ_of_le hr.st.nb⟩⟩
  · have hd':(s.tm.set t (.own s.nb 0 0))[q]? = some d:=hd
    rw [List.getElem?_set] at hd'
    split at hd'
    · rename_i hq
      subst hq
      split at hd'
      · injection hd' with hd'
        subst hd'
        have h1:Rep E w (.sc (.slice none 0 0)) (a.tmps.getD t undef):=hr.tm t _ hat
        exact .inr ⟨Env.with_at,rfl,rfl,h1.1⟩
      · cases hd'
    · exact (hr.tm q d hd').keep hle fun _ _=>rfl
  · rcases List.mem_cons.1 hj with hj|hj
    · injection hj with e1 e2
      subst e1;subst e2
      exact ⟨by simp [nilOb],.inl ⟨Env.with_at,rfl⟩⟩
    · have hob:=hr.sr.obs j y hj
      exact hob.keep (E' := E.with s.nb none) (w' := w) hle (fun _ _ => rfl) fun l hl => ⟨rfl, fun hro => by
        rcases hob.2 with ⟨h5,_⟩|⟨m,h5,_,h6,_⟩
        · rw [hl] at h5;cases h5
        · rw [hl] at h5; injection h5 with h5; injection h5 with h5; subst h5; exact h6 hro⟩
  · have hj':s.nb+1≤j:=hj
    rw [Env.with_ne (by omega)]
    exact hr.sr.new j (by omega)
  · have hat0:(E.with s.nb none).at_ s.nb=some Option.none:=Env.with_at
    rcases List.mem_cons.1 hj with hj|hj
    · injection hj with e1 _
      subst e1
      rw [hat0] at hl;cases hl
    · rcases List.mem_cons.1 hk with hk|hk
      · injection hk with e1 _
        subst e1
        rw [hat0] at hm;cases hm
      · rw [hne j y hj] at hl
        rw [hne k z hk] at hm
        exact hr.sr.apart j y k z hj hk hjk l m hl hm
  · show (s.nb::s.os.map (·.1)).Nodup
    refine List.nodup_cons.2 ⟨fun h=>?_,hr.sr.nodup⟩
    obtain ⟨⟨j,y⟩,h1,h2⟩:=List.mem_map.1 h
    have h2':j=s.nb:=h2
    have:=hr.sr.idlt h1
    omega
  · refine hr.sr.tr.keep rfl (fun b k p _ h1 h2 h3 h4=>⟨h1,rfl,h2,h3,fun j y l hj hl=>?_⟩) fun k x' hx' j ty sz n cs hj=>?_
    · rcases List.mem_cons.1 hj with hj|hj
      · injection hj with e1 _
        subst e1
        rw [Env.with_at] at hl
        cases hl
      · rw [hne j y hj] at hl
        exact h4 j y l hj hl
    · rcases List.mem_cons.1 hx' with hx'|hx'
      · injection hx' with e1 e2
        subst e1;subst e2
        simp [nilOb] at hj
      · exact ⟨x',hx',hj,fun l hl=>⟨(hne k x' hx').trans hl,rfl⟩⟩
theorem nilS_ {X:Ctx}{P:Program}{c:Code}{s:St}{Q:Exit→St→Prop} (t:Nat) (e:TypeId) (size:Nat) (h:Wk (AwCode X P c (s.nilSlot t e size) Q)) (hat:s.tm[t]? = some (.sc (.slice none 0 0)):=by rfl):Wk (AwCode X P c s Q):=
  ⟨⟨fun _ _ _ R hr hK=>h.out.out _ _ _ R (nilS_sound hat e size hr) hK⟩⟩
attribute [push_cast] St.nilSlot
end Go.Proofs.YtidjjfjhmlndjaaGreatDoor
namespace Go.Proofs.YtidjjfjhmlndjaaGreatDoor
open Go.RowKit
theorem rep_nilsl {E:Env}{w:World}{v:Value} (h:Rep E w (.sc (.slice none 0 0)) v):Rep E w (.sl 0 []) v:=by
  obtain ⟨rfl,_⟩:=h
  exact .sl 0 [] none 0 [] rfl (Nat.le_refl _) (Nat.zero_le _) (fun j u h=>by simp at h) (fun j d u h=>by simp at h)
theorem specNil {P:Program}{f:FuncId}{ds:List D}{Q:D→Prop} (h:Spec P f ds fun d=>Q d∨(d = .sc (.slice none 0 0)∧Q (.sl 0 []))):Spec P f ds Q:=by
  refine ⟨h.1,fun ro w args h1 h2 h3=>(h.2 ro w args h1 h2 h3).mono ?_⟩
  rintro e w' ⟨d,v,hq,he,hv,hb⟩
  rcases hq with hq|⟨rfl,hq⟩
  · exact ⟨d,v,hq,he,hv,hb⟩
  · exact ⟨_,v,hq,he,rep_nilsl hv,hb⟩
theorem row_none {α:Type}{f:List α→List D}{n:Nat} (hn:0 < n) (hl:∀ xs,(f xs).length=xs.length*n) {xs:List α} (h:f xs = []):xs = []:=by
  have:=congrArg List.length h
  rw [hl] at this
  refine List.eq_nil_of_length_eq_zero ?_
  rcases Nat.mul_eq_zero.1 this with h|h
  · exact h
  · omega
theorem strs_len1 (xs:List ByteArray):(strsD xs).length=xs.length*1:=by rw [strsD_len,Nat.mul_one]
/-- One cell: a nil slice reads as an empty row too. -/
def SubN (d d':D):Prop:=d' = d∨(d = .sc (.slice none 0 0)∧d' = .sl 0 [])
theorem SubN.rep1 {d d':D} (h:SubN d d') {E:Env}{w:World}{v:Value} (hr:Rep1 E w d v):Rep1 E w d' v:=by
  rcases h with rfl|⟨rfl,rfl⟩
  · exact hr
  · obtain ⟨rfl,_⟩:=hr
    exact .sl 0 [] none 0 [] rfl (Nat.le_refl _) (Nat.zero_le _) (fun j u h=>by simp at h) (fun j d u h=>by simp at h)
/-- Cells, one by one. -/
def SubNs:List D→List D→Prop
  | [], []=>True
  |d::r,d'::r'=>SubN d d'∧SubNs r r'
  |_,_=>False
theorem SubNs.at:∀ {cs cs':List D},SubNs cs cs'→cs.length=cs'.length∧∀ (j:Nat) (d':D),cs'[j]? = some d'→∃ d,cs[j]? = some d∧SubN d d'
  | [], [],_=>⟨rfl,fun j d' h=>by simp at h⟩
  |d::r,d'::r',h=>by
    obtain ⟨h1,h2⟩:=SubNs.at h.2
    refine ⟨by simp [h1],fun j e he=>?_⟩
    rcases j with _|j
    · simp only [List.getElem?_cons_zero,Option.some.injEq] at he
      subst he
      exact ⟨d,rfl,h.1⟩
    · exact h2 j e (by simpa using he)
  | [],_::_,h=>h.elim
  |_::_, [],h=>h.elim
inductive SubA:D→D→Prop
  |same (d:D):SubA d d
  |agg {cs cs':List D} (h:SubNs cs cs'):SubA (.agg cs) (.agg cs')
  |nil:SubA (.sc (.slice none 0 0)) (.sl 0 [])
theorem SubA.rep {d d':D} (h:SubA d d') {E:Env}{w:World}{v:Value} (hr:RepA E w d v):RepA E w d' v:=by
  cases h with
  |same=>exact hr
  |nil=>exact SubN.rep1 (.inr ⟨rfl,rfl⟩) hr
  |agg h=>
    obtain ⟨us,h1,h2,h3⟩:=hr
    obtain ⟨h4,h5⟩:=h.at
    refine ⟨us,h1,h2.trans h4,fun j d' u hd' hu=>?_⟩
    obtain ⟨d,hd,hs⟩:=h5 j d' hd'
    exact ⟨hs.rep1 (h3 j d u hd hu).1,(h3 j d u hd hu).2⟩
def SubAs:List D→List D→Prop
  | [], []=>True
  |d::r,d'::r'=>SubA d d'∧SubAs r r'
  |_,_=>False
theorem SubAs.at:∀ {cs cs':List D},SubAs cs cs'→cs.length=cs'.length∧∀ (j:Nat) (d':D),cs'[j]? = some d'→∃ d,cs[j]? = some d∧SubA d d'
  | [], [],_=>⟨rfl,fun j d' h=>by simp at h⟩
  |d::r,d'::r',h=>by
    obtain ⟨h1,h2⟩:=SubAs.at h.2
    refine ⟨by simp [h1],fun j e he=>?_⟩
    rcases j with _|j
    · simp only [List.getElem?_cons_zero,Option.some.injEq] at he
      subst he
      exact ⟨d,rfl,h.1⟩
    · exact h2 j e (by simpa using he)
  | [],_::_,h=>h.elim
  |_::_, [],h=>h.elim
inductive SubT:D→D→Prop
  |same (d:D):SubT d d
  |one {cs cs':List D} (h:SubNs cs cs'):SubT (.agg cs) (.agg cs')
  |nil:SubT (.sc (.slice none 0 0)) (.sl 0 [])
  |tup {ds ds':List D} (h:SubAs ds ds'):SubT (.tup ds) (.tup ds')
theorem SubT.rep {d d':D} (h:SubT d d') {E:Env}{w:World}{v:Value} (hr:Rep E w d v):Rep E w d' v:=by
  cases h with
  |same=>exact hr
  |one h=>exact SubA.rep (.agg h) hr
  |nil=>exact SubA.rep .nil hr
  |tup h=>
    obtain ⟨us,h1,h2,h3⟩:=hr
    obtain ⟨h4,h5⟩:=h.at
    refine ⟨us,h1,h2.trans h4,fun j d' u hd' hu=>?_⟩
    obtain ⟨d,hd,hs⟩:=h5 j d' hd'
    exact hs.rep (h3 j d u hd hu)
/-- A result that reads as another one. -/
theorem Spec.sub {P:Program}{f:FuncId}{ds:List D}{Q:D→Prop} (h:Spec P f ds fun d=>∃ d',SubT d d'∧Q d'):Spec P f ds Q:=by
  refine ⟨h.1,fun ro w args h1 h2 h3=>(h.2 ro w args h1 h2 h3).mono ?_⟩
  rintro e w' ⟨d,v,⟨d',hs,hq⟩,he,hv,hb⟩
  exact ⟨d',v,hq,he,hs.rep hv,hb⟩
theorem SpecH.sub {P:Program}{f:FuncId}{ds:List D}{os:List (Nat × Ob)}{k:Nat}{Q:D→List (Nat × Ob)→Nat→Prop} (h:SpecH P f ds os k fun d os' nb'=>∃ d',SubT d d'∧Q d' os' nb'):SpecH P f ds os k Q:=
  ⟨h.1,fun E M w args h1 h2 h3=>(h.2 E M w args h1 h2 h3).mono fun _ _ ⟨_,os',nb',E',v,⟨d',hs,hq⟩,h5,h6,h7⟩=>⟨d',os',nb',E',v,hq,h5,hs.rep h6,h7⟩⟩
end Go.Proofs.YtidjjfjhmlndjaaGreatDoor
