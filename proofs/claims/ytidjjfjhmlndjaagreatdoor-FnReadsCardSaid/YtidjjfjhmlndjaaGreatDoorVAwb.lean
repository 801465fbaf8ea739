/- Awb (what is wanted of them). -/
import Derived.Test.YtidjjfjhmlndjaaGreatDoorVAwa
import Derived.Laws.BytesString
import Derived.Laws.MakeOwn
import Derived.Maps.Own
import Derived.Laws.StructEq
import Derived.Lib.Bytealg
namespace Go.Proofs.YtidjjfjhmlndjaaGreatDoor
open Go.RowKit
theorem oc_ptr (a:Option Addr):Value.oneCell' (.pointer a)=true:=rfl
theorem vc_ptr (a:Option Addr):Value.cells (.pointer a)=#[.pointer a]:=rfl
theorem gpos {c:Prop} [Decidable c] {α:Type}{a:α} (h:c):(if c then some a else none)=some a:=if_pos h
theorem gneg {c:Prop} [Decidable c] {α:Type}{a:α} (h:¬ c):(if c then none else some a)=some a:=if_neg h
/-- The numbers in the caller. -/
def tau (ρ:List Nat) (nb:Nat) (i:Nat):Nat:=match ρ[i]? with|some j=>j|none=>nb+(i - ρ.length)
def St.back (s:St) (ρ:List Nat) (os':List (Nat × Ob)) (nb':Nat):St:=
  { s with os:=os'.map (fun p=>(tau ρ s.nb p.1,p.2.ren (tau ρ s.nb)))++s.os.filter (fun p=>!ρ.contains p.1),nb:=s.nb+(nb' - ρ.length) }
theorem tau_old {ρ:List Nat}{nb i j:Nat} (h:ρ[i]? = some j):tau ρ nb i=j:=by unfold tau;rw [h]
theorem tau_new {ρ:List Nat}{nb i:Nat} (h:ρ.length≤i):tau ρ nb i=nb+(i - ρ.length):=by unfold tau;rw [List.getElem?_eq_none h]
/-- A call by which objects are handed on, whatever it is that calls. -/
theorem awcallGF {X:Ctx}{P:Program}{o:Oper}{s:St}{wr:List Nat}{nb:Nat}{f:FuncId}{K:St→Prop}{ds0:List D}
    (hcall:∀ (E:Env) (a:Act) (w:World),(∀ args:Array Value,(callFunc f args).run P w = .ok (.enter f args) w)→Rel X s E a w→∃ args:Array Value,(execOp a.eval o).run P w = .ok (.enter f args) w∧args.size=ds0.length∧∀ (j:Nat) (d:D),ds0[j]? = some d→Rep E w d (args.getD j undef))
    {ds:List D}{os:List (Nat × Ob)}{k:Nat}{Q:D→List (Nat × Ob)→Nat→Prop} (hs:SpecH P f ds os k Q) (ρ:List Nat) (hρ:ρ.Nodup) (hlen:ρ.length=k) (hin:insOk s.os ρ false=true) (hos:handOs s.os (sg ρ) ρ=os)
    (hdin:ds0.all (D.inn ρ.contains)=true) (hds:ds0.map (D.ren (sg ρ))=ds) (hwr:∀ j ∈ ρ,wr.contains j=true∨nb≤j)
    (hk:∀ d os' nb',Q d os' nb'→k≤nb'→K ((s.back ρ os' nb').put o.dst (d.ren (tau ρ s.nb)))):AwStepF X P o s wr nb K:=by
  refine ⟨fun E a w K' R hr hK=>?_⟩
  obtain ⟨args,hrun,hasz,hargs⟩:=hcall E a w (fun args=>hs.1 args w) hr
  unfold Oper.wp
  rw [hrun]
  show Calls P f _ w _
  subst hds hos hlen
  let M:Nat→Prop:=fun g=>(∃ j x l,j ∈ ρ∧(j,x) ∈ s.os∧E.at_ j=some (some l)∧l.g=g)∨∃ k p,E.tg g=some (k,p)∧ρ.contains k=true
  have hsr:SR M (E.hand ρ) (handOs s.os (sg ρ) ρ) ρ.length w:=
    hand_sr hr.sr ρ hρ hin (fun j x l h1 h2 h3 _=>.inl ⟨j,x,l,h1,mem_of_lookup h2,h3,rfl⟩) fun b k p h1 h2 _=>.inr ⟨k,p,h1,h2⟩
  -- the blocks that are handed on
  have hobj:∀ j x l,(j,x) ∈ s.os→E.at_ j=some (some l)→X.W l.g∧¬ E.ro l.g:=by
    intro j x l h1 h2
    rcases (hr.sr.obs j x h1).2 with ⟨h3,_⟩|⟨m,h3,h4,h5,_⟩
    · rw [h2] at h3;cases h3
    · rw [h2] at h3;injection h3 with h3;injection h3 with h3;subst h3;exact ⟨h4,h5⟩
  have hnotmine:∀ j x l,(j,x) ∈ s.os→j ∉ ρ→E.at_ j=some (some l)→¬ M l.g:=by
    intro j x l h1 h2 h3 h4
    rcases h4 with ⟨j',x',l',h5,h6,h7,h8⟩|⟨k,p,h5,h6⟩
    · exact hr.sr.apart j' x' j x h6 h1 (fun e=>h2 (e ▸ h5)) l' l h7 h3 h8
    · exact (hr.sr.tr.blk _ k p h5).2.2.2 j x l h1 h3 rfl
  refine (hs.2 (E.hand ρ) M w args hsr (by rw [hasz,List.length_map]) fun j d hd=>?_).mono ?_
  · rw [List.getElem?_map] at hd
    cases hj:ds0[j]? with
    |none=>rw [hj] at hd;cases hd
    |some e=>
      rw [hj] at hd
      injection hd with hd
      subst hd
      exact (hargs j e hj).ren (List.all_eq_true.1 hdin _ (List.mem_of_getElem? hj)) (E.hand_via ρ)
  · rintro e w' ⟨d,os',nb',E',v,hq,rfl,hv,hsr',hnb,hle',hos',htape,hout,hsize,hblock,hro',hnl⟩
    -- the new surroundings
    let E'':Env:=⟨E'.ro,fun j=>if j < s.nb then E.at_ j else E'.at_ (j - s.nb+ρ.length),fun b=>match E'.tg b with|some (i,p)=>some (tau ρ s.nb i,p)|none=>match E.tg b with|some (k,p)=>if ρ.contains k=true then none else some (k,p)|none=>none⟩
    have hlt:∀ j ∈ ρ,j < s.nb:=fun j hj=>by
      obtain ⟨x,hx⟩:=insOk_some hin hj
      exact hr.sr.idlt (mem_of_lookup hx)
    have hold:∀ j,j < s.nb→E''.at_ j=E.at_ j:=fun j hj=>if_pos hj
    have hnew:∀ i,ρ.length≤i→E''.at_ (s.nb+(i - ρ.length))=E'.at_ i:=fun i hi=>by
      show (if s.nb+(i - ρ.length) < s.nb then _ else E'.at_ (s.nb+(i - ρ.length) - s.nb+ρ.length))=_
      rw [if_neg (by omega)]
      congr 1
      omega
    have hgot:∀ i j,ρ[i]? = some j→E'.at_ i=E.at_ j:=by
      intro i j hij
      have hj:j ∈ ρ:=List.mem_of_getElem? hij
      obtain ⟨x,hx⟩:=insOk_some hin hj
      have:∃ l,E.at_ j=some l:=by
        rcases (hr.sr.obs j x (mem_of_lookup hx)).2 with ⟨h,_⟩|⟨l,h,_⟩<;>exact ⟨_,h⟩
      obtain ⟨l,hl⟩:=this
      rw [hl]
      exact hle'.at_ i l ((Env.hand_of hij).trans hl)
    have htau:∀ i,E''.at_ (tau ρ s.nb i)=E'.at_ i:=by
      intro i
      rcases Nat.lt_or_ge i ρ.length with hi|hi
      · have h1:ρ[i]? = some ρ[i]:=List.getElem?_eq_getElem hi
        rw [tau_old h1,hold _ (hlt _ (List.getElem_mem hi)),hgot i _ h1]
      · rw [tau_new hi,hnew i hi]
    have hvia:E'.via every E'' (tau ρ s.nb):=⟨fun i l _ h=>(htau i).trans h,fun _ h=>h⟩
    have hle:E.le E'':=by
      refine ⟨fun j l h=>?_,fun b hb=>hle'.ro b hb⟩
      have hj:j < s.nb:=by
        rcases Nat.lt_or_ge j s.nb with h1|h1
        · exact h1
        · rw [hr.sr.new j h1] at h;cases h
      exact (hold j hj).trans h
    have hromine:∀ b,E.ro b→¬ M b:=by
      intro b hb hm
      rcases hm with ⟨j,x,l,_,h2,h3,rfl⟩|⟨k,p,h1,_⟩
      · exact (hobj j x l h2 h3).2 hb
      · exact (hr.sr.tr.blk b k p h1).2.2.1 hb
    have hro:∀ b,E.ro b→w'.heap[b]? = w.heap[b]? :=fun b hb=>hblock b (hr.sr.rolt b hb) (hromine b hb)
    -- where what comes back lies
    have hback:∀ i y l,(i,y) ∈ os'→E'.at_ i=some (some l)→(w.heap.size≤l.g∨M l.g)∧¬ E'.ro l.g:=by
      intro i y l h1 h2
      rcases (hsr'.obs i y h1).2 with ⟨h3,_⟩|⟨m,h3,h4,h5,_⟩
      · rw [h2] at h3;cases h3
      · rw [h2] at h3;injection h3 with h3;injection h3 with h3;subst h3;exact ⟨h4,h5⟩
    have hmW:∀ g,M g→X.W g:=by
      intro g hg
      rcases hg with ⟨j,x,l,_,h2,h3,rfl⟩|⟨k,p,h1,_⟩
      · exact (hobj j x l h2 h3).1
      · exact (hr.sr.tr.blk g k p h1).2.1
    have hrest:∀ j x,(j,x) ∈ s.os.filter (fun p=>!ρ.contains p.1)→(j,x) ∈ s.os∧j ∉ ρ:=by
      intro j x h
      obtain ⟨h1,h2⟩:=List.mem_filter.1 h
      exact ⟨h1,by simpa using h2⟩
    have hren:∀ q,q ∈ os'.map (fun p=>(tau ρ s.nb p.1,p.2.ren (tau ρ s.nb)))→∃ i y,(i,y) ∈ os'∧q=(tau ρ s.nb i,y.ren (tau ρ s.nb)):=by
      intro q hq
      obtain ⟨⟨i,y⟩,h1,h2⟩:=List.mem_map.1 hq
      exact ⟨i,y,h1,h2.symm⟩
    have hi':∀ i y,(i,y) ∈ os'→i < nb':=fun i y h=>hsr'.idlt h
    have hinj:∀ i j,tau ρ s.nb i=tau ρ s.nb j→i=j:=by
      intro i j hij
      rcases Nat.lt_or_ge i ρ.length with h1|h1<;>rcases Nat.lt_or_ge j ρ.length with h2|h2
      · rw [tau_old (List.getElem?_eq_getElem h1),tau_old (List.getElem?_eq_getElem h2)] at hij
        exact (List.getElem_inj hρ).1 hij
      · rw [tau_old (List.getElem?_eq_getElem h1),tau_new h2] at hij
        have:=hlt _ (List.getElem_mem h1)
        omega
      · rw [tau_new h1,tau_old (List.getElem?_eq_getElem h2)] at hij
        have:=hlt _ (List.getElem_mem h2)
        omega
      · rw [tau_new h1,tau_new h2] at hij
        omega
    have hmix:∀ i y j x,(i,y) ∈ os'→(j,x) ∈ s.os→j ∉ ρ→∀ l m,E'.at_ i=some (some l)→E.at_ j=some (some m)→l.g≠m.g:=by
      intro i y j x h1 h2 h3 l m h4 h5 he
      rcases (hback i y l h1 h4).1 with h6|h6
      · have:=hr.sr.lt h2 h5
        omega
      · rw [he] at h6
        exact hnotmine j x m h2 h3 h5 h6
    have hrel:Rel X (s.back ρ os' nb') E'' a w':=by
      refine ⟨hr.sz,fun t d hd=>(hr.tm t d hd).keep hle hro,hr.df,⟨fun j x hj=>?_,fun j hj=>?_,hsr'.rolt,fun i x j y hi hj hij l m hl hm=>?_,?_,?_⟩,?_⟩
      · rcases List.mem_append.1 hj with hj|hj
        · obtain ⟨i,y,h1,h2⟩:=hren _ hj
          injection h2 with h2 h3
          subst h2;subst h3
          refine (hsr'.obs i y h1).ren (p:=every) rfl (List.all_eq_true.2 fun d _=>d.in1_every) hvia fun l _ hw hr'=>⟨?_,hr'⟩
          rcases hw with hw|hw
          · exact .inl (Nat.le_trans hr.st.size hw)
          · exact hmW _ hw
        · obtain ⟨h1,h2⟩:=hrest j x hj
          refine (hr.sr.obs j x h1).keep hle hro fun l hl=>⟨hblock _ (hr.sr.lt h1 hl) (hnotmine j x l h1 h2 hl),fun hb=>?_⟩
          rcases hro' _ hb with h3|h3|h3
          · exact (hobj j x l h1 hl).2 h3
          · have:=hr.sr.lt h1 hl;omega
          · exact hnotmine j x l h1 h2 hl h3
      · have hj':s.nb+(nb' - ρ.length)≤j:=hj
        show (if j < s.nb then _ else E'.at_ (j - s.nb+ρ.length))=none
        rw [if_neg (by omega)]
        exact hsr'.new _ (by omega)
      · rcases List.mem_append.1 hi with hi|hi<;>rcases List.mem_append.1 hj with hj|hj
        · obtain ⟨i',x',h1,h2⟩:=hren _ hi
          obtain ⟨j',y',h3,h4⟩:=hren _ hj
          injection h2 with h2 _
          injection h4 with h4 _
          subst h2;subst h4
          rw [htau] at hl hm
          exact hsr'.apart i' x' j' y' h1 h3 (fun e=>hij (by rw [e])) l m hl hm
        · obtain ⟨i',x',h1,h2⟩:=hren _ hi
          obtain ⟨h3,h4⟩:=hrest j y hj
          injection h2 with h2 _
          subst h2
          rw [htau] at hl
          rw [hold j (hr.sr.idlt h3)] at hm
          exact hmix i' x' j y h1 h3 h4 l m hl hm
        · obtain ⟨j',y',h3,h4⟩:=hren _ hj
          obtain ⟨h1,h2⟩:=hrest i x hi
          injection h4 with h4 _
          subst h4
          rw [htau] at hm
          rw [hold i (hr.sr.idlt h1)] at hl
          exact fun e=>hmix j' y' i x h3 h1 h2 m l hm hl e.symm
        · obtain ⟨h1,h2⟩:=hrest i x hi
          obtain ⟨h3,h4⟩:=hrest j y hj
          rw [hold i (hr.sr.idlt h1)] at hl
          rw [hold j (hr.sr.idlt h3)] at hm
          exact hr.sr.apart i x j y h1 h3 hij l m hl hm
      · show ((os'.map (fun p=>(tau ρ s.nb p.1,p.2.ren (tau ρ s.nb)))++s.os.filter (fun p=>!ρ.contains p.1)).map (·.1)).Nodup
        rw [List.map_append,List.map_map,List.nodup_append]
        refine ⟨?_,hr.sr.nodup.sublist ((List.filter_sublist).map _),?_⟩
        · rw [show (fun p:Nat × Ob=>p.1) ∘ (fun p:Nat × Ob=>(tau ρ s.nb p.1,p.2.ren (tau ρ s.nb)))=(tau ρ s.nb) ∘ (·.1) from rfl,← List.map_map]
          exact hsr'.nodup.map (f:=tau ρ s.nb) fun i j h e=>h (hinj i j e)
        · intro i hi j hj e
          obtain ⟨⟨i',y⟩,h1,h2⟩:=List.mem_map.1 hi
          obtain ⟨⟨j',x⟩,h3,h4⟩:=List.mem_map.1 hj
          obtain ⟨h5,h6⟩:=hrest j' x h3
          have h2':tau ρ s.nb i' = i:=h2
          have h4':j' = j:=h4
          subst e;subst h4'
          rcases Nat.lt_or_ge i' ρ.length with h7|h7
          · rw [tau_old (List.getElem?_eq_getElem h7)] at h2'
            exact h6 (h2' ▸ List.getElem_mem h7)
          · rw [tau_new h7] at h2'
            have:=hr.sr.idlt h5
            omega
      · have htg:∀ b,E''.tg b=(match E'.tg b with|some (i,p)=>some (tau ρ s.nb i,p)|none=>match E.tg b with|some (k,p)=>if ρ.contains k=true then none else some (k,p)|none=>none):=fun b=>rfl
        have hfree:∀ b k p,E.tg b=some (k,p)→ρ.contains k=false→b < w.heap.size∧¬ M b∧E'.tg b=none:=by
          intro b k p h1 h2
          obtain ⟨e1,e2,e3,e4⟩:=hr.sr.tr.blk b k p h1
          have hM:¬ M b:=by
            rintro (⟨j,x,l,_,h5,h6,h7⟩|⟨k',p',h5,h6⟩)
            · exact e4 j x l h5 h6 h7
            · rw [h1] at h5
              injection h5 with h5
              injection h5 with h5 _
              rw [h5,h6] at h2
              cases h2
          refine ⟨e1,hM,?_⟩
          cases h5:E'.tg b with
          |none=>rfl
          |some q=>
            rcases (hsr'.tr.blk b q.1 q.2 h5).2.1 with h6|h6
            · omega
            · exact absurd h6 hM
        refine ⟨fun b i p hq=>?_,fun i x hi j ty sz n cs hj=>?_⟩
        · rw [htg] at hq
          cases h1:E'.tg b with
          |some q=>
            obtain ⟨e1,e2,e3,e4⟩:=hsr'.tr.blk b q.1 q.2 h1
            refine ⟨e1,?_,e3,fun j y l hj hl=>?_⟩
            · rcases e2 with e2|e2
              · exact .inl (Nat.le_trans hr.st.size e2)
              · exact hmW b e2
            · rcases List.mem_append.1 hj with hj|hj
              · obtain ⟨i',y',h2,h3⟩:=hren _ hj
                injection h3 with h3 _
                subst h3
                rw [htau] at hl
                exact e4 i' y' l h2 hl
              · obtain ⟨h2,h3⟩:=hrest j y hj
                rw [hold j (hr.sr.idlt h2)] at hl
                intro e
                subst e
                rcases e2 with e2|e2
                · have:=hr.sr.lt h2 hl;omega
                · exact hnotmine j y l h2 h3 hl e2
          |none=>
            rw [h1] at hq
            cases h2:E.tg b with
            |none=>rw [h2] at hq;cases hq
            |some q=>
              obtain ⟨k,p0⟩:=q
              rw [h2] at hq
              simp only at hq
              split at hq
              · cases hq
              · rename_i hk
                obtain ⟨f1,f2,_⟩:=hfree b k p0 h2 (by simpa using hk)
                obtain ⟨e1,e2,e3,e4⟩:=hr.sr.tr.blk b k p0 h2
                refine ⟨Nat.lt_of_lt_of_le e1 hsize,e2,fun hb=>?_,fun j y l hj hl=>?_⟩
                · rcases hro' b hb with h3|h3|h3
                  · exact e3 h3
                  · omega
                  · exact f2 h3
                · rcases List.mem_append.1 hj with hj|hj
                  · obtain ⟨i',y',h3,h4⟩:=hren _ hj
                    injection h4 with h4 _
                    subst h4
                    rw [htau] at hl
                    intro e
                    subst e
                    rcases (hback i' y' l h3 hl).1 with h5|h5
                    · omega
                    · exact f2 h5
                  · obtain ⟨h3,h4⟩:=hrest j y hj
                    rw [hold j (hr.sr.idlt h3)] at hl
                    exact e4 j y l h3 hl
        · rcases List.mem_append.1 hi with hi|hi
          · obtain ⟨i',y',h2,h3⟩:=hren _ hi
            injection h3 with h3 h4
            subst h3;subst h4
            have hj':(y'.cs.map (D.ren1 (tau ρ s.nb)))[j]? = some (.tr ty sz n cs):=hj
            rw [List.getElem?_map] at hj'
            cases hx2:y'.cs[j]? with
            |none=>rw [hx2] at hj';cases hj'
            |some d=>
              rw [hx2] at hj'
              injection hj' with hj'
              have hd:d = .tr ty sz n cs:=by cases d<;>simp only [D.ren1,reduceCtorEq] at hj'<;>exact hj'
              obtain ⟨l,u,e1,e2,e3⟩:=hsr'.tr.cell i' y' h2 j ty sz n cs (by rw [hx2,hd])
              exact ⟨l,u,(htau i').trans e1,e2,e3.map fun b q hq=>⟨rfl,by rw [htg,hq]⟩⟩
          · obtain ⟨h2,h3⟩:=hrest i x hi
            obtain ⟨l,u,e1,e2,e3⟩:=hr.sr.tr.cell i x h2 j ty sz n cs hj
            refine ⟨l,u,(hold i (hr.sr.idlt h2)).trans e1,(World.cell?_of_block (a:=⟨l.g,j,none⟩) (hblock _ (hr.sr.lt h2 e1) (hnotmine i x l h2 h3 e1))).trans e2,e3.map fun b q hq=>?_⟩
            have hci:ρ.contains i=false:=by simpa using h3
            obtain ⟨f1,f2,f3⟩:=hfree b i q hq hci
            refine ⟨hblock b f1 f2,?_⟩
            rw [htg,f3,hq]
            simp only [hci,Bool.false_eq_true,if_false]
      · refine ⟨hr.st.le.trans hle,hos'.trans hr.st.os,htape.trans hr.st.tape,hout.trans hr.st.output,Nat.le_trans hr.st.size hsize,fun b h1 h2=>?_,fun b hb=>?_,Nat.le_trans hr.st.nb (Nat.le_add_right _ _)⟩
        · refine (hblock b (Nat.lt_of_lt_of_le h1 hr.st.size) fun hm=>?_).trans (hr.st.block b h1 h2)
          rcases hmW b hm with h3|h3
          · omega
          · exact h2 h3
        · rcases hro' b hb with h3|h3|h3
          · exact hr.st.ro b h3
          · exact .inr (.inl (Nat.le_trans hr.st.size h3))
          · exact .inr (hmW b h3)
    have hT:∀ g,M g→E.tg g=none→∃ j l,(wr.contains j=true∨nb≤j)∧E.at_ j=some (some l)∧l.g=g:=by
      intro g hg h0
      rcases hg with ⟨j,x,l,h1,_,h3,h4⟩|⟨k,p,h1,_⟩
      · exact ⟨j,l,hwr j h1,h3,h4⟩
      · rw [h0] at h1;cases h1
    refine hK _ _ _ _ (hk d os' nb' hq hnb) (hrel.put o.dst (hv.ren d.inn_every hvia)) ⟨hle,hsize,fun b hb h0 hT'=>hblock b hb fun hm=>?_,fun j l h1 h2=>?_,fun b h1 h2=>?_⟩
    · obtain ⟨j,l,h1,h2,h3⟩:=hT b hm h0
      exact hT' j l h1 h2 h3
    · have hj:s.nb≤j:=by
        rcases Nat.lt_or_ge j s.nb with h3|h3
        · rw [hold j h3,h1] at h2;cases h2
        · exact h3
      have h3:E'.at_ (j - s.nb+ρ.length)=some (some l):=by
        have:(if j < s.nb then E.at_ j else E'.at_ (j - s.nb+ρ.length))=some (some l):=h2
        rwa [if_neg (by omega)] at this
      rcases hnl _ l (by omega) h3 with h4|⟨j',x,m,h4,_,h5,h6⟩|⟨k,p,h4,_⟩
      · exact .inl h4
      · exact .inr (.inl ⟨j',m,hwr j' h4,h5,h6⟩)
      · exact .inr (.inr (by rw [h4];simp))
    · have h3:(match E'.tg b with|some (i,p)=>some (tau ρ s.nb i,p)|none=>match E.tg b with|some (k,p)=>if ρ.contains k=true then none else some (k,p)|none=>none)≠none:=h2
      rw [h1] at h3
      cases h4:E'.tg b with
      |none=>rw [h4] at h3;exact absurd rfl h3
      |some q=>
        rcases (hsr'.tr.blk b q.1 q.2 h4).2.1 with h5|h5
        · exact .inl h5
        · obtain ⟨j,l,h6,h7,h8⟩:=hT b h5 h1
          exact .inr ⟨j,l,h6,h7,h8⟩
theorem args_rep {X:Ctx}{s:St}{E:Env}{a:Act}{w:World} (hr:Rel X s E a w) (xs:Array Operand) (j:Nat) (d:D) (hd:(xs.toList.map s.ev)[j]? = some d):Rep E w d ((xs.map a.eval).getD j undef):=by
  rw [List.getElem?_map] at hd
  cases hx:xs.toList[j]? with
  |none=>rw [hx] at hd;cases hd
  |some x=>
    rw [hx] at hd
    injection hd with hd
    subst hd
    have h2:(xs.map a.eval).getD j undef=a.eval x:=by
      rw [Array.getElem?_toList] at hx
      simp [Array.getD_eq_getD_getElem?, hx]
    rw [h2]
    exact hr.ev x
theorem awcallHF {X:Ctx}{P:Program}{o:Oper}{s:St}{wr:List Nat}{nb:Nat}{f:FuncId}{xs:Array Operand}{ats:Array TypeId}{K:St→Prop} (ho:o.op = .call { callee:=.value (.func f),args:=xs,argTypes:=ats })
    {ds:List D}{os:List (Nat × Ob)}{k:Nat}{Q:D→List (Nat × Ob)→Nat→Prop} (hs:SpecH P f ds os k Q) (ρ:List Nat) (hρ:ρ.Nodup) (hlen:ρ.length=k) (hin:insOk s.os ρ false=true) (hos:handOs s.os (sg ρ) ρ=os)
    (hdin:(xs.toList.map s.ev).all (D.inn ρ.contains)=true) (hds:(xs.toList.map s.ev).map (D.ren (sg ρ))=ds) (hwr:∀ j ∈ ρ,wr.contains j=true∨nb≤j)
    (hk:∀ d os' nb',Q d os' nb'→k≤nb'→K ((s.back ρ os' nb').put o.dst (d.ren (tau ρ s.nb)))):AwStepF X P o s wr nb K:=
  awcallGF (fun E a w hc hr => ⟨xs.map a.eval, by
    rw [show execOp a.eval o=callFunc f (#[]++xs.map a.eval++#[]) by simp only [execOp,ho];rfl,hc]
    simp, by simp, args_rep hr xs⟩) hs ρ hρ hlen hin hos hdin hds hwr hk
end Go.Proofs.YtidjjfjhmlndjaaGreatDoor
namespace Go.Proofs.YtidjjfjhmlndjaaGreatDoor
open Go.RowKit
def u8D (ns:List Int):List D:=ns.map fun b=>.sc (.int .u8 b)
def strOf (ns:List Int):ByteArray:=ns.foldl (fun r n=>r.push (UInt8.ofNat n.toNat)) ByteArray.empty
theorem strOf_size (ns:List Int):(strOf ns).size=ns.length:=by
  have:∀ (ns:List Int) (r:ByteArray),(ns.foldl (fun r n=>r.push (UInt8.ofNat n.toNat)) r).size=r.size+ns.length:=by
    intro ns
    induction ns with
    |nil=>intro r;simp
    |cons n ns ih=>intro r;rw [List.foldl_cons,ih,ByteArray.size_push,List.length_cons];omega
  have h:=this ns ByteArray.empty
  simpa [strOf] using h
theorem awbytes {X:Ctx}{P:Program}{o:Oper}{s:St}{wr:List Nat}{nb:Nat}{src dst e:TypeId}{x:Operand}{K:St→Prop} (ho:o.op = .convert src dst x) (hs:P.underlying src=some (.slice e)) (he:P.underlying e=some (.int .u8)) (hd:isStr P dst=true)
    (ns:List Int) (hsrc:srcD s (s.ev x)=some (ns.length,u8D ns)) (hk:K (s.put o.dst (.sc (.string (strOf ns))))):AwStepF X P o s wr nb K:=by
  refine ⟨fun E a w K' R hr hK=>?_⟩
  obtain ⟨news,hnl,⟨A,c,hv,hat⟩,hrep⟩:=flat_of hr hsrc 1 (by omega) (by simp [u8D])
  have hnews:news=ns.map (Value.int .u8):=by
    refine List.ext_getElem? fun j=>?_
    by_cases hj:j < ns.length
    · have hj2:j < news.length:=by rw [hnl];simpa [u8D] using hj
      have h1:=(hrep j (.sc (.int .u8 ns[j])) news[j] (by simp [u8D,hj]) (List.getElem?_eq_getElem hj2)).1
      rw [List.getElem?_eq_getElem hj2,h1.1]
      simp [hj]
    · rw [List.getElem?_eq_none (by rw [hnl];simpa [u8D] using hj),List.getElem?_eq_none (by simpa using hj)]
  have hrun:(Conv.bytesToString (.slice A ns.length c)).run P w = .ok (.string (strOf ns)) w:=by
    cases A with
    |none=>
      have h0:ns = []:=by
        rcases Nat.eq_zero_or_pos ns.length with h|h
        · exact List.eq_nil_of_length_eq_zero h
        · obtain ⟨_,_,h2,_⟩:=hat h;cases h2
      subst h0
      simp [Conv.bytesToString,strOf]
    |some ad=>
      refine run_bytesToString w ad _ c ns ?_
      have h1:=run_loadCells_list (P:=P) (w:=w) ad (ns.map (Value.int .u8)) fun j v hj=>by
        have hpos:0 < ns.length:=by
          have:=(List.getElem?_eq_some_iff.1 hj).1
          simp at this
          omega
        obtain ⟨b,oo,h2,_,h3⟩:=hat hpos
        obtain rfl:ad=⟨b,oo,none⟩:=by simpa using h2
        rw [Addr.add_lit]
        exact h3 j v (by rw [hnews];exact hj)
      simpa using h1
  unfold Oper.wp
  rw [show (execOp a.eval o).run P w = .ok (.value (.string (strOf ns))) w by
    simp only [execOp,ho,hv,Sem.run_bind,run_convert_bytes_string w src dst e A ns.length c hs he (isStr_ hd),hrun,Result.andThen_ok]
    rfl]
  exact hK _ _ _ _ hk (hr.put o.dst ⟨rfl,rfl⟩) (FrT.of (Fr.same none E w))
/-- An operation that is known, as a step. -/
theorem AwOp.step {X:Ctx}{P:Program}{o:Oper}{s s':St}{wr:List Nat}{nb:Nat}{K:St→Prop} (h:AwOp X P o s s') (ht:tgt s o=none) (hk:K s'):AwStepF X P o s wr nb K:=
  ⟨fun E a w K' R hr hK=>h E a w K' R hr fun E' a' w' hr' hf=>hK _ _ _ _ hk hr' (by rw [ht] at hf;exact FrT.of hf)⟩
end Go.Proofs.YtidjjfjhmlndjaaGreatDoor
namespace Go.Proofs.YtidjjfjhmlndjaaGreatDoor
open Go.RowKit
def fitTmR (ρ:List Nat):List D→List D→Prop
  | [], []=>True
  |d::ds,e::es=>(e = .none∨(d.inn ρ.contains=true∧e=d.ren (sg ρ)))∧fitTmR ρ ds es
  |_,_=>False
theorem fitTmR_at {ρ:List Nat}:∀ {ds es:List D},fitTmR ρ ds es→ds.length=es.length∧∀ (t:Nat) (e:D),es[t]? = some e→e = .none∨∃ d,ds[t]? = some d∧d.inn ρ.contains=true∧e=d.ren (sg ρ)
  | [], [],_=>⟨rfl,fun t e h=>by simp at h⟩
  |d::ds,e::es,h=>by
    obtain ⟨h1,h2⟩:=fitTmR_at h.2
    refine ⟨by simp [h1],fun t e' he=>?_⟩
    rcases t with _|t
    · simp only [List.getElem?_cons_zero,Option.some.injEq] at he
      subst he
      rcases h.1 with h3|h3
      · exact .inl h3
      · exact .inr ⟨d,by simp,h3⟩
    · rcases h2 t e' (by simpa using he) with h3|⟨d',h3,h4⟩
      · exact .inl h3
      · exact .inr ⟨d',by simpa using h3,h4⟩
  | [],_::_,h=>h.elim
  |_::_, [],h=>h.elim
/-- s' says no more than s, with the objects ρ under the numbers 0, 1, .. (the first k keep theirs). -/
def FitR (k:Nat) (ρ:List Nat) (s s':St):Prop:=
  (ρ.Nodup∧(∀ i,i < k→ρ[i]? = some i)∧insOk s.os ρ true=true)∧fitTmR ρ s.tm s'.tm∧(∀ p ∈ s'.os,p ∈ handOs s.os (sg ρ) ρ)∧(s'.os.map (·.1)).Nodup∧s'.nb=ρ.length∧k≤ρ.length
theorem fitR_sound {X:Ctx}{ρ:List Nat}{s s':St} (h:FitR X.nb ρ s s') {E:Env}{a:Act}{w:World} (hr:Rel X s E a w):Rel X s' (E.hand ρ) a w:=by
  obtain ⟨⟨h1,h2,h3⟩,h4,h5,h6,h7,h8⟩:=h
  obtain ⟨hl,hat⟩:=fitTmR_at h4
  have hsr:=hand_sr (W':=X.W) hr.sr ρ h1 h3 (fun j x l _ _ _ hw=>hw) (fun _ _ _ _ _ hw=>hw)
  refine ⟨hr.sz.trans hl,fun t e he=>?_,hr.df,⟨fun i x hi=>hsr.obs i x (h5 _ hi),fun i hi=>hsr.new i (by omega),hsr.rolt,fun i x j y hi hj=>hsr.apart i x j y (h5 _ hi) (h5 _ hj),h6,hsr.tr.keep rfl (fun b k p _ e1 e2 e3 e4=>⟨e1,rfl,e2,e3,fun j y l hj hl=>e4 j y l (h5 _ hj) hl⟩) fun k x' hx j ty sz n cs hj=>⟨x',h5 _ hx,hj,fun l hl=>⟨hl,rfl⟩⟩⟩,?_⟩
  · rcases hat t e he with rfl|⟨d,h9,h10,rfl⟩
    · trivial
    · exact (hr.tm t d h9).ren h10 (E.hand_via ρ)
  · refine ⟨⟨fun i l hl'=>?_,fun b hb=>hr.st.le.ro b hb⟩,hr.st.os,hr.st.tape,hr.st.output,hr.st.size,hr.st.block,hr.st.ro,by omega⟩
    have hi:i < X.nb:=by
      rcases Nat.lt_or_ge i X.nb with h|h
      · exact h
      · rw [X.new i h] at hl';cases hl'
    exact (Env.hand_of (h2 i hi)).trans (hr.st.le.at_ i l hl')
end Go.Proofs.YtidjjfjhmlndjaaGreatDoor
namespace Go.Proofs.YtidjjfjhmlndjaaGreatDoor
open Go.RowKit
def D.rp:D→Bool
  |.sc _|.sl ..=>true
  |_=>false
def D.frz1 (i:Nat) (x:Ob):D→D
  |.own j off n=>if j=i then (if off=0∧n=x.len then .sl n x.cs else if off+n*x.size≤x.cs.length then .sl n ((x.cs.drop off).take (n*x.size)) else .none) else .own j off n
  |.ptr j o=>if j=i then .cptr x.cs o else .ptr j o
  |d=>d
def D.frzA (i:Nat) (x:Ob):D→D
  |.agg cs=>.agg (cs.map (D.frz1 i x))
  |d=>d.frz1 i x
def D.frz (i:Nat) (x:Ob):D→D
  |.tup ds=>.tup (ds.map (D.frzA i x))
  |d=>d.frzA i x
def St.frz (s:St) (i:Nat):St:=match s.ob i with
  |some x=>⟨s.tm.map (D.frz i x),(s.os.filter (fun p=>!(p.1==i))).map (fun p=>(p.1,{ p.2 with cs:=p.2.cs.map (D.frz1 i x) })),s.nb⟩
  |none=>s
def frzOk (s:St) (i:Nat):Bool:=match s.ob i with
  |some x=>x.cs.all D.rp
  |none=>true
def Env.frz (E:Env) (i:Nat):Env:=⟨fun b=>E.ro b∨∃ l,E.at_ i=some (some l)∧l.g=b,E.at_,E.tg⟩
theorem Env.frz_le (E:Env) (i:Nat):E.le (E.frz i):=⟨fun _ _ h=>h,fun _ h=>.inl h⟩
theorem Rep1.rp {E:Env}{w:World}{d:D}{u:Value} (h:Rep1 E w d u) (hd:d.rp=true):RepP E.ro w d u:=by
  cases d with
  |sc v=>obtain ⟨rfl,h1⟩:=h;exact .sc _ h1
  |sl n cs=>exact h
  |_=>cases hd
theorem mapOk_frz {cs:List D}{es:Array MapEntry}{i:Nat}{x:Ob} (h:MapOk cs es):MapOk (cs.map (D.frz1 i x)) es:=by
  refine ⟨?_,h.2⟩
  rw [h.1,List.map_cons,List.map_flatMap]
  rfl
theorem frz_part {X:Ctx}{s:St}{E:Env}{a:Act}{w:World} (hr:Rel X s E a w) {i:Nat}{x:Ob} (hx:s.ob i=some x) (hk:x.cs.all D.rp=true) {l:Loc} (hl:E.at_ i=some (some l)) {off n c m:Nat} (hm:off+m≤x.cs.length) (hn:n≤c) (hc:c≤maxLen):
    Rep1 (E.frz i) w (.sl n ((x.cs.drop off).take m)) (.slice (some ⟨l.g,off,none⟩) n c):=by
  obtain ⟨us,e1,e2,e3⟩:=hr.cells (St.ob_some hx).2 (mem_of_lookup (St.ob_some hx).1) hl off m hm
  refine .sl n _ (some ⟨l.g,off,none⟩) c us (by simp [e1];omega) hn hc (fun j u hu=>⟨l.g,off,rfl,.inr ⟨l,hl,rfl⟩,e2 j u hu⟩) fun j d u hd hu=>?_
  obtain ⟨e4,_⟩:=e3 j d u hd hu
  have hmem:d ∈ x.cs:=List.mem_of_mem_drop (List.mem_of_mem_take (List.mem_of_getElem? hd))
  exact (e4.rp (List.all_eq_true.1 hk d hmem)).keep (fun b hb=>.inl hb) fun _ _=>rfl
theorem Rep1.frz {X:Ctx}{s:St}{E:Env}{a:Act}{w:World} (hr:Rel X s E a w) {i:Nat}{x:Ob} (hx:s.ob i=some x) (hk:x.cs.all D.rp=true) {d:D}{u:Value} (h:Rep1 E w d u):Rep1 (E.frz i) w (d.frz1 i x) u∧(u.oneCell' = true→True):=by
  refine ⟨?_,fun _=>trivial⟩
  have hkeep:Rep1 (E.frz i) w d u:=h.keep (E.frz_le i) fun _ _=>rfl
  cases d with
  |own j off n=>
    by_cases hj:j=i
    · subst hj
      simp only [D.frz1,if_true]
      have hxl:=(hr.sr.obs j x (mem_of_lookup (St.ob_some hx).1)).1 (St.ob_some hx).2
      rcases h with ⟨l,c,h1,rfl,h3,h4,h5⟩|⟨h1,rfl,rfl,rfl⟩
      · split
        · rename_i h6
          obtain ⟨rfl,rfl⟩:=h6
          have:=frz_part hr hx hk h1 (off:=0) (m:=x.cs.length) (by omega) h3 h4
          simpa using this
        · split
          · rename_i h6
            exact frz_part hr hx hk h1 h6 h3 h4
          · trivial
      · have h0:x.len=0:=by
          rcases (hr.sr.obs j x (mem_of_lookup (St.ob_some hx).1)).2 with ⟨_,h2⟩|⟨l,h2,_⟩
          · exact h2
          · rw [h1] at h2;cases h2
        rw [h0,Nat.zero_mul] at hxl
        have hnil:x.cs = []:=List.eq_nil_of_length_eq_zero hxl
        rw [if_pos ⟨rfl,h0.symm⟩,hnil]
        exact .sl 0 [] none 0 [] rfl (Nat.le_refl _) (Nat.zero_le _) (fun j u hu=>by simp at hu) fun j d u hd=>by simp at hd
    · simp only [D.frz1,if_neg hj]
      exact hkeep
  |ptr j o=>
    by_cases hj:j=i
    · subst hj
      simp only [D.frz1,if_true]
      obtain ⟨l,h1,rfl⟩:=h
      obtain ⟨us,e1,e2,e3⟩:=hr.cells (St.ob_some hx).2 (mem_of_lookup (St.ob_some hx).1) h1 0 x.cs.length (by omega)
      refine ⟨l.g,0,us,by simp,.inr ⟨l,h1,rfl⟩,e1,e2,fun k d v hd hv=>?_⟩
      obtain ⟨e4,_⟩:=e3 k d v (by simpa using hd) hv
      exact (e4.rp (List.all_eq_true.1 hk d (List.mem_of_getElem? hd))).keep (fun b hb=>.inl hb) fun _ _=>rfl
    · simp only [D.frz1,if_neg hj]
      exact hkeep
  |_=>exact hkeep
theorem RepA.frz {X:Ctx}{s:St}{E:Env}{a:Act}{w:World} (hr:Rel X s E a w) {i:Nat}{x:Ob} (hx:s.ob i=some x) (hk:x.cs.all D.rp=true) {d:D}{u:Value} (h:RepA E w d u):RepA (E.frz i) w (d.frzA i x) u:=by
  by_cases ha:∀ cs,d≠.agg cs
  · rw [repA_of ha] at h
    have h2:=(h.frz hr hx hk).1
    have h3:d.frzA i x=d.frz1 i x:=by cases d<;>first|rfl|exact absurd rfl (ha _)
    rw [h3]
    rw [repA_of (by intro cs he;cases d<;>simp only [D.frz1] at he<;>first|exact ha _ he|(split at he<;>first|(split at he<;>first|cases he|(split at he<;>cases he))|cases he)|cases he)]
    exact h2
  · obtain ⟨cs,ha⟩:=Classical.not_forall.1 ha
    obtain rfl:=Classical.not_not.1 ha
    obtain ⟨us,h1,h2,h3⟩:=h
    refine ⟨us,h1,by simp [h2],fun j d v hj hv=>?_⟩
    rw [List.getElem?_map] at hj
    cases hc:cs[j]? with
    |none=>rw [hc] at hj;cases hj
    |some e=>
      rw [hc] at hj
      injection hj with hj
      subst hj
      obtain ⟨h4,h5⟩:=h3 j e v hc hv
      exact ⟨(h4.frz hr hx hk).1,h5⟩
theorem Rep.frz {X:Ctx}{s:St}{E:Env}{a:Act}{w:World} (hr:Rel X s E a w) {i:Nat}{x:Ob} (hx:s.ob i=some x) (hk:x.cs.all D.rp=true) {d:D}{u:Value} (h:Rep E w d u):Rep (E.frz i) w (d.frz i x) u:=by
  by_cases ha:∀ cs,d≠.tup cs
  · rw [rep_of ha] at h
    have h2:=h.frz hr hx hk
    have h3:d.frz i x=d.frzA i x:=by cases d<;>first|rfl|exact absurd rfl (ha _)
    rw [h3]
    rw [rep_of (by intro cs he;cases d<;>simp only [D.frzA,D.frz1] at he<;>first|exact ha _ he|(split at he<;>first|(split at he<;>first|cases he|(split at he<;>cases he))|cases he)|cases he)]
    exact h2
  · obtain ⟨cs,ha⟩:=Classical.not_forall.1 ha
    obtain rfl:=Classical.not_not.1 ha
    obtain ⟨us,h1,h2,h3⟩:=h
    refine ⟨us,h1,by simp [h2],fun j d v hj hv=>?_⟩
    rw [List.getElem?_map] at hj
    cases hc:cs[j]? with
    |none=>rw [hc] at hj;cases hj
    |some e=>
      rw [hc] at hj
      injection hj with hj
      subst hj
      exact (h3 j e v hc hv).frz hr hx hk
theorem frz_sound {X:Ctx}{s:St}{i:Nat} (hk:frzOk s i=true) {E:Env}{a:Act}{w:World} (hr:Rel X s E a w):∃ E',Rel X (s.frz i) E' a w∧E.le E'∧E'.at_=E.at_∧E'.tg=E.tg:=by
  unfold frzOk at hk
  unfold St.frz
  cases hx:s.ob i with
  |none=>exact ⟨E,hr,.refl _,rfl,rfl⟩
  |some x=>
    rw [hx] at hk
    have hk':x.cs.all D.rp=true:=hk
    refine ⟨E.frz i,⟨by simpa using hr.sz,fun t d hd=>?_,hr.df,⟨fun j y hj=>?_,hr.sr.new,hr.sr.rolt.grow (fun _ h=>.inl h) (fun _ _=>rfl) fun b hb=>?_,fun j y k z hj hk2 hjk=>?_,?_,?_⟩,?_⟩,E.frz_le i,rfl,rfl⟩
    · simp only [List.getElem?_map] at hd
      cases ht:s.tm[t]? with
      |none=>rw [ht] at hd;cases hd
      |some e=>
        rw [ht] at hd
        injection hd with hd
        subst hd
        exact (hr.tm t e ht).frz hr hx hk'
    · obtain ⟨⟨j',y'⟩,h1,h2⟩:=List.mem_map.1 hj
      obtain ⟨h3,h4⟩:=List.mem_filter.1 h1
      injection h2 with h2 h5
      subst h2;subst h5
      have hji:j'≠i:=by simpa using h4
      obtain ⟨h6,h7⟩:=hr.sr.obs j' y' h3
      refine ⟨by simpa using h6,?_⟩
      rcases h7 with ⟨h8,h9⟩|⟨l,h8,h9,h10,h11,h12,⟨cur,h13,h14,h15⟩|⟨h13,es,clock,h14,h15⟩⟩
      · exact .inl ⟨h8,h9⟩
      rotate_left 1
      · refine .inr ⟨l,h8,h9,fun hb=>?_,h11,h12,.inr ⟨h13,es,clock,h14,mapOk_frz h15⟩⟩
        rcases hb with hb|⟨m,hm,he⟩
        · exact h10 hb
        · exact hr.sr.apart j' y' i x h3 (mem_of_lookup (St.ob_some hx).1) hji l m h8 hm he.symm
      · refine .inr ⟨l,h8,h9,fun hb=>?_,h11,h12,.inl ⟨cur,h13,h14,fun q d hd=>?_⟩⟩
        · rcases hb with hb|⟨m,hm,he⟩
          · exact h10 hb
          · exact hr.sr.apart j' y' i x h3 (mem_of_lookup (St.ob_some hx).1) hji l m h8 hm he.symm
        · simp only [List.getElem?_map] at hd
          cases hq:y'.cs[q]? with
          |none=>rw [hq] at hd;cases hd
          |some e=>
            rw [hq] at hd
            injection hd with hd
            subst hd
            obtain ⟨u,h16,h17,h18⟩:=h15 q e hq
            exact ⟨u,h16,h17,(h18.frz hr hx hk').1⟩
    · rcases hb with hb|⟨l,hl,rfl⟩
      · exact hr.sr.rolt b hb
      · exact hr.sr.lt (mem_of_lookup (St.ob_some hx).1) hl
    · obtain ⟨⟨j',y'⟩,h1,h2⟩:=List.mem_map.1 hj
      obtain ⟨h3,_⟩:=List.mem_filter.1 h1
      obtain ⟨⟨k',z'⟩,h4,h5⟩:=List.mem_map.1 hk2
      obtain ⟨h6,_⟩:=List.mem_filter.1 h4
      injection h2 with h2 _
      injection h5 with h5 _
      subst h2;subst h5
      exact hr.sr.apart _ _ _ _ h3 h6 hjk
    · show (((s.os.filter (fun p=>!(p.1==i))).map (fun p=>(p.1,({ p.2 with cs:=p.2.cs.map (D.frz1 i x) }:Ob)))).map (·.1)).Nodup
      rw [List.map_map]
      exact hr.sr.nodup.sublist ((List.filter_sublist).map _)
    · refine hr.sr.tr.keep rfl (fun b k p _ h1 h2 h3 h4=>⟨h1,rfl,h2,fun hb=>?_,fun j y l hj hl=>?_⟩) fun k x' hx' j ty sz n cs hj=>?_
      · rcases hb with hb|⟨l,hl,he⟩
        · exact h3 hb
        · exact h4 i x l (mem_of_lookup (St.ob_some hx).1) hl he
      · obtain ⟨⟨j',y'⟩,h5,h6⟩:=List.mem_map.1 hj
        obtain ⟨h7,_⟩:=List.mem_filter.1 h5
        injection h6 with h6 _
        subst h6
        exact h4 _ _ l h7 hl
      · obtain ⟨⟨j',y'⟩,h5,h6⟩:=List.mem_map.1 hx'
        obtain ⟨h7,_⟩:=List.mem_filter.1 h5
        injection h6 with h6 h8
        subst h6;subst h8
        have hj':(y'.cs.map (D.frz1 i x))[j]? = some (.tr ty sz n cs):=hj
        rw [List.getElem?_map] at hj'
        cases hq:y'.cs[j]? with
        |none=>rw [hq] at hj';cases hj'
        |some d=>
          rw [hq] at hj'
          injection hj' with hj'
          refine ⟨y',h7,?_,fun l hl=>⟨hl,rfl⟩⟩
          rw [hq]
          cases d<;>simp only [D.frz1,reduceCtorEq] at hj'<;>first|exact congrArg some hj'|(split at hj'<;>first|cases hj'|(split at hj'<;>first|cases hj'|(split at hj'<;>cases hj')))
    · refine ⟨hr.st.le.trans (E.frz_le i),hr.st.os,hr.st.tape,hr.st.output,hr.st.size,hr.st.block,fun b hb=>?_,hr.st.nb⟩
      rcases hb with hb|⟨l,hl,rfl⟩
      · exact hr.st.ro b hb
      · rcases (hr.sr.obs i x (mem_of_lookup (St.ob_some hx).1)).2 with ⟨h8,_⟩|⟨m,h8,h9,_⟩
        · rw [hl] at h8;cases h8
        · rw [hl] at h8
          injection h8 with h8
          injection h8 with h8
          subst h8
          exact .inr h9
def frzs (s:St):List Nat→St
  | []=>s
  |i::is=>frzs (s.frz i) is
def frzsOk (s:St):List Nat→Bool
  | []=>true
  |i::is=>frzOk s i&&frzsOk (s.frz i) is
theorem frzs_sound {X:Ctx}:∀ {is:List Nat}{s:St},frzsOk s is=true→∀ {E:Env}{a:Act}{w:World},Rel X s E a w→∃ E',Rel X (frzs s is) E' a w∧E.le E'∧E'.at_=E.at_∧E'.tg=E.tg
  | [],_,_,E,_,_,hr=>⟨E,hr,.refl _,rfl,rfl⟩
  |i::is,s,h,E,a,w,hr=>by
    simp only [frzsOk,Bool.and_eq_true] at h
    obtain ⟨E1,h1,h2,h3,h7⟩:=frz_sound h.1 hr
    obtain ⟨E2,h4,h5,h6,h8⟩:=frzs_sound h.2 h1
    exact ⟨E2,h4,h2.trans h5,h6.trans h3,h8.trans h7⟩
/-- Ahead of a step. -/
theorem awfrzF {X:Ctx}{P:Program}{o:Oper}{s:St}{wr:List Nat}{nb:Nat}{K:St→Prop} (is:List Nat) (hok:frzsOk s is=true) (h:AwStepF X P o (frzs s is) wr nb K):AwStepF X P o s wr nb K:=by
  refine ⟨fun E a w K' R hr hK=>?_⟩
  obtain ⟨E1,h1,h2,h3,h9⟩:=frzs_sound hok hr
  exact h.out E1 a w K' R h1 fun s' E' a' w' hq hr' hf => hK s' E' a' w' hq hr' ⟨h2.trans hf.le, hf.size, fun b hb h0 ht => hf.block b hb (by rw [h9]; exact h0) (fun i l h4 h5 => ht i l h4 (by rw [← h3]; exact h5)), fun i l h4 h5 => by
    rcases hf.new i l (by rw [h3];exact h4) h5 with h6|⟨k,m,h6,h7,h8⟩|h6
    · exact .inl h6
    · exact .inr (.inl ⟨k,m,h6,by rw [← h3];exact h7,h8⟩)
    · exact .inr (.inr (by rw [← h9];exact h6)),fun b h4 h5=>by
    rcases hf.tag b (by rw [h9];exact h4) h5 with h6|⟨k,m,h6,h7,h8⟩
    · exact .inl h6
    · exact .inr ⟨k, m, h6, by rw [← h3]; exact h7, h8⟩⟩
/-- Where a function returns. -/
def retOkZ (P:Program) (rs:List ResultVar) (Q:D→Prop) (s:St):Prop:=∃ is,frzsOk s is=true∧retOk P rs Q (frzs s is)
def retQZ (P:Program) (rs:List ResultVar) (Q:D→Prop):Exit→St→Prop
  |.normal,s=>retOkZ P rs Q s
  |.ret,s=>retOkZ P rs Q s
  |_,_=>False
theorem rqz_normal (P:Program) (rs:List ResultVar) (Q:D→Prop) (s:St):retQZ P rs Q .normal s=retOkZ P rs Q s:=rfl
theorem rqz_ret (P:Program) (rs:List ResultVar) (Q:D→Prop) (s:St):retQZ P rs Q .ret s=retOkZ P rs Q s:=rfl
/-- A call under a condition on tables. -/
def Stays (T:(Nat→Prop)→World→Prop):Prop:=∀ (ro ro':Nat→Prop) (w w':World),T ro w→(∀ b,ro b→ro' b)→(∀ b,ro b→w'.heap[b]? = w.heap[b]?)→T ro' w'
theorem TK.at {T:(Nat→Prop)→World→Prop} (hT:Stays T) {X:Ctx} (h:TK T X) {s:St}{E:Env}{a:Act}{w:World} (hr:Rel X s E a w):T E.ro w:=
  hT _ _ _ _ h.is hr.st.le.ro fun b hb=>hr.st.block b (h.ro b hb).1 (h.ro b hb).2
end Go.Proofs.YtidjjfjhmlndjaaGreatDoor
namespace Go.Proofs.YtidjjfjhmlndjaaGreatDoor
open Go.RowKit
/-- What the element type says to append. -/
def appK (P:Program) (e:TypeId) (size:Nat):Option Nat:=match P.info? e with
  |some i=>match i.zero with|some z=>if i.size=size∧z.cells.size=size∧0 < size then some i.bytes else none|none=>none
  |none=>none
theorem appK_ {P:Program}{e size bytes:Nat} (h:appK P e size=some bytes):∃ z:Value,(P.info? e).map (fun i=>(i.zero,i.size,i.bytes))=some (some z,size,bytes)∧z.cells.size=size∧0 < size:=by
  unfold appK at h
  cases hi:P.info? e with
  |none=>rw [hi] at h;cases h
  |some i=>
    rw [hi] at h
    cases hz:i.zero with
    |none=>simp [hz] at h
    |some z=>
      simp only [hz] at h
      split at h
      · rename_i h1
        injection h with h
        exact ⟨z,by simp [hz,h1.1,h],h1.2.1,h1.2.2⟩
      · cases h
def obOk (s:St) (i:Option Nat) (e size:Nat):Bool:=match i with
  |some k=>match s.ob k with|some q=>q.ty==e&&(q.size==size&&((e==1000000)==false))|none=>true
  |none=>true
def appD (P:Program) (s:St) (t:TypeId) (x y:D):Option (Option Nat × Ob):=
  match elemK P t with
  |some (e,size)=>match appK P e size,baseD s x,srcD s y with
    |some bytes,some (i,n,cs),some (m,ds)=>if obOk s i e size=true∧srcNt s y=true∧ds.length=m*size∧n+m≤9223372036854775807∧(n+m)*bytes≤140737488355328 then some (i,⟨e,size,n+m,cs++ds⟩) else none
    |_,_,_=>none
  |none=>none
def wrOk (wr:List Nat) (nb:Nat):Option Nat→Bool
  |some k=>wr.contains k||Nat.ble nb k
  |none=>true
theorem awappF {X:Ctx}{P:Program}{o:Oper}{s:St}{wr:List Nat}{nb:Nat}{x y:Operand}{t:TypeId}{K:St→Prop} (ho:o.op = .call { callee:=.builtin .append,args:=#[x,y],argTypes:=#[t,t] })
    {i:Option Nat}{ob:Ob} (h:appD P s t (s.ev x) (s.ev y)=some (i,ob)) (hwr:wrOk wr nb i=true) (hk:K ((s.app i ob).put o.dst (.own s.nb 0 ob.len))):AwStepF X P o s wr nb K:=by
  unfold appD at h
  split at h
  · rename_i e size he
    split at h
    · rename_i bytes i' n cs m ds h1 h2 h3
      split at h
      · rename_i hg
        obtain ⟨g1,g0,g2,g3,g4⟩:=hg
        injection h with h
        injection h with h4 h5
        subst h4;subst h5
        obtain ⟨z,h6,h7,h8⟩:=appK_ h1
        refine awappendF ho he h6 h7 h8 h2 (fun k hk' q hq=>?_) h3 g2 g0 (by unfold maxLen;omega) g4 hk fun k hk'=>?_
        · subst hk'
          simp only [obOk,hq] at g1
          simpa using g1
        · subst hk'
          simp only [wrOk,Bool.or_eq_true] at hwr
          rcases hwr with h9|h9
          · exact .inl h9
          · exact .inr (Nat.le_of_ble_eq_true h9)
      · cases h
    · cases h
  · cases h
def u8s:List D→Option (List Int)
  | []=>some []
  |.sc (.int .u8 b)::r=>match u8s r with|some l=>some (b::l)|none=>none
  |_=>none
theorem u8s_:∀ {cs:List D}{ns:List Int},u8s cs=some ns→cs=u8D ns
  | [],ns,h=>by injection h with h;subst h;rfl
  |d::r,ns,h=>by
    unfold u8s at h
    split at h
    · rename_i heq;cases heq
    · rename_i b r' heq
      injection heq with h1 h2
      subst h1;subst h2
      split at h
      · rename_i l hl
        injection h with h
        subst h
        rw [u8s_ hl]
        rfl
      · cases h
    · cases h
theorem u8s_u8D:∀ ns:List Int,u8s (u8D ns)=some ns
  | []=>rfl
  |b::r=>by
    show (match u8s (u8D r) with|some l=>some (b::l)|none=>none)=_
    rw [u8s_u8D r]
theorem u8s_cons (b:Int) (r:List D):u8s (.sc (.int .u8 b)::r)=(match u8s r with|some l=>some (b::l)|none=>none):=rfl
theorem u8s_nil:u8s []=some []:=rfl
def u8Ty (P:Program) (src dst:TypeId):Bool:=isStr P dst&&(match P.underlying src with|some (.slice e)=>(match P.underlying e with|some (.int .u8)=>true|_=>false)|_=>false)
def bytD (P:Program) (s:St) (src dst:TypeId) (x:D):Option ByteArray:=if u8Ty P src dst=true then match srcD s x with
  |some (n,cs)=>match u8s cs with|some ns=>if n=ns.length then some (strOf ns) else none|none=>none
  |none=>none else none
theorem awbytF {X:Ctx}{P:Program}{o:Oper}{s:St}{wr:List Nat}{nb:Nat}{src dst:TypeId}{x:Operand}{K:St→Prop} (ho:o.op = .convert src dst x) {b:ByteArray} (h:bytD P s src dst (s.ev x)=some b) (hk:K (s.put o.dst (.sc (.string b)))):AwStepF X P o s wr nb K:=by
  unfold bytD at h
  split at h
  · rename_i ht
    split at h
    · rename_i n cs h1
      split at h
      · rename_i ns h2
        split at h
        · rename_i h3
          injection h with h
          subst h3;subst h
          rw [u8s_ h2] at h1
          unfold u8Ty at ht
          simp only [Bool.and_eq_true] at ht
          obtain ⟨h4,h5⟩:=ht
          split at h5
          · rename_i e h6
            split at h5
            · rename_i h7
              exact awbytes ho h6 h7 h4 ns h1 hk
            · cases h5
          · cases h5
        · cases h
      · cases h
    · cases h
  · cases h
def mkD (P:Program) (t:TypeId) (x y:D):Option Ob:=match x,y with
  |.sc (.int _ n),.sc (.int _ m)=>match elemK P t with
    |some (e,size)=>match appK P e size,zeroK P e with
      |some bytes,some z=>if z.cells.toList.all Value.oneCell' = true∧n=m∧0≤n∧n.toNat*size≤16777216∧(bytes:Int)*n≤281474976710656∧n≤9223372036854775807 then some ⟨e,size,n.toNat,rowD (zeroD z) n.toNat⟩ else none
      |_,_=>none
    |none=>none
  |_,_=>none
def mkS (P:Program) (s:St) (o:Oper) (t:TypeId) (x y:D):Option St:=match mkD P t x y with|some ob=>some ((s.newOb ob).put o.dst (.own s.nb 0 ob.len))|none=>none
/-- make of length 0 with room. -/
def mk0D (P:Program) (t:TypeId) (y:D):Option Ob:=match y with
  |.sc (.int _ m)=>match elemK P t with
    |some (e,size)=>match appK P e size with
      |some bytes=>if 0≤m∧m.toNat*size≤16777216∧(bytes:Int)*m≤281474976710656∧m≤9223372036854775807 then some ⟨e,size,0, []⟩ else none
      |_=>none
    |none=>none
  |_=>none
def mk0S (P:Program) (s:St) (o:Oper) (t:TypeId) (y:D):Option St:=match mk0D P t y with|some ob=>some ((s.newOb ob).put o.dst (.own s.nb 0 0))|none=>none
def appS (P:Program) (s:St) (o:Oper) (t:TypeId) (x y:D):Option St:=match appD P s t x y with|some (i,ob)=>some ((s.app i ob).put o.dst (.own s.nb 0 ob.len))|none=>none
def appSF (P:Program) (s:St) (o:Oper) (wr:List Nat) (nb:Nat) (t:TypeId) (x y:D):Option St:=match appD P s t x y with|some (i,ob)=>if wrOk wr nb i=true then some ((s.app i ob).put o.dst (.own s.nb 0 ob.len)) else none|none=>none
def bytS (P:Program) (s:St) (o:Oper) (src dst:TypeId) (x:D):Option St:=match bytD P s src dst x with|some b=>some (s.put o.dst (.sc (.string b)))|none=>none
theorem appGF {X:Ctx}{P:Program}{o:Oper}{s:St}{wr:List Nat}{nb:Nat}{x y:Operand}{t:TypeId}{K:St→Prop} (ho:o.op = .call { callee:=.builtin .append,args:=#[x,y],argTypes:=#[t,t] })
    (h:stepK (appSF P s o wr nb t (s.ev x) (s.ev y)) K False):AwStepF X P o s wr nb K:=by
  unfold appSF at h
  cases h1:appD P s t (s.ev x) (s.ev y) with
  |none=>rw [h1] at h;exact h.elim
  |some p=>
    rw [h1] at h
    simp only at h
    split at h
    · rename_i h2;exact awappF ho h1 h2 h
    · exact h.elim
theorem bytGF {X:Ctx}{P:Program}{o:Oper}{s:St}{wr:List Nat}{nb:Nat}{src dst:TypeId}{x:Operand}{K:St→Prop} (ho:o.op = .convert src dst x) (h:stepK (bytS P s o src dst (s.ev x)) K False):AwStepF X P o s wr nb K:=by
  unfold bytS at h
  cases h1:bytD P s src dst (s.ev x) with
  |none=>rw [h1] at h;exact h.elim
  |some p=>rw [h1] at h;exact awbytF ho h1 h
end Go.Proofs.YtidjjfjhmlndjaaGreatDoor
namespace Go.Proofs.YtidjjfjhmlndjaaGreatDoor
open Go.RowKit Go.MapKept
/-- The cells of such a map that holds true at each of ns. -/
def seenD (ns:List Int):List D:=ns.flatMap fun n=> [.sc (.int .i64 n),.sc (.bool true)]
def seenOf:List D→Option (List Int)
  | []=>some []
  |.sc (.int .i64 n)::.sc (.bool true)::r=>(seenOf r).map (n::·)
  |_=>none
theorem seenOf_seenD (ns:List Int):seenOf (seenD ns)=some ns:=by
  induction ns with
  |nil=>rfl
  |cons n r ih=>
    show (seenOf (seenD r)).map (n::·)=_
    rw [ih];rfl
theorem seenOf_:∀ {cs:List D}{ns:List Int},seenOf cs=some ns→cs=seenD ns
  | [],ns,h=>by injection h with h;subst h;rfl
  |.sc (.int .i64 n)::.sc (.bool true)::r,ns,h=>by
    have h':(seenOf r).map (n::·)=some ns:=h
    cases hr:seenOf r with
    |none=>rw [hr] at h';cases h'
    |some ms=>
      rw [hr] at h'
      injection h' with h'
      subst h'
      rw [seenOf_ hr];rfl
def setOf:List D→Option (List Int)
  |.none::r=>seenOf r
  |_=>none
theorem setOf_ {cs:List D}{ns:List Int} (h:setOf cs=some ns):cs = .none::seenD ns:=by
  unfold setOf at h
  split at h
  · rw [seenOf_ h]
  · cases h
/-- The set that the map i holds. -/
def St.mo (s:St) (i:Nat):Option (List Int):=match s.os.lookup i with
  |some x=>cond (x.size==0) (setOf x.cs) none
  |none=>none
theorem St.mo_ {s:St}{i:Nat}{ns:List Int} (h:s.mo i=some ns):∃ x,(i,x) ∈ s.os∧x.size=0∧x.cs = .none::seenD ns:=by
  unfold St.mo at h
  split at h
  · rename_i x hx
    cases hz:(x.size==0) with
    |false=>rw [hz] at h;cases h
    |true=>
      rw [hz] at h
      exact ⟨x,mem_of_lookup hx,by simpa using hz,setOf_ h⟩
  · cases h
/-- The map in memory. -/
theorem Rel.map {X:Ctx}{s:St}{E:Env}{a:Act}{w:World} (h:Rel X s E a w) {i:Nat}{ns:List Int} (hm:s.mo i=some ns) {l:Loc} (hl:E.at_ i=some (some l)):
    ∃ x,(i,x) ∈ s.os∧x.size=0∧∃ es clock,w.heap[l.g]? = some (.map es clock)∧es.toList.flatMap (fun e=> [D.sc e.key,D.sc e.val])=seenD ns∧∀ e ∈ es.toList,e.key.oneCell' = true∧e.val.oneCell' = true:=by
  obtain ⟨x,hi,hz,hcs⟩:=St.mo_ hm
  obtain ⟨_,hx2⟩:=h.sr.obs i x hi
  rcases hx2 with ⟨h1,_⟩|⟨l',h1,_,_,_,_,⟨cur,_,h7,h8⟩|⟨_,es,clock,h6,h7,h8⟩⟩
  · rw [hl] at h1;cases h1
  · obtain ⟨u,hu,_⟩:=h8 0 .none (by rw [hcs];rfl)
    have:=(Array.getElem?_eq_some_iff.1 hu).1
    rw [h7,hz] at this
    omega
  · rw [hl] at h1
    injection h1 with h1;injection h1 with h1;subst h1
    rw [hcs] at h7
    injection h7 with _ h7
    exact ⟨x,hi,hz,es,clock,h6,h7.symm,h8⟩
theorem seenD_nil:seenD [] = []:=rfl
theorem seenOf_nil:seenOf []=some []:=rfl
theorem seenD_ren (f:Nat→Nat) (ns:List Int):(seenD ns).map (D.ren1 f)=seenD ns:=by simp [seenD,List.map_flatMap,D.ren1]
theorem seenD_frz (i:Nat) (x:Ob) (ns:List Int):(seenD ns).map (D.frz1 i x)=seenD ns:=by simp [seenD,List.map_flatMap,D.frz1]
theorem seenD_in (p:Nat→Bool) (ns:List Int):(seenD ns).all (D.in1 p)=true:=by simp [seenD,List.all_flatMap,D.in1]
theorem seenD_lt (k:Nat) (ns:List Int):(seenD ns).all (D.lt1 k)=true:=by simp [seenD,List.all_flatMap,D.lt1]
end Go.Proofs.YtidjjfjhmlndjaaGreatDoor
namespace Go.Proofs.YtidjjfjhmlndjaaGreatDoor
open Go.RowKit
def nilOb (e:TypeId) (size:Nat):Ob:=⟨e,size,0, []⟩
/-- The cell o of the object i holds the nil slice: it becomes a slice of an object of its own. -/
def St.nilCell (s:St) (i o:Nat) (e:TypeId) (size:Nat):St:=match s.ob i with
  |some x=>⟨s.tm,(s.nb,nilOb e size)::(s.setCs i (x.cs.set o (.own s.nb 0 0))).os,s.nb+1⟩
  |none=>s
def nilAt (s:St) (i o:Nat):Bool:=match s.ob i with
  |some x=>match x.cs[o]? with|some (.sc (.slice none 0 0))=>true|_=>false
  |none=>false
theorem lookup_of_mem {i:Nat}{x:Ob}:∀ {os:List (Nat × Ob)},(os.map (·.1)).Nodup→(i,x) ∈ os→os.lookup i=some x
  |(j,y)::os,hn,h=>by
    rw [List.lookup_cons]
    simp only [List.map_cons,List.nodup_cons] at hn
    rcases List.mem_cons.1 h with h|h
    · injection h with h1 h2
      subst h1;subst h2
      simp
    · have hij:i≠j:=fun e=>hn.1 (List.mem_map.2 ⟨(i,x),h,e⟩)
      have:(i==j)=false:=by simpa using hij
      rw [this]
      exact lookup_of_mem hn.2 h
theorem nil_sound {X:Ctx}{s:St}{i o:Nat} (hat:nilAt s i o=true) (e:TypeId) (size:Nat) {E:Env}{a:Act}{w:World} (hr:Rel X s E a w):Rel X (s.nilCell i o e size) (E.with s.nb none) a w:=by
  unfold nilAt at hat
  split at hat
  · rename_i x hx
    split at hat
    · rename_i hcell
      have hnew:=hr.sr.new s.nb (Nat.le_refl _)
      have hle:E.le (E.with s.nb none):=Env.with_le hnew
      have hmem:=mem_of_lookup (St.ob_some hx).1
      have hst:s.nilCell i o e size=⟨s.tm,(s.nb,nilOb e size)::(s.setCs i (x.cs.set o (.own s.nb 0 0))).os,s.nb+1⟩:=by unfold St.nilCell;rw [hx]
      rw [hst]
      have hold:∀ j y,(j,y) ∈ (s.setCs i (x.cs.set o (.own s.nb 0 0))).os→∃ z,(j,z) ∈ s.os∧((j≠i∧y=z)∨(j=i∧z=x∧y={ z with cs:=x.cs.set o (.own s.nb 0 0) })):=by
        intro j y hj
        obtain ⟨⟨k,z⟩,h1,h2⟩:=List.mem_map.1 hj
        by_cases hk:k=i
        · simp only [hk,if_true,Prod.mk.injEq] at h2
          obtain ⟨rfl,rfl⟩:=h2
          subst hk
          have hzx:z=x:=by
            have h3:=hr.sr.nodup
            have:=lookup_of_mem h3 h1
            rw [(St.ob_some hx).1] at this
            injection this with this
            exact this.symm
          exact ⟨z,h1,.inr ⟨rfl,hzx,rfl⟩⟩
        · simp only [hk,if_false,Prod.mk.injEq] at h2
          obtain ⟨rfl,rfl⟩:=h2
          exact ⟨_,h1,.inl ⟨hk,rfl⟩⟩
      have hne:∀ j z,(j,z) ∈ s.os→(E.with s.nb none).at_ j=E.at_ j:=fun j z h=>Env.with_ne (Nat.ne_of_lt (hr.sr.idlt h))
      refine ⟨hr.sz,fun t d hd=>(hr.tm t d hd).keep hle fun _ _=>rfl,hr.df,⟨fun j y hj=>?_,fun j hj=>?_,hr.sr.rolt,fun j y k z hj hk hjk l m hl hm=>?_,?_,?_⟩,⟨hr.st.le.trans hle,hr.st.os,hr.st.tape,hr.st.output,hr.st.size,hr.st.block,hr.st.ro,Nat.le_succ_of_le hr.st.nb⟩⟩
      · rcases List.mem_cons.1 hj with hj|hj
        · injection hj with e1 e2
          subst e1;subst e2
          exact ⟨by simp [nilOb],.inl ⟨Env.with_at,rfl⟩⟩
        · obtain ⟨z,h1,h2⟩:=hold j y hj
          have hob:=hr.sr.obs j z h1
          have hk := hob.keep (E' := E.with s.nb none) (w' := w) hle (fun _ _ => rfl) fun l hl => ⟨rfl, fun hro => by
            rcases hob.2 with ⟨h5,_⟩|⟨m,h5,_,h6,_⟩
            · rw [hl] at h5;cases h5
            · rw [hl] at h5; injection h5 with h5; injection h5 with h5; subst h5; exact h6 hro⟩
          rcases h2 with ⟨_,rfl⟩|⟨rfl,rfl,rfl⟩
          · exact hk
          · refine ⟨by simpa using hk.1,?_⟩
            rcases hk.2 with ⟨h8,h9⟩|⟨l,h8,h9,h10,h11,h12,⟨cur,h13,h14,h15⟩|⟨h13,_⟩⟩
            · exact .inl ⟨h8,h9⟩
            rotate_left 1
            · exact absurd h13 (St.ob_some hx).2
            · refine .inr ⟨l,h8,h9,h10,h11,h12,.inl ⟨cur,h13,h14,fun q d hd=>?_⟩⟩
              have hd':(z.cs.set o (.own s.nb 0 0))[q]? = some d:=hd
              rw [List.getElem?_set] at hd'
              split at hd'
              · rename_i hq
                subst hq
                split at hd'
                · injection hd' with hd'
                  subst hd'
                  obtain ⟨u,h16,h17,h18⟩:=h15 o _ hcell
                  exact ⟨u,h16,h17,.inr ⟨Env.with_at,rfl,rfl,h18.1⟩⟩
                · cases hd'
              · exact h15 q d hd'
      · have hj':s.nb+1≤j:=hj
        rw [Env.with_ne (by omega)]
        exact hr.sr.new j (by omega)
      · have hat0:(E.with s.nb none).at_ s.nb=some Option.none:=Env.with_at
        rcases List.mem_cons.1 hj with hj|hj
        · injection hj with e1 _
          subst e1
          rw [hat0] at hl;cases hl
        · rcases List.mem_cons.1 hk with hk|hk
          · injection hk with e1 _
            subst e1
            rw [hat0] at hm;cases hm
          · obtain ⟨y',h1,_⟩:=hold j y hj
            obtain ⟨z',h2,_⟩:=hold k z hk
            rw [hne j y' h1] at hl
            rw [hne k z' h2] at hm
            exact hr.sr.apart j y' k z' h1 h2 hjk l m hl hm
      · show (s.nb::(s.setCs i (x.cs.set o (.own s.nb 0 0))).os.map (·.1)).Nodup
        rw [show (s.setCs i (x.cs.set o (.own s.nb 0 0))).os.map (·.1)=s.os.map (·.1) from setCs_ids _ _ _]
        refine List.nodup_cons.2 ⟨fun h=>?_,hr.sr.nodup⟩
        obtain ⟨⟨j,y⟩,h1,h2⟩:=List.mem_map.1 h
        have h2':j=s.nb:=h2
        have:=hr.sr.idlt h1
        omega
      · refine hr.sr.tr.keep rfl (fun b k p _ h1 h2 h3 h4=>⟨h1,rfl,h2,h3,fun j y l hj hl=>?_⟩) fun k x' hx' j ty sz n cs hj=>?_
        · rcases List.mem_cons.1 hj with hj|hj
          · injection hj with e1 _
            subst e1
            rw [Env.with_at] at hl
            cases hl
          · obtain ⟨z,h5,_⟩:=hold j y hj
            rw [hne j z h5] at hl
            exact h4 j z l h5 hl
        · rcases List.mem_cons.1 hx' with hx'|hx'
          · injection hx' with e1 e2
            subst e1;subst e2
            simp [nilOb] at hj
          · obtain ⟨z,h5,h6⟩:=hold k x' hx'
            refine ⟨z,h5,?_,fun l hl=>⟨(hne k z h5).trans hl,rfl⟩⟩
            rcases h6 with ⟨_,rfl⟩|⟨_,rfl,rfl⟩
            · exact hj
            · have hj':(z.cs.set o (.own s.nb 0 0))[j]? = some (.tr ty sz n cs):=hj
              rw [List.getElem?_set] at hj'
              split at hj'
              · split at hj'<;>cases hj'
              · exact hj'
    · cases hat
  · cases hat
theorem awnilC {X:Ctx}{P:Program}{c:Code}{s:St}{Q:Exit→St→Prop} (i o:Nat) (e:TypeId) (size:Nat) (hat:nilAt s i o=true) (h:AwCode X P c (s.nilCell i o e size) Q):AwCode X P c s Q:=
  ⟨fun _ _ _ R hr hK=>h.out _ _ _ R (nil_sound hat e size hr) hK⟩
end Go.Proofs.YtidjjfjhmlndjaaGreatDoor
namespace Go.Proofs.YtidjjfjhmlndjaaGreatDoor
open Go.RowKit
/-- A tree of orders. early: taken first; one: it comes up alone; two: either of two comes up. -/
inductive Ordr where
  |done
  |early (i:Nat) (r:Ordr)
  |one (i:Nat) (r:Ordr)
  |two (i:Nat) (r:Ordr) (j:Nat) (q:Ordr)
def treeOk (ops:Array Oper):Ordr→Array Bool→Bool
  |.done,l=>(Region.ready .any ops l).isEmpty
  |.early i r,l=>decide (i < ops.size)&&(Region.free .any ops l i&&(Region.ready .any ops l).contains i)&&treeOk ops r (l.setIfInBounds i true)
  |.one i r,l=>decide (i < ops.size)&&(Region.ready .any ops l == [i])&&treeOk ops r (l.setIfInBounds i true)
  |.two i r j q,l=>(decide (i < ops.size)&&decide (j < ops.size))&&(Region.ready .any ops l == [i,j])&&(treeOk ops r (l.setIfInBounds i true)&&treeOk ops q (l.setIfInBounds j true))
def Ordr.depth:Ordr→Nat
  |.done=>0
  |.early _ r=>r.depth+1
  |.one _ r=>r.depth+1
  |.two _ r _ q=>Nat.max r.depth q.depth+1
def TGo (X:Ctx) (P:Program) (wr ids:List Nat) (nb:Nat) (fr e:Bool) (k:St→Prop) (o:Oper) (s:St):Prop:=
  if e then earlyOk s wr ids fr o=true∧stepK (stepV P s o) k False else lateOk s wr nb o=true∧stepK (stepOp P s o) k (AwStepF X P o s wr nb k)
def TSkip (k:St→Prop) (o:Oper) (s:St):Prop:=k (s.put o.dst (.tup []))
def TAt (ops:List Oper) (go skip:Oper→St→Prop) (o:Oper) (s:St):Prop:=match o.guard with
  |none=>go o s
  |some (j,b)=>guardK (guardD ops j s) (skip o) (if b then go o else skip o) (if b then skip o else go o) s
def WTree (X:Ctx) (P:Program) (ops:List Oper) (wr ids:List Nat) (nb:Nat) (Q:St→Prop):Ordr→Bool→St→Prop
  |.done,_,s=>Q s
  |.early i r,fr,s=>opK (ops[i]?) (TAt ops (TGo X P wr ids nb fr true (WTree X P ops wr ids nb Q r fr)) (TSkip (WTree X P ops wr ids nb Q r fr))) s
  |.one i r,fr,s=>opK (ops[i]?) (TAt ops (TGo X P wr ids nb fr false (WTree X P ops wr ids nb Q r false)) (TSkip (WTree X P ops wr ids nb Q r fr))) s
  |.two i r j q,fr,s=>opK (ops[i]?) (TAt ops (TGo X P wr ids nb fr false (WTree X P ops wr ids nb Q r false)) (TSkip (WTree X P ops wr ids nb Q r fr))) s∧
      opK (ops[j]?) (TAt ops (TGo X P wr ids nb fr false (WTree X P ops wr ids nb Q q false)) (TSkip (WTree X P ops wr ids nb Q q fr))) s
section
variable (X:Ctx) (P:Program) (ops:List Oper) (wr ids:List Nat) (nb:Nat) (Q:St→Prop) (fr:Bool) (s:St) (r q:Ordr) (i j:Nat) (k:St→Prop) (o:Oper) (go skip:Oper→St→Prop)
theorem wt_done:WTree X P ops wr ids nb Q .done fr s=Q s:=rfl
theorem wt_early:WTree X P ops wr ids nb Q (.early i r) fr s=opK (ops[i]?) (TAt ops (TGo X P wr ids nb fr true (WTree X P ops wr ids nb Q r fr)) (TSkip (WTree X P ops wr ids nb Q r fr))) s:=rfl
theorem wt_one:WTree X P ops wr ids nb Q (.one i r) fr s=opK (ops[i]?) (TAt ops (TGo X P wr ids nb fr false (WTree X P ops wr ids nb Q r false)) (TSkip (WTree X P ops wr ids nb Q r fr))) s:=rfl
theorem wt_two : WTree X P ops wr ids nb Q (.two i r j q) fr s = (opK (ops[i]?) (TAt ops (TGo X P wr ids nb fr false (WTree X P ops wr ids nb Q r false)) (TSkip (WTree X P ops wr ids nb Q r fr))) s ∧
      opK (ops[j]?) (TAt ops (TGo X P wr ids nb fr false (WTree X P ops wr ids nb Q q false)) (TSkip (WTree X P ops wr ids nb Q q fr))) s) := rfl
theorem tgo_early:TGo X P wr ids nb fr true k o s=earlyK (earlyOk s wr ids fr o) (stepV P s o) k:=rfl
theorem tgo_late:TGo X P wr ids nb fr false k o s=lateK (lateOk s wr nb o) (stepOp P s o) k (AwStepF X P o s wr nb k):=rfl
theorem tskip:TSkip k o s=k (s.put o.dst (.tup [])):=rfl
theorem tat_plain (dst:Option Tmp) (op:Op) (t:TypeId) (pos:String) (af:Array Edge):TAt ops go skip { dst:=dst,op:=op,type:=t,pos:=pos,after:=af,guard:=none } s=go { dst:=dst,op:=op,type:=t,pos:=pos,after:=af,guard:=none } s:=rfl
theorem tat_true (dst:Option Tmp) (op:Op) (t:TypeId) (pos:String) (af:Array Edge) (g:Nat):TAt ops go skip { dst:=dst,op:=op,type:=t,pos:=pos,after:=af,guard:=some (g,true) } s=guardK (guardD ops g s) (skip { dst:=dst,op:=op,type:=t,pos:=pos,after:=af,guard:=some (g,true) }) (go { dst:=dst,op:=op,type:=t,pos:=pos,after:=af,guard:=some (g,true) }) (skip { dst:=dst,op:=op,type:=t,pos:=pos,after:=af,guard:=some (g,true) }) s:=rfl
theorem tat_false (dst:Option Tmp) (op:Op) (t:TypeId) (pos:String) (af:Array Edge) (g:Nat):TAt ops go skip { dst:=dst,op:=op,type:=t,pos:=pos,after:=af,guard:=some (g,false) } s=guardK (guardD ops g s) (skip { dst:=dst,op:=op,type:=t,pos:=pos,after:=af,guard:=some (g,false) }) (skip { dst:=dst,op:=op,type:=t,pos:=pos,after:=af,guard:=some (g,false) }) (go { dst:=dst,op:=op,type:=t,pos:=pos,after:=af,guard:=some (g,false) }) s:=rfl
end
theorem wtree_sound {X:Ctx}{P:Program} (hm:P.follows .mixedOrders=true) {id:Nat}{ops:Array Oper}{Q:Exit→St→Prop}{s0:St} (wr:List Nat) (order:Ordr) (hdep:order.depth≤ops.size) (hns:Region.noSelect ops=true)
    (hok:treeOk ops order (Array.replicate ops.size false)=true) (hwr:∀ i,wr.contains i=true→(s0.os.map (·.1)).contains i=true) (h:WTree X P ops.toList wr (s0.os.map (·.1)) s0.nb (Q .normal) order true s0):AwCode X P (.region id ops true) s0 Q:=by
  refine ⟨fun E0 a0 w00 R hr0 hk=>?_⟩
  have hr0:Rel X s0 E0 a0 { w00 with drawn:=w00.drawn+1 }:=by
    obtain ⟨h1,h2,h3,h4,h5⟩:=hr0
    exact ⟨h1, fun t d hd => (h2 t d hd).keep (.refl _) fun _ _ => rfl, h3, ⟨fun i x hi => (h4.obs i x hi).keep (.refl _) (fun _ _ => rfl) fun l hl => ⟨rfl, by
      rcases (h4.obs i x hi).2 with ⟨h5,_⟩|⟨m',h5,_,h6,_⟩
      · rw [hl] at h5;cases h5
      · rw [hl] at h5; injection h5 with h5; injection h5 with h5; subst h5; exact h6⟩, h4.new, h4.rolt, h4.apart, h4.nodup, h4.tr.keep rfl (fun b k p _ e1 e2 e3 e4 => ⟨e1, rfl, e2, e3, e4⟩) fun k x' hx j ty sz n cs hj => ⟨x', hx, hj, fun l hl => ⟨hl, rfl⟩⟩⟩, ⟨h5.le, h5.os, h5.tape, h5.output, h5.size, h5.block, h5.ro, h5.nb⟩⟩
  generalize hw0:({ w00 with drawn:=w00.drawn+1 }:World)=w0 at hr0
  let Sb:Nat→Prop:=fun b=>E0.ro b∨∃ j x l,(j,x) ∈ s0.os∧wr.contains j=false∧E0.at_ j=some (some l)∧l.g=b
  let S:World→Prop:=fun w=>∀ b,Sb b→w.heap[b]? = w0.heap[b]?
  let R':Exit→Act→World→Prop:=fun e a w=>e = .normal∧R .normal a w
  have hSlt:∀ b,Sb b→b < w0.heap.size:=by
    rintro b (hb|⟨j,x,l,hj,_,hl,rfl⟩)
    · exact hr0.sr.rolt b hb
    · exact hr0.sr.lt hj hl
  refine wp_mono (Q:=R') (wp_region_held (S:=S) hm ?_) (by rintro e a w ⟨rfl,h⟩;exact h)
  rw [hw0]
  have early:∀ (r:Ordr) (_:(∀ (fr:Bool) (listed:Array Bool) (fuel:Nat) (s:St) (E:Env) (a:Act) (w:World),r.depth≤fuel→treeOk ops r listed=true→WTree X P ops.toList wr (s0.os.map (·.1)) s0.nb (Q .normal) r fr s→Rel X s E a w→E0.le E→w0.heap.size≤w.heap.size→((∀ i l,E0.at_ i=none→E.at_ i=some (some l)→¬ Sb l.g)∧∀ b,Sb b→E.tg b=none)→(fr=true→E=E0)→S w→wpAnyH P .any ops R' S fuel listed a w)) (i:Nat) (fr:Bool) (listed:Array Bool) (fuel:Nat) (s:St) (E:Env) (a:Act) (w:World),r.depth≤fuel→(hi:i < ops.size)→(Region.free .any ops listed i=true∧(Region.ready .any ops listed).contains i=true)→treeOk ops r (listed.setIfInBounds i true)=true→opK (ops.toList[i]?) (TAt ops.toList (TGo X P wr (s0.os.map (·.1)) s0.nb fr true (WTree X P ops.toList wr (s0.os.map (·.1)) s0.nb (Q .normal) r fr)) (TSkip (WTree X P ops.toList wr (s0.os.map (·.1)) s0.nb (Q .normal) r fr))) s→Rel X s E a w→E0.le E→w0.heap.size≤w.heap.size→((∀ i l,E0.at_ i=none→E.at_ i=some (some l)→¬ Sb l.g)∧∀ b,Sb b→E.tg b=none)→(fr=true→E=E0)→S w→wpAnyH P .any ops R' S (fuel+1) listed a w:=by
    intro r ih i fr listed fuel s E a w hfuel hi hd1 hd2 hq hr hle hsz hnew hfr hS
    have hio:ops[i]? = some ops[i]:=Array.getElem?_eq_getElem hi
    have hil:ops.toList[i]? = some ops[i]:=by rw [Array.getElem?_toList,hio]
    rw [hil,opK_some] at hq
    have skip:Region.wanted ops[i] (yielded ops a.tmps)=false→WTree X P ops.toList wr (s0.os.map (·.1)) s0.nb (Q .normal) r fr (s.put ops[i].dst (.tup []))→wpAnyH P .any ops R' S (fuel+1) listed a w:=by
      intro hw hq
      have hrest:=ih fr (listed.setIfInBounds i true) fuel _ E _ w hfuel hd2 hq (hr.skip ops[i].dst) hle hsz hnew hfr hS
      exact wpAnyH_take hio hns hd1.1 hd1.2 (fun c a w h=>by cases h.1) (.inr ⟨hw,rfl⟩) hS hrest
    have go:Region.wanted ops[i] (yielded ops a.tmps)=true→(earlyOk s wr (s0.os.map (·.1)) fr ops[i]=true∧stepK (stepV P s ops[i]) (WTree X P ops.toList wr (s0.os.map (·.1)) s0.nb (Q .normal) r fr) False)→wpAnyH P .any ops R' S (fuel+1) listed a w:=by
      intro hw hq
      obtain ⟨he,hq⟩:=hq
      unfold stepK at hq
      split at hq
      · rename_i s' hv0
        obtain ⟨d,hv,rfl⟩:∃ d,valOp P s ops[i]=some d∧s' = s.put ops[i].dst d:=by
          unfold stepV at hv0
          cases hv:valOp P s ops[i] with
          |none=>rw [hv] at hv0;cases hv0
          |some d=>rw [hv] at hv0;injection hv0 with hv0;exact ⟨d,rfl,hv0.symm⟩
        obtain ⟨v,h1,h2⟩:=val_sound (X:=X) hv E a w hr
        refine wpAnyH_take hio hns hd1.1 hd1.2 (fun c a w h=>by cases h.1) (v:=v) (.inl ⟨hw,fun w1 hS1=>h2 w1 ⟨fun hrc b hb=>?_,fun k l hk hl=>?_⟩⟩) hS
          (ih fr (listed.setIfInBounds i true) fuel _ E _ w hfuel hd2 hq (hr.put _ h1) hle hsz hnew hfr hS)
        · have hfr':fr=true:=by
            unfold rcOf at hrc
            unfold earlyOk at he
            split at hrc
            · rename_i t x ho
              split at hrc
              · rename_i cs k hx
                simp only [ho,hx] at he
                exact he
              · cases hrc
            · cases hrc
          rw [hfr hfr'] at hb
          exact (hS1 b (.inl hb)).trans (hS b (.inl hb)).symm
        · have hk':wr.contains k=false∧(s0.os.map (·.1)).contains k=true:=by
            unfold rdOf at hk
            unfold earlyOk at he
            split at hk
            · rename_i t x ho
              split at hk
              · rename_i k' q hx
                injection hk with hk
                subst hk
                simp only [ho,hx,Bool.and_eq_true,Bool.not_eq_true'] at he
                exact he
              · cases hk
            · cases hk
          obtain ⟨p,hp,hpk⟩:=List.mem_map.1 (List.contains_iff_mem.1 hk'.2)
          obtain ⟨k0,x⟩:=p
          simp only at hpk
          subst hpk
          have hl0:E0.at_ k0=some (some l):=by
            rcases (hr0.sr.obs _ x hp).2 with ⟨h5,_⟩|⟨m',h5,_⟩
            · rw [hle.at_ _ _ h5] at hl;cases hl
            · have:=hle.at_ _ _ h5
              rw [this] at hl
              rw [h5,hl]
          have hb:Sb l.g:=.inr ⟨_,x,l,hp,hk'.1,hl0,rfl⟩
          exact (hS1 _ hb).trans (hS _ hb).symm
      · exact hq.elim
    unfold TAt at hq
    cases hg:ops[i].guard with
    |none=>
      rw [hg] at hq
      exact go (by simp [Region.wanted,hg]) hq
    |some jb=>
      obtain ⟨j,b⟩:=jb
      rw [hg] at hq
      simp only at hq
      unfold guardK at hq
      cases hsk:skipD (guardD ops.toList j s) with
      |true=>
        rw [hsk] at hq
        exact skip (by simp [Region.wanted,hg,yielded_skip hr (skipD_ hsk)]) hq
      |false=>
      rw [hsk] at hq
      simp only [cond_false] at hq
      unfold boolK at hq
      split at hq
      · rename_i t ht
        have hy:=yielded_of hr ht
        obtain ⟨hq1,hq2⟩:=hq
        cases t<;>cases b
        · exact go (by simp [Region.wanted,hg,hy]) (hq2 rfl)
        · exact skip (by simp [Region.wanted,hg,hy]) (hq2 rfl)
        · exact skip (by simp [Region.wanted,hg,hy]) (hq1 rfl)
        · exact go (by simp [Region.wanted,hg,hy]) (hq1 rfl)
      · exact hq.elim
  have late:∀ (r:Ordr) (_:(∀ (fr:Bool) (listed:Array Bool) (fuel:Nat) (s:St) (E:Env) (a:Act) (w:World),r.depth≤fuel→treeOk ops r listed=true→WTree X P ops.toList wr (s0.os.map (·.1)) s0.nb (Q .normal) r fr s→Rel X s E a w→E0.le E→w0.heap.size≤w.heap.size→((∀ i l,E0.at_ i=none→E.at_ i=some (some l)→¬ Sb l.g)∧∀ b,Sb b→E.tg b=none)→(fr=true→E=E0)→S w→wpAnyH P .any ops R' S fuel listed a w)) (i:Nat) (fr:Bool) (listed:Array Bool) (fuel:Nat) (s:St) (E:Env) (a:Act) (w:World),r.depth≤fuel→(hi:i < ops.size)→treeOk ops r (listed.setIfInBounds i true)=true→opK (ops.toList[i]?) (TAt ops.toList (TGo X P wr (s0.os.map (·.1)) s0.nb fr false (WTree X P ops.toList wr (s0.os.map (·.1)) s0.nb (Q .normal) r false)) (TSkip (WTree X P ops.toList wr (s0.os.map (·.1)) s0.nb (Q .normal) r fr))) s→Rel X s E a w→E0.le E→w0.heap.size≤w.heap.size→((∀ i l,E0.at_ i=none→E.at_ i=some (some l)→¬ Sb l.g)∧∀ b,Sb b→E.tg b=none)→(fr=true→E=E0)→S w→wpOp P ops R' i (fun a' w'=>S w'∧wpAnyH P .any ops R' S fuel (listed.setIfInBounds i true) a' w') a w:=by
    intro r ih i fr listed fuel s E a w hfuel hi hd2 hq hr hle hsz hnew hfr hS
    have hio:ops[i]? = some ops[i]:=Array.getElem?_eq_getElem hi
    have hil:ops.toList[i]? = some ops[i]:=by rw [Array.getElem?_toList,hio]
    rw [hil,opK_some] at hq
    have skip:Region.wanted ops[i] (yielded ops a.tmps)=false→WTree X P ops.toList wr (s0.os.map (·.1)) s0.nb (Q .normal) r fr (s.put ops[i].dst (.tup []))→wpOp P ops R' i (fun a' w'=>S w'∧wpAnyH P .any ops R' S fuel (listed.setIfInBounds i true) a' w') a w:=by
      intro hw hq
      have hrest:=ih fr (listed.setIfInBounds i true) fuel _ E _ w hfuel hd2 hq (hr.skip ops[i].dst) hle hsz hnew hfr hS
      unfold wpOp
      rw [hio]
      simp only [hw,Bool.false_eq_true,if_false]
      exact ⟨hS,hrest⟩
    have go:Region.wanted ops[i] (yielded ops a.tmps)=true→(lateOk s wr s0.nb ops[i]=true∧stepK (stepOp P s ops[i]) (WTree X P ops.toList wr (s0.os.map (·.1)) s0.nb (Q .normal) r false) (AwStepF X P ops[i] s wr s0.nb (WTree X P ops.toList wr (s0.os.map (·.1)) s0.nb (Q .normal) r false)))→wpOp P ops R' i (fun a' w'=>S w'∧wpAnyH P .any ops R' S fuel (listed.setIfInBounds i true) a' w') a w:=by
      intro hw hq
      obtain ⟨hl,hq⟩:=hq
      unfold wpOp
      rw [hio]
      simp only [hw,if_true]
      refine .inl ?_
      have fin:∀ (T:Nat→Prop) s' E' a' w',(∀ i l,T i→E.at_ i=some (some l)→∀ b,Sb b→l.g≠b)→WTree X P ops.toList wr (s0.os.map (·.1)) s0.nb (Q .normal) r false s'→Rel X s' E' a' w'→FrT T E w E' w'→S w'∧wpAnyH P .any ops R' S fuel (listed.setIfInBounds i true) a' w':=by
        intro T s' E' a' w' htg hq hr' hf
        have hS':S w':=fun b hb=>(hf.block b (Nat.lt_of_lt_of_le (hSlt b hb) hsz) (hnew.2 b hb) fun i l h1 h2=>htg i l h1 h2 b hb).trans (hS b hb)
        refine ⟨hS',ih false _ fuel s' E' a' w' hfuel hd2 hq hr' (hle.trans hf.le) (Nat.le_trans hsz hf.size) ⟨fun i l h1 h2=>?_,fun b hb=>?_⟩ (fun h=>by cases h) hS'⟩
        · cases hE:E.at_ i with
          |none=>
            intro hb
            rcases hf.new i l hE h2 with h3|⟨k',m,h3,h4,h5⟩|h3
            · have:=hSlt _ hb;omega
            · exact htg k' m h3 h4 _ hb h5
            · exact h3 (hnew.2 _ hb)
          |some m=>
            have:=hf.le.at_ _ _ hE
            rw [this] at h2
            injection h2 with h2
            subst h2
            exact hnew.1 i l h1 hE
        · cases hE':E'.tg b with
          |none=>rfl
          |some q=>
            exfalso
            rcases hf.tag b (hnew.2 b hb) (by rw [hE'];simp) with h3|⟨k',m,h3,h4,h5⟩
            · have:=hSlt _ hb;omega
            · exact htg k' m h3 h4 _ hb h5
      have apart:∀ i l,wr.contains i=true∨s0.nb≤i→E.at_ i=some (some l)→∀ b,Sb b→l.g≠b:=by
        intro i l hc h2 b hb
        rcases hc with hc|hc
        · obtain ⟨p,hp,hpk⟩:=List.mem_map.1 (List.contains_iff_mem.1 (hwr i hc))
          obtain ⟨k0,x⟩:=p
          simp only at hpk
          subst hpk
          have hl0:E0.at_ k0=some (some l)∧¬ E0.ro l.g:=by
            rcases (hr0.sr.obs _ x hp).2 with ⟨h5,_⟩|⟨m',h5,_,h6,_⟩
            · rw [hle.at_ _ _ h5] at h2;cases h2
            · have:=hle.at_ _ _ h5
              rw [this] at h2
              injection h2 with h2
              injection h2 with h2
              subst h2
              exact ⟨h5,h6⟩
          rcases hb with hb|⟨j,y,m,hj,hjw,hm',rfl⟩
          · intro e;subst e;exact hl0.2 hb
          · exact hr0.sr.apart _ x j y hp hj (fun e=>by subst e;rw [hc] at hjw;cases hjw) l m hl0.1 hm'
        · intro e;subst e
          exact hnew.1 i l (hr0.sr.new i hc) h2 hb
      unfold stepK at hq
      split at hq
      · rename_i s' hs
        refine stepOp_sound hs E a w _ _ hr fun E' a' w' hr' hf=>fin _ s' E' a' w' (fun i l h1 h2 b hb=>?_) hq hr' hf.toT
        refine apart i l ?_ h2 b hb
        unfold tgt at h1
        unfold lateOk at hl
        split at h1
        · rename_i t x y ho
          split at h1
          · rename_i i' q hx
            injection h1 with h1
            subst h1
            simp only [ho,hx,Bool.or_eq_true,decide_eq_true_eq] at hl
            exact hl
          · cases h1
        · cases h1
      · exact hq.out E a w _ _ hr fun s' E' a' w' hq' hr' hf=>fin _ s' E' a' w' apart hq' hr' hf
    unfold TAt at hq
    cases hg:ops[i].guard with
    |none=>
      rw [hg] at hq
      exact go (by simp [Region.wanted,hg]) hq
    |some jb=>
      obtain ⟨j,b⟩:=jb
      rw [hg] at hq
      simp only at hq
      unfold guardK at hq
      cases hsk:skipD (guardD ops.toList j s) with
      |true=>
        rw [hsk] at hq
        exact skip (by simp [Region.wanted,hg,yielded_skip hr (skipD_ hsk)]) hq
      |false=>
      rw [hsk] at hq
      simp only [cond_false] at hq
      unfold boolK at hq
      split at hq
      · rename_i t ht
        have hy:=yielded_of hr ht
        obtain ⟨hq1,hq2⟩:=hq
        cases t<;>cases b
        · exact go (by simp [Region.wanted,hg,hy]) (hq2 rfl)
        · exact skip (by simp [Region.wanted,hg,hy]) (hq2 rfl)
        · exact skip (by simp [Region.wanted,hg,hy]) (hq1 rfl)
        · exact go (by simp [Region.wanted,hg,hy]) (hq1 rfl)
      · exact hq.elim
  have key:∀ r:Ordr,(∀ (fr:Bool) (listed:Array Bool) (fuel:Nat) (s:St) (E:Env) (a:Act) (w:World),r.depth≤fuel→treeOk ops r listed=true→WTree X P ops.toList wr (s0.os.map (·.1)) s0.nb (Q .normal) r fr s→Rel X s E a w→E0.le E→w0.heap.size≤w.heap.size→((∀ i l,E0.at_ i=none→E.at_ i=some (some l)→¬ Sb l.g)∧∀ b,Sb b→E.tg b=none)→(fr=true→E=E0)→S w→wpAnyH P .any ops R' S fuel listed a w):=by
    intro r
    induction r with
    |done=>
      intro fr listed fuel s E a w _ hd hq hr _ _ _ _ _
      have hready:Region.ready .any ops listed = []:=by simpa [treeOk] using hd
      exact wpAnyH_done hready ⟨rfl,hk _ _ _ _ _ hq hr⟩ fuel
    |early i r ih=>
      intro fr listed fuel s E a w hfuel hd hq hr hle hsz hnew hfr hS
      obtain ⟨fuel,rfl⟩:∃ n,fuel=n+1:=⟨fuel - 1,by simp only [Ordr.depth] at hfuel;omega⟩
      simp only [treeOk,Bool.and_eq_true,decide_eq_true_eq] at hd
      exact early r ih i fr listed fuel s E a w (by simp only [Ordr.depth] at hfuel;omega) hd.1.1 hd.1.2 hd.2 hq hr hle hsz hnew hfr hS
    |one i r ih=>
      intro fr listed fuel s E a w hfuel hd hq hr hle hsz hnew hfr hS
      obtain ⟨fuel,rfl⟩:∃ n,fuel=n+1:=⟨fuel - 1,by simp only [Ordr.depth] at hfuel;omega⟩
      simp only [treeOk,Bool.and_eq_true,decide_eq_true_eq,beq_iff_eq] at hd
      refine wpAnyH_all hd.1.2 (by simp) fun k hk=>?_
      obtain rfl:k=i:=by simpa using hk
      exact late r ih k fr listed fuel s E a w (by simp only [Ordr.depth] at hfuel;omega) hd.1.1 hd.2 hq hr hle hsz hnew hfr hS
    |two i r j q ih1 ih2=>
      intro fr listed fuel s E a w hfuel hd hq hr hle hsz hnew hfr hS
      obtain ⟨fuel,rfl⟩:∃ n,fuel=n+1:=⟨fuel - 1,by simp only [Ordr.depth] at hfuel;omega⟩
      simp only [treeOk,Bool.and_eq_true,decide_eq_true_eq,beq_iff_eq] at hd
      have h1:r.depth≤Nat.max r.depth q.depth:=Nat.le_max_left ..
      have h2:q.depth≤Nat.max r.depth q.depth:=Nat.le_max_right ..
      refine wpAnyH_all hd.1.2 (by simp) fun k hk=>?_
      rcases (by simpa using hk:k=i∨k=j) with rfl|rfl
      · exact late r ih1 k fr listed fuel s E a w (by simp only [Ordr.depth] at hfuel;omega) hd.1.1.1 hd.2.1 hq.1 hr hle hsz hnew hfr hS
      · exact late q ih2 k fr listed fuel s E a w (by simp only [Ordr.depth] at hfuel;omega) hd.1.1.2 hd.2.2 hq.2 hr hle hsz hnew hfr hS
  exact key order true _ ops.size s0 E0 a0 w0 (by omega) hok h hr0 (.refl _) (Nat.le_refl _) ⟨fun i l h1 h2 => (by rw [h1] at h2; cases h2), fun b hb => by
    cases ht:E0.tg b with
    |none=>rfl
    |some q=>
      exfalso
      obtain ⟨_,_,e3,e4⟩:=hr0.sr.tr.blk b q.1 q.2 ht
      rcases hb with hb|⟨j,x,l,h1,_,h2,h3⟩
      · exact e3 hb
      · exact e4 j x l h1 h2 h3⟩ (fun _ => rfl) (fun b _ => rfl)
end Go.Proofs.YtidjjfjhmlndjaaGreatDoor
namespace Go.Proofs.YtidjjfjhmlndjaaGreatDoor
open Go.RowKit
/-- A tree of orders, as before; three: one of three comes up. -/
inductive Ordr3 where
  |done
  |early (i:Nat) (r:Ordr3)
  |one (i:Nat) (r:Ordr3)
  |two (i:Nat) (r:Ordr3) (j:Nat) (q:Ordr3)
  |three (i:Nat) (r:Ordr3) (j:Nat) (q:Ordr3) (k:Nat) (t:Ordr3)
def treeOk3 (ops:Array Oper):Ordr3→Array Bool→Bool
  |.done,l=>(Region.ready .any ops l).isEmpty
  |.early i r,l=>decide (i < ops.size)&&(Region.free .any ops l i&&(Region.ready .any ops l).contains i)&&treeOk3 ops r (l.setIfInBounds i true)
  |.one i r,l=>decide (i < ops.size)&&(Region.ready .any ops l == [i])&&treeOk3 ops r (l.setIfInBounds i true)
  |.two i r j q,l=>(decide (i < ops.size)&&decide (j < ops.size))&&(Region.ready .any ops l == [i,j])&&(treeOk3 ops r (l.setIfInBounds i true)&&treeOk3 ops q (l.setIfInBounds j true))
  |.three i r j q k t,l=>((decide (i < ops.size)&&(decide (j < ops.size)&&decide (k < ops.size)))&&(Region.ready .any ops l == [i,j,k]))&&(treeOk3 ops r (l.setIfInBounds i true)&&(treeOk3 ops q (l.setIfInBounds j true)&&treeOk3 ops t (l.setIfInBounds k true)))
def Ordr3.depth:Ordr3→Nat
  |.done=>0
  |.early _ r=>r.depth+1
  |.one _ r=>r.depth+1
  |.two _ r _ q=>Nat.max r.depth q.depth+1
  |.three _ r _ q _ t=>Nat.max r.depth (Nat.max q.depth t.depth)+1
def WTree3 (X:Ctx) (P:Program) (ops:List Oper) (wr ids:List Nat) (nb:Nat) (Q:St→Prop):Ordr3→Bool→St→Prop
  |.done,_,s=>Q s
  |.early i r,fr,s=>opK (ops[i]?) (TAt ops (TGo X P wr ids nb fr true (WTree3 X P ops wr ids nb Q r fr)) (TSkip (WTree3 X P ops wr ids nb Q r fr))) s
  |.one i r,fr,s=>opK (ops[i]?) (TAt ops (TGo X P wr ids nb fr false (WTree3 X P ops wr ids nb Q r false)) (TSkip (WTree3 X P ops wr ids nb Q r fr))) s
  |.two i r j q,fr,s=>opK (ops[i]?) (TAt ops (TGo X P wr ids nb fr false (WTree3 X P ops wr ids nb Q r false)) (TSkip (WTree3 X P ops wr ids nb Q r fr))) s∧
      opK (ops[j]?) (TAt ops (TGo X P wr ids nb fr false (WTree3 X P ops wr ids nb Q q false)) (TSkip (WTree3 X P ops wr ids nb Q q fr))) s
  |.three i r j q k t,fr,s=>opK (ops[i]?) (TAt ops (TGo X P wr ids nb fr false (WTree3 X P ops wr ids nb Q r false)) (TSkip (WTree3 X P ops wr ids nb Q r fr))) s∧(opK (ops[j]?) (TAt ops (TGo X P wr ids nb fr false (WTree3 X P ops wr ids nb Q q false)) (TSkip (WTree3 X P ops wr ids nb Q q fr))) s∧opK (ops[k]?) (TAt ops (TGo X P wr ids nb fr false (WTree3 X P ops wr ids nb Q t false)) (TSkip (WTree3 X P ops wr ids nb Q t fr))) s)
section
variable (X:Ctx) (P:Program) (ops:List Oper) (wr ids:List Nat) (nb:Nat) (Q:St→Prop) (fr:Bool) (s:St) (r q:Ordr3) (i j:Nat) (k:St→Prop) (o:Oper) (go skip:Oper→St→Prop)
theorem wt3_done:WTree3 X P ops wr ids nb Q .done fr s=Q s:=rfl
theorem wt3_early:WTree3 X P ops wr ids nb Q (.early i r) fr s=opK (ops[i]?) (TAt ops (TGo X P wr ids nb fr true (WTree3 X P ops wr ids nb Q r fr)) (TSkip (WTree3 X P ops wr ids nb Q r fr))) s:=rfl
theorem wt3_one:WTree3 X P ops wr ids nb Q (.one i r) fr s=opK (ops[i]?) (TAt ops (TGo X P wr ids nb fr false (WTree3 X P ops wr ids nb Q r false)) (TSkip (WTree3 X P ops wr ids nb Q r fr))) s:=rfl
theorem wt3_two : WTree3 X P ops wr ids nb Q (.two i r j q) fr s = (opK (ops[i]?) (TAt ops (TGo X P wr ids nb fr false (WTree3 X P ops wr ids nb Q r false)) (TSkip (WTree3 X P ops wr ids nb Q r fr))) s ∧
      opK (ops[j]?) (TAt ops (TGo X P wr ids nb fr false (WTree3 X P ops wr ids nb Q q false)) (TSkip (WTree3 X P ops wr ids nb Q q fr))) s) := rfl
theorem wt3_three (m:Nat) (t:Ordr3):WTree3 X P ops wr ids nb Q (.three i r j q m t) fr s=(opK (ops[i]?) (TAt ops (TGo X P wr ids nb fr false (WTree3 X P ops wr ids nb Q r false)) (TSkip (WTree3 X P ops wr ids nb Q r fr))) s∧(opK (ops[j]?) (TAt ops (TGo X P wr ids nb fr false (WTree3 X P ops wr ids nb Q q false)) (TSkip (WTree3 X P ops wr ids nb Q q fr))) s∧opK (ops[m]?) (TAt ops (TGo X P wr ids nb fr false (WTree3 X P ops wr ids nb Q t false)) (TSkip (WTree3 X P ops wr ids nb Q t fr))) s)):=rfl
end
theorem wtree3_sound {X:Ctx}{P:Program} (hm:P.follows .mixedOrders=true) {id:Nat}{ops:Array Oper}{Q:Exit→St→Prop}{s0:St} (wr:List Nat) (order:Ordr3) (hdep:order.depth≤ops.size) (hns:Region.noSelect ops=true)
    (hok:treeOk3 ops order (Array.replicate ops.size false)=true) (hwr:∀ i,wr.contains i=true→(s0.os.map (·.1)).contains i=true) (h:WTree3 X P ops.toList wr (s0.os.map (·.1)) s0.nb (Q .normal) order true s0):AwCode X P (.region id ops true) s0 Q:=by
  refine ⟨fun E0 a0 w00 R hr0 hk=>?_⟩
  have hr0:Rel X s0 E0 a0 { w00 with drawn:=w00.drawn+1 }:=by
    obtain ⟨h1,h2,h3,h4,h5⟩:=hr0
    exact ⟨h1, fun t d hd => (h2 t d hd).keep (.refl _) fun _ _ => rfl, h3, ⟨fun i x hi => (h4.obs i x hi).keep (.refl _) (fun _ _ => rfl) fun l hl => ⟨rfl, by
      rcases (h4.obs i x hi).2 with ⟨h5,_⟩|⟨m',h5,_,h6,_⟩
      · rw [hl] at h5;cases h5
      · rw [hl] at h5; injection h5 with h5; injection h5 with h5; subst h5; exact h6⟩, h4.new, h4.rolt, h4.apart, h4.nodup, h4.tr.keep rfl (fun b k p _ e1 e2 e3 e4 => ⟨e1, rfl, e2, e3, e4⟩) fun k x' hx j ty sz n cs hj => ⟨x', hx, hj, fun l hl => ⟨hl, rfl⟩⟩⟩, ⟨h5.le, h5.os, h5.tape, h5.output, h5.size, h5.block, h5.ro, h5.nb⟩⟩
  generalize hw0:({ w00 with drawn:=w00.drawn+1 }:World)=w0 at hr0
  let Sb:Nat→Prop:=fun b=>E0.ro b∨∃ j x l,(j,x) ∈ s0.os∧wr.contains j=false∧E0.at_ j=some (some l)∧l.g=b
  let S:World→Prop:=fun w=>∀ b,Sb b→w.heap[b]? = w0.heap[b]?
  let R':Exit→Act→World→Prop:=fun e a w=>e = .normal∧R .normal a w
  have hSlt:∀ b,Sb b→b < w0.heap.size:=by
    rintro b (hb|⟨j,x,l,hj,_,hl,rfl⟩)
    · exact hr0.sr.rolt b hb
    · exact hr0.sr.lt hj hl
  refine wp_mono (Q:=R') (wp_region_held (S:=S) hm ?_) (by rintro e a w ⟨rfl,h⟩;exact h)
  rw [hw0]
  have early:∀ (r:Ordr3) (_:(∀ (fr:Bool) (listed:Array Bool) (fuel:Nat) (s:St) (E:Env) (a:Act) (w:World),r.depth≤fuel→treeOk3 ops r listed=true→WTree3 X P ops.toList wr (s0.os.map (·.1)) s0.nb (Q .normal) r fr s→Rel X s E a w→E0.le E→w0.heap.size≤w.heap.size→((∀ i l,E0.at_ i=none→E.at_ i=some (some l)→¬ Sb l.g)∧∀ b,Sb b→E.tg b=none)→(fr=true→E=E0)→S w→wpAnyH P .any ops R' S fuel listed a w)) (i:Nat) (fr:Bool) (listed:Array Bool) (fuel:Nat) (s:St) (E:Env) (a:Act) (w:World),r.depth≤fuel→(hi:i < ops.size)→(Region.free .any ops listed i=true∧(Region.ready .any ops listed).contains i=true)→treeOk3 ops r (listed.setIfInBounds i true)=true→opK (ops.toList[i]?) (TAt ops.toList (TGo X P wr (s0.os.map (·.1)) s0.nb fr true (WTree3 X P ops.toList wr (s0.os.map (·.1)) s0.nb (Q .normal) r fr)) (TSkip (WTree3 X P ops.toList wr (s0.os.map (·.1)) s0.nb (Q .normal) r fr))) s→Rel X s E a w→E0.le E→w0.heap.size≤w.heap.size→((∀ i l,E0.at_ i=none→E.at_ i=some (some l)→¬ Sb l.g)∧∀ b,Sb b→E.tg b=none)→(fr=true→E=E0)→S w→wpAnyH P .any ops R' S (fuel+1) listed a w:=by
    intro r ih i fr listed fuel s E a w hfuel hi hd1 hd2 hq hr hle hsz hnew hfr hS
    have hio:ops[i]? = some ops[i]:=Array.getElem?_eq_getElem hi
    have hil:ops.toList[i]? = some ops[i]:=by rw [Array.getElem?_toList,hio]
    rw [hil,opK_some] at hq
    have skip:Region.wanted ops[i] (yielded ops a.tmps)=false→WTree3 X P ops.toList wr (s0.os.map (·.1)) s0.nb (Q .normal) r fr (s.put ops[i].dst (.tup []))→wpAnyH P .any ops R' S (fuel+1) listed a w:=by
      intro hw hq
      have hrest:=ih fr (listed.setIfInBounds i true) fuel _ E _ w hfuel hd2 hq (hr.skip ops[i].dst) hle hsz hnew hfr hS
      exact wpAnyH_take hio hns hd1.1 hd1.2 (fun c a w h=>by cases h.1) (.inr ⟨hw,rfl⟩) hS hrest
    have go:Region.wanted ops[i] (yielded ops a.tmps)=true→(earlyOk s wr (s0.os.map (·.1)) fr ops[i]=true∧stepK (stepV P s ops[i]) (WTree3 X P ops.toList wr (s0.os.map (·.1)) s0.nb (Q .normal) r fr) False)→wpAnyH P .any ops R' S (fuel+1) listed a w:=by
      intro hw hq
      obtain ⟨he,hq⟩:=hq
      unfold stepK at hq
      split at hq
      · rename_i s' hv0
        obtain ⟨d,hv,rfl⟩:∃ d,valOp P s ops[i]=some d∧s' = s.put ops[i].dst d:=by
          unfold stepV at hv0
          cases hv:valOp P s ops[i] with
          |none=>rw [hv] at hv0;cases hv0
          |some d=>rw [hv] at hv0;injection hv0 with hv0;exact ⟨d,rfl,hv0.symm⟩
        obtain ⟨v,h1,h2⟩:=val_sound (X:=X) hv E a w hr
        refine wpAnyH_take hio hns hd1.1 hd1.2 (fun c a w h=>by cases h.1) (v:=v) (.inl ⟨hw,fun w1 hS1=>h2 w1 ⟨fun hrc b hb=>?_,fun k l hk hl=>?_⟩⟩) hS
          (ih fr (listed.setIfInBounds i true) fuel _ E _ w hfuel hd2 hq (hr.put _ h1) hle hsz hnew hfr hS)
        · have hfr':fr=true:=by
            unfold rcOf at hrc
            unfold earlyOk at he
            split at hrc
            · rename_i t x ho
              split at hrc
              · rename_i cs k hx
                simp only [ho,hx] at he
                exact he
              · cases hrc
            · cases hrc
          rw [hfr hfr'] at hb
          exact (hS1 b (.inl hb)).trans (hS b (.inl hb)).symm
        · have hk':wr.contains k=false∧(s0.os.map (·.1)).contains k=true:=by
            unfold rdOf at hk
            unfold earlyOk at he
            split at hk
            · rename_i t x ho
              split at hk
              · rename_i k' q hx
                injection hk with hk
                subst hk
                simp only [ho,hx,Bool.and_eq_true,Bool.not_eq_true'] at he
                exact he
              · cases hk
            · cases hk
          obtain ⟨p,hp,hpk⟩:=List.mem_map.1 (List.contains_iff_mem.1 hk'.2)
          obtain ⟨k0,x⟩:=p
          simp only at hpk
          subst hpk
          have hl0:E0.at_ k0=some (some l):=by
            rcases (hr0.sr.obs _ x hp).2 with ⟨h5,_⟩|⟨m',h5,_⟩
            · rw [hle.at_ _ _ h5] at hl;cases hl
            · have:=hle.at_ _ _ h5
              rw [this] at hl
              rw [h5,hl]
          have hb:Sb l.g:=.inr ⟨_,x,l,hp,hk'.1,hl0,rfl⟩
          exact (hS1 _ hb).trans (hS _ hb).symm
      · exact hq.elim
    unfold TAt at hq
    cases hg:ops[i].guard with
    |none=>
      rw [hg] at hq
      exact go (by simp [Region.wanted,hg]) hq
    |some jb=>
      obtain ⟨j,b⟩:=jb
      rw [hg] at hq
      simp only at hq
      unfold guardK at hq
      cases hsk:skipD (guardD ops.toList j s) with
      |true=>
        rw [hsk] at hq
        exact skip (by simp [Region.wanted,hg,yielded_skip hr (skipD_ hsk)]) hq
      |false=>
      rw [hsk] at hq
      simp only [cond_false] at hq
      unfold boolK at hq
      split at hq
      · rename_i t ht
        have hy:=yielded_of hr ht
        obtain ⟨hq1,hq2⟩:=hq
        cases t<;>cases b
        · exact go (by simp [Region.wanted,hg,hy]) (hq2 rfl)
        · exact skip (by simp [Region.wanted,hg,hy]) (hq2 rfl)
        · exact skip (by simp [Region.wanted,hg,hy]) (hq1 rfl)
        · exact go (by simp [Region.wanted,hg,hy]) (hq1 rfl)
      · exact hq.elim
  have late:∀ (r:Ordr3) (_:(∀ (fr:Bool) (listed:Array Bool) (fuel:Nat) (s:St) (E:Env) (a:Act) (w:World),r.depth≤fuel→treeOk3 ops r listed=true→WTree3 X P ops.toList wr (s0.os.map (·.1)) s0.nb (Q .normal) r fr s→Rel X s E a w→E0.le E→w0.heap.size≤w.heap.size→((∀ i l,E0.at_ i=none→E.at_ i=some (some l)→¬ Sb l.g)∧∀ b,Sb b→E.tg b=none)→(fr=true→E=E0)→S w→wpAnyH P .any ops R' S fuel listed a w)) (i:Nat) (fr:Bool) (listed:Array Bool) (fuel:Nat) (s:St) (E:Env) (a:Act) (w:World),r.depth≤fuel→(hi:i < ops.size)→treeOk3 ops r (listed.setIfInBounds i true)=true→opK (ops.toList[i]?) (TAt ops.toList (TGo X P wr (s0.os.map (·.1)) s0.nb fr false (WTree3 X P ops.toList wr (s0.os.map (·.1)) s0.nb (Q .normal) r false)) (TSkip (WTree3 X P ops.toList wr (s0.os.map (·.1)) s0.nb (Q .normal) r fr))) s→Rel X s E a w→E0.le E→w0.heap.size≤w.heap.size→((∀ i l,E0.at_ i=none→E.at_ i=some (some l)→¬ Sb l.g)∧∀ b,Sb b→E.tg b=none)→(fr=true→E=E0)→S w→wpOp P ops R' i (fun a' w'=>S w'∧wpAnyH P .any ops R' S fuel (listed.setIfInBounds i true) a' w') a w:=by
    intro r ih i fr listed fuel s E a w hfuel hi hd2 hq hr hle hsz hnew hfr hS
    have hio:ops[i]? = some ops[i]:=Array.getElem?_eq_getElem hi
    have hil:ops.toList[i]? = some ops[i]:=by rw [Array.getElem?_toList,hio]
    rw [hil,opK_some] at hq
    have skip:Region.wanted ops[i] (yielded ops a.tmps)=false→WTree3 X P ops.toList wr (s0.os.map (·.1)) s0.nb (Q .normal) r fr (s.put ops[i].dst (.tup []))→wpOp P ops R' i (fun a' w'=>S w'∧wpAnyH P .any ops R' S fuel (listed.setIfInBounds i true) a' w') a w:=by
      intro hw hq
      have hrest:=ih fr (listed.setIfInBounds i true) fuel _ E _ w hfuel hd2 hq (hr.skip ops[i].dst) hle hsz hnew hfr hS
      unfold wpOp
      rw [hio]
      simp only [hw,Bool.false_eq_true,if_false]
      exact ⟨hS,hrest⟩
    have go:Region.wanted ops[i] (yielded ops a.tmps)=true→(lateOk s wr s0.nb ops[i]=true∧stepK (stepOp P s ops[i]) (WTree3 X P ops.toList wr (s0.os.map (·.1)) s0.nb (Q .normal) r false) (AwStepF X P ops[i] s wr s0.nb (WTree3 X P ops.toList wr (s0.os.map (·.1)) s0.nb (Q .normal) r false)))→wpOp P ops R' i (fun a' w'=>S w'∧wpAnyH P .any ops R' S fuel (listed.setIfInBounds i true) a' w') a w:=by
      intro hw hq
      obtain ⟨hl,hq⟩:=hq
      unfold wpOp
      rw [hio]
      simp only [hw,if_true]
      refine .inl ?_
      have fin:∀ (T:Nat→Prop) s' E' a' w',(∀ i l,T i→E.at_ i=some (some l)→∀ b,Sb b→l.g≠b)→WTree3 X P ops.toList wr (s0.os.map (·.1)) s0.nb (Q .normal) r false s'→Rel X s' E' a' w'→FrT T E w E' w'→S w'∧wpAnyH P .any ops R' S fuel (listed.setIfInBounds i true) a' w':=by
        intro T s' E' a' w' htg hq hr' hf
        have hS':S w':=fun b hb=>(hf.block b (Nat.lt_of_lt_of_le (hSlt b hb) hsz) (hnew.2 b hb) fun i l h1 h2=>htg i l h1 h2 b hb).trans (hS b hb)
        refine ⟨hS',ih false _ fuel s' E' a' w' hfuel hd2 hq hr' (hle.trans hf.le) (Nat.le_trans hsz hf.size) ⟨fun i l h1 h2=>?_,fun b hb=>?_⟩ (fun h=>by cases h) hS'⟩
        · cases hE:E.at_ i with
          |none=>
            intro hb
            rcases hf.new i l hE h2 with h3|⟨k',m,h3,h4,h5⟩|h3
            · have:=hSlt _ hb;omega
            · exact htg k' m h3 h4 _ hb h5
            · exact h3 (hnew.2 _ hb)
          |some m=>
            have:=hf.le.at_ _ _ hE
            rw [this] at h2
            injection h2 with h2
            subst h2
            exact hnew.1 i l h1 hE
        · cases hE':E'.tg b with
          |none=>rfl
          |some q=>
            exfalso
            rcases hf.tag b (hnew.2 b hb) (by rw [hE'];simp) with h3|⟨k',m,h3,h4,h5⟩
            · have:=hSlt _ hb;omega
            · exact htg k' m h3 h4 _ hb h5
      have apart:∀ i l,wr.contains i=true∨s0.nb≤i→E.at_ i=some (some l)→∀ b,Sb b→l.g≠b:=by
        intro i l hc h2 b hb
        rcases hc with hc|hc
        · obtain ⟨p,hp,hpk⟩:=List.mem_map.1 (List.contains_iff_mem.1 (hwr i hc))
          obtain ⟨k0,x⟩:=p
          simp only at hpk
          subst hpk
          have hl0:E0.at_ k0=some (some l)∧¬ E0.ro l.g:=by
            rcases (hr0.sr.obs _ x hp).2 with ⟨h5,_⟩|⟨m',h5,_,h6,_⟩
            · rw [hle.at_ _ _ h5] at h2;cases h2
            · have:=hle.at_ _ _ h5
              rw [this] at h2
              injection h2 with h2
              injection h2 with h2
              subst h2
              exact ⟨h5,h6⟩
          rcases hb with hb|⟨j,y,m,hj,hjw,hm',rfl⟩
          · intro e;subst e;exact hl0.2 hb
          · exact hr0.sr.apart _ x j y hp hj (fun e=>by subst e;rw [hc] at hjw;cases hjw) l m hl0.1 hm'
        · intro e;subst e
          exact hnew.1 i l (hr0.sr.new i hc) h2 hb
      unfold stepK at hq
      split at hq
      · rename_i s' hs
        refine stepOp_sound hs E a w _ _ hr fun E' a' w' hr' hf=>fin _ s' E' a' w' (fun i l h1 h2 b hb=>?_) hq hr' hf.toT
        refine apart i l ?_ h2 b hb
        unfold tgt at h1
        unfold lateOk at hl
        split at h1
        · rename_i t x y ho
          split at h1
          · rename_i i' q hx
            injection h1 with h1
            subst h1
            simp only [ho,hx,Bool.or_eq_true,decide_eq_true_eq] at hl
            exact hl
          · cases h1
        · cases h1
      · exact hq.out E a w _ _ hr fun s' E' a' w' hq' hr' hf=>fin _ s' E' a' w' apart hq' hr' hf
    unfold TAt at hq
    cases hg:ops[i].guard with
    |none=>
      rw [hg] at hq
      exact go (by simp [Region.wanted,hg]) hq
    |some jb=>
      obtain ⟨j,b⟩:=jb
      rw [hg] at hq
      simp only at hq
      unfold guardK at hq
      cases hsk:skipD (guardD ops.toList j s) with
      |true=>
        rw [hsk] at hq
        exact skip (by simp [Region.wanted,hg,yielded_skip hr (skipD_ hsk)]) hq
      |false=>
      rw [hsk] at hq
      simp only [cond_false] at hq
      unfold boolK at hq
      split at hq
      · rename_i t ht
        have hy:=yielded_of hr ht
        obtain ⟨hq1,hq2⟩:=hq
        cases t<;>cases b
        · exact go (by simp [Region.wanted,hg,hy]) (hq2 rfl)
        · exact skip (by simp [Region.wanted,hg,hy]) (hq2 rfl)
        · exact skip (by simp [Region.wanted,hg,hy]) (hq1 rfl)
        · exact go (by simp [Region.wanted,hg,hy]) (hq1 rfl)
      · exact hq.elim
  have key:∀ r:Ordr3,(∀ (fr:Bool) (listed:Array Bool) (fuel:Nat) (s:St) (E:Env) (a:Act) (w:World),r.depth≤fuel→treeOk3 ops r listed=true→WTree3 X P ops.toList wr (s0.os.map (·.1)) s0.nb (Q .normal) r fr s→Rel X s E a w→E0.le E→w0.heap.size≤w.heap.size→((∀ i l,E0.at_ i=none→E.at_ i=some (some l)→¬ Sb l.g)∧∀ b,Sb b→E.tg b=none)→(fr=true→E=E0)→S w→wpAnyH P .any ops R' S fuel listed a w):=by
    intro r
    induction r with
    |done=>
      intro fr listed fuel s E a w _ hd hq hr _ _ _ _ _
      have hready:Region.ready .any ops listed = []:=by simpa [treeOk3] using hd
      exact wpAnyH_done hready ⟨rfl,hk _ _ _ _ _ hq hr⟩ fuel
    |early i r ih=>
      intro fr listed fuel s E a w hfuel hd hq hr hle hsz hnew hfr hS
      obtain ⟨fuel,rfl⟩:∃ n,fuel=n+1:=⟨fuel - 1,by simp only [Ordr3.depth] at hfuel;omega⟩
      simp only [treeOk3,Bool.and_eq_true,decide_eq_true_eq] at hd
      exact early r ih i fr listed fuel s E a w (by simp only [Ordr3.depth] at hfuel;omega) hd.1.1 hd.1.2 hd.2 hq hr hle hsz hnew hfr hS
    |one i r ih=>
      intro fr listed fuel s E a w hfuel hd hq hr hle hsz hnew hfr hS
      obtain ⟨fuel,rfl⟩:∃ n,fuel=n+1:=⟨fuel - 1,by simp only [Ordr3.depth] at hfuel;omega⟩
      simp only [treeOk3,Bool.and_eq_true,decide_eq_true_eq,beq_iff_eq] at hd
      refine wpAnyH_all hd.1.2 (by simp) fun k hk=>?_
      obtain rfl:k=i:=by simpa using hk
      exact late r ih k fr listed fuel s E a w (by simp only [Ordr3.depth] at hfuel;omega) hd.1.1 hd.2 hq hr hle hsz hnew hfr hS
    |two i r j q ih1 ih2=>
      intro fr listed fuel s E a w hfuel hd hq hr hle hsz hnew hfr hS
      obtain ⟨fuel,rfl⟩:∃ n,fuel=n+1:=⟨fuel - 1,by simp only [Ordr3.depth] at hfuel;omega⟩
      simp only [treeOk3,Bool.and_eq_true,decide_eq_true_eq,beq_iff_eq] at hd
      have h1:r.depth≤Nat.max r.depth q.depth:=Nat.le_max_left ..
      have h2:q.depth≤Nat.max r.depth q.depth:=Nat.le_max_right ..
      refine wpAnyH_all hd.1.2 (by simp) fun k hk=>?_
      rcases (by simpa using hk:k=i∨k=j) with rfl|rfl
      · exact late r ih1 k fr listed fuel s E a w (by simp only [Ordr3.depth] at hfuel;omega) hd.1.1.1 hd.2.1 hq.1 hr hle hsz hnew hfr hS
      · exact late q ih2 k fr listed fuel s E a w (by simp only [Ordr3.depth] at hfuel;omega) hd.1.1.2 hd.2.2 hq.2 hr hle hsz hnew hfr hS
    |three i r j q m t ih1 ih2 ih3=>
      intro fr listed fuel s E a w hfuel hd hq hr hle hsz hnew hfr hS
      obtain ⟨fuel,rfl⟩:∃ n,fuel=n+1:=⟨fuel - 1,by simp only [Ordr3.depth] at hfuel;omega⟩
      simp only [treeOk3,Bool.and_eq_true,decide_eq_true_eq,beq_iff_eq] at hd
      have h1:r.depth≤Nat.max r.depth (Nat.max q.depth t.depth):=Nat.le_max_left ..
      have h2:q.depth≤Nat.max r.depth (Nat.max q.depth t.depth):=Nat.le_trans (Nat.le_max_left ..) (Nat.le_max_right ..)
      have h3:t.depth≤Nat.max r.depth (Nat.max q.depth t.depth):=Nat.le_trans (Nat.le_max_right ..) (Nat.le_max_right ..)
      refine wpAnyH_all hd.1.2 (by simp) fun k hk=>?_
      rcases (by simpa using hk:k=i∨k=j∨k=m) with rfl|rfl|rfl
      · exact late r ih1 k fr listed fuel s E a w (by simp only [Ordr3.depth] at hfuel;omega) hd.1.1.1 hd.2.1 hq.1 hr hle hsz hnew hfr hS
      · exact late q ih2 k fr listed fuel s E a w (by simp only [Ordr3.depth] at hfuel;omega) hd.1.1.2.1 hd.2.2.1 hq.2.1 hr hle hsz hnew hfr hS
      · exact late t ih3 k fr listed fuel s E a w (by simp only [Ordr3.depth] at hfuel;omega) hd.1.1.2.2 hd.2.2.2 hq.2.2 hr hle hsz hnew hfr hS
  exact key order true _ ops.size s0 E0 a0 w0 (by omega) hok h hr0 (.refl _) (Nat.le_refl _) ⟨fun i l h1 h2 => (by rw [h1] at h2; cases h2), fun b hb => by
    cases ht:E0.tg b with
    |none=>rfl
    |some q=>
      exfalso
      obtain ⟨_,_,e3,e4⟩:=hr0.sr.tr.blk b q.1 q.2 ht
      rcases hb with hb|⟨j,x,l,h1,_,h2,h3⟩
      · exact e3 hb
      · exact e4 j x l h1 h2 h3⟩ (fun _ => rfl) (fun b _ => rfl)
end Go.Proofs.YtidjjfjhmlndjaaGreatDoor
namespace Go.Proofs.YtidjjfjhmlndjaaGreatDoor
open Go.RowKit
inductive Kd where
  |i
  |s
  |b
def kdOf (P:Program) (t:TypeId):Option Kd:=match P.underlying t with
  |some (.int _)=>some .i
  |some .string=>some .s
  |some .bool=>some .b
  |_=>none
def eqFs (P:Program):List Field→Nat→Option (List Kd)
  | [],_=>some []
  |f::fs,j=>if f.offset=j∧f.name≠ "_"∧tyK P f.type=some (false,1) then match kdOf P f.type,eqFs P fs (j+1) with|some k,some ks=>some (k::ks)|_,_=>none else none
/-- The kinds of a struct's fields, where each is one cell. -/
def eqT (P:Program) (t:TypeId):Option (List Kd):=match P.underlying t with
  |some (.struct fs)=>if P.stoodInHeld t=false∧P.eqGuardType P.depth t=false then eqFs P fs.toList 0 else none
  |_=>none
def eqK:List Kd→List D→List D→Option Bool
  | [], [], []=>some true
  |.i::ks,.sc (.int k a)::xa,.sc (.int k' b)::xb=>if k=k' then (match eqK ks xa xb with|some r=>some ((a==b)&&r)|none=>none) else none
  |.s::ks,.sc (.string a)::xa,.sc (.string b)::xb=>match eqK ks xa xb with|some r=>some ((a.toList==b.toList)&&r)|none=>none
  |.b::ks,.sc (.bool a)::xa,.sc (.bool b)::xb=>match eqK ks xa xb with|some r=>some ((a==b)&&r)|none=>none
  |_,_,_=>none
theorem run_eqK {P:Program}{w w0:World}{E:Env}:∀ {fs:List Field}{j:Nat}{ks:List Kd}{xa xb:List D}{r:Bool}{xs ys:List Value},eqFs P fs j=some ks→eqK ks xa xb=some r→
    xs.length=j+xa.length→ys.length=j+xb.length→(∀ (q:Nat) (d:D) (u:Value),xa[q]? = some d→xs[j+q]? = some u→Rep1 E w0 d u)→(∀ (q:Nat) (d:D) (u:Value),xb[q]? = some d→ys[j+q]? = some u→Rep1 E w0 d u)→
    ∀ n,(Op.eqFields (n+1) xs.toArray ys.toArray fs).run P w = .ok r w
  | [],j,ks,xa,xb,r,xs,ys,h1,h2,_,_,_,_,n=>by
    injection h1 with h1
    subst h1
    cases xa<;>cases xb<;>simp only [eqK,reduceCtorEq,Option.some.injEq] at h2
    subst h2
    simp [Op.eqFields]
  |f::fs,j,ks,xa,xb,r,xs,ys,h1,h2,hx,hy,hax,hby,n=>by
    unfold eqFs at h1
    split at h1
    · rename_i hg
      obtain ⟨g1,g2,g3⟩:=hg
      split at h1
      · rename_i k ks' hk hks
        injection h1 with h1
        subst h1
        have hp:∀ (zs:List Value) (v:Value),zs[j]? = some v→(part f.type zs.toArray f.offset).run P w = .ok v w:=by
          intro zs v hv
          obtain ⟨h5,_⟩:=run_isAgg_of g3 w
          rw [g1]
          simp [part,Sem.run_bind,h5,hv]
        have step:∀ (d1 d2:D) (u v:Value) (xa' xb':List D) (b r':Bool),xa=d1::xa'→xb=d2::xb'→xs[j]? = some u→ys[j]? = some v→(Op.equalIn (n+1) f.type u v).run P w = .ok b w→eqK ks' xa' xb' = some r'→r=(b&&r')→(Op.eqFields (n+1) xs.toArray ys.toArray (f::fs)).run P w = .ok r w:=by
          intro d1 d2 u v xa' xb' b r' e1 e2 hu hv hb hr' er
          subst e1;subst e2;subst er
          have hrest:=run_eqK (E:=E) (w:=w) (w0:=w0) (xs:=xs) (ys:=ys) hks hr' (by simp at hx;omega) (by simp at hy;omega) (fun q d u hd hu=>hax (q+1) d u (by simpa using hd) (by rw [show j+(q+1)=j+1+q by omega];exact hu)) (fun q d u hd hu=>hby (q+1) d u (by simpa using hd) (by rw [show j+(q+1)=j+1+q by omega];exact hu)) n
          simp only [Op.eqFields,if_pos g2,Sem.run_bind,hp xs u hu,hp ys v hv,hb,Result.andThen_ok]
          cases b
          · simp
          · simp [hrest]
        have hjx:∀ d xa',xa=d::xa'→∃ u,xs[j]? = some u∧Rep1 E w0 d u:=by
          intro d xa' e
          subst e
          have hl:j < xs.length:=by simp at hx;omega
          exact ⟨xs[j],List.getElem?_eq_getElem hl,hax 0 d xs[j] rfl (by simp [hl])⟩
        have hjy:∀ d xb',xb=d::xb'→∃ u,ys[j]? = some u∧Rep1 E w0 d u:=by
          intro d xb' e
          subst e
          have hl:j < ys.length:=by simp at hy;omega
          exact ⟨ys[j],List.getElem?_eq_getElem hl,hby 0 d ys[j] rfl (by simp [hl])⟩
        unfold kdOf at hk
        unfold eqK at h2
        split at h2
        · rename_i heq;cases heq
        · rename_i ks2 k1 a xa' k2 b xb' heq
          injection heq with e1 e2
          subst e1;subst e2
          split at h2
          · rename_i hkk
            subst hkk
            split at h2
            · rename_i r' hr'
              injection h2 with h2
              obtain ⟨u,hu,hu2,_⟩:=hjx _ _ rfl
              obtain ⟨v,hv,hv2,_⟩:=hjy _ _ rfl
              subst hu2;subst hv2
              split at hk<;>simp only [reduceCtorEq,Option.some.injEq] at hk
              rename_i kk hkk
              exact step _ _ _ _ _ _ _ _ rfl rfl hu hv (run_equalIn_int w n f.type k1 kk a b hkk) hr' h2.symm
            · cases h2
          · cases h2
        · rename_i ks2 a xa' b xb' heq
          injection heq with e1 e2
          subst e1;subst e2
          split at h2
          · rename_i r' hr'
            injection h2 with h2
            obtain ⟨u,hu,hu2,_⟩:=hjx _ _ rfl
            obtain ⟨v,hv,hv2,_⟩:=hjy _ _ rfl
            subst hu2;subst hv2
            split at hk<;>simp only [reduceCtorEq,Option.some.injEq] at hk
            rename_i hkk
            exact step _ _ _ _ _ _ _ _ rfl rfl hu hv (run_equalIn_string w n f.type a b hkk) hr' h2.symm
          · cases h2
        · rename_i ks2 a xa' b xb' heq
          injection heq with e1 e2
          subst e1;subst e2
          split at h2
          · rename_i r' hr'
            injection h2 with h2
            obtain ⟨u,hu,hu2,_⟩:=hjx _ _ rfl
            obtain ⟨v,hv,hv2,_⟩:=hjy _ _ rfl
            subst hu2;subst hv2
            split at hk<;>simp only [reduceCtorEq,Option.some.injEq] at hk
            rename_i hkk
            exact step _ _ _ _ _ _ _ _ rfl rfl hu hv (run_equalIn_bool' w n f.type a b hkk) hr' h2.symm
          · cases h2
        · cases h2
      · cases h1
    · cases h1
def eqD (P:Program) (op:BinOp) (t:TypeId):D→D→Option D
  |.agg xa,.agg xb=>match eqT P t with
    |some ks=>match eqK ks xa xb with
      |some r=>match op with|.eql=>some (.sc (.bool r))|.neq=>some (.sc (.bool (!r)))|_=>none
      |none=>none
    |none=>none
  |_,_=>none
theorem val_eq {X:Ctx}{P:Program}{o:Oper}{s:St}{op:BinOp}{t u:TypeId}{x y:Operand} (ho:o.op = .binOp op t x y u) {d:D} (h:eqD P op t (s.ev x) (s.ev y)=some d):ValAt X P o s d:=by
  have hsup:∃ d1 d2 r,s.ev x = .agg d1∧s.ev y = .agg d2∧d = .sc (.bool r)∧∃ ks,eqT P t=some ks∧∃ q,eqK ks d1 d2=some q∧((op = .eql∧r=q)∨(op = .neq∧r=!q)):=by
    unfold eqD at h
    split at h
    · rename_i d1 d2 h1 h2
      split at h
      · rename_i ks hks
        split at h
        · rename_i q hq
          split at h
          · injection h with h;exact ⟨d1,d2,q,h1,h2,h.symm,ks,hks,q,hq,.inl ⟨rfl,rfl⟩⟩
          · injection h with h;exact ⟨d1,d2,!q,h1,h2,h.symm,ks,hks,q,hq,.inr ⟨rfl,rfl⟩⟩
          · cases h
        · cases h
      · cases h
    · cases h
  obtain ⟨d1,d2,r,h1,h2,rfl,ks,hks,q,hq,hop⟩:=hsup
  intro E a w hr
  have hx:=hr.ev x
  have hy:=hr.ev y
  rw [h1] at hx
  rw [h2] at hy
  obtain ⟨us,hxv,hxl,hxr⟩:=hx
  obtain ⟨vs,hyv,hyl,hyr⟩:=hy
  refine ⟨.bool r,⟨rfl,rfl⟩,fun w' hag=>?_⟩
  unfold eqT at hks
  split at hks
  · rename_i fs hu
    split at hks
    · rename_i hg
      obtain ⟨g1,g2⟩:=hg
      have hf:P.fieldsOf t=fs:=by simp [Program.fieldsOf,hu]
      have hu':P.underlying t=some (.struct (P.fieldsOf t)):=by rw [hf];exact hu
      have heq:(Op.equalIn 10000 t (.agg us.toArray) (.agg vs.toArray)).run P w' = .ok q w':=by
        rw [show (10000:Nat)=9999+1 from rfl,run_equalIn_struct w' 9999 t _ _ hu' g1,hf]
        refine run_eqK (E:=E) (w:=w') (w0:=w) (xs:=us) (ys:=vs) (xa:=d1) (xb:=d2) hks hq (by omega) (by omega) (fun j e u hd hu2=>(hxr j e u hd (by simpa using hu2)).1) (fun j e u hd hu2=>(hyr j e u hd (by simpa using hu2)).1) 9998|> fun h=>?_
        exact h
      have hex:(execOp a.eval o).run P w' = ((do eqGuard op t x y (.agg us.toArray) (.agg vs.toArray);binOp op t (.agg us.toArray) (.agg vs.toArray)).run P w').andThen fun v w=>.ok (.value v) w:=by
        simp only [execOp,ho,hxv,hyv,Sem.run_bind]
        rfl
      rw [hex]
      rcases hop with ⟨rfl,rfl⟩|⟨rfl,rfl⟩
      · simp only [Sem.run_bind,run_eqGuard_agg w' .eql t x y _ _ g2,Result.andThen_ok,run_eql_struct,heq]
      · simp only [Sem.run_bind,run_eqGuard_agg w' .neq t x y _ _ g2,Result.andThen_ok,run_neq_struct,heq]
    · cases hks
  · cases hks
def eqS (P:Program) (s:St) (o:Oper) (op:BinOp) (t:TypeId) (x y:D):Option St:=match eqD P op t x y with|some d=>some (s.put o.dst d)|none=>none
theorem eqGF {X:Ctx}{P:Program}{o:Oper}{s:St}{wr:List Nat}{nb:Nat}{op:BinOp}{t u:TypeId}{x y:Operand}{K:St→Prop} (ho:o.op = .binOp op t x y u) (h:stepK (eqS P s o op t (s.ev x) (s.ev y)) K False):AwStepF X P o s wr nb K:=by
  unfold eqS at h
  cases h1:eqD P op t (s.ev x) (s.ev y) with
  |none=>rw [h1] at h;exact h.elim
  |some d=>rw [h1] at h;exact AwOp.step (awop_val (val_eq ho h1)) (by simp [tgt,ho]) h
end Go.Proofs.YtidjjfjhmlndjaaGreatDoor
namespace Go.Proofs.YtidjjfjhmlndjaaGreatDoor
open Go.RowKit
theorem rp_in1 {c:D} (h:c.rp=true) (p:Nat→Bool):D.in1 p c=true:=by cases c<;>first|rfl|cases h
theorem rp_ren1 {c:D} (h:c.rp=true) (f:Nat→Nat):D.ren1 f c=c:=by cases c<;>first|rfl|cases h
theorem rp_frz1 {c:D} (h:c.rp=true) (i:Nat) (x:Ob):D.frz1 i x c=c:=by cases c<;>first|rfl|cases h
theorem rp_lt1 {c:D} (h:c.rp=true) (n:Nat):D.lt1 n c=true:=by cases c<;>first|rfl|cases h
theorem rps_in {cs:List D} (h:cs.all D.rp=true) (p:Nat→Bool):cs.all (D.in1 p)=true:=by
  rw [List.all_eq_true] at h ⊢
  exact fun c hc=>rp_in1 (h c hc) p
theorem rps_lt {cs:List D} (h:cs.all D.rp=true) (n:Nat):cs.all (D.lt1 n)=true:=by
  rw [List.all_eq_true] at h ⊢
  exact fun c hc=>rp_lt1 (h c hc) n
theorem rps_ren {cs:List D} (h:cs.all D.rp=true) (f:Nat→Nat):cs.map (D.ren1 f)=cs:=by
  rw [List.all_eq_true] at h
  exact (List.map_congr_left fun c hc=>rp_ren1 (h c hc) f).trans (List.map_id' cs)
theorem rps_frz {cs:List D} (h:cs.all D.rp=true) (i:Nat) (x:Ob):cs.map (D.frz1 i x)=cs:=by
  rw [List.all_eq_true] at h
  exact (List.map_congr_left fun c hc=>rp_frz1 (h c hc) i x).trans (List.map_id' cs)
/-- The cells of xs one behind the other. -/
def flatD {α:Type} (cells:α→List D) (xs:List α):List D:=xs.flatMap cells
section
variable {α:Type}{cells:α→List D}{size:Nat}
theorem flat_len (hs:∀ x,(cells x).length=size) (xs:List α):(flatD cells xs).length=xs.length*size:=by
  induction xs with
  |nil=>simp [flatD]
  |cons x r ih=>
    have e:flatD cells (x::r)=cells x++flatD cells r:=rfl
    rw [e,List.length_append,ih,hs,List.length_cons,Nat.add_mul,Nat.one_mul,Nat.add_comm]
theorem flat_rp (h1:∀ x,(cells x).all D.rp=true) (xs:List α):(flatD cells xs).all D.rp=true:=by
  induction xs with
  |nil=>rfl
  |cons x r ih=>
    have e:flatD cells (x::r)=cells x++flatD cells r:=rfl
    rw [e,List.all_append,h1,ih];rfl
theorem flat_snoc (xs:List α) (x:α):flatD cells (xs ++ [x])=flatD cells xs++cells x:=by simp [flatD]
theorem flat_append (xs ys:List α):flatD cells (xs++ys)=flatD cells xs++flatD cells ys:=by simp [flatD]
theorem flat_drop (hs:∀ x,(cells x).length=size):∀ (xs:List α) (k:Nat),(flatD cells xs).drop (k*size)=flatD cells (xs.drop k)
  | [],k=>by simp [flatD]
  |x::r,0=>by simp
  |x::r,k+1=>by
    have e:flatD cells (x::r)=cells x++flatD cells r:=rfl
    rw [e,show (k+1)*size=(cells x).length+k*size by rw [hs,Nat.add_mul,Nat.one_mul,Nat.add_comm],← List.drop_drop,List.drop_left,flat_drop hs r k]
    rfl
theorem flat_take (hs:∀ x,(cells x).length=size):∀ (xs:List α) (k:Nat),(flatD cells xs).take (k*size)=flatD cells (xs.take k)
  | [],k=>by simp [flatD]
  |x::r,0=>by simp [flatD]
  |x::r,k+1=>by
    have e:flatD cells (x::r)=cells x++flatD cells r:=rfl
    rw [e,show (k+1)*size=(cells x).length+k*size by rw [hs,Nat.add_mul,Nat.one_mul,Nat.add_comm],List.take_length_add_append,flat_take hs r k]
    rfl
/-- The k-th thing, as a whole. -/
theorem flat_part [Inhabited α] (hs:∀ x,(cells x).length=size) (xs:List α) (k:Nat) (h:k < xs.length):((flatD cells xs).drop (k*size)).take size=cells (xs.getD k default):=by
  rw [flat_drop hs,List.drop_eq_getElem_cons h]
  have e:flatD cells (xs[k]::xs.drop (k+1))=cells xs[k]++flatD cells (xs.drop (k+1)):=rfl
  rw [e,← hs xs[k],List.take_left]
  simp [h]
/-- One cell of the k-th thing. -/
theorem flat_cell [Inhabited α] (hs:∀ x,(cells x).length=size) (xs:List α) (k j:Nat) (h:k < xs.length) (hj:j < size):(flatD cells xs)[k*size+j]? = (cells (xs.getD k default))[j]? :=by
  rw [← flat_part hs xs k h,List.getElem?_take_of_lt hj,List.getElem?_drop]
end
end Go.Proofs.YtidjjfjhmlndjaaGreatDoor
namespace Go.Proofs.YtidjjfjhmlndjaaGreatDoor
open Go.RowKit
def D.held:D→Bool
  |.sc _|.sl ..|.cptr ..=>true
  |_=>false
theorem cap_of {E:Env}{w:World}{d:D}{v:Value} (h:Rep E w d v) (hd:d.held=true):Cap1 E w d v:=by
  cases d<;>first|exact h|cases hd
theorem of_cap {E:Env}{w:World}{d:D}{v:Value} (h:Cap1 E w d v) (hd:d.held=true):Rep (roEnv E.ro) w d v:=by
  cases d with
  |sc u=>exact h
  |sl n cs=>exact RepP.keep h (fun _ hb=>hb) fun _ _=>rfl
  |cptr cs k=>exact h
  |_=>cases hd
theorem awfnF {X:Ctx}{P:Program}{o:Oper}{s:St}{wr:List Nat}{nb:Nat}{f:FuncId}{caps:Array Operand}{K:St→Prop} (ho:o.op = .makeFunc (.func f) #[] caps)
    (hc:(caps.toList.map s.ev).all D.held=true) (h:K (s.put o.dst (.fn f (caps.toList.map s.ev)))):AwStepF X P o s wr nb K:=
  ⟨fun E a w K' R hr hk => by
    unfold Oper.wp
    have hrun:(execOp a.eval o).run P w = .ok (.value (.func (.func f) #[] (caps.map a.eval))) w:=by
      simp [execOp,ho,Instr.makeFunc]
    rw [hrun]
    refine hk _ _ _ _ h (hr.put o.dst ⟨(caps.map a.eval).toList,rfl,by simp,fun j d v hd hv=>?_⟩) ⟨.refl _,Nat.le_refl _,fun b hb _ hne=>rfl,fun i l h1 h2=>(by rw [h1] at h2;cases h2),fun b h1 h2=>absurd h1 h2⟩
    have h4:=List.all_eq_true.1 hc _ (List.mem_of_getElem? hd)
    rw [List.getElem?_map] at hd
    rw [Array.toList_map,List.getElem?_map] at hv
    cases hx:caps.toList[j]? with
    |none=>rw [hx] at hd;cases hd
    |some x=>
      rw [hx] at hd hv
      injection hd with hd;injection hv with hv
      subst hd;subst hv
      exact cap_of (hr.ev x) h4⟩
theorem awcallCF {X:Ctx}{P:Program}{o:Oper}{s:St}{wr:List Nat}{nb:Nat}{t:Tmp}{f:FuncId}{cap:List D}{xs:Array Operand}{ats:Array TypeId}{K:St→Prop} (ho:o.op = .call { callee:=.value (.tmp t),args:=xs,argTypes:=ats })
    (hf:s.get t = .fn f cap) (ds:List D) (Q:D→Prop) (hs:Spec P f ds Q) (hds:xs.toList.map s.ev++cap=ds) (hno:(xs.toList.map s.ev).all D.noid=true) (hcap:cap.all D.held=true) (hk:∀ d,Q d→K (s.put o.dst d)):AwStepF X P o s wr nb K:=by
  refine ⟨fun E a w K' R hr hK=>?_⟩
  have hv:Rep E w (.fn f cap) (a.eval (.tmp t)):=by
    have:=hr.ev (.tmp t)
    rw [show s.ev (.tmp t) = .fn f cap from hf] at this
    exact this
  obtain ⟨us,h1,h2,h3⟩:=hv
  have hrun:(execOp a.eval o).run P w = .ok (.enter f (xs.map a.eval++us.toArray)) w:=by
    rw [show execOp a.eval o=callFunc f (#[]++xs.map a.eval++us.toArray) by simp only [execOp,ho,resolve,h1];rfl]
    rw [hs.1]
    simp
  unfold Oper.wp
  rw [hrun]
  show Calls P f _ w _
  subst hds
  refine (hs.2 E.ro w (xs.map a.eval++us.toArray) hr.sr.rolt (by simp [h2]) fun j d hd=>?_).mono ?_
  · by_cases hj:j < xs.size
    · rw [List.getElem?_append_left (by simpa using hj)] at hd
      rw [Array.getD_eq_getD_getElem?, Array.getElem?_append_left (by simpa using hj),← Array.getD_eq_getD_getElem?]
      exact args_of hr hno j d hd
    · rw [List.getElem?_append_right (by simpa using hj)] at hd
      rw [Array.getD_eq_getD_getElem?, Array.getElem?_append_right (by simpa using hj)]
      simp only [List.length_map,Array.length_toList] at hd
      simp only [Array.size_map,List.getElem?_toArray]
      have hjl:j - xs.size < us.length:=by rw [h2];exact (List.getElem?_eq_some_iff.1 hd).1
      rw [List.getElem?_eq_getElem hjl]
      exact of_cap (h3 _ d _ hd (List.getElem?_eq_getElem hjl)) (List.all_eq_true.1 hcap _ (List.mem_of_getElem? hd))
  · intro e w' h
    obtain ⟨v,rfl,h2⟩:=after_call hr hk hK e w' h
    exact h2
def D.heldP:D→Bool
  |.sc _|.sl ..|.cptr ..|.ptr ..=>true
  |_=>false
theorem capP_of {E:Env}{w:World}{d:D}{v:Value} (h:Rep E w d v) (hd:d.heldP=true):Cap1 E w d v:=by
  cases d<;>first|exact h|cases hd
theorem of_capP {E:Env}{w:World}{d:D}{v:Value} (h:Cap1 E w d v) (hd:d.heldP=true):Rep E w d v:=by
  cases d<;>first|exact h|cases hd
theorem awfnPF {X:Ctx}{P:Program}{o:Oper}{s:St}{wr:List Nat}{nb:Nat}{f:FuncId}{caps:Array Operand}{K:St→Prop} (ho:o.op = .makeFunc (.func f) #[] caps)
    (hc:(caps.toList.map s.ev).all D.heldP=true) (h:K (s.put o.dst (.fn f (caps.toList.map s.ev)))):AwStepF X P o s wr nb K:=
  ⟨fun E a w K' R hr hk => by
    unfold Oper.wp
    have hrun:(execOp a.eval o).run P w = .ok (.value (.func (.func f) #[] (caps.map a.eval))) w:=by
      simp [execOp,ho,Instr.makeFunc]
    rw [hrun]
    refine hk _ _ _ _ h (hr.put o.dst ⟨(caps.map a.eval).toList,rfl,by simp,fun j d v hd hv=>?_⟩) ⟨.refl _,Nat.le_refl _,fun b hb _ hne=>rfl,fun i l h1 h2=>(by rw [h1] at h2;cases h2),fun b h1 h2=>absurd h1 h2⟩
    have h4:=List.all_eq_true.1 hc _ (List.mem_of_getElem? hd)
    rw [List.getElem?_map] at hd
    rw [Array.toList_map,List.getElem?_map] at hv
    cases hx:caps.toList[j]? with
    |none=>rw [hx] at hd;cases hd
    |some x=>
      rw [hx] at hd hv
      injection hd with hd;injection hv with hv
      subst hd;subst hv
      exact capP_of (hr.ev x) h4⟩
theorem awcallCHF {X:Ctx}{P:Program}{o:Oper}{s:St}{wr:List Nat}{nb:Nat}{t:Tmp}{f:FuncId}{cap:List D}{xs:Array Operand}{ats:Array TypeId}{K:St→Prop} (ho:o.op = .call { callee:=.value (.tmp t),args:=xs,argTypes:=ats })
    (hf:s.get t = .fn f cap) {ds:List D}{os:List (Nat × Ob)}{k:Nat}{Q:D→List (Nat × Ob)→Nat→Prop} (hs:SpecH P f ds os k Q) (ρ:List Nat) (hρ:ρ.Nodup) (hlen:ρ.length=k) (hin:insOk s.os ρ false=true) (hos:handOs s.os (sg ρ) ρ=os)
    (hdin:(xs.toList.map s.ev++cap).all (D.inn ρ.contains)=true) (hds:(xs.toList.map s.ev++cap).map (D.ren (sg ρ))=ds) (hcap:cap.all D.heldP=true) (hwr:∀ j ∈ ρ,wr.contains j=true∨nb≤j)
    (hk:∀ d os' nb',Q d os' nb'→k≤nb'→K ((s.back ρ os' nb').put o.dst (d.ren (tau ρ s.nb)))):AwStepF X P o s wr nb K:=by
  refine awcallGF (fun E a w hc hr=>?_) hs ρ hρ hlen hin hos hdin hds hwr hk
  have hv:Rep E w (.fn f cap) (a.eval (.tmp t)):=by
    have:=hr.ev (.tmp t)
    rw [show s.ev (.tmp t) = .fn f cap from hf] at this
    exact this
  obtain ⟨us,h1,h2,h3⟩:=hv
  refine ⟨xs.map a.eval++us.toArray,?_,by simp [h2],fun j d hd=>?_⟩
  · rw [show execOp a.eval o=callFunc f (#[]++xs.map a.eval++us.toArray) by simp only [execOp,ho,resolve,h1];rfl,hc]
    simp
  · by_cases hj:j < xs.size
    · rw [List.getElem?_append_left (by simpa using hj)] at hd
      rw [Array.getD_eq_getD_getElem?, Array.getElem?_append_left (by simpa using hj),← Array.getD_eq_getD_getElem?]
      exact args_rep hr xs j d hd
    · rw [List.getElem?_append_right (by simpa using hj)] at hd
      rw [Array.getD_eq_getD_getElem?, Array.getElem?_append_right (by simpa using hj)]
      simp only [List.length_map,Array.length_toList] at hd
      simp only [Array.size_map,List.getElem?_toArray]
      have hjl:j - xs.size < us.length:=by rw [h2];exact (List.getElem?_eq_some_iff.1 hd).1
      rw [List.getElem?_eq_getElem hjl]
      exact of_capP (h3 _ d _ hd (List.getElem?_eq_getElem hjl)) (List.all_eq_true.1 hcap _ (List.mem_of_getElem? hd))
end Go.Proofs.YtidjjfjhmlndjaaGreatDoor
namespace Go.Proofs.YtidjjfjhmlndjaaGreatDoor
open Go.RowKit
def updL (tm:List D) (ch:List (Nat × D)):List D:=ch.foldl (fun tm p=>tm.set p.1 p.2) tm
theorem updL_nil (tm:List D):updL tm []=tm:=rfl
theorem updL_cons (tm:List D) (i:Nat) (d:D) (r:List (Nat × D)):updL tm ((i,d)::r)=updL (tm.set i d) r:=rfl
def setCs' (os:List (Nat × Ob)) (i:Nat) (x:Ob):List (Nat × Ob):=os.map fun p=>cond (p.1==i) (i,x) p
def updO (os:List (Nat × Ob)) (ch:List (Nat × Ob)):List (Nat × Ob):=ch.foldl (fun os p=>setCs' os p.1 p.2) os
theorem updO_nil (os:List (Nat × Ob)):updO os []=os:=rfl
theorem updO_cons (os:List (Nat × Ob)) (i:Nat) (x:Ob) (r:List (Nat × Ob)):updO os ((i,x)::r)=updO (setCs' os i x) r:=rfl
theorem ibeq_t (a b:Int):((a==b)=true)=(a≤b∧b≤a):=by rw [beq_iff_eq];exact propext ⟨fun h=>by omega,fun h=>by omega⟩
theorem ibne_f (a b:Int):((a != b)=false)=(a≤b∧b≤a):=by rw [bne_eq_false_iff_eq];exact propext ⟨fun h=>by omega,fun h=>by omega⟩
/-- A call of a function for which the model stands in: it yields a value at once. -/
theorem awext {X:Ctx}{P:Program}{o:Oper}{s:St}{f:FuncId}{xs:Array Operand}{ats:Array TypeId}{K:St→Prop} (ho:o.op = .call { callee:=.value (.func f),args:=xs,argTypes:=ats }) (vs:List Value) (v:Value) (h1:v.oneCell' = true)
    (hs:∀ w,(callFunc f vs.toArray).run P w = .ok (.value v) w) (hds:xs.toList.map s.ev=vs.map .sc) (hk:K (s.put o.dst (.sc v))):AwStep X P o s K:=by
  refine ⟨fun E a w K' R hr hK=>?_⟩
  have hargs:xs.map a.eval=vs.toArray:=by
    apply Array.ext'
    rw [Array.toList_map]
    apply List.ext_getElem?
    intro j
    have h2:=congrArg (fun l:List D=>l[j]?) hds
    simp only [List.getElem?_map] at h2 ⊢
    cases hx:xs.toList[j]? with
    |none=>
      rw [hx] at h2
      cases hv:vs[j]? with
      |none=>simp
      |some u=>rw [hv] at h2;simp at h2
    |some x=>
      rw [hx] at h2
      cases hv:vs[j]? with
      |none=>rw [hv] at h2;simp at h2
      |some u=>
        rw [hv] at h2
        have h3:s.ev x = .sc u:=by simpa using h2
        have h4:=hr.ev x
        rw [h3] at h4
        have h5:a.eval x=u:=h4.1
        simp [h5]
  have hrun:(execOp a.eval o).run P w = .ok (.value v) w:=by
    rw [show execOp a.eval o=callFunc f (#[]++xs.map a.eval++#[]) by simp only [execOp,ho];rfl]
    rw [hargs]
    simpa using hs w
  unfold Oper.wp
  rw [hrun]
  exact hK _ _ _ _ hk (hr.put o.dst ⟨rfl,h1⟩)
theorem toNat_pred (k:Nat):((k:Int) - 1).toNat=k - 1:=by omega
end Go.Proofs.YtidjjfjhmlndjaaGreatDoor
namespace Go.Proofs.YtidjjfjhmlndjaaGreatDoor
open Go.RowKit
mutual
/-- What belongs to an object, as data that is only read. -/
def D.cold:D→D
  |.tr _ _ n cs=>.sl n (D.colds cs)
  |.none=>.none
  |.sc v=>.sc v
  |.sl n cs=>.sl n cs
  |.own i o n=>.own i o n
  |.agg cs=>.agg cs
  |.ptr i o=>.ptr i o
  |.mp i=>.mp i
  |.cptr cs o=>.cptr cs o
  |.tup ds=>.tup ds
  |.fn f cap=>.fn f cap
def D.colds:List D→List D
  | []=> []
  |d::r=>d.cold::D.colds r
end
theorem colds_nil:D.colds [] = []:=by rw [D.colds]
theorem colds_cons (d:D) (r:List D):D.colds (d::r)=d.cold::D.colds r:=by rw [D.colds]
theorem cold_tr (ty sz n:Nat) (cs:List D):D.cold (.tr ty sz n cs) = .sl n (D.colds cs):=by rw [D.cold]
theorem cold_sc (v:Value):D.cold (.sc v) = .sc v:=by rw [D.cold]
theorem cold_sl (n:Nat) (cs:List D):D.cold (.sl n cs) = .sl n cs:=by rw [D.cold]
theorem cold_own (i o n:Nat):D.cold (.own i o n) = .own i o n:=by rw [D.cold]
theorem colds_map:∀ cs:List D,D.colds cs=cs.map D.cold
  | []=>colds_nil
  |d::r=>by rw [colds_cons,colds_map r,List.map_cons]
theorem colds_app (a b:List D):D.colds (a++b)=D.colds a++D.colds b:=by simp [colds_map]
theorem colds_len (cs:List D):(D.colds cs).length=cs.length:=by simp [colds_map]
theorem cold_nt {d:D} (h:d.nt=true):d.cold=d:=by cases d<;>first|(cases h;done)|(rw [D.cold])
theorem OwnP.cold {ro:Nat→Prop}{w:World}{tg:Nat→Option (Nat × List Nat)}{i:Nat}{p:List Nat}{d:D}{u:Value} (h:OwnP w tg i p d u) (hro:∀ b q,tg b=some (i,q)→ro b):RepP ro w d.cold u:=by
  induction h with
  |sc p v h1=>rw [cold_sc];exact .sc v h1
  |nil p ty size=>rw [cold_tr,colds_nil];exact .sl 0 [] none 0 [] rfl (Nat.le_refl _) (Nat.zero_le _) (fun j u hu=>by simp at hu) (fun j d u hd=>by simp at hd)
  |tr p ty size n cs b c cur us hb hw hz hl hcur hn hc hu hat _ ih=>
    rw [cold_tr]
    refine .sl n _ _ c us (by rw [colds_len];exact hu) hn hc (fun j u hj=>⟨b,0,rfl,hro b p hb,?_⟩) fun j d u hd hj=>?_
    · rw [Nat.zero_add,cell_of_row w b j cur ty (0,0) hw]
      exact hat j u hj
    · rw [colds_map,List.getElem?_map] at hd
      cases hx:cs[j]? with
      |none=>rw [hx] at hd;cases hd
      |some e=>
        rw [hx] at hd
        injection hd with hd
        subst hd
        exact ih j e u hx hj
def St.cool (s:St) (i:Nat):St:=match s.os.lookup i with
  |some x=>s.setCs i (D.colds x.cs)
  |none=>s
def Env.cool (E:Env) (i:Nat):Env:=⟨fun b=>E.ro b∨∃ p,E.tg b=some (i,p),E.at_,fun b=>match E.tg b with|some (k,p)=>if k=i then none else some (k,p)|none=>none⟩
theorem Env.cool_le (E:Env) (i:Nat):E.le (E.cool i):=⟨fun _ _ h=>h,fun _ h=>.inl h⟩
theorem Env.cool_tg {E:Env}{i b k:Nat}{p:List Nat} (h:(E.cool i).tg b=some (k,p)):E.tg b=some (k,p)∧k≠i:=by
  have h':(match E.tg b with|some (k,p)=>if k=i then none else some (k,p)|none=>none)=some (k,p):=h
  cases ht:E.tg b with
  |none=>rw [ht] at h';cases h'
  |some q=>
    obtain ⟨k',p'⟩:=q
    rw [ht] at h'
    simp only at h'
    split at h'
    · cases h'
    · rename_i hk
      injection h' with h'
      injection h' with e1 e2
      subst e1;subst e2
      exact ⟨rfl,hk⟩
theorem Env.cool_tg' {E:Env}{i b k:Nat}{p:List Nat} (h:E.tg b=some (k,p)) (hk:k≠i):(E.cool i).tg b=some (k,p):=by
  show (match E.tg b with|some (k,p)=>if k=i then none else some (k,p)|none=>none)=some (k,p)
  rw [h]
  exact if_neg hk
theorem cool_sound {X:Ctx}{s:St}{i:Nat}{E:Env}{a:Act}{w:World} (hr:Rel X s E a w):∃ E',Rel X (s.cool i) E' a w∧E.le E':=by
  unfold St.cool
  cases hx:s.os.lookup i with
  |none=>exact ⟨E,hr,.refl _⟩
  |some x=>
    have hmem:=mem_of_lookup hx
    have hle:=E.cool_le i
    refine ⟨E.cool i,⟨hr.sz,fun t d hd=>(hr.tm t d hd).keep hle fun _ _=>rfl,hr.df,⟨fun j y hj=>?_,hr.sr.new,hr.sr.rolt.grow (fun _ h=>.inl h) (fun _ _=>rfl) fun b hb=>?_,fun j y k z hj hk hjk l m hl hm=>?_,?_,?_⟩,?_⟩,hle⟩
    · obtain ⟨z,hz,rfl⟩:=setCs_mem hj
      have hnro:∀ l,E.at_ j=some (some l)→¬ E.ro l.g→¬ (E.cool i).ro l.g:=by
        intro l hl hn hc
        rcases hc with hc|⟨p,hp⟩
        · exact hn hc
        · exact (hr.sr.tr.blk _ i p hp).2.2.2 j z l hz hl rfl
      obtain ⟨h1,h2⟩:=hr.sr.obs j z hz
      by_cases hji:j=i
      · subst hji
        rw [if_pos rfl]
        obtain rfl:=nodup_eq hr.sr.nodup hmem hz
        refine ⟨fun hs=>by show (D.colds x.cs).length=_;rw [colds_len];exact h1 hs,?_⟩
        rcases h2 with ⟨h3,h4⟩|⟨l,h3,h4,h5,h6,h7,⟨cur,h8,h9,h10⟩|⟨h8,es,clock,h9,h10⟩⟩
        · exact .inl ⟨h3,h4⟩
        · refine .inr ⟨l,h3,h4,hnro l h3 h5,h6,h7,.inl ⟨cur,h8,h9,fun q d hd=>?_⟩⟩
          have hd':(D.colds x.cs)[q]? = some d:=hd
          rw [colds_map,List.getElem?_map] at hd'
          cases hq:x.cs[q]? with
          |none=>rw [hq] at hd';cases hd'
          |some e=>
            rw [hq] at hd'
            injection hd' with hd'
            subst hd'
            obtain ⟨u,h11,h12,h13⟩:=h10 q e hq
            refine ⟨u,h11,h12,?_⟩
            by_cases hnt:e.nt=true
            · rw [cold_nt hnt]
              exact h13.keep hle fun _ _=>rfl
            · cases e with
              |tr ty sz n cs=>
                obtain ⟨l',u',e1,e2,e3⟩:=hr.sr.tr.cell j x hz q ty sz n cs hq
                rw [h3] at e1
                injection e1 with e1;injection e1 with e1;subst e1
                rw [h8.cell q,h11] at e2
                injection e2 with e2;subst e2
                have:=e3.cold (ro:=(E.cool j).ro) fun b p hb=>.inr ⟨p,hb⟩
                rw [cold_tr] at this ⊢
                exact this
              |_=>exact absurd rfl hnt
        · refine .inr ⟨l,h3,h4,hnro l h3 h5,h6,h7,.inr ⟨h8,es,clock,h9,?_⟩⟩
          refine ⟨?_,h10.2⟩
          show D.colds x.cs=_
          rw [colds_map,h10.1,List.map_cons,List.map_flatMap]
          simp [D.cold]
      · rw [if_neg hji]
        exact (hr.sr.obs j z hz).keep hle (fun _ _ => rfl) fun l hl => ⟨rfl, hnro l hl (by
          rcases h2 with ⟨h3,_⟩|⟨l',h3,_,h5,_⟩
          · rw [hl] at h3;cases h3
          · rw [hl] at h3; injection h3 with h3; injection h3 with h3; subst h3; exact h5)⟩
    · rcases hb with hb|⟨p,hp⟩
      · exact hr.sr.rolt b hb
      · exact (hr.sr.tr.blk b i p hp).1
    · obtain ⟨y',hy',_⟩:=setCs_mem hj
      obtain ⟨z',hz',_⟩:=setCs_mem hk
      exact hr.sr.apart j y' k z' hy' hz' hjk l m hl hm
    · rw [show (s.setCs i (D.colds x.cs)).os=Go.Proofs.YtidjjfjhmlndjaaGreatDoor.setCs s.os i (D.colds x.cs) from rfl,setCs_ids]
      exact hr.sr.nodup
    · refine hr.sr.tr.map (fun k=>k≠i) id (fun b k' p hq=>⟨k',Env.cool_tg hq⟩) (fun b k p hq hk=>Env.cool_tg' hq hk) (fun b k p hq hk h1 h2 h3 h4=>⟨h1,rfl,h2,fun hb=>?_,fun j y l hj hl=>?_⟩) fun k' x' hx' j ty sz n cs hj=>?_
      · rcases hb with hb|⟨p',hp⟩
        · exact h3 hb
        · rw [hq] at hp
          injection hp with hp
          injection hp with hp _
          exact hk hp
      · obtain ⟨y',hy',_⟩:=setCs_mem hj
        exact h4 j y' l hy' hl
      · obtain ⟨z,hz,rfl⟩:=setCs_mem hx'
        by_cases hki:k' = i
        · subst hki
          rw [if_pos rfl] at hj
          have hj':(D.colds z.cs)[j]? = some (.tr ty sz n cs):=by
            obtain rfl:=nodup_eq hr.sr.nodup hmem hz
            exact hj
          rw [colds_map,List.getElem?_map] at hj'
          cases hq:z.cs[j]? with
          |none=>rw [hq] at hj';cases hj'
          |some e=>
            rw [hq] at hj'
            injection hj' with hj'
            cases e<;>rw [D.cold] at hj'<;>cases hj'
        · rw [if_neg hki] at hj
          exact ⟨k',z,hki,rfl,hz,hj,fun l hl=>⟨l,hl,rfl⟩⟩
    · refine ⟨hr.st.le.trans hle,hr.st.os,hr.st.tape,hr.st.output,hr.st.size,hr.st.block,fun b hb=>?_,hr.st.nb⟩
      rcases hb with hb|⟨p,hp⟩
      · exact hr.st.ro b hb
      · exact .inr (hr.sr.tr.blk b i p hp).2.1
def D.tp:D→Bool
  |.sc _|.tr ..=>true
  |_=>false
theorem OwnP.under {w w':World}{tg tg':Nat→Option (Nat × List Nat)}{i i':Nat}{p:List Nat}{d:D}{u:Value} (s:List Nat) (h:OwnP w tg i p d u) (hm:∀ b q,tg b=some (i,q)→w'.heap[b]? = w.heap[b]? ∧tg' b=some (i',q++s)):OwnP w' tg' i' (p++s) d u:=by
  induction h with
  |sc p v h1=>exact .sc _ v h1
  |nil p ty size=>exact .nil _ ty size
  |tr p ty size n cs b c cur us hb hw hz hl hcur hn hc hu hat _ ih=>
    obtain ⟨h1,h2⟩:=hm b p hb
    exact .tr _ ty size n cs b c cur us h2 (h1.trans hw) hz hl hcur hn hc hu hat ih
/-- The object i is named once, as a whole. -/
def own1 (i n:Nat):List D→Nat→Bool
  | [],k=>k==1
  |d::r,k=>match d with
    |.own j o m=>if j=i then (if o=0∧m=n then own1 i n r (k+1) else false) else own1 i n r k
    |_=>own1 i n r k
theorem own1_ {i n:Nat}:∀ {cs:List D}{k:Nat},own1 i n cs k=true→k≤1∧(k=1→∀ (q o m:Nat),cs[q]? ≠some (.own i o m))∧(k=0→∃ q,cs[q]? = some (.own i 0 n)∧∀ (q' o m:Nat),cs[q']? = some (.own i o m)→q' = q)
  | [],k,h=>by
    have h':k=1:=by simpa [own1] using h
    subst h'
    exact ⟨Nat.le_refl _,fun _ q o m=>by simp,fun h=>by omega⟩
  |d::r,k,h=>by
    have skip:(∀ o m,d≠.own i o m)→own1 i n r k=true→k≤1∧(k=1→∀ (q o m:Nat),(d::r)[q]? ≠some (.own i o m))∧(k=0→∃ q,(d::r)[q]? = some (.own i 0 n)∧∀ (q' o m:Nat),(d::r)[q']? = some (.own i o m)→q' = q):=by
      intro hd hr
      obtain ⟨h1,h2,h3⟩:=own1_ hr
      refine ⟨h1,fun hk q o m hq=>?_,fun hk=>?_⟩
      · rcases q with _|q
        · simp only [List.getElem?_cons_zero,Option.some.injEq] at hq
          exact hd o m hq
        · rw [List.getElem?_cons_succ] at hq
          exact h2 hk q o m hq
      · obtain ⟨q,h4,h5⟩:=h3 hk
        refine ⟨q+1,by rw [List.getElem?_cons_succ];exact h4,fun q' o m hq=>?_⟩
        rcases q' with _|q'
        · simp only [List.getElem?_cons_zero,Option.some.injEq] at hq
          exact absurd hq (hd o m)
        · rw [List.getElem?_cons_succ] at hq
          rw [h5 q' o m hq]
    unfold own1 at h
    cases d with
    |own j o m=>
      simp only at h
      by_cases hj:j=i
      · subst hj
        simp only [if_true] at h
        split at h
        · rename_i hom
          obtain ⟨rfl,rfl⟩:=hom
          obtain ⟨h1,h2,h3⟩:=own1_ h
          have hk:k=0:=by omega
          subst hk
          refine ⟨Nat.zero_le _,fun h=>by omega,fun _=>⟨0,rfl,fun q' o m hq=>?_⟩⟩
          rcases q' with _|q'
          · rfl
          · rw [List.getElem?_cons_succ] at hq
            exact absurd hq (h2 rfl q' o m)
        · cases h
      · rw [if_neg hj] at h
        exact skip (fun o' m' e=>by injection e with e;exact hj e) h
    |_=>exact skip (fun o m e=>by cases e) h
theorem own1_tp {i n:Nat}:∀ {a:List D},a.all D.tp=true→∀ (b:List D) (k:Nat),own1 i n (a++b) k=own1 i n b k
  | [],_,b,k=>rfl
  |d::r,h,b,k=>by
    rw [List.all_cons,Bool.and_eq_true] at h
    have ih:=own1_tp (i:=i) (n:=n) h.2 b k
    rw [List.cons_append]
    cases d<;>first|exact ih|(exfalso;exact absurd h.1 (by simp [D.tp]))
def D.abs1 (i:Nat) (x:Ob):D→D
  |.own j o n=>if j=i then .tr x.ty x.size x.len x.cs else .own j o n
  |d=>d
def St.abs (s:St) (i j:Nat):St:=match s.ob i with
  |some x=>{ s with os:=(s.os.filter (fun p=>!(p.1==i))).map fun p=>cond (p.1==j) (p.1,{ p.2 with cs:=p.2.cs.map (D.abs1 i x) }) p }
  |none=>s
def absOk (s:St) (i j:Nat):Bool:=match s.ob i,s.ob j with
  |some x,some y=>!(i==j)&&(x.cs.all D.tp&&(own1 i x.len y.cs 0&&((x.ty==1000000)==false)))
  |_,_=>false
open Classical in
noncomputable def Env.abs (E:Env) (i j q:Nat):Env:=⟨E.ro,E.at_,fun b=>if (∃ l,E.at_ i=some (some l)∧l.g=b) then some (j, [q]) else match E.tg b with|some (k,p)=>if k=i then some (j,p ++ [q]) else some (k,p)|none=>none⟩
open Classical in
theorem abs_sound {X:Ctx}{s:St}{i j:Nat} (hok:absOk s i j=true) {E:Env}{a:Act}{w:World} (hr:Rel X s E a w):∃ E',Rel X (s.abs i j) E' a w∧E.le E':=by
  unfold absOk at hok
  cases hx:s.ob i with
  |none=>rw [hx] at hok;cases hok
  |some x=>
    cases hy:s.ob j with
    |none=>rw [hx,hy] at hok;cases hok
    |some y=>
      rw [hx,hy] at hok
      simp only [Bool.and_eq_true,Bool.not_eq_true',beq_eq_false_iff_ne] at hok
      obtain ⟨hij,htp,hown,hx6⟩:=hok
      replace hx6:¬ x.ty=1000000:=by simpa using hx6
      obtain ⟨_,_,hq0⟩:=own1_ hown
      obtain ⟨q,hq,hqu⟩:=hq0 rfl
      have hxm:=mem_of_lookup (St.ob_some hx).1
      have hym:=mem_of_lookup (St.ob_some hy).1
      have hxz:=(St.ob_some hx).2
      have hyz:=(St.ob_some hy).2
      have hle:E.le (E.abs i j q):=⟨fun _ _ h=>h,fun _ h=>h⟩
      have hst:s.abs i j=⟨s.tm,(s.os.filter (fun p=>!(p.1==i))).map (fun p=>cond (p.1==j) (p.1,({ p.2 with cs:=p.2.cs.map (D.abs1 i x) }:Ob)) p),s.nb⟩:=by unfold St.abs;rw [hx]
      rw [hst]
      -- what is there now
      have hold:∀ k z',(k,z') ∈ (s.os.filter (fun p=>!(p.1==i))).map (fun p=>cond (p.1==j) (p.1,({ p.2 with cs:=p.2.cs.map (D.abs1 i x) }:Ob)) p)→k≠i∧((k=j∧z' = { y with cs:=y.cs.map (D.abs1 i x) })∨(k≠j∧(k,z') ∈ s.os)):=by
        intro k z' hk
        obtain ⟨⟨k0,z⟩,h1,h2⟩:=List.mem_map.1 hk
        obtain ⟨h3,h4⟩:=List.mem_filter.1 h1
        have hki:k0≠i:=by simpa using h4
        by_cases hkj:k0=j
        · subst hkj
          simp only [beq_self_eq_true,cond_true] at h2
          injection h2 with h2 h5
          subst h2
          obtain rfl:=nodup_eq hr.sr.nodup hym h3
          exact ⟨hki,.inl ⟨rfl,h5.symm⟩⟩
        · have:(k0==j)=false:=by simpa using hkj
          simp only [this,cond_false] at h2
          injection h2 with h2 h5
          subst h2;subst h5
          exact ⟨hki,.inr ⟨hkj,h3⟩⟩
      have hold':∀ k z',(k,z') ∈ (s.os.filter (fun p=>!(p.1==i))).map (fun p=>cond (p.1==j) (p.1,({ p.2 with cs:=p.2.cs.map (D.abs1 i x) }:Ob)) p)→∃ z,(k,z) ∈ s.os∧k≠i:=by
        intro k z' hk
        obtain ⟨h1,⟨h2,_⟩|⟨_,h2⟩⟩:=hold k z' hk
        · exact ⟨y,by rw [h2];exact hym,h1⟩
        · exact ⟨z',h2,h1⟩
      have htg:∀ b k p,E.tg b=some (k,p)→k≠i→(E.abs i j q).tg b=some (k,p):=by
        intro b k p hb hk
        have hne:¬ ∃ l,E.at_ i=some (some l)∧l.g=b:=by
          rintro ⟨l,h1,h2⟩
          exact (hr.sr.tr.blk b k p hb).2.2.2 i x l hxm h1 h2
        show (if (∃ l,E.at_ i=some (some l)∧l.g=b) then some (j, [q]) else match E.tg b with|some (k,p)=>if k=i then some (j,p ++ [q]) else some (k,p)|none=>none)=_
        rw [if_neg hne,hb]
        exact if_neg hk
      have htgi:∀ b p,E.tg b=some (i,p)→(E.abs i j q).tg b=some (j,p ++ [q]):=by
        intro b p hb
        have hne:¬ ∃ l,E.at_ i=some (some l)∧l.g=b:=by
          rintro ⟨l,h1,h2⟩
          exact (hr.sr.tr.blk b i p hb).2.2.2 i x l hxm h1 h2
        show (if (∃ l,E.at_ i=some (some l)∧l.g=b) then some (j, [q]) else match E.tg b with|some (k,p)=>if k=i then some (j,p ++ [q]) else some (k,p)|none=>none)=_
        rw [if_neg hne,hb]
        exact if_pos rfl
      have htgo:∀ l,E.at_ i=some (some l)→(E.abs i j q).tg l.g=some (j, [q]):=fun l hl=>if_pos ⟨l,hl,rfl⟩
      have hobi:=hr.sr.obs i x hxm
      refine ⟨E.abs i j q,⟨hr.sz,fun t d hd=>(hr.tm t d hd).keep hle fun _ _=>rfl,hr.df,⟨fun k z' hk=>?_,hr.sr.new,hr.sr.rolt,fun k z' m z'' hk hm hkm l l' hl hl'=>?_,?_,⟨fun b k p hb=>?_,fun k z' hk c ty sz n cs hc=>?_⟩⟩,⟨hr.st.le.trans hle,hr.st.os,hr.st.tape,hr.st.output,hr.st.size,hr.st.block,hr.st.ro,hr.st.nb⟩⟩,hle⟩
      · obtain ⟨hki,⟨rfl,rfl⟩|⟨hkj,hk'⟩⟩:=hold k z' hk
        · obtain ⟨h1,h2⟩:=hr.sr.obs k y hym
          refine ⟨fun hs=>by show (y.cs.map _).length=_;rw [List.length_map];exact h1 hs,?_⟩
          rcases h2 with h3|⟨l,h3,h4,h5,h6,h7,⟨cur,h8,h9,h10⟩|⟨h8,_⟩⟩
          · exact .inl h3
          · refine .inr ⟨l,h3,h4,h5,h6,h7,.inl ⟨cur,h8,h9,fun c d hd=>?_⟩⟩
            have hd':(y.cs.map (D.abs1 i x))[c]? = some d:=hd
            rw [List.getElem?_map] at hd'
            cases hc:y.cs[c]? with
            |none=>rw [hc] at hd';cases hd'
            |some e=>
              rw [hc] at hd'
              injection hd' with hd'
              subst hd'
              obtain ⟨u,h11,h12,h13⟩:=h10 c e hc
              refine ⟨u,h11,h12,?_⟩
              have h14:Rep1 (E.abs i k q) w e u:=h13.keep hle fun _ _=>rfl
              cases e with
              |own i' o m=>
                by_cases hi:i' = i
                · rw [show D.abs1 i x (.own i' o m) = .tr x.ty x.size x.len x.cs from if_pos hi]
                  trivial
                · rw [show D.abs1 i x (.own i' o m) = .own i' o m from if_neg hi]
                  exact h14
              |_=>exact h14
          · exact absurd h8 hyz
        · exact (hr.sr.obs k z' hk').keep hle (fun _ _ => rfl) fun l hl => ⟨rfl, by
            rcases (hr.sr.obs k z' hk').2 with ⟨h5,_⟩|⟨m',h5,_,h6,_⟩
            · rw [hl] at h5;cases h5
            · rw [hl] at h5; injection h5 with h5; injection h5 with h5; subst h5; exact h6⟩
      · obtain ⟨z1,h1,_⟩:=hold' k z' hk
        obtain ⟨z2,h2,_⟩:=hold' m z'' hm
        exact hr.sr.apart k z1 m z2 h1 h2 hkm l l' hl hl'
      · show (((s.os.filter (fun p=>!(p.1==i))).map (fun p=>cond (p.1==j) (p.1,({ p.2 with cs:=p.2.cs.map (D.abs1 i x) }:Ob)) p)).map (·.1)).Nodup
        rw [List.map_map]
        have:((·.1) ∘ fun p:Nat × Ob=>cond (p.1==j) (p.1,({ p.2 with cs:=p.2.cs.map (D.abs1 i x) }:Ob)) p)=(·.1):=by
          funext p
          simp only [Function.comp]
          cases (p.1==j)<;>rfl
        rw [this]
        exact hr.sr.nodup.sublist ((List.filter_sublist).map _)
      · have hb':(if (∃ l,E.at_ i=some (some l)∧l.g=b) then some (j, [q]) else match E.tg b with|some (k,p)=>if k=i then some (j,p ++ [q]) else some (k,p)|none=>none)=some (k,p):=hb
        by_cases hc:∃ l,E.at_ i=some (some l)∧l.g=b
        · obtain ⟨l,h1,rfl⟩:=hc
          refine ⟨hr.sr.lt hxm h1,?_,?_,fun k2 z2 l2 h2 h3=>?_⟩
          · rcases hobi.2 with ⟨h4,_⟩|⟨m',h4,h5,_⟩
            · rw [h1] at h4;cases h4
            · rw [h1] at h4;injection h4 with h4;injection h4 with h4;subst h4;exact h5
          · rcases hobi.2 with ⟨h4,_⟩|⟨m',h4,_,h5,_⟩
            · rw [h1] at h4;cases h4
            · rw [h1] at h4;injection h4 with h4;injection h4 with h4;subst h4;exact h5
          · obtain ⟨z3,h4,h5⟩:=hold' k2 z2 h2
            exact hr.sr.apart k2 z3 i x h4 hxm h5 l2 l h3 h1
        · rw [if_neg hc] at hb'
          cases ht:E.tg b with
          |none=>rw [ht] at hb';cases hb'
          |some kp=>
            obtain ⟨k0,p0⟩:=kp
            obtain ⟨e1,e2,e3,e4⟩:=hr.sr.tr.blk b k0 p0 ht
            refine ⟨e1,e2,e3,fun k2 z2 l2 h2 h3=>?_⟩
            obtain ⟨z3,h4,_⟩:=hold' k2 z2 h2
            exact e4 k2 z3 l2 h4 h3
      · obtain ⟨hki,⟨rfl,rfl⟩|⟨hkj,hk'⟩⟩:=hold k z' hk
        · have hc':(y.cs.map (D.abs1 i x))[c]? = some (.tr ty sz n cs):=hc
          rw [List.getElem?_map] at hc'
          cases he:y.cs[c]? with
          |none=>rw [he] at hc';cases hc'
          |some e=>
            rw [he] at hc'
            injection hc' with hc'
            by_cases hei:∃ o m,e = .own i o m
            · obtain ⟨o,m,rfl⟩:=hei
              have hcq:=hqu c o m he
              subst hcq
              rw [hq] at he
              injection he with he
              injection he with _ he1 he2
              subst he1;subst he2
              rw [show D.abs1 i x (.own i 0 x.len) = .tr x.ty x.size x.len x.cs from if_pos rfl] at hc'
              injection hc' with f1 f2 f3 f4
              subst f1;subst f2;subst f3;subst f4
              rcases (hr.sr.obs k y hym).2 with ⟨h3,h4⟩|⟨l,h3,_,_,_,_,⟨cur,h8,h9,h10⟩|⟨h8,_⟩⟩
              · have h5:=(hr.sr.obs k y hym).1 hyz
                rw [h4,Nat.zero_mul] at h5
                have:y.cs = []:=List.eq_nil_of_length_eq_zero h5
                rw [this] at hq
                simp at hq
              · obtain ⟨u,h11,h12,h13⟩:=h10 c _ hq
                refine ⟨l,u,h3,by rw [h8.cell c];exact h11,?_⟩
                rcases h13 with ⟨li,ci,g1,rfl,g3,g4,g5⟩|⟨g1,_,g2,rfl⟩
                · rcases hobi.2 with ⟨h4,_⟩|⟨m',h4,_,_,_,_,⟨curi,k8,k9,k10⟩|⟨k8,_⟩⟩
                  · rw [g1] at h4;cases h4
                  · rw [g1] at h4;injection h4 with h4;injection h4 with h4;subst h4
                    have hlen:=hobi.1 hxz
                    have hcap:ci=li.cap:=g5 rfl
                    have hle2:x.cs.length≤curi.size:=by rw [hlen,k9,← hcap];exact Nat.mul_le_mul_right _ g3
                    refine .tr [c] x.ty x.size x.len x.cs li.g ci curi (curi.toList.take x.cs.length) (htgo li g1) (k8.row hx6) hxz hlen (by rw [k9,hcap]) g3 g4 (by simp;omega) (fun e u hu=>?_) fun e d u hd hu=>?_
                    · rw [List.getElem?_take] at hu
                      split at hu
                      · rw [Array.getElem?_toList] at hu;exact hu
                      · cases hu
                    · have hu':curi[e]? = some u:=by
                        rw [List.getElem?_take] at hu
                        split at hu
                        · rw [Array.getElem?_toList] at hu;exact hu
                        · cases hu
                      obtain ⟨u',m1,m2,m3⟩:=k10 e d hd
                      rw [hu'] at m1
                      injection m1 with m1
                      subst m1
                      have hdt:=List.all_eq_true.1 htp d (List.mem_of_getElem? hd)
                      cases d with
                      |sc v=>obtain ⟨rfl,m4⟩:=m3;exact .sc _ _ m4
                      |tr ty' sz' n' cs'=>
                        obtain ⟨l',u'',n1,n2,n3⟩:=hr.sr.tr.cell i x hxm e ty' sz' n' cs' hd
                        rw [g1] at n1
                        injection n1 with n1;injection n1 with n1;subst n1
                        rw [k8.cell e,hu'] at n2
                        injection n2 with n2;subst n2
                        exact n3.under [c] fun b p hb=>⟨rfl,htgi b p hb⟩
                      |_=>cases hdt
                  · exact absurd k8 hxz
                · have hlen:=hobi.1 hxz
                  rw [g2,Nat.zero_mul] at hlen
                  rw [g2,List.eq_nil_of_length_eq_zero hlen]
                  exact .nil _ _ _
              · exact absurd h8 hyz
            · have hd:e = .tr ty sz n cs:=by
                cases e with
                |own i' o m=>
                  have:i'≠i:=fun h=>hei ⟨o,m,by rw [h]⟩
                  rw [show D.abs1 i x (.own i' o m) = .own i' o m from if_neg this] at hc'
                  cases hc'
                |_=>exact hc'
              subst hd
              obtain ⟨l,u,e1,e2,e3⟩:=hr.sr.tr.cell k y hym c ty sz n cs he
              exact ⟨l,u,e1,e2,e3.map fun b p hb=>⟨rfl,htg b k p hb hki⟩⟩
        · obtain ⟨l,u,e1,e2,e3⟩:=hr.sr.tr.cell k z' hk' c ty sz n cs hc
          exact ⟨l,u,e1,e2,e3.map fun b p hb=>⟨rfl,htg b k p hb hki⟩⟩
theorem OwnP.from {w w':World}{tg tg':Nat→Option (Nat × List Nat)}{i i':Nat}{r r' p:List Nat}{d:D}{u:Value} (h:OwnP w tg i p d u) (hm:∀ b q,tg b=some (i,q++r)→w'.heap[b]? = w.heap[b]? ∧tg' b=some (i',q++r')):∀ q,p=q++r→OwnP w' tg' i' (q++r') d u:=by
  induction h with
  |sc p v h1=>exact fun q _=>.sc _ v h1
  |nil p ty size=>exact fun q _=>.nil _ ty size
  |tr p ty size n cs b c cur us hb hw hz hl hcur hn hc hu hat _ ih=>
    intro q hq
    subst hq
    obtain ⟨h1,h2⟩:=hm b q hb
    exact .tr _ ty size n cs b c cur us h2 (h1.trans hw) hz hl hcur hn hc hu hat fun j d u hd hj=>ih j d u hd hj (j::q) rfl
def St.opn (s:St) (i c:Nat):St:=match s.ob i with
  |some x=>match x.cs[c]? with
    |some (.tr ty sz n cs)=>{ s with os:=(s.nb,⟨ty,sz,n,cs⟩)::Go.Proofs.YtidjjfjhmlndjaaGreatDoor.setCs s.os i (x.cs.set c (.own s.nb 0 n)),nb:=s.nb+1 }
    |_=>s
  |none=>s
/-- The way without its last step, where that is c. -/
def offW (c:Nat):List Nat→Option (List Nat)
  | []=>none
  | [j]=>if j=c then some [] else none
  |j::k::p=>(offW c (k::p)).map (j::·)
theorem offW_snoc (c:Nat):∀ q:List Nat,offW c (q ++ [c])=some q
  | []=>if_pos rfl
  | [j]=>by show (offW c [c]).map (j::·)=_;rw [show offW c [c]=some [] from if_pos rfl];rfl
  |j::k::q=>by show (offW c ((k::q) ++ [c])).map (j::·)=_;rw [offW_snoc c (k::q)];rfl
theorem offW_other {c j:Nat} (h:j≠c):∀ q:List Nat,offW c (q ++ [j])=none
  | []=>if_neg h
  | [k]=>by show (offW c [j]).map (k::·)=_;rw [show offW c [j]=none from if_neg h];rfl
  |k::m::q=>by show (offW c ((m::q) ++ [j])).map (k::·)=_;rw [offW_other h (m::q)];rfl
def Env.opn (E : Env) (i c nb : Nat) (l : Option Loc) : Env := ⟨E.ro, (E.with nb l).at_, fun b => match E.tg b with
  |some (k,p)=>if k=i then (match offW c p with|some []=>none|some q=>some (nb,q)|none=>some (k,p)) else some (k,p)
  | none => none⟩
theorem opn_tgs {E:Env}{i c nb b k:Nat}{l:Option Loc}{p:List Nat} (h:(E.opn i c nb l).tg b=some (k,p)):∃ k' p',E.tg b=some (k',p'):=by
  have h' : (match E.tg b with
    |some (k,p)=>if k=i then (match offW c p with|some []=>none|some q=>some (nb,q)|none=>some (k,p)) else some (k,p)
    | none => none) = some (k, p) := h
  cases ht:E.tg b with
  |none=>rw [ht] at h';cases h'
  |some q=>exact ⟨q.1,q.2,rfl⟩
theorem opn_other {E:Env}{i c nb b k:Nat}{l:Option Loc}{p:List Nat} (h:E.tg b=some (k,p)) (hk:k≠i):(E.opn i c nb l).tg b=some (k,p):=by
  show (match E.tg b with
    |some (k,p)=>if k=i then (match offW c p with|some []=>none|some q=>some (nb,q)|none=>some (k,p)) else some (k,p)
    | none => none) = _
  rw [h]
  exact if_neg hk
theorem opn_far {E:Env}{i c nb b j:Nat}{l:Option Loc}{q:List Nat} (h:E.tg b=some (i,q ++ [j])) (hj:j≠c):(E.opn i c nb l).tg b=some (i,q ++ [j]):=by
  show (match E.tg b with
    |some (k,p)=>if k=i then (match offW c p with|some []=>none|some q=>some (nb,q)|none=>some (k,p)) else some (k,p)
    | none => none) = _
  rw [h]
  simp only [if_true,offW_other hj]
theorem opn_in {E:Env}{i c nb b j:Nat}{l:Option Loc}{q:List Nat} (h:E.tg b=some (i,(q ++ [j]) ++ [c])):(E.opn i c nb l).tg b=some (nb,q ++ [j]):=by
  show (match E.tg b with
    |some (k,p)=>if k=i then (match offW c p with|some []=>none|some q=>some (nb,q)|none=>some (k,p)) else some (k,p)
    | none => none) = _
  rw [h]
  simp only [if_true,offW_snoc]
  cases q<;>rfl
theorem opn_top {E:Env}{i c nb b:Nat}{l:Option Loc} (h:E.tg b=some (i, [c])):(E.opn i c nb l).tg b=none:=by
  show (match E.tg b with
    |some (k,p)=>if k=i then (match offW c p with|some []=>none|some q=>some (nb,q)|none=>some (k,p)) else some (k,p)
    | none => none) = _
  rw [h]
  simp only [if_true]
  rw [show offW c [c]=some [] from if_pos rfl]
theorem opn_some {s:St}{i c:Nat}{x:Ob}{ty sz n:Nat}{cs:List D} (hx:s.ob i=some x) (hc:x.cs[c]? = some (.tr ty sz n cs)):s.opn i c={ s with os:=(s.nb,⟨ty,sz,n,cs⟩)::Go.Proofs.YtidjjfjhmlndjaaGreatDoor.setCs s.os i (x.cs.set c (.own s.nb 0 n)),nb:=s.nb+1 }:=by
  unfold St.opn
  rw [hx]
  simp only [hc]
theorem opn_none {s:St}{i c:Nat} (h:¬ ∃ x ty sz n cs,s.ob i=some x∧x.cs[c]? = some (.tr ty sz n cs)):s.opn i c=s:=by
  unfold St.opn
  split
  · split
    · exact absurd ⟨_,_,_,_,_,by assumption,by assumption⟩ h
    · rfl
  · rfl
theorem opn_sound {X:Ctx}{s:St} (i c:Nat) {E:Env}{a:Act}{w:World} (hr:Rel X s E a w):∃ E',Rel X (s.opn i c) E' a w∧E.le E':=by
  by_cases hex:∃ x ty sz n cs,s.ob i=some x∧x.cs[c]? = some (.tr ty sz n cs)
  rotate_left
  · rw [opn_none hex]
    exact ⟨E,hr,.refl _⟩
  · obtain ⟨x,ty,sz,n,cs,hx,hc⟩:=hex
    rw [opn_some hx hc]
    have hxm:=mem_of_lookup (St.ob_some hx).1
    have hxz:=(St.ob_some hx).2
    obtain ⟨li,u,hli,hu,hown⟩:=hr.sr.tr.cell i x hxm c ty sz n cs hc
    have hnb:E.at_ s.nb=none:=hr.sr.new _ (Nat.le_refl _)
    -- where the new object lies
    obtain ⟨l,hob,htop,hval⟩:∃ l:Option Loc,(∀ E':Env,E'.at_ s.nb=some l→(∀ b,E'.ro b↔E.ro b)→ObAt X.W E' w s.nb ⟨ty,sz,n,cs⟩)∧
        (∀ m,l=some m→E.tg m.g=some (i, [c]))∧(∀ E':Env,E'.at_ s.nb=some l→Rep1 E' w (.own s.nb 0 n) u):=by
      cases hown with
      |nil=>
        refine ⟨none,fun E' h1 _=>⟨fun _=>by simp,.inl ⟨h1,rfl⟩⟩,fun m hm=>?_,fun E' h1=>.inr ⟨h1,rfl,rfl,rfl⟩⟩
        cases hm
      |tr _ _ _ _ _ b cp cur us hb hw hz hl hcur hn hcm hus hat hrep=>
        obtain ⟨e1,e2,e3,e4⟩:=hr.sr.tr.blk b i [c] hb
        refine ⟨some ⟨b,cp⟩,fun E' h1 h2=>⟨fun _=>hl,.inr ⟨⟨b,cp⟩,h1,e2,fun h=>e3 ((h2 b).1 h),hn,hcm,.inl ⟨cur,.inl hw,hcur,fun j d hd=>?_⟩⟩⟩,fun m hm=>?_,fun E' h1=>.inl ⟨⟨b,cp⟩,cp,h1,rfl,hn,hcm,fun _=>rfl⟩⟩
        · have hd':cs[j]? = some d:=hd
          have hj:j < us.length:=by rw [hus];exact (List.getElem?_eq_some_iff.1 hd').1
          obtain ⟨v,huj⟩:∃ v,us[j]? = some v:=⟨_,List.getElem?_eq_getElem hj⟩
          refine ⟨v,hat j _ huj,?_⟩
          have:=hrep j d v hd' huj
          cases this with
          |sc _ _ h=>exact ⟨h,rfl,h⟩
          |nil=>exact ⟨rfl,trivial⟩
          |tr=>exact ⟨rfl,trivial⟩
        · injection hm with hm
          subst hm
          exact hb
    have hle:E.le (E.opn i c s.nb l):=⟨fun j m hj=>(Env.with_le hnb).at_ j m hj,fun _ h=>h⟩
    have hat:(E.opn i c s.nb l).at_ s.nb=some l:=Env.with_at
    have hne:∀ {j:Nat},j < s.nb→(E.opn i c s.nb l).at_ j=E.at_ j:=fun hj=>Env.with_ne (Nat.ne_of_lt hj)
    have hin:i < s.nb:=hr.sr.idlt hxm
    have hlx:∀ m,l=some m→∀ j y k,(j,y) ∈ s.os→E.at_ j=some (some k)→k.g≠m.g:=fun m hm j y k hj hk=>(hr.sr.tr.blk _ _ _ (htop m hm)).2.2.2 j y k hj hk
    refine ⟨E.opn i c s.nb l,⟨hr.sz,fun t d hd=>(hr.tm t d hd).keep hle fun _ _=>rfl,hr.df,⟨fun k z hk=>?_,fun k hk=>?_,hr.sr.rolt,fun k z k2 z2 hk hk2 hkk m m2 hm hm2=>?_,?_,⟨fun b k p hb=>?_,fun k z hk j ty' sz' n' cs' hj=>?_⟩⟩,⟨hr.st.le.trans hle,hr.st.os,hr.st.tape,hr.st.output,hr.st.size,hr.st.block,hr.st.ro,Nat.le_succ_of_le hr.st.nb⟩⟩,hle⟩
    · rcases List.mem_cons.1 hk with hk|hk
      · injection hk with h1 h2
        subst h1;subst h2
        exact hob _ hat fun _=>Iff.rfl
      · obtain ⟨z0,hz0,rfl⟩:=setCs_mem hk
        have hlt:=hr.sr.idlt hz0
        have hnro:∀ m,E.at_ k=some (some m)→¬ E.ro m.g:=by
          intro m hm
          rcases (hr.sr.obs k z0 hz0).2 with ⟨h3,_⟩|⟨m',h3,_,h5,_⟩
          · rw [hm] at h3;cases h3
          · rw [hm] at h3;injection h3 with h3;injection h3 with h3;subst h3;exact h5
        by_cases hki:k=i
        · subst hki
          rw [if_pos rfl]
          obtain rfl:=nodup_eq hr.sr.nodup hxm hz0
          obtain ⟨h1,h2⟩:=hr.sr.obs k x hxm
          rcases h2 with ⟨h3,_⟩|⟨m,h3,h4,h5,h6,h7,⟨cur,h8,h9,h10⟩|⟨h8,_⟩⟩
          · rw [hli] at h3;cases h3
          · rw [hli] at h3;injection h3 with h3;injection h3 with h3;subst h3
            refine ⟨fun hs=>by show (x.cs.set c _).length=_;rw [List.length_set];exact h1 hs,.inr ⟨li,(hne hlt).trans hli,h4,h5,h6,h7,.inl ⟨cur,h8,h9,fun q e he=>?_⟩⟩⟩
            have he':(x.cs.set c (.own s.nb 0 n))[q]? = some e:=he
            rw [List.getElem?_set] at he'
            split at he'
            · rename_i hcq
              subst hcq
              split at he'
              · injection he' with he'
                subst he'
                obtain ⟨v,h11,h12,_⟩:=h10 c _ hc
                rw [h8.cell c,h11] at hu
                injection hu with hu
                subst hu
                exact ⟨v,h11,h12,hval _ hat⟩
              · cases he'
            · obtain ⟨v,h11,h12,h13⟩:=h10 q e he'
              exact ⟨v,h11,h12,h13.keep hle fun _ _=>rfl⟩
          · exact absurd h8 hxz
        · rw [if_neg hki]
          exact (hr.sr.obs k z0 hz0).keep hle (fun _ _=>rfl) fun m hm=>⟨rfl,hnro m hm⟩
    · have hk':s.nb+1≤k:=hk
      exact (Env.with_ne (by omega)).trans (hr.sr.new k (by omega))
    · rcases List.mem_cons.1 hk with hk|hk<;>rcases List.mem_cons.1 hk2 with hk2|hk2
      · injection hk with h1 _;injection hk2 with h2 _;omega
      · injection hk with h1 _
        subst h1
        obtain ⟨z0,hz0,_⟩:=setCs_mem hk2
        rw [hat] at hm
        injection hm with hm
        rw [hne (hr.sr.idlt hz0)] at hm2
        exact fun e=>hlx m hm k2 z0 m2 hz0 hm2 e.symm
      · injection hk2 with h1 _
        subst h1
        obtain ⟨z0,hz0,_⟩:=setCs_mem hk
        rw [hat] at hm2
        injection hm2 with hm2
        rw [hne (hr.sr.idlt hz0)] at hm
        exact hlx m2 hm2 k z0 m hz0 hm
      · obtain ⟨z0,hz0,_⟩:=setCs_mem hk
        obtain ⟨z1,hz1,_⟩:=setCs_mem hk2
        rw [hne (hr.sr.idlt hz0)] at hm
        rw [hne (hr.sr.idlt hz1)] at hm2
        exact hr.sr.apart k z0 k2 z1 hz0 hz1 hkk m m2 hm hm2
    · show (s.nb::(Go.Proofs.YtidjjfjhmlndjaaGreatDoor.setCs s.os i (x.cs.set c (.own s.nb 0 n))).map (·.1)).Nodup
      rw [setCs_ids,List.nodup_cons]
      refine ⟨fun hm=>?_,hr.sr.nodup⟩
      obtain ⟨p,hp,he⟩:=List.mem_map.1 hm
      have:=hr.sr.idlt (i:=p.1) (x:=p.2) hp
      omega
    · obtain ⟨k',p',hb'⟩:=opn_tgs hb
      obtain ⟨e1,e2,e3,e4⟩:=hr.sr.tr.blk b k' p' hb'
      refine ⟨e1,e2,e3,fun j y m hj hm=>?_⟩
      rcases List.mem_cons.1 hj with hj|hj
      · injection hj with h1 _
        subst h1
        rw [hat] at hm
        injection hm with hm
        intro e
        subst e
        rw [opn_top (htop m hm)] at hb
        cases hb
      · obtain ⟨z0,hz0,_⟩:=setCs_mem hj
        rw [hne (hr.sr.idlt hz0)] at hm
        exact e4 j z0 m hz0 hm
    · rcases List.mem_cons.1 hk with hk|hk
      · injection hk with h1 h2
        subst h1;subst h2
        have hj':cs[j]? = some (.tr ty' sz' n' cs'):=hj
        cases hown with
        |nil=>simp at hj'
        |tr _ _ _ _ _ b cp cur us hb hw hz hl hcur hn hcm hus hat' hrep=>
          have hjl:j < us.length:=by rw [hus];exact (List.getElem?_eq_some_iff.1 hj').1
          obtain ⟨vj,huj⟩:∃ v,us[j]? = some v:=⟨_,List.getElem?_eq_getElem hjl⟩
          obtain ⟨lv,hlv,hlg⟩:∃ m,l=some m∧m.g=b:=by
            have:=hval (E.opn i c s.nb l) hat
            rcases this with ⟨m,c',h1,h2,_⟩|⟨_,_,_,h4⟩
            · rw [hat] at h1
              injection h1 with h1
              injection h2 with h2 _ _
              injection h2 with h2
              injection h2 with h2
              exact ⟨m,h1,h2.symm⟩
            · cases h4
          refine ⟨lv,vj,by rw [hat,hlv],by rw [hlg,cell_of_row w b j cur ty (0,0) hw];exact hat' j _ huj,?_⟩
          exact (hrep j _ _ hj' huj).from (r:= [j,c]) (r':= [j]) (fun b q hq=>⟨rfl,opn_in (by simpa using hq)⟩) [] rfl
      · obtain ⟨z0,hz0,rfl⟩:=setCs_mem hk
        have hlt:=hr.sr.idlt hz0
        by_cases hki:k=i
        · subst hki
          rw [if_pos rfl] at hj
          obtain rfl:=nodup_eq hr.sr.nodup hxm hz0
          have hj':(x.cs.set c (.own s.nb 0 n))[j]? = some (.tr ty' sz' n' cs'):=hj
          rw [List.getElem?_set] at hj'
          split at hj'
          · split at hj'<;>cases hj'
          · rename_i hcj
            obtain ⟨m,v,f1,f2,f3⟩:=hr.sr.tr.cell k x hxm j ty' sz' n' cs' hj'
            exact ⟨m,v,(hne hlt).trans f1,f2,f3.from (r:= [j]) (r':= [j]) (fun b q hq=>⟨rfl,opn_far hq fun e=>hcj e.symm⟩) [] rfl⟩
        · rw [if_neg hki] at hj
          obtain ⟨m,v,f1,f2,f3⟩:=hr.sr.tr.cell k z0 hz0 j ty' sz' n' cs' hj
          exact ⟨m,v,(hne hlt).trans f1,f2,f3.map fun b q hq=>⟨rfl,opn_other hq hki⟩⟩
inductive Gop where
  |frz (i:Nat)
  |cool (i:Nat)
  |abs (i j:Nat)
  |nil (i o ty size:Nat)
  |opn (i c:Nat)
def St.gop (s:St):Gop→St
  |.frz i=>s.frz i
  |.cool i=>s.cool i
  |.abs i j=>s.abs i j
  |.nil i o ty size=>s.nilCell i o ty size
  |.opn i c=>s.opn i c
def gopOk (s:St):Gop→Bool
  |.frz i=>frzOk s i
  |.cool _=>true
  |.abs i j=>absOk s i j
  |.nil i o _ _=>nilAt s i o
  |.opn _ _=>true
def gops (s:St):List Gop→St
  | []=>s
  |g::gs=>gops (s.gop g) gs
def gopsOk (s:St):List Gop→Bool
  | []=>true
  |g::gs=>gopOk s g&&gopsOk (s.gop g) gs
theorem gop_sound {X:Ctx}{s:St}{g:Gop} (hok:gopOk s g=true) {E:Env}{a:Act}{w:World} (hr:Rel X s E a w):∃ E',Rel X (s.gop g) E' a w∧E.le E':=by
  cases g with
  |frz i=>
    obtain ⟨E1,h1,h2,_⟩:=frz_sound hok hr
    exact ⟨E1,h1,h2⟩
  |cool i=>exact cool_sound hr
  |abs i j=>exact abs_sound hok hr
  |nil i o ty size=>exact ⟨_,nil_sound hok ty size hr,Env.with_le (hr.sr.new _ (Nat.le_refl _))⟩
  |opn i c=>exact opn_sound i c hr
theorem gops_sound {X:Ctx}:∀ {gs:List Gop}{s:St},gopsOk s gs=true→∀ {E:Env}{a:Act}{w:World},Rel X s E a w→∃ E',Rel X (gops s gs) E' a w∧E.le E'
  | [],_,_,E,_,_,hr=>⟨E,hr,.refl _⟩
  |g::gs,s,h,E,a,w,hr=>by
    simp only [gopsOk,Bool.and_eq_true] at h
    obtain ⟨E1,h1,h2⟩:=gop_sound h.1 hr
    obtain ⟨E2,h3,h4⟩:=gops_sound h.2 h1
    exact ⟨E2,h3,h2.trans h4⟩
theorem awgop {X:Ctx}{P:Program}{o:Oper}{s:St}{K:St→Prop} (gs:List Gop) (hok:gopsOk s gs=true) (h:AwStep X P o (gops s gs) K):AwStep X P o s K:=by
  refine ⟨fun E a w K' R hr hK=>?_⟩
  obtain ⟨E1,h1,_⟩:=gops_sound hok hr
  exact h.out E1 a w K' R h1 hK
/-- A loop; behind a round steps that turn the words alone, and new numbers. -/
theorem awloopG {X:Ctx}{P:Program}{c:Code}{s:St}{Q:Exit→St→Prop}{ι:Type} (st:ι→St) (I:ι→Prop) (μ:ι→Nat) (i0:ι) (hI:I i0) (h0:∃ gs ρ,gopsOk s gs=true∧FitR X.nb ρ (gops s gs) (st i0))
    (round:∀ i,I i→WCode X P c (thenQ (fun s'=>∃ j gs ρ,I j∧μ j < μ i∧gopsOk s' gs=true∧FitR X.nb ρ (gops s' gs) (st j)) Q) (st i)):AwCode X P (.loop c) s Q:=by
  refine ⟨fun E a w R hr hk=>?_⟩
  have key:∀ n i,μ i < n→I i→∀ E a w,Rel X (st i) E a w→Code.rounds P c R n a w:=by
    intro n
    induction n with
    |zero=>intro i h;omega
    |succ n ih=>
      intro i hn hi E a w hr
      rw [rounds_succ]
      refine wcode_go (round i hi) E a w _ hr fun e s' E' a' w' hq hr'=>?_
      cases e with
      |normal=>
        obtain ⟨j,gs,ρ,h1,h2,h3,h4⟩:=hq
        obtain ⟨E1,h5,_⟩:=gops_sound h3 hr'
        exact ih j (by omega) h1 _ _ _ (fitR_sound h4 h5)
      |_=>exact hk _ _ _ _ _ hq hr'
  obtain ⟨gs,ρ,h1,h2⟩:=h0
  obtain ⟨E1,h3,_⟩:=gops_sound h1 hr
  exact wp_loop_rounds (μ i0+1) (key _ i0 (by omega) hI _ _ _ (fitR_sound h2 h3))
/-- Where a function returns. -/
def retOkG (P:Program) (rs:List ResultVar) (Q:D→Prop) (s:St):Prop:=∃ gs,gopsOk s gs=true∧retOk P rs Q (gops s gs)
def retQG (P:Program) (rs:List ResultVar) (Q:D→Prop):Exit→St→Prop
  |.normal,s=>retOkG P rs Q s
  |.ret,s=>retOkG P rs Q s
  |_,_=>False
theorem rqg_normal (P:Program) (rs:List ResultVar) (Q:D→Prop) (s:St):retQG P rs Q .normal s=retOkG P rs Q s:=rfl
theorem rqg_ret (P:Program) (rs:List ResultVar) (Q:D→Prop) (s:St):retQG P rs Q .ret s=retOkG P rs Q s:=rfl
theorem wcode_g {X:Ctx}{P:Program}{c:Code}{rs:List ResultVar}{Q:D→Prop}{s:St} (h:WCode X P c (retQG P rs Q) s):AwCode X P c s (retQ P rs Q):=by
  refine ⟨fun E a w R hr hK=>wcode_go h E a w R hr fun e s' E' a' w' hq hr'=>?_⟩
  cases e with
  |normal=>
    obtain ⟨is,h1,h2⟩:=hq
    obtain ⟨E1,h3,_⟩:=gops_sound h1 hr'
    exact hK .normal _ E1 a' w' h2 h3
  |ret=>
    obtain ⟨is,h1,h2⟩:=hq
    obtain ⟨E1,h3,_⟩:=gops_sound h1 hr'
    exact hK .ret _ E1 a' w' h2 h3
  |_=>exact hq.elim
theorem specG_intro {P:Program}{f:FuncId}{fn:Func}{c:Code}{ds:List D}{Q:D→Prop}{rs:List ResultVar} (hf:P.funcs[f]? = some fn) (hb:fn.body=some c) (hn:(fn.name== "runtime.NumGoroutine")=false) (hrs:fn.results=rs.toArray) {nt:Nat} (hnt:fn.ntmps=nt) (hsz:ds.length≤nt)
    (h:∀ X:Ctx,X.nb=0→WCode X P c (retQG P rs Q) ⟨ds++List.replicate (nt - ds.length) .none, [],0⟩):Spec P f ds Q:=
  spec_introA hf hb hn hrs hnt hsz fun X hX=>wcode_g (h X hX)
/-- The same where objects are handed back. -/
def retOkJ (P:Program) (rs:List ResultVar) (k:Nat) (Q:D→List (Nat × Ob)→Nat→Prop) (s:St):Prop:=∃ gs,gopsOk s gs=true∧retOkH P rs k Q (gops s gs)
def retQJ (P:Program) (rs:List ResultVar) (k:Nat) (Q:D→List (Nat × Ob)→Nat→Prop):Exit→St→Prop
  |.normal,s=>retOkJ P rs k Q s
  |.ret,s=>retOkJ P rs k Q s
  |_,_=>False
theorem rqj_normal (P:Program) (rs:List ResultVar) (k:Nat) (Q:D→List (Nat × Ob)→Nat→Prop) (s:St):retQJ P rs k Q .normal s=retOkJ P rs k Q s:=rfl
theorem rqj_ret (P:Program) (rs:List ResultVar) (k:Nat) (Q:D→List (Nat × Ob)→Nat→Prop) (s:St):retQJ P rs k Q .ret s=retOkJ P rs k Q s:=rfl
theorem wcode_j {X:Ctx}{P:Program}{c:Code}{rs:List ResultVar}{k:Nat}{Q:D→List (Nat × Ob)→Nat→Prop}{s:St} (h:WCode X P c (retQJ P rs k Q) s):AwCode X P c s (retQH P rs k Q):=by
  refine ⟨fun E a w R hr hK=>wcode_go h E a w R hr fun e s' E' a' w' hq hr'=>?_⟩
  cases e with
  |normal=>
    obtain ⟨is,h1,h2⟩:=hq
    obtain ⟨E1,h3,_⟩:=gops_sound h1 hr'
    exact hK .normal _ E1 a' w' h2 h3
  |ret=>
    obtain ⟨is,h1,h2⟩:=hq
    obtain ⟨E1,h3,_⟩:=gops_sound h1 hr'
    exact hK .ret _ E1 a' w' h2 h3
  |_=>exact hq.elim
theorem specJ_intro {P:Program}{f:FuncId}{fn:Func}{c:Code}{ds:List D}{os:List (Nat × Ob)}{Q:D→List (Nat × Ob)→Nat→Prop}{rs:List ResultVar} (hf:P.funcs[f]? = some fn) (hb:fn.body=some c) (hn:(fn.name== "runtime.NumGoroutine")=false) (hrs:fn.results=rs.toArray) {nt:Nat} (hnt:fn.ntmps=nt) (hsz:ds.length≤nt) {k:Nat}
    (h:∀ X:Ctx,X.nb=k→WCode X P c (retQJ P rs k Q) ⟨ds++List.replicate (nt - ds.length) .none,os,k⟩):SpecH P f ds os k Q:=
  specH_introA hf hb hn hrs hnt hsz fun X hX=>wcode_j (h X hX)
def D.dry1:D→Bool
  |.sc _=>true
  |_=>false
def D.dry:D→Bool
  |.tup ds=>ds.all D.dry1
  |d=>d.dry1
theorem Rep.dry {E E':Env}{w:World}{d:D}{u:Value} (h:Rep E w d u) (hd:d.dry=true):Rep E' w d u:=by
  cases d with
  |sc v=>exact h
  |tup ds=>
    obtain ⟨us,h1,h2,h3⟩:=h
    refine ⟨us,h1,h2,fun j d v hj hv=>?_⟩
    have h4:=List.all_eq_true.1 (show ds.all D.dry1=true from hd) d (List.mem_of_getElem? hj)
    have h5:=h3 j d v hj hv
    cases d<;>first|exact h5|cases h4
  |_=>cases hd
theorem awborF {X:Ctx}{P:Program}{o:Oper}{s:St}{wr:List Nat}{nb:Nat}{f:FuncId}{xs:Array Operand}{ats:Array TypeId}{K:St→Prop} (gs:List Gop) (hok:gopsOk s gs=true) (ho:o.op = .call { callee:=.value (.func f),args:=xs,argTypes:=ats }) (ds:List D) (Q:D→Prop)
    (hs:Spec P f ds Q) (hds:xs.toList.map (gops s gs).ev=ds) (hno:ds.all D.noid=true) (hk:∀ d,Q d→d.dry=true∧K (s.put o.dst d)):AwStepF X P o s wr nb K:=by
  refine ⟨fun E a w K' R hr hK=>?_⟩
  obtain ⟨E1,hr1,_⟩:=gops_sound hok hr
  have hrun:(execOp a.eval o).run P w = .ok (.enter f (xs.map a.eval)) w:=by
    rw [show execOp a.eval o=callFunc f (#[]++xs.map a.eval++#[]) by simp only [execOp,ho];rfl]
    rw [hs.1]
    simp
  unfold Oper.wp
  rw [hrun]
  show Calls P f _ w _
  subst hds
  refine (hs.2 E1.ro w (xs.map a.eval) hr1.sr.rolt (by simp) (args_of hr1 hno)).mono ?_
  rintro e w' ⟨d,v,hq,rfl,hv,hb⟩
  obtain ⟨hdry,hkd⟩:=hk d hq
  obtain ⟨v',hv',h2⟩:=after_call (Q:=fun e=>e=d) hr (fun e he=>by rw [he];exact hkd) hK (.returned v) w' ⟨d,v,rfl,rfl,hv.dry hdry,hb⟩
  injection hv' with hv'
  rw [hv']
  exact h2
end Go.Proofs.YtidjjfjhmlndjaaGreatDoor
namespace Go.Proofs.YtidjjfjhmlndjaaGreatDoor
open Go.RowKit
/-- What is only read against nil: it may be nil where it is empty. -/
theorem nnilF {X:Ctx}{P:Program}{o:Oper}{s:St}{wr:List Nat}{nb:Nat}{t u:TypeId}{x y:Operand}{K:St→Prop} (ho:o.op = .binOp .eql t x y u) {n e size:Nat}{cs:List D} (hx:s.ev x = .sl n cs) (hy:s.ev y = .sc (.slice none 0 0)) (he:elemK P t=some (e,size))
    (h1:cs = []→K (s.put o.dst (.sc (.bool true)))) (h2:K (s.put o.dst (.sc (.bool false)))):AwStepF X P o s wr nb K:=by
  refine ⟨fun E a w K' R hr hK=>?_⟩
  have hxv:=hr.ev x
  have hyv:=hr.ev y
  rw [hx] at hxv
  rw [hy] at hyv
  obtain ⟨hu,_⟩:=elemK_ he
  have hyv':a.eval y = .slice none 0 0:=hyv.1
  cases hv:a.eval x with
  |slice A n' c=>
    rw [hv] at hxv
    have hx2:RepP E.ro w (.sl n cs) (.slice A n' c):=hxv
    have hcs:A=none→cs = []:=by
      intro hA
      cases hx2 with
      |sl _ _ _ _ us hul hnc hcm hcell hrep=>
        cases us with
        |nil=>exact List.eq_nil_of_length_eq_zero hul.symm
        |cons v r=>
          obtain ⟨b,oo,h,_⟩:=hcell 0 v rfl
          rw [hA] at h
          cases h
    have hrun:(execOp a.eval o).run P w = .ok (.value (.bool A.isNone)) w:=by
      have hg:(eqGuard .eql t x y (.slice A n' c) (.slice none 0 0)).run P w = .ok () w:=by
        unfold eqGuard
        cases hop:(true:Bool)<;>simp
      have hb:(binOp .eql t (.slice A n' c) (.slice none 0 0)).run P w = .ok (.bool A.isNone) w:=Go.Lib.run_eql_slice_nil w t e A n' c 0 0 hu
      simp only [execOp,ho,hv,hyv',Sem.run_bind,hg,hb,Result.andThen_ok,Sem.run_pure]
    unfold Oper.wp
    rw [hrun]
    cases A with
    |none=>exact hK _ _ _ _ (h1 (hcs rfl)) (hr.put o.dst ⟨rfl,rfl⟩) (FrT.of (.same _ _ _))
    |some q=>exact hK _ _ _ _ h2 (hr.put o.dst ⟨rfl,rfl⟩) (FrT.of (.same _ _ _))
  |_=>rw [hv] at hxv;cases hxv
/-- A nil slice that is handed back may be taken as an object of no length. -/
theorem specH_nil {P:Program}{f:FuncId}{ds:List D}{os:List (Nat × Ob)}{k:Nat}{Q:D→List (Nat × Ob)→Nat→Prop} (e size:Nat)
    (h:SpecH P f ds os k fun d os' nb'=>Q d os' nb'∨(d = .sc (.slice none 0 0)∧os' = []∧nb' = k∧Q (.own k 0 0) [(k,⟨e,size,0, []⟩)] (k+1))):SpecH P f ds os k Q:=by
  refine ⟨h.1,fun E M w args h1 h2 h3=>(h.2 E M w args h1 h2 h3).mono ?_⟩
  rintro en w' ⟨d,os',nb',E',v,hq,he,hrep,hsr,hk,hle,g1,g2,g3,g4,g5,g6,g7⟩
  rcases hq with hq|⟨rfl,rfl,rfl,hq⟩
  · exact ⟨d,os',nb',E',v,hq,he,hrep,hsr,hk,hle,g1,g2,g3,g4,g5,g6,g7⟩
  have hn:E'.at_ nb' = none:=hsr.new _ (Nat.le_refl _)
  have hv:v = .slice none 0 0:=hrep.1
  refine ⟨.own nb' 0 0, [(nb',⟨e,size,0, []⟩)],nb' + 1,E'.with nb' none,v,hq,he,.inr ⟨Env.with_at,rfl,rfl,hv⟩,⟨fun i x hi=>?_,fun i hi=>?_,hsr.rolt,fun i x j y hi hj hij=>?_,by simp,?_⟩,Nat.le_succ _,hle.trans (Env.with_le hn),g1,g2,g3,g4,g5,g6,fun i l hi hl=>?_⟩
  · simp only [List.mem_singleton,Prod.mk.injEq] at hi
    obtain ⟨rfl,rfl⟩:=hi
    exact ⟨fun _=>by simp,.inl ⟨Env.with_at,rfl⟩⟩
  · rw [Env.with_ne (by omega)]
    exact hsr.new i (by omega)
  · simp only [List.mem_singleton,Prod.mk.injEq] at hi hj
    exact absurd (hi.1.trans hj.1.symm) hij
  · refine hsr.tr.keep rfl (fun b q p hb h4 h5 h6 h7=>⟨h4,rfl,h5,h6,fun j y l hj hl=>?_⟩) fun q x' hx' j ty sz n cs hj=>?_
    · simp only [List.mem_singleton,Prod.mk.injEq] at hj
      rw [hj.1,Env.with_at] at hl
      cases hl
    · simp only [List.mem_singleton,Prod.mk.injEq] at hx'
      obtain ⟨rfl,rfl⟩:=hx'
      simp at hj
  · by_cases e:i=nb'
    · subst e
      rw [Env.with_at] at hl
      cases hl
    · rw [Env.with_ne e] at hl
      exact g7 i l hi hl
end Go.Proofs.YtidjjfjhmlndjaaGreatDoor
namespace Go.Proofs.YtidjjfjhmlndjaaGreatDoor
open Go.RowKit
@[congr] theorem wCode_cg {X : Ctx} {P : Program} {c : Code} {Q : Exit → St → Prop} {s : St} {s' : St} {p : Prop} (h0 : s = s') (_h : (True ∧ True) = p) : WCode X P c Q s = WCode X P c Q s' := by subst h0; rfl
@[congr] theorem awCode_cg {X : Ctx} {P : Program} {c : Code} {s : St} {Q : Exit → St → Prop} {s' : St} {p : Prop} (h0 : s = s') (_h : (True ∧ True) = p) : AwCode X P c s Q = AwCode X P c s' Q := by subst h0; rfl
@[congr] theorem awStep_cg {X : Ctx} {P : Program} {o : Oper} {s : St} {K : St → Prop} {s' : St} {p : Prop} (h0 : s = s') (_h : (True ∧ True) = p) : AwStep X P o s K = AwStep X P o s' K := by subst h0; rfl
@[congr] theorem awStepF_cg {X : Ctx} {P : Program} {o : Oper} {s : St} {wr : List Nat} {nb : Nat} {K : St → Prop} {s' : St} {p : Prop} (h0 : s = s') (_h : (True ∧ True) = p) : AwStepF X P o s wr nb K = AwStepF X P o s' wr nb K := by subst h0; rfl
@[congr] theorem stepK_cg {r : Option St} {K : St → Prop} {e : Prop} {r' : Option St} {p : Prop} (h0 : r = r') (_h : (True ∧ True) = p) : stepK r K e = stepK r' K e := by subst h0; rfl
@[congr] theorem boolK_cg {d : D} {A : St → Prop} {B : St → Prop} {s : St} {d' : D} {s' : St} {p : Prop} (h0 : d = d') (h1 : s = s') (_h : (True ∧ True) = p) : boolK d A B s = boolK d' A B s' := by subst h0 h1; rfl
@[congr] theorem guardK_cg {d : D} {K : St → Prop} {A : St → Prop} {B : St → Prop} {s : St} {d' : D} {s' : St} {p : Prop} (h0 : d = d') (h1 : s = s') (_h : (True ∧ True) = p) : guardK d K A B s = guardK d' K A B s' := by subst h0 h1; rfl
@[congr] theorem wOps_cg {X : Ctx} {P : Program} {ops : List Oper} {K : St → Prop} {rest : List Oper} {s : St} {s' : St} {p : Prop} (h0 : s = s') (_h : (True ∧ True) = p) : WOps X P ops K rest s = WOps X P ops K rest s' := by subst h0; rfl
@[congr] theorem wGo_cg {X : Ctx} {P : Program} {ops : List Oper} {K : St → Prop} {o : Oper} {rest : List Oper} {s : St} {s' : St} {p : Prop} (h0 : s = s') (_h : (True ∧ True) = p) : WGo X P ops K o rest s = WGo X P ops K o rest s' := by subst h0; rfl
@[congr] theorem wSkip_cg {X : Ctx} {P : Program} {ops : List Oper} {K : St → Prop} {o : Oper} {rest : List Oper} {s : St} {s' : St} {p : Prop} (h0 : s = s') (_h : (True ∧ True) = p) : WSkip X P ops K o rest s = WSkip X P ops K o rest s' := by subst h0; rfl
@[congr] theorem opK_cg {oo : Option Oper} {kk : Oper → St → Prop} {s : St} {oo' : Option Oper} {s' : St} {p : Prop} (h0 : oo = oo') (h1 : s = s') (_h : (True ∧ True) = p) : opK oo kk s = opK oo' kk s' := by subst h0 h1; rfl
@[congr] theorem wOrd_cg {X : Ctx} {P : Program} {ops : List Oper} {wr : List Nat} {ids : List Nat} {nb : Nat} {K : St → Prop} {ord : List (Nat × Bool)} {fr : Bool} {s : St} {ops' : List Oper} {ids' : List Nat} {nb' : Nat} {s' : St} {p : Prop} (h0 : ops = ops') (h1 : ids = ids') (h2 : nb = nb') (h3 : s = s') (_h : (True ∧ True) = p) : WOrd X P ops wr ids nb K ord fr s = WOrd X P ops' wr ids' nb' K ord fr s' := by subst h0 h1 h2 h3; rfl
@[congr] theorem wOAt_cg {X : Ctx} {P : Program} {ops : List Oper} {wr : List Nat} {ids : List Nat} {nb : Nat} {K : St → Prop} {b : Bool} {ord : List (Nat × Bool)} {fr : Bool} {o : Oper} {s : St} {s' : St} {p : Prop} (h0 : s = s') (_h : (True ∧ True) = p) : WOAt X P ops wr ids nb K b ord fr o s = WOAt X P ops wr ids nb K b ord fr o s' := by subst h0; rfl
@[congr] theorem wOGo_cg {X : Ctx} {P : Program} {ops : List Oper} {wr : List Nat} {ids : List Nat} {nb : Nat} {K : St → Prop} {b : Bool} {ord : List (Nat × Bool)} {fr : Bool} {o : Oper} {s : St} {s' : St} {p : Prop} (h0 : s = s') (_h : (True ∧ True) = p) : WOGo X P ops wr ids nb K b ord fr o s = WOGo X P ops wr ids nb K b ord fr o s' := by subst h0; rfl
@[congr] theorem wOSkip_cg {X : Ctx} {P : Program} {ops : List Oper} {wr : List Nat} {ids : List Nat} {nb : Nat} {K : St → Prop} {ord : List (Nat × Bool)} {fr : Bool} {o : Oper} {s : St} {s' : St} {p : Prop} (h0 : s = s') (_h : (True ∧ True) = p) : WOSkip X P ops wr ids nb K ord fr o s = WOSkip X P ops wr ids nb K ord fr o s' := by subst h0; rfl
@[congr] theorem earlyK_cg {b : Bool} {r : Option St} {K : St → Prop} {b' : Bool} {r' : Option St} {p : Prop} (h0 : b = b') (h1 : r = r') (_h : (True ∧ True) = p) : earlyK b r K = earlyK b' r' K := by subst h0 h1; rfl
@[congr] theorem lateK_cg {b : Bool} {r : Option St} {K : St → Prop} {e : Prop} {b' : Bool} {r' : Option St} {p : Prop} (h0 : b = b') (h1 : r = r') (_h : (True ∧ True) = p) : lateK b r K e = lateK b' r' K e := by subst h0 h1; rfl
@[congr] theorem tGo_cg {X : Ctx} {P : Program} {wr : List Nat} {ids : List Nat} {nb : Nat} {fr : Bool} {f : Bool} {K : St → Prop} {o : Oper} {s : St} {s' : St} {p : Prop} (h0 : s = s') (_h : (True ∧ True) = p) : TGo X P wr ids nb fr f K o s = TGo X P wr ids nb fr f K o s' := by subst h0; rfl
@[congr] theorem tSkip_cg {K : St → Prop} {o : Oper} {s : St} {s' : St} {p : Prop} (h0 : s = s') (_h : (True ∧ True) = p) : TSkip K o s = TSkip K o s' := by subst h0; rfl
@[congr] theorem tAt_cg {ops : List Oper} {go : Oper → St → Prop} {g : Oper → St → Prop} {o : Oper} {s : St} {s' : St} {p : Prop} (h0 : s = s') (_h : (True ∧ True) = p) : TAt ops go g o s = TAt ops go g o s' := by subst h0; rfl
@[congr] theorem wTree_cg {X : Ctx} {P : Program} {ops : List Oper} {wr : List Nat} {ids : List Nat} {nb : Nat} {K : St → Prop} {tr : Ordr} {fr : Bool} {s : St} {ops' : List Oper} {ids' : List Nat} {nb' : Nat} {s' : St} {p : Prop} (h0 : ops = ops') (h1 : ids = ids') (h2 : nb = nb') (h3 : s = s') (_h : (True ∧ True) = p) : WTree X P ops wr ids nb K tr fr s = WTree X P ops' wr ids' nb' K tr fr s' := by subst h0 h1 h2 h3; rfl
@[congr] theorem wTree3_cg {X : Ctx} {P : Program} {ops : List Oper} {wr : List Nat} {ids : List Nat} {nb : Nat} {K : St → Prop} {tr3 : Ordr3} {fr : Bool} {s : St} {ops' : List Oper} {ids' : List Nat} {nb' : Nat} {s' : St} {p : Prop} (h0 : ops = ops') (h1 : ids = ids') (h2 : nb = nb') (h3 : s = s') (_h : (True ∧ True) = p) : WTree3 X P ops wr ids nb K tr3 fr s = WTree3 X P ops' wr ids' nb' K tr3 fr s' := by subst h0 h1 h2 h3; rfl
@[congr] theorem thenQ_cg {K : St → Prop} {Q : Exit → St → Prop} {x : Exit} {s : St} {s' : St} {p : Prop} (h0 : s = s') (_h : (True ∧ True) = p) : thenQ K Q x s = thenQ K Q x s' := by subst h0; rfl
@[congr] theorem blockQ_cg {i : Nat} {Q : Exit → St → Prop} {x : Exit} {s : St} {s' : St} {p : Prop} (h0 : s = s') (_h : (True ∧ True) = p) : blockQ i Q x s = blockQ i Q x s' := by subst h0; rfl
theorem wc_regionL (X:Ctx) (P:Program) (Q:Exit→St→Prop) (s:St) (i:Nat) (l:List Oper):WCode X P (.region i (List.toArray l) false) Q s=WOps X P l (Q .normal) l s:=rfl
theorem gposE {c d:Prop} [Decidable c] [Decidable d] {α:Type}{a b:α} (h:c):(if c then some a else if d then some b else none)=some a:=if_pos h
theorem gnegE {c d:Prop} [Decidable c] [Decidable d] {α:Type}{a b:α} (h:¬ c) (h2:d):(if c then some a else if d then some b else none)=some b:=by rw [if_neg h,if_pos h2]
theorem gt4_ {α:Type} (a0 a1 a2 a3:α) (l:List α) (n:Nat):(a0::a1::a2::a3::l)[n+4]? = l[n]? :=rfl
theorem st4_ {α:Type} (a0 a1 a2 a3:α) (l:List α) (n:Nat) (v:α):(a0::a1::a2::a3::l).set (n+4) v=a0::a1::a2::a3::l.set n v:=rfl
theorem gt16_ {α:Type} (a0 a1 a2 a3 a4 a5 a6 a7 a8 a9 a10 a11 a12 a13 a14 a15:α) (l:List α) (n:Nat):(a0::a1::a2::a3::a4::a5::a6::a7::a8::a9::a10::a11::a12::a13::a14::a15::l)[n+16]? = l[n]? :=rfl
theorem st16_ {α:Type} (a0 a1 a2 a3 a4 a5 a6 a7 a8 a9 a10 a11 a12 a13 a14 a15:α) (l:List α) (n:Nat) (v:α):(a0::a1::a2::a3::a4::a5::a6::a7::a8::a9::a10::a11::a12::a13::a14::a15::l).set (n+16) v=a0::a1::a2::a3::a4::a5::a6::a7::a8::a9::a10::a11::a12::a13::a14::a15::l.set n v:=rfl
end Go.Proofs.YtidjjfjhmlndjaaGreatDoor
