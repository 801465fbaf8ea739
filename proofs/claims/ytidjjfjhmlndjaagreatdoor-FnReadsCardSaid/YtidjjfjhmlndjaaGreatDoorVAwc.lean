/- Awc (what is wanted of them). -/
import Derived.Test.YtidjjfjhmlndjaaGreatDoorVAwb
import Derived.Lib.ConvBytes
namespace Go.Proofs.YtidjjfjhmlndjaaGreatDoor
open Go.RowKit
def Mof (s:St) (E:Env) (ρ:List Nat):Nat→Prop:=fun g=>(∃ j x l,j ∈ ρ∧(j,x) ∈ s.os∧E.at_ j=some (some l)∧l.g=g)∨∃ k p,E.tg g=some (k,p)∧ρ.contains k=true
/-- What stands behind a call that hands out memory. -/
def HPost (Q:D→List (Nat × Ob)→Nat→Prop) (k:Nat) (E:Env) (M:Nat→Prop) (w:World) (e:Ending) (w':World):Prop:=
  ∃ d os' nb' E' v,Q d os' nb'∧e = .returned v∧Rep E' w' d v∧SR (fun g=>w.heap.size≤g∨M g) E' os' nb' w'∧k≤nb'∧E.le E'∧
      w'.os=w.os∧w'.tape=w.tape∧w'.output=w.output∧w.heap.size≤w'.heap.size∧(∀ b,b < w.heap.size→¬ M b→w'.heap[b]? = w.heap[b]?)∧(∀ b,E'.ro b→E.ro b∨w.heap.size≤b∨M b)∧(∀ i l,k≤i→E'.at_ i=some (some l)→w.heap.size≤l.g∨M l.g)
theorem awcallHcore {X:Ctx}{P:Program}{o:Oper}{s:St}{wr:List Nat}{nb:Nat}{f:FuncId}{xs:Array Operand}{ats:Array TypeId}{K:St→Prop} (ho:o.op = .call { callee:=.value (.func f),args:=xs,argTypes:=ats })
    (hent:∀ (args:Array Value) (w:World),(callFunc f args).run P w = .ok (.enter f args) w) {k:Nat}{Q:D→List (Nat × Ob)→Nat→Prop} (ρ:List Nat) (hρ:ρ.Nodup) (hlen:ρ.length=k) (hin:insOk s.os ρ false=true)
    (hwr:∀ j ∈ ρ,wr.contains j=true∨nb≤j) (hcall:∀ E a w,Rel X s E a w→Calls P f (xs.map a.eval) w (HPost Q k (E.hand ρ) (Mof s E ρ) w))
    (hk:∀ d os' nb',Q d os' nb'→k≤nb'→K ((s.back ρ os' nb').put o.dst (d.ren (tau ρ s.nb)))):AwStepF X P o s wr nb K:=by
  refine ⟨fun E a w K' R hr hK=>?_⟩
  have hrun:(execOp a.eval o).run P w = .ok (.enter f (xs.map a.eval)) w:=by
    rw [show execOp a.eval o=callFunc f (#[]++xs.map a.eval++#[]) by simp only [execOp,ho];rfl]
    rw [hent]
    simp
  unfold Oper.wp
  rw [hrun]
  show Calls P f _ w _
  subst hlen
  have hcall':=hcall E a w hr
  let M:Nat→Prop:=Mof s E ρ
  have hsr:SR M (E.hand ρ) (handOs s.os (sg ρ) ρ) ρ.length w:=
    hand_sr hr.sr ρ hρ hin (fun j x l h1 h2 h3 _=>.inl ⟨j,x,l,h1,mem_of_lookup h2,h3,rfl⟩) fun b k p h1 h2 _=>.inr ⟨k,p,h1,h2⟩
  -- the blocks that are handed on
  have hobj:∀ j x l,(j,x) ∈ s.os→E.at_ j=some (some l)→X.W l.g∧¬ E.ro l.g:=by
    intro j x l h1 h2
    rcases (hr.sr.obs j x h1).2 with ⟨h3,_⟩|⟨m,h3,h4,h5,_⟩
    · rw [h2] at h3;cases h3
    · rw [h2] at h3;injection h3 with h3;injection h3 with h3;subst h3;exact ⟨h4,h5⟩
  have hnotmine:∀ j x l,(j,x) ∈ s.os→j ∉ ρ→E.at_ j=some (some l)→¬ M l.g:=by
    intro j x l h1 h2 h3 h4
    rcases h4 with ⟨j',x',l',h5,h6,h7,h8⟩|⟨k,p,h5,h6⟩
    · exact hr.sr.apart j' x' j x h6 h1 (fun e=>h2 (e ▸ h5)) l' l h7 h3 h8
    · exact (hr.sr.tr.blk _ k p h5).2.2.2 j x l h1 h3 rfl
  refine hcall'.mono ?_
  · rintro e w' ⟨d,os',nb',E',v,hq,rfl,hv,hsr',hnb,hle',hos',htape,hout,hsize,hblock,hro',hnl⟩
    -- the new surroundings
    let E'':Env:=⟨E'.ro,fun j=>if j < s.nb then E.at_ j else E'.at_ (j - s.nb+ρ.length),fun b=>match E'.tg b with|some (i,p)=>some (tau ρ s.nb i,p)|none=>match E.tg b with|some (k,p)=>if ρ.contains k=true then none else some (k,p)|none=>none⟩
    have hlt:∀ j ∈ ρ,j < s.nb:=fun j hj=>by
      obtain ⟨x,hx⟩:=insOk_some hin hj
      exact hr.sr.idlt (mem_of_lookup hx)
    have hold:∀ j,j < s.nb→E''.at_ j=E.at_ j:=fun j hj=>if_pos hj
    have hnew:∀ i,ρ.length≤i→E''.at_ (s.nb+(i - ρ.length))=E'.at_ i:=fun i hi=>by
      show (if s.nb+(i - ρ.length) < s.nb then _ else E'.at_ (s.nb+(i - ρ.length) - s.nb+ρ.length))=_
      rw [if_neg (by omega)]
      congr 1
      omega
    have hgot:∀ i j,ρ[i]? = some j→E'.at_ i=E.at_ j:=by
      intro i j hij
      have hj:j ∈ ρ:=List.mem_of_getElem? hij
      obtain ⟨x,hx⟩:=insOk_some hin hj
      have:∃ l,E.at_ j=some l:=by
        rcases (hr.sr.obs j x (mem_of_lookup hx)).2 with ⟨h,_⟩|⟨l,h,_⟩<;>exact ⟨_,h⟩
      obtain ⟨l,hl⟩:=this
      rw [hl]
      exact hle'.at_ i l ((Env.hand_of hij).trans hl)
    have htau:∀ i,E''.at_ (tau ρ s.nb i)=E'.at_ i:=by
      intro i
      rcases Nat.lt_or_ge i ρ.length with hi|hi
      · have h1:ρ[i]? = some ρ[i]:=List.getElem?_eq_getElem hi
        rw [tau_old h1,hold _ (hlt _ (List.getElem_mem hi)),hgot i _ h1]
      · rw [tau_new hi,hnew i hi]
    have hvia:E'.via every E'' (tau ρ s.nb):=⟨fun i l _ h=>(htau i).trans h,fun _ h=>h⟩
    have hle:E.le E'':=by
      refine ⟨fun j l h=>?_,fun b hb=>hle'.ro b hb⟩
      have hj:j < s.nb:=by
        rcases Nat.lt_or_ge j s.nb with h1|h1
        · exact h1
        · rw [hr.sr.new j h1] at h;cases h
      exact (hold j hj).trans h
    have hromine:∀ b,E.ro b→¬ M b:=by
      intro b hb hm
      rcases hm with ⟨j,x,l,_,h2,h3,rfl⟩|⟨k,p,h1,_⟩
      · exact (hobj j x l h2 h3).2 hb
      · exact (hr.sr.tr.blk b k p h1).2.2.1 hb
    have hro:∀ b,E.ro b→w'.heap[b]? = w.heap[b]? :=fun b hb=>hblock b (hr.sr.rolt b hb) (hromine b hb)
    -- where what comes back lies
    have hback:∀ i y l,(i,y) ∈ os'→E'.at_ i=some (some l)→(w.heap.size≤l.g∨M l.g)∧¬ E'.ro l.g:=by
      intro i y l h1 h2
      rcases (hsr'.obs i y h1).2 with ⟨h3,_⟩|⟨m,h3,h4,h5,_⟩
      · rw [h2] at h3;cases h3
      · rw [h2] at h3;injection h3 with h3;injection h3 with h3;subst h3;exact ⟨h4,h5⟩
    have hmW:∀ g,M g→X.W g:=by
      intro g hg
      rcases hg with ⟨j,x,l,_,h2,h3,rfl⟩|⟨k,p,h1,_⟩
      · exact (hobj j x l h2 h3).1
      · exact (hr.sr.tr.blk g k p h1).2.1
    have hrest:∀ j x,(j,x) ∈ s.os.filter (fun p=>!ρ.contains p.1)→(j,x) ∈ s.os∧j ∉ ρ:=by
      intro j x h
      obtain ⟨h1,h2⟩:=List.mem_filter.1 h
      exact ⟨h1,by simpa using h2⟩
    have hren:∀ q,q ∈ os'.map (fun p=>(tau ρ s.nb p.1,p.2.ren (tau ρ s.nb)))→∃ i y,(i,y) ∈ os'∧q=(tau ρ s.nb i,y.ren (tau ρ s.nb)):=by
      intro q hq
      obtain ⟨⟨i,y⟩,h1,h2⟩:=List.mem_map.1 hq
      exact ⟨i,y,h1,h2.symm⟩
    have hi':∀ i y,(i,y) ∈ os'→i < nb':=fun i y h=>hsr'.idlt h
    have hinj:∀ i j,tau ρ s.nb i=tau ρ s.nb j→i=j:=by
      intro i j hij
      rcases Nat.lt_or_ge i ρ.length with h1|h1<;>rcases Nat.lt_or_ge j ρ.length with h2|h2
      · rw [tau_old (List.getElem?_eq_getElem h1),tau_old (List.getElem?_eq_getElem h2)] at hij
        exact (List.getElem_inj hρ).1 hij
      · rw [tau_old (List.getElem?_eq_getElem h1),tau_new h2] at hij
        have:=hlt _ (List.getElem_mem h1)
        omega
      · rw [tau_new h1,tau_old (List.getElem?_eq_getElem h2)] at hij
        have:=hlt _ (List.getElem_mem h2)
        omega
      · rw [tau_new h1,tau_new h2] at hij
        omega
    have hmix:∀ i y j x,(i,y) ∈ os'→(j,x) ∈ s.os→j ∉ ρ→∀ l m,E'.at_ i=some (some l)→E.at_ j=some (some m)→l.g≠m.g:=by
      intro i y j x h1 h2 h3 l m h4 h5 he
      rcases (hback i y l h1 h4).1 with h6|h6
      · have:=hr.sr.lt h2 h5
        omega
      · rw [he] at h6
        exact hnotmine j x m h2 h3 h5 h6
    have hrel:Rel X (s.back ρ os' nb') E'' a w':=by
      refine ⟨hr.sz,fun t d hd=>(hr.tm t d hd).keep hle hro,hr.df,⟨fun j x hj=>?_,fun j hj=>?_,hsr'.rolt,fun i x j y hi hj hij l m hl hm=>?_,?_,?_⟩,?_⟩
      · rcases List.mem_append.1 hj with hj|hj
        · obtain ⟨i,y,h1,h2⟩:=hren _ hj
          injection h2 with h2 h3
          subst h2;subst h3
          refine (hsr'.obs i y h1).ren (p:=every) rfl (List.all_eq_true.2 fun d _=>d.in1_every) hvia fun l _ hw hr'=>⟨?_,hr'⟩
          rcases hw with hw|hw
          · exact .inl (Nat.le_trans hr.st.size hw)
          · exact hmW _ hw
        · obtain ⟨h1,h2⟩:=hrest j x hj
          refine (hr.sr.obs j x h1).keep hle hro fun l hl=>⟨hblock _ (hr.sr.lt h1 hl) (hnotmine j x l h1 h2 hl),fun hb=>?_⟩
          rcases hro' _ hb with h3|h3|h3
          · exact (hobj j x l h1 hl).2 h3
          · have:=hr.sr.lt h1 hl;omega
          · exact hnotmine j x l h1 h2 hl h3
      · have hj':s.nb+(nb' - ρ.length)≤j:=hj
        show (if j < s.nb then _ else E'.at_ (j - s.nb+ρ.length))=none
        rw [if_neg (by omega)]
        exact hsr'.new _ (by omega)
      · rcases List.mem_append.1 hi with hi|hi<;>rcases List.mem_append.1 hj with hj|hj
        · obtain ⟨i',x',h1,h2⟩:=hren _ hi
          obtain ⟨j',y',h3,h4⟩:=hren _ hj
          injection h2 with h2 _
          injection h4 with h4 _
          subst h2;subst h4
          rw [htau] at hl hm
          exact hsr'.apart i' x' j' y' h1 h3 (fun e=>hij (by rw [e])) l m hl hm
        · obtain ⟨i',x',h1,h2⟩:=hren _ hi
          obtain ⟨h3,h4⟩:=hrest j y hj
          injection h2 with h2 _
          subst h2
          rw [htau] at hl
          rw [hold j (hr.sr.idlt h3)] at hm
          exact hmix i' x' j y h1 h3 h4 l m hl hm
        · obtain ⟨j',y',h3,h4⟩:=hren _ hj
          obtain ⟨h1,h2⟩:=hrest i x hi
          injection h4 with h4 _
          subst h4
          rw [htau] at hm
          rw [hold i (hr.sr.idlt h1)] at hl
          exact fun e=>hmix j' y' i x h3 h1 h2 m l hm hl e.symm
        · obtain ⟨h1,h2⟩:=hrest i x hi
          obtain ⟨h3,h4⟩:=hrest j y hj
          rw [hold i (hr.sr.idlt h1)] at hl
          rw [hold j (hr.sr.idlt h3)] at hm
          exact hr.sr.apart i x j y h1 h3 hij l m hl hm
      · show ((os'.map (fun p=>(tau ρ s.nb p.1,p.2.ren (tau ρ s.nb)))++s.os.filter (fun p=>!ρ.contains p.1)).map (·.1)).Nodup
        rw [List.map_append,List.map_map,List.nodup_append]
        refine ⟨?_,hr.sr.nodup.sublist ((List.filter_sublist).map _),?_⟩
        · rw [show (fun p:Nat × Ob=>p.1) ∘ (fun p:Nat × Ob=>(tau ρ s.nb p.1,p.2.ren (tau ρ s.nb)))=(tau ρ s.nb) ∘ (·.1) from rfl,← List.map_map]
          exact hsr'.nodup.map (f:=tau ρ s.nb) fun i j h e=>h (hinj i j e)
        · intro i hi j hj e
          obtain ⟨⟨i',y⟩,h1,h2⟩:=List.mem_map.1 hi
          obtain ⟨⟨j',x⟩,h3,h4⟩:=List.mem_map.1 hj
          obtain ⟨h5,h6⟩:=hrest j' x h3
          have h2':tau ρ s.nb i' = i:=h2
          have h4':j' = j:=h4
          subst e;subst h4'
          rcases Nat.lt_or_ge i' ρ.length with h7|h7
          · rw [tau_old (List.getElem?_eq_getElem h7)] at h2'
            exact h6 (h2' ▸ List.getElem_mem h7)
          · rw [tau_new h7] at h2'
            have:=hr.sr.idlt h5
            omega
      · have htg:∀ b,E''.tg b=(match E'.tg b with|some (i,p)=>some (tau ρ s.nb i,p)|none=>match E.tg b with|some (k,p)=>if ρ.contains k=true then none else some (k,p)|none=>none):=fun b=>rfl
        have hfree:∀ b k p,E.tg b=some (k,p)→ρ.contains k=false→b < w.heap.size∧¬ M b∧E'.tg b=none:=by
          intro b k p h1 h2
          obtain ⟨e1,e2,e3,e4⟩:=hr.sr.tr.blk b k p h1
          have hM:¬ M b:=by
            rintro (⟨j,x,l,_,h5,h6,h7⟩|⟨k',p',h5,h6⟩)
            · exact e4 j x l h5 h6 h7
            · rw [h1] at h5
              injection h5 with h5
              injection h5 with h5 _
              rw [h5,h6] at h2
              cases h2
          refine ⟨e1,hM,?_⟩
          cases h5:E'.tg b with
          |none=>rfl
          |some q=>
            rcases (hsr'.tr.blk b q.1 q.2 h5).2.1 with h6|h6
            · omega
            · exact absurd h6 hM
        refine ⟨fun b i p hq=>?_,fun i x hi j ty sz n cs hj=>?_⟩
        · rw [htg] at hq
          cases h1:E'.tg b with
          |some q=>
            obtain ⟨e1,e2,e3,e4⟩:=hsr'.tr.blk b q.1 q.2 h1
            refine ⟨e1,?_,e3,fun j y l hj hl=>?_⟩
            · rcases e2 with e2|e2
              · exact .inl (Nat.le_trans hr.st.size e2)
              · exact hmW b e2
            · rcases List.mem_append.1 hj with hj|hj
              · obtain ⟨i',y',h2,h3⟩:=hren _ hj
                injection h3 with h3 _
                subst h3
                rw [htau] at hl
                exact e4 i' y' l h2 hl
              · obtain ⟨h2,h3⟩:=hrest j y hj
                rw [hold j (hr.sr.idlt h2)] at hl
                intro e
                subst e
                rcases e2 with e2|e2
                · have:=hr.sr.lt h2 hl;omega
                · exact hnotmine j y l h2 h3 hl e2
          |none=>
            rw [h1] at hq
            cases h2:E.tg b with
            |none=>rw [h2] at hq;cases hq
            |some q=>
              obtain ⟨k,p0⟩:=q
              rw [h2] at hq
              simp only at hq
              split at hq
              · cases hq
              · rename_i hk
                obtain ⟨f1,f2,_⟩:=hfree b k p0 h2 (by simpa using hk)
                obtain ⟨e1,e2,e3,e4⟩:=hr.sr.tr.blk b k p0 h2
                refine ⟨Nat.lt_of_lt_of_le e1 hsize,e2,fun hb=>?_,fun j y l hj hl=>?_⟩
                · rcases hro' b hb with h3|h3|h3
                  · exact e3 h3
                  · omega
                  · exact f2 h3
                · rcases List.mem_append.1 hj with hj|hj
                  · obtain ⟨i',y',h3,h4⟩:=hren _ hj
                    injection h4 with h4 _
                    subst h4
                    rw [htau] at hl
                    intro e
                    subst e
                    rcases (hback i' y' l h3 hl).1 with h5|h5
                    · omega
                    · exact f2 h5
                  · obtain ⟨h3,h4⟩:=hrest j y hj
                    rw [hold j (hr.sr.idlt h3)] at hl
                    exact e4 j y l h3 hl
        · rcases List.mem_append.1 hi with hi|hi
          · obtain ⟨i',y',h2,h3⟩:=hren _ hi
            injection h3 with h3 h4
            subst h3;subst h4
            have hj':(y'.cs.map (D.ren1 (tau ρ s.nb)))[j]? = some (.tr ty sz n cs):=hj
            rw [List.getElem?_map] at hj'
            cases hx2:y'.cs[j]? with
            |none=>rw [hx2] at hj';cases hj'
            |some d=>
              rw [hx2] at hj'
              injection hj' with hj'
              have hd:d = .tr ty sz n cs:=by cases d<;>simp only [D.ren1,reduceCtorEq] at hj'<;>exact hj'
              obtain ⟨l,u,e1,e2,e3⟩:=hsr'.tr.cell i' y' h2 j ty sz n cs (by rw [hx2,hd])
              exact ⟨l,u,(htau i').trans e1,e2,e3.map fun b q hq=>⟨rfl,by rw [htg,hq]⟩⟩
          · obtain ⟨h2,h3⟩:=hrest i x hi
            obtain ⟨l,u,e1,e2,e3⟩:=hr.sr.tr.cell i x h2 j ty sz n cs hj
            refine ⟨l,u,(hold i (hr.sr.idlt h2)).trans e1,(World.cell?_of_block (a:=⟨l.g,j,none⟩) (hblock _ (hr.sr.lt h2 e1) (hnotmine i x l h2 h3 e1))).trans e2,e3.map fun b q hq=>?_⟩
            have hci:ρ.contains i=false:=by simpa using h3
            obtain ⟨f1,f2,f3⟩:=hfree b i q hq hci
            refine ⟨hblock b f1 f2,?_⟩
            rw [htg,f3,hq]
            simp only [hci,Bool.false_eq_true,if_false]
      · refine ⟨hr.st.le.trans hle,hos'.trans hr.st.os,htape.trans hr.st.tape,hout.trans hr.st.output,Nat.le_trans hr.st.size hsize,fun b h1 h2=>?_,fun b hb=>?_,Nat.le_trans hr.st.nb (Nat.le_add_right _ _)⟩
        · refine (hblock b (Nat.lt_of_lt_of_le h1 hr.st.size) fun hm=>?_).trans (hr.st.block b h1 h2)
          rcases hmW b hm with h3|h3
          · omega
          · exact h2 h3
        · rcases hro' b hb with h3|h3|h3
          · exact hr.st.ro b h3
          · exact .inr (.inl (Nat.le_trans hr.st.size h3))
          · exact .inr (hmW b h3)
    have hT:∀ g,M g→E.tg g=none→∃ j l,(wr.contains j=true∨nb≤j)∧E.at_ j=some (some l)∧l.g=g:=by
      intro g hg h0
      rcases hg with ⟨j,x,l,h1,_,h3,h4⟩|⟨k,p,h1,_⟩
      · exact ⟨j,l,hwr j h1,h3,h4⟩
      · rw [h0] at h1;cases h1
    refine hK _ _ _ _ (hk d os' nb' hq hnb) (hrel.put o.dst (hv.ren d.inn_every hvia)) ⟨hle,hsize,fun b hb h0 hT'=>hblock b hb fun hm=>?_,fun j l h1 h2=>?_,fun b h1 h2=>?_⟩
    · obtain ⟨j,l,h1,h2,h3⟩:=hT b hm h0
      exact hT' j l h1 h2 h3
    · have hj:s.nb≤j:=by
        rcases Nat.lt_or_ge j s.nb with h3|h3
        · rw [hold j h3,h1] at h2;cases h2
        · exact h3
      have h3:E'.at_ (j - s.nb+ρ.length)=some (some l):=by
        have:(if j < s.nb then E.at_ j else E'.at_ (j - s.nb+ρ.length))=some (some l):=h2
        rwa [if_neg (by omega)] at this
      rcases hnl _ l (by omega) h3 with h4|⟨j',x,m,h4,_,h5,h6⟩|⟨k,p,h4,_⟩
      · exact .inl h4
      · exact .inr (.inl ⟨j',m,hwr j' h4,h5,h6⟩)
      · exact .inr (.inr (by rw [h4];simp))
    · have h3:(match E'.tg b with|some (i,p)=>some (tau ρ s.nb i,p)|none=>match E.tg b with|some (k,p)=>if ρ.contains k=true then none else some (k,p)|none=>none)≠none:=h2
      rw [h1] at h3
      cases h4:E'.tg b with
      |none=>rw [h4] at h3;exact absurd rfl h3
      |some q=>
        rcases (hsr'.tr.blk b q.1 q.2 h4).2.1 with h5|h5
        · exact .inl h5
        · obtain ⟨j,l,h6,h7,h8⟩:=hT b h5 h1
          exact .inr ⟨j,l,h6,h7,h8⟩
/-- A cell that names nothing that is only read. -/
def D.dryC:D→Bool
  |.none|.sc _|.own ..|.ptr ..|.mp _|.tr ..=>true
  |_=>false
def D.dryA:D→Bool
  |.agg cs=>cs.all D.dryC
  |d=>d.dryC
def D.dryT:D→Bool
  |.tup ds=>ds.all D.dryA
  |d=>d.dryA
theorem Rep1.dryC {E E':Env}{w:World}{d:D}{u:Value} (h:Rep1 E w d u) (hd:d.dryC=true) (hat:E'.at_=E.at_):Rep1 E' w d u:=by
  cases d<;>first|exact h|(simp only [Rep1,hat] at h ⊢;exact h)|cases hd
theorem RepA.dryA {E E':Env}{w:World}{d:D}{u:Value} (h:RepA E w d u) (hd:d.dryA=true) (hat:E'.at_=E.at_):RepA E' w d u:=by
  by_cases ha:∃ cs,d = .agg cs
  · obtain ⟨cs,rfl⟩:=ha
    obtain ⟨us,h1,h2,h3⟩:=h
    refine ⟨us,h1,h2,fun j d v hj hv=>⟨(h3 j d v hj hv).1.dryC (List.all_eq_true.1 (show cs.all D.dryC=true from hd) d (List.mem_of_getElem? hj)) hat,(h3 j d v hj hv).2⟩⟩
  · have h1:Rep1 E w d u:=by cases d<;>first|exact h|exact absurd ⟨_,rfl⟩ ha
    have h2:d.dryC=true:=by cases d<;>first|exact hd|exact absurd ⟨_,rfl⟩ ha
    have h3:=h1.dryC h2 hat
    cases d<;>first|exact h3|exact absurd ⟨_,rfl⟩ ha
theorem Rep.dryT {E E':Env}{w:World}{d:D}{u:Value} (h:Rep E w d u) (hd:d.dryT=true) (hat:E'.at_=E.at_):Rep E' w d u:=by
  by_cases ha:∃ cs,d = .tup cs
  · obtain ⟨cs,rfl⟩:=ha
    obtain ⟨us,h1,h2,h3⟩:=h
    exact ⟨us,h1,h2,fun j d v hj hv=>(h3 j d v hj hv).dryA (List.all_eq_true.1 (show cs.all D.dryA=true from hd) d (List.mem_of_getElem? hj)) hat⟩
  · have h1:RepA E w d u:=by cases d<;>first|exact h|exact absurd ⟨_,rfl⟩ ha
    have h2:d.dryA=true:=by cases d<;>first|exact hd|exact absurd ⟨_,rfl⟩ ha
    have h3:=h1.dryA h2 hat
    cases d<;>first|exact h3|exact absurd ⟨_,rfl⟩ ha
def dryO (os:List (Nat × Ob)):Bool:=os.all fun p=>p.2.cs.all D.dryC
theorem awborHF {X:Ctx}{P:Program}{o:Oper}{s:St}{wr:List Nat}{nb:Nat}{f:FuncId}{xs:Array Operand}{ats:Array TypeId}{K:St→Prop} (gs:List Gop) (hok:gopsOk s gs=true) (ho:o.op = .call { callee:=.value (.func f),args:=xs,argTypes:=ats }) (ds:List D) (Q:D→List (Nat × Ob)→Nat→Prop)
    (hs:SpecH P f ds [] 0 Q) (hds:xs.toList.map (gops s gs).ev=ds) (hno:ds.all D.noid=true) (hk:∀ d os' nb',Q d os' nb'→(d.dryT=true∧dryO os' = true)∧K ((s.back [] os' nb').put o.dst (d.ren (tau [] s.nb)))):AwStepF X P o s wr nb K:=by
  refine awcallHcore (k:=0) (Q:=Q) ho hs.1 [] (by simp) rfl rfl (fun j hj=>nomatch hj) (fun E a w hr=>?_) fun d os' nb' hq _=>(hk d os' nb' hq).2
  obtain ⟨E1,hr1,_⟩:=gops_sound hok hr
  subst hds
  refine (hs.2 (roEnv E1.ro) (fun _=>False) w (xs.map a.eval) ⟨(fun i x h=>nomatch h),(fun _ _=>rfl),hr1.sr.rolt,(fun i x j y h=>nomatch h),List.nodup_nil,Trs.none (fun _=>rfl) (fun i x h=>nomatch h)⟩ (by simp) (args_of hr1 hno)).mono ?_
  rintro e w' ⟨d,os',nb',E',v,hq,he,hv,hsr,hnb,hle,h1,h2,h3,h4,h5,h6,h7⟩
  obtain ⟨hd,ho'⟩:=(hk d os' nb' hq).1
  have hnew:∀ i x l,(i,x) ∈ os'→E'.at_ i=some (some l)→w.heap.size≤l.g:=by
    intro i x l hi hl
    rcases (hsr.obs i x hi).2 with ⟨h8,_⟩|⟨m,h8,h9,_⟩
    · rw [hl] at h8;cases h8
    · rw [hl] at h8;injection h8 with h8;injection h8 with h8;subst h8;exact h9.elim id False.elim
  have hro:∀ b,w.heap.size≤b→¬ E'.ro b→¬ (E.ro b∨(E'.ro b∧w.heap.size≤b)):=by
    rintro b hb hn (h|h)
    · have:=hr.sr.rolt b h;omega
    · exact hn h.1
  refine ⟨d,os',nb',⟨fun b=>E.ro b∨(E'.ro b∧w.heap.size≤b),E'.at_,E'.tg⟩,v,hq,he,hv.dryT hd rfl,⟨fun i x hi=>?_,hsr.new,hr.sr.rolt.grow (fun _ h=>.inl h) (fun b h=>h5 b (hr.sr.rolt b h) fun h=>h) fun b hb=>?_,hsr.apart,hsr.nodup,?_⟩,hnb,⟨fun i l h=>?_,fun b hb=>.inl hb⟩,h1,h2,h3,h4,fun b hb _=>h5 b hb (fun h=>h),fun b hb=>?_,fun i l hi hl=>.inl ((h7 i l hi hl).elim id False.elim)⟩
  · obtain ⟨g1,g2⟩:=hsr.obs i x hi
    refine ⟨g1,?_⟩
    rcases g2 with g2|⟨l,g2,g3,g4,g5,g6,g7⟩
    · exact .inl g2
    · have hg:=hnew i x l hi g2
      refine .inr ⟨l,g2,.inl hg,hro _ hg g4,g5,g6,?_⟩
      rcases g7 with ⟨cur,c1,c2,c3⟩|g7
      · refine .inl ⟨cur,c1,c2,fun j d hj=>?_⟩
        obtain ⟨u,c4,c5,c6⟩:=c3 j d hj
        have hx:=List.all_eq_true.1 (show (os'.all fun p=>p.2.cs.all D.dryC)=true from ho') _ hi
        exact ⟨u,c4,c5,c6.dryC (List.all_eq_true.1 hx d (List.mem_of_getElem? hj)) rfl⟩
      · exact .inr g7
  · rcases hb with hb|hb
    · exact Nat.lt_of_lt_of_le (hr.sr.rolt b hb) h4
    · exact hsr.rolt b hb.1
  · refine ⟨fun b i p hb=>?_,fun i x hi j ty sz n cs hj=>hsr.tr.cell i x hi j ty sz n cs hj⟩
    obtain ⟨q1,q2,q3,q4⟩:=hsr.tr.blk b i p hb
    have hg:w.heap.size≤b:=q2.elim id False.elim
    exact ⟨q1,.inl hg,hro b hg q3,q4⟩
  · have:(E.hand []).at_ i=none:=rfl
    rw [this] at h
    cases h
  · rcases hb with hb|hb
    · exact .inl hb
    · exact .inr (.inl hb.2)
end Go.Proofs.YtidjjfjhmlndjaaGreatDoor
namespace Go.Proofs.YtidjjfjhmlndjaaGreatDoor
open Go.RowKit
end Go.Proofs.YtidjjfjhmlndjaaGreatDoor
namespace Go.Proofs.YtidjjfjhmlndjaaGreatDoor
open Go.RowKit
end Go.Proofs.YtidjjfjhmlndjaaGreatDoor
