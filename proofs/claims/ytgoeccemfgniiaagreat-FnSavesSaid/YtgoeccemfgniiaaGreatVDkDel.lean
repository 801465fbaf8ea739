/- DkDel (what is wanted of them). -/
import Derived.Test.YtgoeccemfgniiaaGreatVDk
import Derived.Test.YtgoeccemfgniiaaGreatVGrown
import Derived.Test.YtgoeccemfgniiaaGreatVAwc
import Derived.Deep.RegionHeld3
import Derived.Deep.RegionLaw
import Derived.Test.YtgoeccemfgniiaaGreatProg
namespace Go.Proofs.YtgoeccemfgniiaaGreat
open Go.RowKit
def FileD.cells (f:FileD):List Value:= [.string f.name,.string f.text,.int .i64 f.synced]
theorem FileD.len (f:FileD):f.cells.length=3:=rfl
theorem flen (fs:List FileD):(fs.flatMap FileD.cells).length=fs.length*3:=flatMap_len _ 3 FileD.len fs
theorem file_one:∀ (fs:List FileD),∀ u ∈ fs.flatMap FileD.cells,u.oneCell' = true:=by
  intro fs u hu
  obtain ⟨f,_,hf⟩:=List.mem_flatMap.1 hu
  simp only [FileD.cells,List.mem_cons,List.not_mem_nil,or_false] at hf
  rcases hf with rfl|rfl|rfl<;>rfl
theorem infoFile:(Tryz.prog.info? 160).map (fun i=>(i.zero,i.size,i.bytes))=some (some (.agg #[.string ⟨#[]⟩,.string ⟨#[]⟩,.int .i64 0]),3,40):=by kernel_rfl
theorem enc_files:∀ fs:List FileD,(fs.flatMap FileD.cells).map D.sc=filesD fs
  | []=>rfl
  |f::r=>by
    rw [List.flatMap_cons,List.map_append,enc_files r]
    rfl
theorem run_clear_own {P:Program}{w:World} (base:Nat) (t e:TypeId) (z:Value) (size:Nat) (ht:P.underlying t=some (.slice e)) (hv:∀ w,(zeroValue e).run P w = .ok z w) (hz:z.cells.size=size) (h1:∀ u ∈ z.cells.toList,u.oneCell' = true) (h0:0 < size)
    (g m n cap c':Nat) (xs:List Value) (hown:w.ownsRow base e size (.slice (some ⟨g,0,none⟩) m cap) m xs) (hmn:m < n) (hn:n≤cap):
    ∃ w',(∀ ty,(Builtin.clear_ #[t] ty #[.slice (some ⟨g,m*size,none⟩) (n - m) c']).run P w = .ok (.tuple #[]) w')∧w'.ownsRow base e size (.slice (some ⟨g,0,none⟩) m cap) m xs∧w.grownBy w' (some g):=by
  rcases hown.2 with ⟨h',_⟩|⟨g',cap',cur,h',hb,hg,hnc,hcm,hcs,htake⟩
  · simp at h'
  · simp only [Value.slice.injEq,Option.some.injEq,Addr.mk.injEq,and_true,true_and] at h'
    obtain ⟨rfl,rfl⟩:=h'
    have hsz:(Builtin.zeroCells z.cells (n - m)).toList.length=(n - m)*size:=by rw [Array.length_toList,size_zeroCells,hz]
    have hfit:m*size+(n - m)*size≤cur.size:=by rw [hcs,← Nat.add_mul];exact Nat.mul_le_mul_right _ (by omega)
    have hone:∀ v ∈ (Builtin.zeroCells z.cells (n - m)).toList,v.oneCell' = true:=by
      intro v hv'
      have hv2:v ∈ Builtin.zeroCells z.cells (n - m):=by simpa using hv'
      unfold Builtin.zeroCells at hv2
      obtain ⟨i,_,rfl⟩:=Array.mem_map.1 hv2
      have:i % z.cells.size < z.cells.size:=Nat.mod_lt _ (by omega)
      exact h1 _ (by simp [getElem!_pos z.cells (i % z.cells.size) this])
    have hst:=run_storeCells_at P g (m*size) e (Builtin.zeroCells z.cells (n - m)).toList 0 cur w hg (by rw [hsz];omega) hone
    obtain ⟨q,hq⟩:∃ q,n - m=q+1:=⟨n - m - 1,by omega⟩
    simp only [Nat.add_zero] at hst
    refine ⟨w.setRow g (cur.toList.take (m*size)++(Builtin.zeroCells z.cells (n - m)).toList++cur.toList.drop (m*size+(Builtin.zeroCells z.cells (n - m)).toList.length)).toArray,fun ty=>?_,⟨hown.1,.inr ⟨g,cap,_,rfl,hb,setRow_heap w g cur _ e _ hg,hnc,hcm,?_,?_⟩⟩,⟨rfl,rfl,rfl,by simp,fun k _ hk=>setRow_other w g k _ (fun e=>hk (by simp [e]))⟩⟩
    · rw [hq] at hst ⊢
      simp [Builtin.clear_,run_underlying ht,hv,hst]
    · simp only [List.size_toArray,List.length_append,List.length_take,List.length_drop,Array.length_toList,hsz]
      omega
    · rw [← htake]
      rw [List.append_assoc,List.take_append,List.take_take,Nat.min_self]
      rw [List.length_take,Array.length_toList,Nat.min_eq_left (by omega),Nat.sub_self,List.take_zero,List.append_nil]
set_option maxRecDepth 100000 in
set_option maxHeartbeats 2000000 in
theorem deleteFile_any (v:Value) (fs:List FileD) (k base:Nat) (hk:k < fs.length) (w:World) (h:w.ownsRow base 160 3 v fs.length (fs.flatMap FileD.cells)) (hn:fs.length≤1048576):
    Calls Tryz.prog 247 #[v,.int .i64 k,.int .i64 (k+1)] w fun e w'=>(∃ u,e = .returned u∧u.ownBlock=v.ownBlock∧w'.ownsRow base 160 3 u (fs.eraseIdx k).length ((fs.eraseIdx k).flatMap FileD.cells))∧w.grownBy w' v.ownBlock:=by
  obtain ⟨A,c,rfl⟩:=own_form h
  obtain ⟨g,rfl,hgb,hgl⟩:=own_some h (by omega)
  obtain ⟨hc,hm⟩:=own_cap h
  unfold maxLen at hm
  have k0:(0:Int)≤(k:Int):=Int.natCast_nonneg _
  have k1:(k:Int) < (fs.length:Int):=by omega
  have k2:(k:Int)+1≤(fs.length:Int):=by omega
  have k4:(k:Int)≤(c:Int):=by omega
  have k5:(fs.length:Int)≤(c:Int):=by omega
  have k6:(0:Int)≤(k:Int)+1:=by omega
  have k7:((k:Int)+1).toNat=k+1:=by omega
  have k8:(0:Int)≤(fs.length:Int):=by omega
  have kb:((k:Int)==(k:Int)+1)=false:=by rw [beq_eq_false_iff_ne];omega
  have P1:=Lib.hid (own_prefix h k (by omega))
  have e1:fs.eraseIdx k=fs.take k++fs.drop (k+1):=List.eraseIdx_eq_take_drop_succ ..
  have L2:Hid (((fs.drop (k+1)).flatMap FileD.cells).length=(fs.length - (k+1))*3):=by unfold Hid;rw [flen,List.length_drop]
  have T1:Hid ((fs.flatMap FileD.cells).take (k*3)=(fs.take k).flatMap FileD.cells):=(flatMap_take FileD.cells 3 FileD.len fs k).symm
  rw [e1]
  by_cases hcap:c=k+1
  · subst hcap
    have hlen:fs.length=k+1:=by omega
    have k9:(k:Int)≤(k:Int)+1:=by omega
    have kA:(fs.length:Int)≤(k:Int)+1:=by omega
    have e2:Hid (fs.drop (k+1) = []):=List.drop_of_length_le (by omega)
    clear hlen
    clear e1
    go_enter Tryz.func247,Tryz.ntmps247
    go_wp2
    go_region_held3 (fun W=>W.os=w.os) (first|exact hg1.os|rfl|assumption|go_keep) (first|(refine step_fits _ rfl (.tmp 22) (.tmp 25) 33 rfl base 160 _ 3 40 Tryz.underlying33 infoFile g k (k+1) _ rfl P1.out.drew ⟨g,0,none⟩ 0 _ [] rfl rfl (fun j u hj=>by cases hj) (by intro u hu;cases hu) (by omega) ?_;intro w1 ho1 hg1))
    rw [Nat.add_zero,List.append_nil] at ho1
    obtain ⟨w2,hclr,ho2,hg2⟩:=run_clear_own (P:=Tryz.prog) base 33 160 _ 3 Tryz.underlying33 Tryz.zeroValue160 rfl (by intro u hu;simp [Value.cells] at hu;rcases hu with rfl|rfl|rfl<;>rfl) (by omega) g k fs.length (k+1) 1 _ ho1 (by omega) hc
    go_wp2_with fail
    go_ret
    have ho:=ho2
    rw [T1.out] at ho
    have el:(fs.take k).length=k:=by rw [List.length_take];omega
    rw [e2.out,List.append_nil,el]
    exact ⟨⟨_,rfl,rfl,ho⟩,grown_trans (b:=w1) ⟨hg1.os,hg1.tape,hg1.output,hg1.size,hg1.block⟩ hg2⟩
  · have C2:Hid (∀ j u,((fs.drop (k+1)).flatMap FileD.cells)[j]? = some u→w.drew.cell? ((⟨g,(k+1)*3,none⟩:Addr).add j)=some u):=fun j u hj=>by
      rw [flatMap_drop FileD.cells 3 FileD.len,List.getElem?_drop] at hj
      rw [Addr.add_lit]
      have hl:=(List.getElem?_eq_some_iff.1 hj).1
      rw [flen] at hl
      exact (h.cellAt _ hl).trans hj
    clear e1
    go_enter Tryz.func247,Tryz.ntmps247
    go_wp2
    go_region_held3 (fun W=>W.os=w.os) (first|exact hg1.os|rfl|assumption|go_keep) (first|(refine step_fits _ rfl (.tmp 22) (.tmp 25) 33 rfl base 160 _ 3 40 Tryz.underlying33 infoFile g k c _ rfl P1.out.drew ⟨g,(k+1)*3,none⟩ (fs.length - (k+1)) _ ((fs.drop (k+1)).flatMap FileD.cells) rfl L2.out C2.out (file_one _) (by omega) ?_;intro w1 ho1 hg1))
    have em:k+(fs.length - (k+1))+1=fs.length:=by omega
    obtain ⟨w2,hclr,ho2,hg2⟩:=run_clear_own (P:=Tryz.prog) base 33 160 _ 3 Tryz.underlying33 Tryz.zeroValue160 rfl (by intro u hu;simp [Value.cells] at hu;rcases hu with rfl|rfl|rfl<;>rfl) (by omega) g (k+(fs.length - (k+1))) fs.length c (c - (k+(fs.length - (k+1)))) _ ho1 (by omega) hc
    have EM:=Lib.hid em
    clear em
    go_wp2_with fail
    go_ret
    have ho:=ho2
    rw [T1.out,← List.flatMap_append] at ho
    have el:(fs.take k++fs.drop (k+1)).length=k+(fs.length - (k+1)):=by rw [List.length_append,List.length_take,List.length_drop];omega
    rw [el]
    exact ⟨⟨_,rfl,rfl,ho⟩,grown_trans (b:=w1) ⟨hg1.os,hg1.tape,hg1.output,hg1.size,hg1.block⟩ hg2⟩
/-- A function that takes a row of the call's own and hands out a row: over data. -/
theorem specH_row {P:Program}{f:FuncId}{e size n n':Nat}{vs vs':List Value}{scs:List Value} (hent:∀ (args:Array Value) (w:World),(callFunc f args).run P w = .ok (.enter f args) w) (h1:∀ v ∈ vs',v.oneCell' = true) (hlen:vs.length=n*size) (hs0:0 < size) (he:e≠1000000)
    (h:∀ (v:Value) (base:Nat) (w:World),w.ownsRow base e size v n vs→Calls P f (#[v]++scs.toArray) w fun en w'=>(∃ u,en = .returned u∧u.ownBlock=v.ownBlock∧w'.ownsRow base e size u n' vs')∧w.grownBy w' v.ownBlock):
    SpecH P f (.own 0 0 n::scs.map .sc) [(0,⟨e,size,n,vs.map .sc⟩)] 1 fun d os' nb'=>d = .own 1 0 n'∧os' = [(1,⟨e,size,n',vs'.map .sc⟩)]∧nb' = 2:=by
  refine ⟨hent,fun E M w args hsr hsz hrep=>?_⟩
  have hargs:args=#[args.getD 0 undef]++scs.toArray:=by
    refine Array.ext' (List.ext_getElem? fun j=>?_)
    have hsz':args.size=scs.length+1:=by simpa using hsz
    cases j with
    |zero=>
      simp only [Array.toList_append,List.cons_append,List.nil_append,List.getElem?_cons_zero]
      rw [Array.getElem?_toList,Array.getElem?_eq_getElem (by omega)]
      simp [Array.getD,hsz']
    |succ j=>
      simp only [Array.toList_append,List.cons_append,List.nil_append,List.getElem?_cons_succ]
      rw [Array.getElem?_toList]
      cases hj:scs[j]? with
      |none=>
        have:=List.getElem?_eq_none_iff.1 hj
        rw [Array.getElem?_eq_none (by omega)]
      |some u=>
        have hlt:=(List.getElem?_eq_some_iff.1 hj).1
        have h2:=(hrep (j+1) (.sc u) (by simp [hj])).1
        have h4:args[j+1]? = some (args.getD (j+1) undef):=by rw [Array.getElem?_eq_getElem (by omega)];simp [Array.getD,show j+1 < args.size by omega]
        rw [h4,h2]
  have h0:Rep E w (.own 0 0 n) (args.getD 0 undef):=hrep 0 _ rfl
  have hob:=hsr.obs 0 _ (List.mem_singleton.2 rfl)
  have hown:w.ownsRow 0 e size (args.getD 0 undef) n vs∧((args.getD 0 undef).ownBlock=none∨∃ l:Loc,E.at_ 0=some (some l)∧M l.g∧¬ E.ro l.g∧(args.getD 0 undef).ownBlock=some l.g):=by
    rcases h0 with ⟨l,c,hl,hv,hnc,hcm,hcc⟩|⟨hnone,_,hn,hv⟩
    · rcases hob.2 with ⟨h5,_⟩|⟨m,h5,h6,h7,h8,h9,h10⟩
      · rw [hl] at h5;cases h5
      · rw [hl] at h5;injection h5 with h5;injection h5 with h5;subst h5
        rcases h10 with ⟨cur,c1,c2,c3⟩|⟨c1,_⟩
        · replace c1:=c1.resolve_right fun h=>he h.1
          refine ⟨⟨hlen,.inr ⟨l.g,c,cur,hv,Nat.zero_le _,c1,hnc,hcm,by rw [hcc rfl];exact c2,?_⟩⟩,.inr ⟨l,hl,h6,h7,by rw [hv];rfl⟩⟩
          refine List.ext_getElem? fun j=>?_
          rw [List.getElem?_take]
          by_cases hj:j < n*size
          · rw [if_pos hj,Array.getElem?_toList]
            have hjv:j < vs.length:=by omega
            obtain ⟨u,d1,_,d2⟩:=c3 j (.sc vs[j]) (by simp [List.getElem?_eq_getElem hjv])
            rw [d1,List.getElem?_eq_getElem hjv,d2.1]
          · rw [if_neg hj,List.getElem?_eq_none (by omega)]
        · exact absurd c1 (by show size≠0;omega)
    · exact ⟨⟨hlen,.inl ⟨hv,hn⟩⟩,.inl (by rw [hv];rfl)⟩
  obtain ⟨hown,hblk⟩:=hown
  rw [hargs]
  refine (h _ 0 w hown).mono ?_
  rintro en w' ⟨⟨u,rfl,hu,ho⟩,hg⟩
  have hnew:E.at_ 1=none:=hsr.new 1 (Nat.le_refl _)
  have hrow:∀ b,b < w.heap.size→¬ M b→w'.heap[b]? = w.heap[b]? :=fun b hb hm=>hg.block b hb fun heq=>by
    rcases hblk with h5|⟨l,_,h6,_,h7⟩
    · rw [h5] at heq;cases heq
    · rw [h7] at heq;injection heq with heq;exact hm (heq ▸ h6)
  have hro9:∀ b,E.ro b→w'.heap[b]? = w.heap[b]? :=fun b hb=>hg.block b (hsr.rolt b hb) fun heq=>by
    rcases hblk with h5|⟨l,_,_,h6,h7⟩
    · rw [h5] at heq;cases heq
    · rw [h7] at heq;injection heq with heq;exact h6 (heq ▸ hb)
  have hat1:∀ loc:Option Loc,∀ i,2≤i→(E.with 1 loc).at_ i=none:=fun loc i hi=>by rw [Env.with_ne (by omega)];exact hsr.new i (by omega)
  have hvl:vs'.length=n' * size:=ho.1
  have htr:∀ (loc:Option Loc) (hloc:∀ l,loc=some l→∃ l0:Loc,E.at_ 0=some (some l0)∧l0.g=l.g),Trs (fun g=>w.heap.size≤g∨M g) (E.with 1 loc) [(1,⟨e,size,n',vs'.map .sc⟩)] w':=by
    intro loc hloc
    refine hsr.tr.keep rfl (fun b k p hb q1 q2 q3 q4=>⟨Nat.lt_of_lt_of_le q1 hg.size,hg.block b q1 fun heq=>?_,.inr q2,q3,fun j y l hj hl=>?_⟩) fun k x' hx' j ty sz m cs hj=>?_
    · rcases hblk with h5|⟨l,h6,_,_,h7⟩
      · rw [h5] at heq;cases heq
      · rw [h7] at heq;injection heq with heq;exact q4 0 _ l (List.mem_singleton.2 rfl) h6 heq.symm
    · simp only [List.mem_singleton,Prod.mk.injEq] at hj
      rw [hj.1,Env.with_at] at hl
      injection hl with hl
      obtain ⟨l0,h5,h6⟩:=hloc l hl
      rw [← h6]
      exact q4 0 _ l0 (List.mem_singleton.2 rfl) h5
    · simp only [List.mem_singleton,Prod.mk.injEq] at hx'
      obtain ⟨rfl,rfl⟩:=hx'
      have hj':(vs'.map D.sc)[j]? = some (.tr ty sz m cs):=hj
      rw [List.getElem?_map] at hj'
      cases hq:vs'[j]? <;>rw [hq] at hj'<;>cases hj'
  have hnd:(([(1,(⟨e,size,n',vs'.map .sc⟩:Ob))]:List (Nat × Ob)).map (·.1)).Nodup:=by simp
  rcases ho.2 with ⟨hu0,hn0⟩|⟨g,cap,cur,hu0,hb0,c1,c2,c3,c4,c5⟩
  · subst hu0;subst hn0
    refine ⟨.own 1 0 0,_,2,E.with 1 none,.slice none 0 0,⟨rfl,rfl,rfl⟩,rfl,.inr ⟨Env.with_at,rfl,rfl,rfl⟩,⟨fun i x hi=>?_,hat1 none,hsr.rolt.grow (fun _ h=>h) hro9 fun b hb=>Nat.lt_of_lt_of_le (hsr.rolt b hb) hg.size,fun i x j y hi hj hij=>?_,hnd,htr none (fun l h=>by cases h)⟩,by omega,Env.with_le hnew,hg.os,hg.tape,hg.output,hg.size,hrow,fun b hb=>.inl hb,fun i l hi hl=>?_⟩
    · simp only [List.mem_singleton,Prod.mk.injEq] at hi
      obtain ⟨rfl,rfl⟩:=hi
      exact ⟨fun _=>by simpa using hvl,.inl ⟨Env.with_at,rfl⟩⟩
    · simp only [List.mem_singleton,Prod.mk.injEq] at hi hj
      exact absurd (hi.1.trans hj.1.symm) hij
    · by_cases h5:i=1
      · subst h5;rw [Env.with_at] at hl;cases hl
      · rw [Env.with_ne h5,hsr.new i hi] at hl;cases hl
  · subst hu0
    have hgo:(some g:Option Nat)=(args.getD 0 undef).ownBlock:=hu
    obtain ⟨l,hl,hM,hro,hbe⟩:∃ l:Loc,E.at_ 0=some (some l)∧M l.g∧¬ E.ro l.g∧(args.getD 0 undef).ownBlock=some l.g:=by
      rcases hblk with h5|h5
      · rw [h5] at hgo;cases hgo
      · exact h5
    have hgl:g=l.g:=by rw [hbe] at hgo;injection hgo
    refine ⟨.own 1 0 n',_,2,E.with 1 (some ⟨g,cap⟩),.slice (some ⟨g,0,none⟩) n' cap,⟨rfl,rfl,rfl⟩,rfl,.inl ⟨⟨g,cap⟩,cap,Env.with_at,rfl,c2,c3,fun _=>rfl⟩,⟨fun i x hi=>?_,hat1 _,hsr.rolt.grow (fun _ h=>h) hro9 fun b hb=>Nat.lt_of_lt_of_le (hsr.rolt b hb) hg.size,fun i x j y hi hj hij=>?_,hnd,htr _ (fun l' h=>⟨l,hl,by injection h with h;rw [← h];exact hgl.symm⟩)⟩,by omega,Env.with_le hnew,hg.os,hg.tape,hg.output,hg.size,hrow,fun b hb=>.inl hb,fun i l' hi hl'=>?_⟩
    · simp only [List.mem_singleton,Prod.mk.injEq] at hi
      obtain ⟨rfl,rfl⟩:=hi
      refine ⟨fun _=>by simpa using hvl,.inr ⟨⟨g,cap⟩,Env.with_at,.inr (hgl ▸ hM),by rw [hgl];exact hro,c2,c3,.inl ⟨cur,.inl c1,c4,fun j d hd=>?_⟩⟩⟩
      have hd':(vs'.map D.sc)[j]? = some d:=hd
      rw [List.getElem?_map] at hd'
      cases hq:vs'[j]? with
      |none=>rw [hq] at hd';cases hd'
      |some v=>
        rw [hq] at hd'
        injection hd' with hd'
        subst hd'
        have hjl:j < n' * size:=by rw [← hvl];exact (List.getElem?_eq_some_iff.1 hq).1
        have hone:=h1 v (List.mem_of_getElem? hq)
        rw [← c5,List.getElem?_take,if_pos hjl,Array.getElem?_toList] at hq
        exact ⟨v,hq,hone,rfl,hone⟩
    · simp only [List.mem_singleton,Prod.mk.injEq] at hi hj
      exact absurd (hi.1.trans hj.1.symm) hij
    · by_cases h5:i=1
      · subst h5
        rw [Env.with_at] at hl'
        injection hl' with hl'
        injection hl' with hl'
        subst hl'
        exact .inr (hgl ▸ hM)
      · rw [Env.with_ne h5,hsr.new i hi] at hl';cases hl'
theorem deleteFile_D (fs:List FileD) (k:Nat) (hk:k < fs.length) (hn:fs.length≤1048576):SpecH Tryz.prog 247 [.own 0 0 fs.length,.sc (.int .i64 (k:Int)),.sc (.int .i64 ((k:Int)+1))] [(0,⟨160,3,fs.length,filesD fs⟩)] 1
    (fun d os' nb'=>d = .own 1 0 (fs.eraseIdx k).length∧os' = [(1,⟨160,3,(fs.eraseIdx k).length,filesD (fs.eraseIdx k)⟩)]∧nb' = 2):=by
  have h:=specH_row (P:=Tryz.prog) (f:=247) (scs:= [.int .i64 (k:Int),.int .i64 ((k:Int)+1)]) (callable Tryz.func247 rfl (by kernel_rfl)) (file_one (fs.eraseIdx k)) (flen fs) (by decide) (by decide) fun v base w ho=>deleteFile_any v fs k base hk w ho hn
  rw [enc_files,enc_files] at h
  exact h
end Go.Proofs.YtgoeccemfgniiaaGreat
