/- Tlr (what is wanted of them). -/
import Derived.Test.YtidjjfjhmlndjaaGreatDoorVTnr
namespace Go.Proofs.YtidjjfjhmlndjaaGreatDoor
open Go.RowKit Go.Sort Go.Shelf
set_option linter.unusedVariables false
set_option linter.unusedSimpArgs false
theorem cmpFlags_any (a b:Bool) (w:World):Calls Tryz.prog 254 #[.bool a,.bool b] w fun e w'=>e = .returned (.int .i64 (cmpF a b))∧w' = w:=by
  cases a<;>cases b<;>(go_enter Tryz.func254,Tryz.ntmps254;go_wp2;go_ret;exact ⟨rfl,rfl⟩)
def or4 (a b c d:Int):Int:=orN (fun k=> [a,b,c,d].getD k default) 4
set_option maxRecDepth 100000 in
set_option maxHeartbeats 2000000 in
theorem cmpTolers_any (k1 k2 v1 v2:ByteArray) (e1 e2:Bool) (o1 o2:Int) (w:World):Calls Tryz.prog 193 #[.agg #[.string k1,.bool e1,.string v1,.int .i64 o1],.agg #[.string k2,.bool e2,.string v2,.int .i64 o2]] w fun e w'=>e = .returned (.int .i64 (or4 (cmpB k1 k2) (cmpF e1 e2) (cmpB v1 v2) (cmpI o1 o2)))∧∃ q os',w' = grow (w.drewN q) os':=by
  go_enter Tryz.func193,Tryz.ntmps193
  go_wp2
  refine wp_region_still_tail 20 (by kernel_rfl) (by kernel_rfl) ?_
  simp only [List.take_succ_cons,List.take_zero,List.drop_succ_cons,List.drop_zero]
  have hW:∃ W:World,W={ ((w.alloc (.cells #[.string k1,.bool e1,.string v1,.int .i64 o1] 145)).alloc (.cells #[.string k2,.bool e2,.string v2,.int .i64 o2] 145)) with drawn:=((w.alloc (.cells #[.string k1,.bool e1,.string v1,.int .i64 o1] 145)).alloc (.cells #[.string k2,.bool e2,.string v2,.int .i64 o2] 145)).drawn+1 }:=⟨_,rfl⟩
  obtain ⟨W,hW⟩:=hW
  have f0:W.cell? ⟨w.heap.size,0,none⟩=some (.string k1):=by rw [hW];show World.cell? (World.drew ((w.alloc (.cells #[.string k1,.bool e1,.string v1,.int .i64 o1] 145)).alloc (.cells #[.string k2,.bool e2,.string v2,.int .i64 o2] 145))) _=_;simp
  have f1:W.cell? ⟨w.heap.size,1,none⟩=some (.bool e1):=by rw [hW];show World.cell? (World.drew ((w.alloc (.cells #[.string k1,.bool e1,.string v1,.int .i64 o1] 145)).alloc (.cells #[.string k2,.bool e2,.string v2,.int .i64 o2] 145))) _=_;simp
  have f2:W.cell? ⟨w.heap.size,2,none⟩=some (.string v1):=by rw [hW];show World.cell? (World.drew ((w.alloc (.cells #[.string k1,.bool e1,.string v1,.int .i64 o1] 145)).alloc (.cells #[.string k2,.bool e2,.string v2,.int .i64 o2] 145))) _=_;simp
  have f3:W.cell? ⟨w.heap.size,3,none⟩=some (.int .i64 o1):=by rw [hW];show World.cell? (World.drew ((w.alloc (.cells #[.string k1,.bool e1,.string v1,.int .i64 o1] 145)).alloc (.cells #[.string k2,.bool e2,.string v2,.int .i64 o2] 145))) _=_;simp
  have g0:W.cell? ⟨w.heap.size+1,0,none⟩=some (.string k2):=by rw [hW];show World.cell? (World.drew ((w.alloc (.cells #[.string k1,.bool e1,.string v1,.int .i64 o1] 145)).alloc (.cells #[.string k2,.bool e2,.string v2,.int .i64 o2] 145))) _=_;simp
  have g1:W.cell? ⟨w.heap.size+1,1,none⟩=some (.bool e2):=by rw [hW];show World.cell? (World.drew ((w.alloc (.cells #[.string k1,.bool e1,.string v1,.int .i64 o1] 145)).alloc (.cells #[.string k2,.bool e2,.string v2,.int .i64 o2] 145))) _=_;simp
  have g2:W.cell? ⟨w.heap.size+1,2,none⟩=some (.string v2):=by rw [hW];show World.cell? (World.drew ((w.alloc (.cells #[.string k1,.bool e1,.string v1,.int .i64 o1] 145)).alloc (.cells #[.string k2,.bool e2,.string v2,.int .i64 o2] 145))) _=_;simp
  have g3:W.cell? ⟨w.heap.size+1,3,none⟩=some (.int .i64 o2):=by rw [hW];show World.cell? (World.drew ((w.alloc (.cells #[.string k1,.bool e1,.string v1,.int .i64 o1] 145)).alloc (.cells #[.string k2,.bool e2,.string v2,.int .i64 o2] 145))) _=_;simp
  have hs:W.heap.size=w.heap.size+2:=by rw [hW];simp
  rw [← hW]
  have HW:=Lib.hid hW
  clear hW
  repeat still_step
  still_call (Tryz.strings_Compare _ _ _)
  repeat still_step
  still_call (cmpFlags_any _ _ _)
  repeat still_step
  still_call (Tryz.strings_Compare _ _ _)
  repeat still_step
  still_call (cmpInt_any _ _ _)
  repeat still_step
  refine wpStill_nil ?_
  generalize hz0:Lib.compareBytes k1.data.toList k2.data.toList=z0
  generalize hz1:cmpF e1 e2=z1
  generalize hz2:Lib.compareBytes v1.data.toList v2.data.toList=z2
  generalize hz3:cmpI o1 o2=z3
  have hO:Calls Tryz.prog 113 #[.slice (some ⟨w.heap.size+2,0,none⟩) 4 4] (W.alloc (.cells #[.int .i64 z0,.int .i64 z1,.int .i64 z2,.int .i64 z3] 3)) fun e w'=>e = .returned (.int .i64 (or4 z0 z1 z2 z3))∧w' = W.alloc (.cells #[.int .i64 z0,.int .i64 z1,.int .i64 z2,.int .i64 z3] 3):=
    orInt_any [z0, z1, z2, z3] (w.heap.size + 2) 4 _ (show 4 ≤ 100 by decide) (fun k hk => by
      rw [← hs]
      match k,hk with
      |0,_=>exact World.cell?_alloc_new W _ _ 0
      |1,_=>exact World.cell?_alloc_new W _ _ 1
      |2,_=>exact World.cell?_alloc_new W _ _ 2
      | 3, _ => exact World.cell?_alloc_new W _ _ 3)
  have HZ:Hid (or4 z0 z1 z2 z3=or4 (cmpB k1 k2) (cmpF e1 e2) (cmpB v1 v2) (cmpI o1 o2)):=Lib.hid (by rw [← hz1,← hz3,← hz2,← hz0];rfl)
  clear hz0 hz1 hz2 hz3
  go_wp2_with (go_at_call 113;refine hO.mono ?_;rintro e w' ⟨rfl,rfl⟩)
  go_ret
  refine ⟨congrArg (fun z=>Ending.returned (.int .i64 z)) HZ.out,1,#[.cells #[.string k1,.bool e1,.string v1,.int .i64 o1] 145,.cells #[.string k2,.bool e2,.string v2,.int .i64 o2] 145,.cells #[.int .i64 z0,.int .i64 z1,.int .i64 z2,.int .i64 z3] 3],?_⟩
  rw [HW.out]
  exact grow3 w _ _ _
def fLess (a b:Bool):Bool:=!a&&b
theorem fLess_sto:STO fLess:=⟨fun a=>by cases a<;>rfl,fun a b c=>by cases a<;>cases b<;>cases c<;>simp [fLess],fun a b=>by cases a<;>cases b<;>simp [fLess]⟩
def evLess (a b:Bool × ByteArray × Int):Bool:=if a.1==b.1 then veLess a.2 b.2 else b.1
theorem evLess_sto:STO evLess:=fLess_sto.lex veLess_sto Prod.fst Prod.snd (fun a b h1 h2=>Prod.ext h1 h2) fun a b=>by
  obtain ⟨a1,a2⟩:=a
  obtain ⟨b1,b2⟩:=b
  unfold evLess fLess
  cases a1<;>cases b1<;>simp
theorem tolerLess_sto : STO tolerLess := lessB_sto.lex evLess_sto TolerD.key (fun n => (n.equal, n.value, n.effect)) (fun a b h1 h2 => by
  obtain ⟨k,q,o,v⟩:=a
  obtain ⟨k',q',o',v'⟩:=b
  injection h2 with h2 h3
  injection h3 with h3 h4
  subst h1;subst h2;subst h3;subst h4
  rfl) fun a b => by
  unfold tolerLess evLess veLess
  cases h:eqB a.key b.key with
  |true=>
    have h':=eqB_eq h
    rw [if_pos rfl,h',lessB_irr]
    simp
  |false=>
    rw [if_neg (by decide)]
    simp [eqB_nq h]
def tolE (xs:List TolerD) (i:Nat):List Value:= [.string (xs.getD i default).key,.bool (xs.getD i default).equal,.string (xs.getD i default).value,.int .i64 (xs.getD i default).effect]
def tolC (xs:List TolerD) (i j:Nat):Int:=cmpToler (xs.getD i default) (xs.getD j default)
theorem tolC_lt (xs:List TolerD) (i j:Nat):ltOf (tolC xs) i j=tolerLess (xs.getD i default) (xs.getD j default):=cmpToler_lt _ _
theorem tolC_swo (xs:List TolerD):SWO (ltOf (tolC xs)) where
  irrefl i:=by rw [tolC_lt];exact tolerLess_sto.irr _
  trans i j k h1 h2:=by rw [tolC_lt] at *;exact tolerLess_sto.tr _ _ _ h1 h2
  ntrans i j k h1 h2:=by rw [tolC_lt] at *;exact tolerLess_sto.neg h1 h2
theorem tolLays {blk:Nat}{w:World}{xs:List TolerD} (size:Nat):CmpLays Tryz.prog 193 #[] (tolE xs) 4 (tolC xs) blk 0 size w:=by
  intro m os dk _ x y
  exact cmpTolers_any _ _ _ _ _ _ _ _ _
theorem tolE_len (xs:List TolerD) (i:Nat):(tolE xs i).length=4:=rfl
theorem tolE_one (xs:List TolerD) (i:Nat):∀ v ∈ tolE xs i,v.oneCell' = true:=by
  intro v hv
  simp only [tolE,List.mem_cons,List.not_mem_nil,or_false] at hv
  rcases hv with rfl|rfl|rfl|rfl<;>rfl
theorem tol_holds {w:World}{g:Nat}{ty:Nat}{xs:List TolerD}{cur:Array Value} (hc0:w.heap[g]? = some (.cells cur ty (0,0))) (hcells:∀ i,i < xs.length→∀ r,r < 4→cur[i*4+r]? = (tolE xs i)[r]?) (d:Array Nat) (hd:∀ i,i < d.size→d[i]! < xs.length∧d[i]! = i):HoldsK (tolE xs) 4 w g 0 d:=by
  intro j hj
  rw [size_flatK] at hj
  have hq:j / 4 < d.size:=by omega
  obtain ⟨h1,h2⟩:=hd (j / 4) hq
  refine ⟨?_,?_⟩
  · rw [get_flatK _ _ _ _ hj,h2,cell_of_row w g _ cur _ _ hc0,Nat.zero_add]
    have h3:=hcells (j / 4) (by omega) (j % 4) (by omega)
    rw [show j / 4*4+j % 4=j by omega] at h3
    rw [h3]
    have h4:j % 4 < (tolE xs (j / 4)).length:=by rw [tolE_len];omega
    rw [List.getElem?_eq_getElem h4]
    simp [getElem!_pos,h4]
  · unfold World.frozen?
    simp [hc0]
set_option maxHeartbeats 1000000 in
theorem sortTolers_H (xs:List TolerD) (hn:xs.length≤1048576):SpecH Tryz.prog 192 [.own 0 0 xs.length,.fn 193 []] [(0,⟨145,4,xs.length,tolersD xs⟩)] 1
    (fun d os' nb'=>d = .tup []∧(∃ ys:List TolerD,ys.Perm xs∧(ys.Pairwise fun a b=>tolerLess b a=false)∧os' = [(0,⟨145,4,xs.length,tolersD ys⟩)])∧nb' = 1):=by
  refine ⟨callable Tryz.func192 rfl (by kernel_rfl),fun E M w args hsr hsz hrep=>?_⟩
  obtain ⟨v,fv,rfl⟩:=args2 hsz
  have h0:Rep E w (.own 0 0 xs.length) v:=hrep 0 _ rfl
  have hf:Rep E w (.fn 193 []) fv:=hrep 1 _ rfl
  obtain ⟨us,rfl,hul,_⟩:=hf
  obtain rfl:us = []:=List.eq_nil_of_length_eq_zero hul
  have hsame : SR (fun g => w.heap.size ≤ g ∨ M g) E [(0, ⟨145, 4, xs.length, tolersD xs⟩)] 1 w := ⟨fun i x hi => by
      have:=hsr.obs i x hi
      refine ⟨this.1,this.2.imp_right ?_⟩
      rintro ⟨l,q1,q2,q3⟩
      exact ⟨l, q1, .inr q2, q3⟩, hsr.new, hsr.rolt, hsr.apart, hsr.nodup, ⟨fun b i p hb => by obtain ⟨q1, q2, q3⟩ := hsr.tr.blk b i p hb; exact ⟨q1, .inr q2, q3⟩, hsr.tr.cell⟩⟩
  have hemp:xs = []→∀ (p:Option Addr) (c:Nat),v = .slice p 0 c→Calls Tryz.prog 192 #[v,.func (.func 193) #[] ([]:List Value).toArray] w fun e w'=>∃ d os' nb' E' u,(d = .tup []∧(∃ ys:List TolerD,ys.Perm xs∧(ys.Pairwise fun a b=>tolerLess b a=false)∧os' = [(0,⟨145,4,xs.length,tolersD ys⟩)])∧nb' = 1)∧e = .returned u∧Rep E' w' d u∧SR (fun g=>w.heap.size≤g∨M g) E' os' nb' w'∧1≤nb'∧E.le E'∧
      w'.os=w.os∧w'.tape=w.tape∧w'.output=w.output∧w.heap.size≤w'.heap.size∧(∀ b,b < w.heap.size→¬ M b→w'.heap[b]? = w.heap[b]?)∧(∀ b,E'.ro b→E.ro b∨w.heap.size≤b∨M b)∧(∀ i l,1≤i→E'.at_ i=some (some l)→w.heap.size≤l.g∨M l.g):=by
    intro hx p c hvp
    subst hvp
    refine (AnyF.slices_SortFunc_none Tryz.sortToler p c _ w).mono ?_
    rintro e w' ⟨rfl,rfl⟩
    refine ⟨.tup [],_,1,E,.tuple #[],⟨rfl,⟨xs,List.Perm.refl _,?_,rfl⟩,rfl⟩,rfl,⟨[],rfl,rfl,fun j d u hd=>by simp at hd⟩,hsame,Nat.le_refl _,.refl E,rfl,rfl,rfl,Nat.le_refl _,fun _ _ _=>rfl,fun b hb=>.inl hb,fun i l hi hil=>by rw [hsr.new i hi] at hil;cases hil⟩
    rw [hx];exact List.Pairwise.nil
  rcases h0 with ⟨l,c,hl,rfl,hnc,hcm,hcc⟩|⟨_,_,hn0,rfl⟩
  · by_cases hx:xs = []
    · subst hx
      exact hemp rfl _ _ rfl
    · have hob:=hsr.obs 0 _ (List.mem_singleton.2 rfl)
      obtain ⟨cur,hc0,hcsz,hcur,hMl⟩:∃ cur,w.heap[l.g]? = some (.cells cur 145 (0,0))∧cur.size=l.cap*4∧(∀ (j:Nat) (d:D),(tolersD xs)[j]? = some d→∃ u,cur[j]? = some u∧u.oneCell' = true∧Rep1 E w d u)∧M l.g:=by
        rcases hob.2 with ⟨h5,_⟩|⟨m,h5,h6,h7,h8,h9,h10⟩
        · rw [hl] at h5;cases h5
        · rw [hl] at h5;injection h5 with h5;injection h5 with h5;subst h5
          rcases h10 with ⟨cur,c1,c2,c3⟩|⟨c1,_⟩
          · exact ⟨cur,c1.row (by show ¬ 145=1000000;decide),c2,c3,h6⟩
          · exact absurd c1 (by show ¬ (4=0);decide)
      have hcells:∀ i,i < xs.length→∀ r,r < 4→cur[i*4+r]? = (tolE xs i)[r]? :=fun i hi r hr=>by
        match r,hr with
        |0,_=>
          obtain ⟨u,h1,_,h2⟩:=hcur (i*4) _ (tolersD_f0 xs i hi)
          show cur[i*4]? = some _
          rw [h1,h2.1]
        |1,_=>
          obtain ⟨u,h1,_,h2⟩:=hcur (i*4+1) _ (tolersD_f1 xs i hi)
          show cur[i*4+1]? = some _
          rw [h1,h2.1]
        |2,_=>
          obtain ⟨u,h1,_,h2⟩:=hcur (i*4+2) _ (tolersD_f2 xs i hi)
          show cur[i*4+2]? = some _
          rw [h1,h2.1]
        |3,_=>
          obtain ⟨u,h1,_,h2⟩:=hcur (i*4+3) _ (tolersD_f3 xs i hi)
          show cur[i*4+3]? = some _
          rw [h1,h2.1]
      have hblk:l.g < w.heap.size:=(Array.getElem?_eq_some_iff.1 hc0).1
      have hH:=tol_holds hc0 hcells (Array.range xs.length) fun i hi=>by
        have hi':i < xs.length:=by simpa using hi
        rw [getElem!_pos _ i hi,Array.getElem_range]
        exact ⟨hi',rfl⟩
      have hcall:=AnyQ.slices_SortFunc Tryz.sortToler 4 Tryz.isAgg145 Tryz.sizeOf145 (tolE xs) (tolE_len xs) (tolE_one xs) (tolC xs) (tolC_swo xs) 193 #[] l.g 0 c (Array.range xs.length) w (callable Tryz.func193 rfl (by kernel_rfl)) (tolLays _) hH hblk (by rw [Array.size_range];omega)
      rw [Array.size_range] at hcall
      refine hcall.mono ?_
      rintro e w' ⟨rfl,d',n,os,hp,hs,rfl⟩
      obtain ⟨hσ,hperm,hpair⟩:=sorted_list (lt:=tolerLess) (tolC_lt xs) (by rw [Array.size_range];exact hp) (by rw [Array.size_range];exact hs)
      have hdl:d'.toList.length=xs.length:=by rw [hσ.length_eq,List.length_range]
      obtain ⟨cur',hc1,hc2⟩:=sortW_row (tolE xs) 4 w l.g n d' os hc0
      have hH2:=holdsK_sortWorldK_c (tolE xs) 4 w l.g 0 (Array.range xs.length) d' n os hH hblk (by rw [Array.size_range,← Array.length_toList,hdl])
      have hdlt:∀ q,q ∈ d'.toList→q < xs.length:=fun q hq=>List.mem_range.1 (hσ.mem_iff.1 hq)
      obtain ⟨E', hE1, hE2, hsr'⟩ := sel_sr (cells := tolerCells) tolerCells_len (by decide) (fun _ => rfl) hsr hl hc0 d'.toList hdlt (hσ.nodup_iff.2 List.nodup_range) (by omega) hc2 (by rw [hc1, hcsz]) (fun q r hq hr => by
        have hq':q < d'.size:=by simpa using hq
        have e1:=(HoldsK.cells hH2 (tolE_len xs) hq')
        have hmem:d'[q]! < xs.length:=by rw [getElem!_pos d' q hq'];exact hdlt _ (by simp)
        have e2:d'.toList.getD q 0=d'[q]! :=by
          rw [List.getD_eq_getElem?_getD,List.getElem?_eq_getElem hq,getElem!_pos d' q hq']
          simp
        rw [e2,hcells _ hmem r hr]
        have h4:r < (tolE xs d'[q]!).length:=hr
        have e3:=e1 r _ (List.getElem?_eq_getElem h4)
        rw [Addr.add_lit,Nat.zero_add,cell_of_row _ l.g _ cur' _ _ hc2] at e3
        rw [e3, List.getElem?_eq_getElem h4]) (sortW_size ..) (fun b hb hne => sortW_old _ _ _ _ _ _ _ b hb hne)
      refine ⟨.tup [],_,1,E',.tuple #[],⟨rfl,⟨_,hperm,hpair,?_⟩,rfl⟩,rfl,⟨[],rfl,rfl,fun j d u hd=>by simp at hd⟩,hsr',Nat.le_refl _,⟨fun i m hm=>by rw [hE1];exact hm,fun b hb=>by rw [hE2];exact hb⟩,rfl,rfl,rfl,sortW_size ..,fun b hb hm=>sortW_old _ _ _ _ _ _ _ b hb (fun e=>hm (e ▸ hMl)),fun b hb=>.inl (by rw [hE2] at hb;exact hb),fun i m hi him=>by rw [hE1,hsr.new i hi] at him;cases him⟩
      rw [hdl]
      rfl
  · exact hemp (List.eq_nil_of_length_eq_zero hn0) _ _ rfl
end Go.Proofs.YtidjjfjhmlndjaaGreatDoor
