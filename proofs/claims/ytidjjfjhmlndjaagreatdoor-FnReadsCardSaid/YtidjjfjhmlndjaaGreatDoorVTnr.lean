/- Tnr (what is wanted of them). -/
import Derived.Test.YtidjjfjhmlndjaaGreatDoorVSrx
namespace Go.Proofs.YtidjjfjhmlndjaaGreatDoor
open Go.RowKit Go.Sort Go.Shelf
set_option linter.unusedVariables false
set_option linter.unusedSimpArgs false
set_option maxRecDepth 100000 in
set_option maxHeartbeats 2000000 in
theorem cmpTaints_any (k1 k2 v1 v2:ByteArray) (o1 o2:Int) (w:World):Calls Tryz.prog 167 #[.agg #[.string k1,.string v1,.int .i64 o1],.agg #[.string k2,.string v2,.int .i64 o2]] w fun e w'=>e = .returned (.int .i64 (or3 (cmpB k1 k2) (cmpB v1 v2) (cmpI o1 o2)))∧∃ q os',w' = grow (w.drewN q) os':=by
  go_enter Tryz.func167,Tryz.ntmps167
  go_wp2
  refine wp_region_still_tail 15 (by kernel_rfl) (by kernel_rfl) ?_
  simp only [List.take_succ_cons,List.take_zero,List.drop_succ_cons,List.drop_zero]
  have hW:∃ W:World,W={ ((w.alloc (.cells #[.string k1,.string v1,.int .i64 o1] 118)).alloc (.cells #[.string k2,.string v2,.int .i64 o2] 118)) with drawn:=((w.alloc (.cells #[.string k1,.string v1,.int .i64 o1] 118)).alloc (.cells #[.string k2,.string v2,.int .i64 o2] 118)).drawn+1 }:=⟨_,rfl⟩
  obtain ⟨W,hW⟩:=hW
  have f0:W.cell? ⟨w.heap.size,0,none⟩=some (.string k1):=by rw [hW];show World.cell? (World.drew ((w.alloc (.cells #[.string k1,.string v1,.int .i64 o1] 118)).alloc (.cells #[.string k2,.string v2,.int .i64 o2] 118))) _=_;simp
  have f1:W.cell? ⟨w.heap.size,1,none⟩=some (.string v1):=by rw [hW];show World.cell? (World.drew ((w.alloc (.cells #[.string k1,.string v1,.int .i64 o1] 118)).alloc (.cells #[.string k2,.string v2,.int .i64 o2] 118))) _=_;simp
  have f2:W.cell? ⟨w.heap.size,2,none⟩=some (.int .i64 o1):=by rw [hW];show World.cell? (World.drew ((w.alloc (.cells #[.string k1,.string v1,.int .i64 o1] 118)).alloc (.cells #[.string k2,.string v2,.int .i64 o2] 118))) _=_;simp
  have g0:W.cell? ⟨w.heap.size+1,0,none⟩=some (.string k2):=by rw [hW];show World.cell? (World.drew ((w.alloc (.cells #[.string k1,.string v1,.int .i64 o1] 118)).alloc (.cells #[.string k2,.string v2,.int .i64 o2] 118))) _=_;simp
  have g1:W.cell? ⟨w.heap.size+1,1,none⟩=some (.string v2):=by rw [hW];show World.cell? (World.drew ((w.alloc (.cells #[.string k1,.string v1,.int .i64 o1] 118)).alloc (.cells #[.string k2,.string v2,.int .i64 o2] 118))) _=_;simp
  have g2:W.cell? ⟨w.heap.size+1,2,none⟩=some (.int .i64 o2):=by rw [hW];show World.cell? (World.drew ((w.alloc (.cells #[.string k1,.string v1,.int .i64 o1] 118)).alloc (.cells #[.string k2,.string v2,.int .i64 o2] 118))) _=_;simp
  have hs:W.heap.size=w.heap.size+2:=by rw [hW];simp
  rw [← hW]
  have HW:=Lib.hid hW
  clear hW
  repeat still_step
  still_call (Tryz.strings_Compare _ _ _)
  repeat still_step
  still_call (Tryz.strings_Compare _ _ _)
  repeat still_step
  still_call (cmpInt_any _ _ _)
  repeat still_step
  refine wpStill_nil ?_
  generalize hz0:Lib.compareBytes k1.data.toList k2.data.toList=z0
  generalize hz1:Lib.compareBytes v1.data.toList v2.data.toList=z1
  generalize hz2:cmpI o1 o2=z2
  have hO:Calls Tryz.prog 113 #[.slice (some ⟨w.heap.size+2,0,none⟩) 3 3] (W.alloc (.cells #[.int .i64 z0,.int .i64 z1,.int .i64 z2] 3)) fun e w'=>e = .returned (.int .i64 (or3 z0 z1 z2))∧w' = W.alloc (.cells #[.int .i64 z0,.int .i64 z1,.int .i64 z2] 3):=
    orInt_any [z0, z1, z2] (w.heap.size + 2) 3 _ (show 3 ≤ 100 by decide) (fun k hk => by
      rw [← hs]
      match k,hk with
      |0,_=>exact World.cell?_alloc_new W _ _ 0
      |1,_=>exact World.cell?_alloc_new W _ _ 1
      | 2, _ => exact World.cell?_alloc_new W _ _ 2)
  have HZ:Hid (or3 z0 z1 z2=or3 (cmpB k1 k2) (cmpB v1 v2) (cmpI o1 o2)):=Lib.hid (by rw [← hz1,← hz2,← hz0];rfl)
  clear hz0 hz1 hz2
  go_wp2_with (go_at_call 113;refine hO.mono ?_;rintro e w' ⟨rfl,rfl⟩)
  go_ret
  refine ⟨congrArg (fun z=>Ending.returned (.int .i64 z)) HZ.out,1,#[.cells #[.string k1,.string v1,.int .i64 o1] 118,.cells #[.string k2,.string v2,.int .i64 o2] 118,.cells #[.int .i64 z0,.int .i64 z1,.int .i64 z2] 3],?_⟩
  rw [HW.out]
  exact grow3 w _ _ _
def veLess (a b:ByteArray × Int):Bool:=if eqB a.1 b.1 then decide (a.2 < b.2) else lessB a.1 b.1
theorem veLess_sto:STO veLess:=lessB_sto.lex intLess_sto Prod.fst Prod.snd (fun a b h1 h2=>Prod.ext h1 h2) fun a b=>by
  unfold veLess intLess
  cases h:eqB a.1 b.1 with
  |true=>
    have h':=eqB_eq h
    rw [if_pos rfl,h',lessB_irr]
    simp
  |false=>
    rw [if_neg (by decide)]
    simp [eqB_nq h]
theorem taintLess_sto : STO taintLess := lessB_sto.lex veLess_sto TaintD.key (fun n => (n.value, n.effect)) (fun a b h1 h2 => by
  obtain ⟨k,o,v⟩:=a
  obtain ⟨k',o',v'⟩:=b
  injection h2 with h2 h3
  subst h1;subst h2;subst h3
  rfl) fun a b => by
  unfold taintLess veLess
  cases h:eqB a.key b.key with
  |true=>
    have h':=eqB_eq h
    rw [if_pos rfl,h',lessB_irr]
    simp
  |false=>
    rw [if_neg (by decide)]
    simp [eqB_nq h]
def tntE (xs:List TaintD) (i:Nat):List Value:= [.string (xs.getD i default).key,.string (xs.getD i default).value,.int .i64 (xs.getD i default).effect]
def tntC (xs:List TaintD) (i j:Nat):Int:=cmpTaint (xs.getD i default) (xs.getD j default)
theorem tntC_lt (xs:List TaintD) (i j:Nat):ltOf (tntC xs) i j=taintLess (xs.getD i default) (xs.getD j default):=cmpTaint_lt _ _
theorem tntC_swo (xs:List TaintD):SWO (ltOf (tntC xs)) where
  irrefl i:=by rw [tntC_lt];exact taintLess_sto.irr _
  trans i j k h1 h2:=by rw [tntC_lt] at *;exact taintLess_sto.tr _ _ _ h1 h2
  ntrans i j k h1 h2:=by rw [tntC_lt] at *;exact taintLess_sto.neg h1 h2
theorem tntLays {blk:Nat}{w:World}{xs:List TaintD} (size:Nat):CmpLays Tryz.prog 167 #[] (tntE xs) 3 (tntC xs) blk 0 size w:=by
  intro m os dk _ x y
  exact cmpTaints_any _ _ _ _ _ _ _
theorem tntE_len (xs:List TaintD) (i:Nat):(tntE xs i).length=3:=rfl
theorem tntE_one (xs:List TaintD) (i:Nat):∀ v ∈ tntE xs i,v.oneCell' = true:=by
  intro v hv
  simp only [tntE,List.mem_cons,List.not_mem_nil,or_false] at hv
  rcases hv with rfl|rfl|rfl<;>rfl
theorem tnt_holds {w:World}{g:Nat}{ty:Nat}{xs:List TaintD}{cur:Array Value} (hc0:w.heap[g]? = some (.cells cur ty (0,0))) (hcells:∀ i,i < xs.length→∀ r,r < 3→cur[i*3+r]? = (tntE xs i)[r]?) (d:Array Nat) (hd:∀ i,i < d.size→d[i]! < xs.length∧d[i]! = i):HoldsK (tntE xs) 3 w g 0 d:=by
  intro j hj
  rw [size_flatK] at hj
  have hq:j / 3 < d.size:=by omega
  obtain ⟨h1,h2⟩:=hd (j / 3) hq
  refine ⟨?_,?_⟩
  · rw [get_flatK _ _ _ _ hj,h2,cell_of_row w g _ cur _ _ hc0,Nat.zero_add]
    have h3:=hcells (j / 3) (by omega) (j % 3) (by omega)
    rw [show j / 3*3+j % 3=j by omega] at h3
    rw [h3]
    have h4:j % 3 < (tntE xs (j / 3)).length:=by rw [tntE_len];omega
    rw [List.getElem?_eq_getElem h4]
    simp [getElem!_pos,h4]
  · unfold World.frozen?
    simp [hc0]
set_option maxHeartbeats 1000000 in
theorem sortTaints_H (xs:List TaintD) (hn:xs.length≤1048576):SpecH Tryz.prog 166 [.own 0 0 xs.length,.fn 167 []] [(0,⟨118,3,xs.length,taintsD xs⟩)] 1
    (fun d os' nb'=>d = .tup []∧(∃ ys:List TaintD,ys.Perm xs∧(ys.Pairwise fun a b=>taintLess b a=false)∧os' = [(0,⟨118,3,xs.length,taintsD ys⟩)])∧nb' = 1):=by
  refine ⟨callable Tryz.func166 rfl (by kernel_rfl),fun E M w args hsr hsz hrep=>?_⟩
  obtain ⟨v,fv,rfl⟩:=args2 hsz
  have h0:Rep E w (.own 0 0 xs.length) v:=hrep 0 _ rfl
  have hf:Rep E w (.fn 167 []) fv:=hrep 1 _ rfl
  obtain ⟨us,rfl,hul,_⟩:=hf
  obtain rfl:us = []:=List.eq_nil_of_length_eq_zero hul
  have hsame : SR (fun g => w.heap.size ≤ g ∨ M g) E [(0, ⟨118, 3, xs.length, taintsD xs⟩)] 1 w := ⟨fun i x hi => by
      have:=hsr.obs i x hi
      refine ⟨this.1,this.2.imp_right ?_⟩
      rintro ⟨l,q1,q2,q3⟩
      exact ⟨l, q1, .inr q2, q3⟩, hsr.new, hsr.rolt, hsr.apart, hsr.nodup, ⟨fun b i p hb => by obtain ⟨q1, q2, q3⟩ := hsr.tr.blk b i p hb; exact ⟨q1, .inr q2, q3⟩, hsr.tr.cell⟩⟩
  have hemp:xs = []→∀ (p:Option Addr) (c:Nat),v = .slice p 0 c→Calls Tryz.prog 166 #[v,.func (.func 167) #[] ([]:List Value).toArray] w fun e w'=>∃ d os' nb' E' u,(d = .tup []∧(∃ ys:List TaintD,ys.Perm xs∧(ys.Pairwise fun a b=>taintLess b a=false)∧os' = [(0,⟨118,3,xs.length,taintsD ys⟩)])∧nb' = 1)∧e = .returned u∧Rep E' w' d u∧SR (fun g=>w.heap.size≤g∨M g) E' os' nb' w'∧1≤nb'∧E.le E'∧
      w'.os=w.os∧w'.tape=w.tape∧w'.output=w.output∧w.heap.size≤w'.heap.size∧(∀ b,b < w.heap.size→¬ M b→w'.heap[b]? = w.heap[b]?)∧(∀ b,E'.ro b→E.ro b∨w.heap.size≤b∨M b)∧(∀ i l,1≤i→E'.at_ i=some (some l)→w.heap.size≤l.g∨M l.g):=by
    intro hx p c hvp
    subst hvp
    refine (AnyF.slices_SortFunc_none Tryz.sortTaint p c _ w).mono ?_
    rintro e w' ⟨rfl,rfl⟩
    refine ⟨.tup [],_,1,E,.tuple #[],⟨rfl,⟨xs,List.Perm.refl _,?_,rfl⟩,rfl⟩,rfl,⟨[],rfl,rfl,fun j d u hd=>by simp at hd⟩,hsame,Nat.le_refl _,.refl E,rfl,rfl,rfl,Nat.le_refl _,fun _ _ _=>rfl,fun b hb=>.inl hb,fun i l hi hil=>by rw [hsr.new i hi] at hil;cases hil⟩
    rw [hx];exact List.Pairwise.nil
  rcases h0 with ⟨l,c,hl,rfl,hnc,hcm,hcc⟩|⟨_,_,hn0,rfl⟩
  · by_cases hx:xs = []
    · subst hx
      exact hemp rfl _ _ rfl
    · have hob:=hsr.obs 0 _ (List.mem_singleton.2 rfl)
      obtain ⟨cur,hc0,hcsz,hcur,hMl⟩:∃ cur,w.heap[l.g]? = some (.cells cur 118 (0,0))∧cur.size=l.cap*3∧(∀ (j:Nat) (d:D),(taintsD xs)[j]? = some d→∃ u,cur[j]? = some u∧u.oneCell' = true∧Rep1 E w d u)∧M l.g:=by
        rcases hob.2 with ⟨h5,_⟩|⟨m,h5,h6,h7,h8,h9,h10⟩
        · rw [hl] at h5;cases h5
        · rw [hl] at h5;injection h5 with h5;injection h5 with h5;subst h5
          rcases h10 with ⟨cur,c1,c2,c3⟩|⟨c1,_⟩
          · exact ⟨cur,c1.row (by show ¬ 118=1000000;decide),c2,c3,h6⟩
          · exact absurd c1 (by show ¬ (3=0);decide)
      have hcells:∀ i,i < xs.length→∀ r,r < 3→cur[i*3+r]? = (tntE xs i)[r]? :=fun i hi r hr=>by
        match r,hr with
        |0,_=>
          obtain ⟨u,h1,_,h2⟩:=hcur (i*3) _ (taintsD_f0 xs i hi)
          show cur[i*3]? = some _
          rw [h1,h2.1]
        |1,_=>
          obtain ⟨u,h1,_,h2⟩:=hcur (i*3+1) _ (taintsD_f1 xs i hi)
          show cur[i*3+1]? = some _
          rw [h1,h2.1]
        |2,_=>
          obtain ⟨u,h1,_,h2⟩:=hcur (i*3+2) _ (taintsD_f2 xs i hi)
          show cur[i*3+2]? = some _
          rw [h1,h2.1]
      have hblk:l.g < w.heap.size:=(Array.getElem?_eq_some_iff.1 hc0).1
      have hH:=tnt_holds hc0 hcells (Array.range xs.length) fun i hi=>by
        have hi':i < xs.length:=by simpa using hi
        rw [getElem!_pos _ i hi,Array.getElem_range]
        exact ⟨hi',rfl⟩
      have hcall:=AnyQ.slices_SortFunc Tryz.sortTaint 3 Tryz.isAgg118 Tryz.sizeOf118 (tntE xs) (tntE_len xs) (tntE_one xs) (tntC xs) (tntC_swo xs) 167 #[] l.g 0 c (Array.range xs.length) w (callable Tryz.func167 rfl (by kernel_rfl)) (tntLays _) hH hblk (by rw [Array.size_range];omega)
      rw [Array.size_range] at hcall
      refine hcall.mono ?_
      rintro e w' ⟨rfl,d',n,os,hp,hs,rfl⟩
      obtain ⟨hσ,hperm,hpair⟩:=sorted_list (lt:=taintLess) (tntC_lt xs) (by rw [Array.size_range];exact hp) (by rw [Array.size_range];exact hs)
      have hdl:d'.toList.length=xs.length:=by rw [hσ.length_eq,List.length_range]
      obtain ⟨cur',hc1,hc2⟩:=sortW_row (tntE xs) 3 w l.g n d' os hc0
      have hH2:=holdsK_sortWorldK_c (tntE xs) 3 w l.g 0 (Array.range xs.length) d' n os hH hblk (by rw [Array.size_range,← Array.length_toList,hdl])
      have hdlt:∀ q,q ∈ d'.toList→q < xs.length:=fun q hq=>List.mem_range.1 (hσ.mem_iff.1 hq)
      obtain ⟨E', hE1, hE2, hsr'⟩ := sel_sr (cells := taintCells) taintCells_len (by decide) (fun _ => rfl) hsr hl hc0 d'.toList hdlt (hσ.nodup_iff.2 List.nodup_range) (by omega) hc2 (by rw [hc1, hcsz]) (fun q r hq hr => by
        have hq':q < d'.size:=by simpa using hq
        have e1:=(HoldsK.cells hH2 (tntE_len xs) hq')
        have hmem:d'[q]! < xs.length:=by rw [getElem!_pos d' q hq'];exact hdlt _ (by simp)
        have e2:d'.toList.getD q 0=d'[q]! :=by
          rw [List.getD_eq_getElem?_getD,List.getElem?_eq_getElem hq,getElem!_pos d' q hq']
          simp
        rw [e2,hcells _ hmem r hr]
        have h4:r < (tntE xs d'[q]!).length:=hr
        have e3:=e1 r _ (List.getElem?_eq_getElem h4)
        rw [Addr.add_lit,Nat.zero_add,cell_of_row _ l.g _ cur' _ _ hc2] at e3
        rw [e3, List.getElem?_eq_getElem h4]) (sortW_size ..) (fun b hb hne => sortW_old _ _ _ _ _ _ _ b hb hne)
      refine ⟨.tup [],_,1,E',.tuple #[],⟨rfl,⟨_,hperm,hpair,?_⟩,rfl⟩,rfl,⟨[],rfl,rfl,fun j d u hd=>by simp at hd⟩,hsr',Nat.le_refl _,⟨fun i m hm=>by rw [hE1];exact hm,fun b hb=>by rw [hE2];exact hb⟩,rfl,rfl,rfl,sortW_size ..,fun b hb hm=>sortW_old _ _ _ _ _ _ _ b hb (fun e=>hm (e ▸ hMl)),fun b hb=>.inl (by rw [hE2] at hb;exact hb),fun i m hi him=>by rw [hE1,hsr.new i hi] at him;cases him⟩
      rw [hdl]
      rfl
  · exact hemp (List.eq_nil_of_length_eq_zero hn0) _ _ rfl
end Go.Proofs.YtidjjfjhmlndjaaGreatDoor
