/- Srx (what is wanted of them). -/
import Derived.Test.YtidjjfjhmlndjaaGreatDoorVCl6
import Derived.Test.YtidjjfjhmlndjaaGreatDoorVShelf3
import Derived.Sort.Grow
import Derived.StillTailTactics
import Derived.Test.YtidjjfjhmlndjaaGreatDoorVClx
import Derived.Test.YtidjjfjhmlndjaaGreatDoorVSox
import Derived.Test.YtidjjfjhmlndjaaGreatDoorVRal
import Derived.Test.YtidjjfjhmlndjaaGreatDoorVOpen
import Derived.Test.YtidjjfjhmlndjaaGreatDoorVShelf4
import Derived.Shelf.SlSortCmp.WholeK
import Derived.Shelf.SlSortCmp.NoneTotal
namespace Go.Proofs.YtidjjfjhmlndjaaGreatDoor
open Go.RowKit Go.Sort
theorem isNaNI_any (x:Int) (w:World):Calls Tryz.prog 207 #[.int .i64 x] w fun e w'=>e = .returned (.bool false)∧w' = w:=by
  go_enter Tryz.func207,Tryz.ntmps207
  go_wp2
  go_ret
  exact ⟨rfl,rfl⟩
set_option maxHeartbeats 1000000 in
theorem cmpInt_any (x y:Int) (w:World):Calls Tryz.prog 114 #[.int .i64 x,.int .i64 y] w fun e w'=>e = .returned (.int .i64 (cmpI x y))∧w' = w:=by
  have h1:=fun z W=>isNaNI_any z W
  by_cases hlt:x < y
  · go_enter Tryz.func114,Tryz.ntmps114
    go_wp2_with (go_at_call 207;refine (h1 _ _).mono ?_;rintro e w' ⟨rfl,rfl⟩)
    go_ret
    exact ⟨by show Ending.returned (.int .i64 (-1))=_;unfold cmpI;rw [if_pos hlt],rfl⟩
  · by_cases hgt:y < x
    · go_enter Tryz.func114,Tryz.ntmps114
      go_wp2_with (go_at_call 207;refine (h1 _ _).mono ?_;rintro e w' ⟨rfl,rfl⟩)
      go_ret
      exact ⟨by show Ending.returned (.int .i64 1)=_;unfold cmpI;rw [if_neg (by omega),if_pos (by omega)],rfl⟩
    · go_enter Tryz.func114,Tryz.ntmps114
      go_wp2_with (go_at_call 207;refine (h1 _ _).mono ?_;rintro e w' ⟨rfl,rfl⟩)
      go_ret
      exact ⟨by show Ending.returned (.int .i64 0)=_;unfold cmpI;rw [if_neg (by omega),if_neg (by omega)],rfl⟩
set_option maxHeartbeats 1000000 in
theorem orInt_any (zs:List Int) (b c:Nat) (w:World) (hl:zs.length≤100) (h:∀ (k:Nat) (hk:k < zs.length),w.cell? ⟨b,k,none⟩=some (.int .i64 zs[k])):Calls Tryz.prog 113 #[.slice (some ⟨b,0,none⟩) zs.length c] w fun e w'=>e = .returned (.int .i64 (orN (fun k=>zs.getD k default) zs.length))∧w' = w:=by
  have H:=Lib.hid h
  clear h
  go_enter Tryz.func113,Tryz.ntmps113
  go_wp2
  go_loopw [8] (fun i wr=>∃ k:Nat,k≤zs.length∧i = .int .i64 k∧Hid (∀ j,j < k→zs.getD j default=0)∧wr=w) (fun i _=>zs.length - (intOf i).toNat)
  case atStart=>exact ⟨0,by omega,rfl,Lib.hid (fun j hj=>absurd hj (Nat.not_lt_zero _)),rfl⟩
  case round=>
    obtain ⟨k,hk,rfl,hj,rfl⟩:=hrel
    by_cases hlt:k < zs.length
    · have hc:=H.out k hlt
      have hg:zs.getD k default=zs[k]:=by rw [List.getD_eq_getElem?_getD,List.getElem?_eq_getElem hlt];rfl
      have HG:=Lib.hid hg
      clear hg
      generalize zs[k]=z at hc HG
      have k0:(0:Int)≤(k:Int):=Int.natCast_nonneg _
      have k1:(k:Int) < (zs.length:Int):=by omega
      have hc0:wr.cell? ⟨b,0+k,none⟩=some (.int .i64 z):=by rw [Nat.zero_add];exact hc
      by_cases hz:z=0
      · subst hz
        go_wp2
        go_roundw
        case rel => exact ⟨k + 1, by omega, by go_num, Lib.hid (fun j h => by
          by_cases e:j=k
          · subst e;exact HG.out
          · exact hj.out j (by omega)), trivial⟩
        case measure=>simp [intOf];omega
      · go_wp2
        go_ret
        refine ⟨?_,rfl⟩
        show Ending.returned (.int .i64 z)=_
        rw [orN_hit (k:=k) hlt (by rw [HG.out];simpa using hz) (fun j h=>by rw [hj.out j h];rfl),HG.out]
    · go_wp2
      go_ret
      refine ⟨?_,rfl⟩
      show Ending.returned (.int .i64 0)=_
      rw [orN_none (k:=k) (by omega) (fun j h=>by rw [hj.out j h];rfl)]
/-- A slice whose cells are strings. -/
def StrRow (w:World) (v:Value) (xs:List ByteArray):Prop:=∃ A c,v = .slice A xs.length c∧xs.length≤9223372036854775807∧∀ (k:Nat) (h:k < xs.length),∃ b o,A=some ⟨b,o,none⟩∧b < w.heap.size∧w.cell? ⟨b,o+k,none⟩=some (.string xs[k])
theorem grow3 (w:World) (a b c:Obj):World.alloc { (w.alloc a).alloc b with drawn:=((w.alloc a).alloc b).drawn+1 } c=grow (w.drewN 1) #[a,b,c]:=by
  show (⟨((w.heap.push a).push b).push c,w.tape,w.drawn+1,w.os,w.output⟩:World)=⟨w.heap++#[a,b,c],w.tape,w.drawn+1,w.os,w.output⟩
  congr 1
theorem StrRow.keep {w w':World}{v:Value}{xs:List ByteArray} (h:StrRow w v xs) (hs:w.heap.size≤w'.heap.size) (hb:∀ b,b < w.heap.size→w'.heap[b]? = w.heap[b]?):StrRow w' v xs:=by
  obtain ⟨A,c,h1,h2,h3⟩:=h
  refine ⟨A,c,h1,h2,fun k hk=>?_⟩
  obtain ⟨b,o,h4,h5,h6⟩:=h3 k hk
  exact ⟨b,o,h4,Nat.lt_of_lt_of_le h5 hs,(World.cell?_of_block (a:=⟨b,o+k,none⟩) (hb b h5)).trans h6⟩
end Go.Proofs.YtidjjfjhmlndjaaGreatDoor
namespace Go.Proofs.YtidjjfjhmlndjaaGreatDoor
open Go.RowKit
theorem OwnP.root {w w':World}{tg tg':Nat→Option (Nat × List Nat)}{i j j':Nat}{p:List Nat}{d:D}{u:Value} (h:OwnP w tg i p d u) (hj:p.getLast? = some j)
    (hm:∀ b q,tg b=some (i,q)→q.getLast? = some j→w'.heap[b]? = w.heap[b]? ∧tg' b=some (i,q.dropLast ++ [j'])):OwnP w' tg' i (p.dropLast ++ [j']) d u:=by
  induction h with
  |sc p v h1=>exact .sc _ v h1
  |nil p ty size=>exact .nil _ ty size
  |tr p ty size n cs b c cur us hb hw hz hl hcur hn hc hu hat hrep ih=>
    obtain ⟨h1,h2⟩:=hm b p hb hj
    refine .tr _ ty size n cs b c cur us h2 (h1.trans hw) hz hl hcur hn hc hu hat fun k d u hd hu'=>?_
    have:=ih k d u hd hu' (by rw [List.getLast?_cons,hj];rfl)
    rw [List.dropLast_cons_of_ne_nil (by rintro rfl;simp at hj)] at this
    exact this
theorem tp_rep {E E':Env}{w w':World}{d:D}{u:Value} (hd:d.tp=true) (h:Rep1 E w d u):Rep1 E' w' d u:=by
  cases d<;>first|exact h|trivial|cases hd
/-- Where a cell comes to lie. -/
def newPos (σ:List Nat) (size j:Nat):Option Nat:=if j / size ∈ σ then some (σ.idxOf (j / size)*size+j % size) else none
def reTag (σ:List Nat) (size:Nat) (tg:Nat→Option (Nat × List Nat)) (b:Nat):Option (Nat × List Nat):=match tg b with
  |some (i,p)=>if i=0 then (p.getLast?.bind (newPos σ size)).map (fun j=>(0,p.dropLast ++ [j])) else some (i,p)
  |none=>none
theorem reTag_old {σ:List Nat}{size:Nat}{tg:Nat→Option (Nat × List Nat)}{b i:Nat}{p:List Nat} (h:reTag σ size tg b=some (i,p)):∃ q,tg b=some (i,q):=by
  unfold reTag at h
  cases e:tg b with
  |none=>rw [e] at h;cases h
  |some x=>
    obtain ⟨k,q⟩:=x
    rw [e] at h
    simp only [] at h
    split at h
    · rename_i hk
      subst hk
      obtain ⟨j,_,h⟩:=Option.map_eq_some_iff.1 h
      injection h with h1 h2
      subst h1
      exact ⟨q,rfl⟩
    · injection h with h
      injection h with h1 h2
      subst h1
      exact ⟨q,rfl⟩
theorem flat_at {α:Type} [Inhabited α] {cells:α→List D}{size:Nat} (hs:∀ x,(cells x).length=size) (h0:0 < size) {xs:List α}{j:Nat}{d:D} (h:(flatD cells xs)[j]? = some d):j / size < xs.length∧(cells (xs.getD (j / size) default))[j % size]? = some d:=by
  have hj:j < xs.length*size:=by rw [← flat_len hs];exact (List.getElem?_eq_some_iff.1 h).1
  have h1:j / size < xs.length:=Nat.div_lt_of_lt_mul (by rw [Nat.mul_comm];exact hj)
  have h2:=flat_cell hs xs (j / size) (j % size) h1 (Nat.mod_lt _ h0)
  rw [show j / size*size+j % size=j by rw [Nat.mul_comm];exact Nat.div_add_mod j size,h] at h2
  exact ⟨h1,h2.symm⟩
theorem getD_map {α:Type} [Inhabited α] (σ:List Nat) (xs:List α) {q:Nat} (h:q < σ.length):(σ.map fun k=>xs.getD k default).getD q default=xs.getD (σ.getD q 0) default:=by
  rw [List.getD_eq_getElem?_getD,List.getElem?_map,List.getElem?_eq_getElem h]
  rw [show σ.getD q 0=σ[q] by rw [List.getD_eq_getElem?_getD,List.getElem?_eq_getElem h];rfl]
  rfl
theorem sel_sr {α:Type} [Inhabited α] {cells:α→List D}{size:Nat} (hs:∀ x,(cells x).length=size) (h0:0 < size) (htp:∀ x,(cells x).all D.tp=true) {M:Nat→Prop}{E:Env}{w w':World}{ty:Nat}{xs:List α}
    (hsr:SR M E [(0,⟨ty,size,xs.length,flatD cells xs⟩)] 1 w) {l:Loc} (hl:E.at_ 0=some (some l)) {cur cur':Array Value} (hc0:w.heap[l.g]? = some (.cells cur ty (0,0)))
    (σ:List Nat) (hσ:∀ q ∈ σ,q < xs.length) (hnd:σ.Nodup) (hle:σ.length≤xs.length) (hc1:w'.heap[l.g]? = some (.cells cur' ty (0,0))) (hcs:cur'.size=l.cap*size)
    (hcell:∀ q r,q < σ.length→r < size→cur'[q*size+r]? = cur[σ.getD q 0*size+r]?) (hsz:w.heap.size≤w'.heap.size) (hold:∀ b,b < w.heap.size→b≠l.g→w'.heap[b]? = w.heap[b]?):
    ∃ E':Env,E'.at_=E.at_∧E'.ro=E.ro∧SR (fun g=>w.heap.size≤g∨M g) E' [(0,⟨ty,size,σ.length,flatD cells (σ.map fun k=>xs.getD k default)⟩)] 1 w':=by
  have hob:=hsr.obs 0 _ (List.mem_singleton.2 rfl)
  obtain ⟨hM,hro,hcap,hmax,hrow⟩:M l.g∧¬ E.ro l.g∧xs.length≤l.cap∧l.cap≤maxLen∧∀ (j:Nat) (d:D),(flatD cells xs)[j]? = some d→∃ u,cur[j]? = some u∧u.oneCell' = true∧Rep1 E w d u:=by
    rcases hob.2 with ⟨h5,_⟩|⟨m,h5,h6,h7,h8,h9,h10⟩
    · rw [hl] at h5;cases h5
    · rw [hl] at h5;injection h5 with h5;injection h5 with h5;subst h5
      refine ⟨h6,h7,h8,h9,fun j d hd=>?_⟩
      rcases h10 with ⟨c,c1,c2,c3⟩|⟨c1,_⟩
      · obtain ⟨u,d1,d2,d3⟩:=c3 j d hd
        refine ⟨u,?_,d2,d3⟩
        have e1:=c1.cell j
        rw [← d1,← e1]
        exact (cell_of_row w l.g j cur _ _ hc0).symm
      · exact absurd c1 (by show size≠0;omega)
  -- a new cell is an old one
  have key:∀ (j:Nat) (d:D),(flatD cells (σ.map fun k=>xs.getD k default))[j]? = some d→∃ jo,(flatD cells xs)[jo]? = some d∧cur'[j]? = cur[jo]? ∧newPos σ size jo=some j:=by
    intro j d hd
    obtain ⟨h1,h2⟩:=flat_at hs h0 hd
    rw [List.length_map] at h1
    rw [getD_map σ xs h1] at h2
    have hm:=Nat.mod_lt j h0
    have hjj:j / size*size+j % size=j:=by rw [Nat.mul_comm];exact Nat.div_add_mod j size
    have e1:=hcell (j / size) (j % size) h1 hm
    rw [hjj] at e1
    have hmem:σ.getD (j / size) 0 ∈ σ:=by rw [List.getD_eq_getElem?_getD,List.getElem?_eq_getElem h1];exact List.getElem_mem _
    refine ⟨σ.getD (j / size) 0*size+j % size,?_,e1,?_⟩
    · rw [← h2]
      exact flat_cell hs xs _ _ (hσ _ hmem) hm
    · have e2:(σ.getD (j / size) 0*size+j % size) / size=σ.getD (j / size) 0:=by
        rw [Nat.mul_comm,Nat.mul_add_div h0,Nat.div_eq_of_lt hm,Nat.add_zero]
      have e3:(σ.getD (j / size) 0*size+j % size) % size=j % size:=by rw [Nat.mul_comm,Nat.mul_add_mod,Nat.mod_eq_of_lt hm]
      have e4:σ.idxOf (σ.getD (j / size) 0)=j / size:=by
        rw [show σ.getD (j / size) 0=σ[j / size] by rw [List.getD_eq_getElem?_getD,List.getElem?_eq_getElem h1];rfl]
        exact hnd.idxOf_getElem _ h1
      unfold newPos
      rw [e2,e3,if_pos hmem,e4,hjj]
  refine ⟨⟨E.ro,E.at_,reTag σ size E.tg⟩,rfl,rfl,⟨fun i x hi=>?_,fun i hi=>hsr.new i hi,?_,fun i x j y hi hj hij=>?_,by simp,⟨fun b i p hb=>?_,fun i x hi j ty' sz m cs hj=>?_⟩⟩⟩
  · simp only [List.mem_singleton,Prod.mk.injEq] at hi
    obtain ⟨rfl,rfl⟩:=hi
    refine ⟨fun _=>by show (flatD cells _).length=_;rw [flat_len hs,List.length_map],.inr ⟨l,hl,.inr hM,hro,Nat.le_trans hle hcap,hmax,.inl ⟨cur',.inl hc1,hcs,fun j d hd=>?_⟩⟩⟩
    obtain ⟨jo,h1,h2,_⟩:=key j d hd
    obtain ⟨u,h3,h4,h5⟩:=hrow jo d h1
    have hd2:d.tp=true:=List.all_eq_true.1 (flat_tp htp xs) d (List.mem_of_getElem? h1)
    exact ⟨u,h2.trans h3,h4,tp_rep hd2 h5⟩
  · exact hsr.rolt.grow (fun _ h=>h) (fun b hb=>hold b (hsr.rolt b hb) fun e=>hro (e ▸ hb)) fun b hb=>Nat.lt_of_lt_of_le (hsr.rolt b hb) hsz
  · simp only [List.mem_singleton,Prod.mk.injEq] at hi hj
    exact absurd (hi.1.trans hj.1.symm) hij
  · obtain ⟨q,hq⟩:=reTag_old hb
    obtain ⟨h1,h2,h3,h4⟩:=hsr.tr.blk b i q hq
    refine ⟨Nat.lt_of_lt_of_le h1 hsz,.inr h2,h3,fun j y l' hj hl'=>?_⟩
    simp only [List.mem_singleton,Prod.mk.injEq] at hj
    exact h4 0 _ l' (List.mem_singleton.2 rfl) (by rw [← hj.1];exact hl')
  · simp only [List.mem_singleton,Prod.mk.injEq] at hi
    obtain ⟨rfl,rfl⟩:=hi
    obtain ⟨jo,h1,h2,h3⟩:=key j _ hj
    obtain ⟨l',u,h4,h5,h6⟩:=hsr.tr.cell 0 _ (List.mem_singleton.2 rfl) jo ty' sz m cs h1
    rw [hl] at h4;injection h4 with h4;injection h4 with h4;subst h4
    refine ⟨l,u,hl,?_,?_⟩
    · rw [cell_of_row w' l.g j cur' _ _ hc1,h2,← h5]
      exact (cell_of_row w l.g jo cur _ _ hc0).symm
    · have h7:=h6.root (w':=w') (tg':=reTag σ size E.tg) (j:=jo) (j':=j) rfl fun b q hb hq=>by
        obtain ⟨e1,_,_,e4⟩:=hsr.tr.blk b 0 q hb
        refine ⟨hold b e1 (fun e=>e4 0 _ l (List.mem_singleton.2 rfl) hl e.symm),?_⟩
        unfold reTag
        rw [hb]
        simp [hq,h3]
      exact h7
end Go.Proofs.YtidjjfjhmlndjaaGreatDoor
namespace Go.Proofs.YtidjjfjhmlndjaaGreatDoor
open Go.RowKit
/-- A strict order in which any two things are the same, or one is less. -/
structure STO {α:Type} (lt:α→α→Bool):Prop where
  irr:∀ a,lt a a=false
  tr:∀ a b c,lt a b=true→lt b c=true→lt a c=true
  tri:∀ a b,lt a b=false→lt b a=false→a=b
theorem STO.asym {α:Type}{lt:α→α→Bool} (h:STO lt) {a b:α} (k:lt a b=true):lt b a=false:=by
  cases e:lt b a with
  |false=>rfl
  |true=>have:=h.tr a b a k e;rw [h.irr] at this;cases this
theorem STO.neg {α:Type}{lt:α→α→Bool} (h:STO lt) {a b c:α} (h1:lt a b=false) (h2:lt b c=false):lt a c=false:=by
  cases e:lt a c with
  |false=>rfl
  |true=>
    cases e2:lt c b with
    |true=>have:=h.tr a c b e e2;rw [h1] at this;cases this
    |false=>have:=h.tri b c h2 e2;subst this;rw [h1] at e;cases e
theorem lessB_sto : STO lessB := ⟨lessB_irr, fun _ _ _ => lessB_tr, fun a b h1 h2 => by
  cases e:eqB a b with
  |true=>exact eqB_eq e
  | false => have := lessB_tri h1 e; rw [h2] at this; cases this⟩
theorem eqB_refl' (a:ByteArray):eqB a a=true:=by unfold eqB;exact beq_self_eq_true _
theorem eqB_nq {a b:ByteArray} (h:eqB a b=false):a≠b:=fun e=>by subst e;rw [eqB_refl'] at h;cases h
/-- By a first thing, then by a second one. -/
theorem STO.lex {α β γ:Type}{l1:β→β→Bool}{l2:γ→γ→Bool} (h1:STO l1) (h2:STO l2) (f:α→β) (g:α→γ) (hfg:∀ a b,f a=f b→g a=g b→a=b) {lt:α→α→Bool} (e:∀ a b,lt a b=true↔(l1 (f a) (f b)=true∨(f a=f b∧l2 (g a) (g b)=true))):STO lt:=by
  have no:∀ a b,lt a b=false→l1 (f a) (f b)=false∧(f a=f b→l2 (g a) (g b)=false):=fun a b h=>by
    have hn:¬ (l1 (f a) (f b)=true∨(f a=f b∧l2 (g a) (g b)=true)):=fun k=>by rw [(e a b).2 k] at h;cases h
    exact ⟨Bool.eq_false_iff.2 fun k=>hn (.inl k),fun q=>Bool.eq_false_iff.2 fun k=>hn (.inr ⟨q,k⟩)⟩
  refine ⟨fun a=>?_,fun a b c hab hbc=>?_,fun a b hab hba=>?_⟩
  · rw [Bool.eq_false_iff]
    intro k
    rcases (e a a).1 k with k|⟨_,k⟩
    · rw [h1.irr] at k;cases k
    · rw [h2.irr] at k;cases k
  · rw [e] at hab hbc ⊢
    rcases hab with p|⟨p,p2⟩
    · rcases hbc with q|⟨q,_⟩
      · exact .inl (h1.tr _ _ _ p q)
      · rw [← q];exact .inl p
    · rcases hbc with q|⟨q,q2⟩
      · rw [p];exact .inl q
      · exact .inr ⟨p.trans q,h2.tr _ _ _ p2 q2⟩
  · obtain ⟨p1,p2⟩:=no a b hab
    obtain ⟨q1,q2⟩:=no b a hba
    have hf:=h1.tri _ _ p1 q1
    exact hfg a b hf (h2.tri _ _ (p2 hf) (q2 hf.symm))
def intLess (a b:Int):Bool:=decide (a < b)
theorem intLess_sto:STO intLess:=⟨fun a=>by unfold intLess;simp,fun a b c h1 h2=>by unfold intLess at *;simp at *;omega,fun a b h1 h2=>by unfold intLess at *;simp at *;omega⟩
def SSor {α:Type} (lt:α→α→Bool) (l:List α):Prop:=l.Pairwise fun a b=>lt a b=true
theorem ssor_eq {α:Type}{lt:α→α→Bool} (h:STO lt):∀ {a b:List α},SSor lt a→SSor lt b→(∀ x,x ∈ a↔x ∈ b)→a=b
  | [], [],_,_,_=>rfl
  | [],y::q,_,_,hm=>by have:=(hm y).2 (List.mem_cons_self ..);cases this
  |x::r, [],_,_,hm=>by have:=(hm x).1 (List.mem_cons_self ..);cases this
  |x::r,y::q,ha,hb,hm=>by
    have ha':=List.pairwise_cons.1 ha
    have hb':=List.pairwise_cons.1 hb
    have e:x=y:=by
      rcases List.mem_cons.1 ((hm x).1 (List.mem_cons_self ..)) with e|e
      · exact e
      · rcases List.mem_cons.1 ((hm y).2 (List.mem_cons_self ..)) with e2|e2
        · exact e2.symm
        · have h1:=hb'.1 x e
          have h2:=ha'.1 y e2
          rw [h.asym h1] at h2
          cases h2
    subst e
    congr 1
    refine ssor_eq h ha'.2 hb'.2 fun z=>⟨fun hz=>?_,fun hz=>?_⟩
    · rcases List.mem_cons.1 ((hm z).1 (List.mem_cons_of_mem _ hz)) with e|e
      · subst e
        have:=ha'.1 _ hz
        rw [h.irr] at this;cases this
      · exact e
    · rcases List.mem_cons.1 ((hm z).2 (List.mem_cons_of_mem _ hz)) with e|e
      · subst e
        have:=hb'.1 _ hz
        rw [h.irr] at this;cases this
      · exact e
theorem insD_ok {α:Type}{lt s:α→α→Bool} (h:STO lt) (hs:∀ y x,lt y x=false→(s y x=true↔y=x)) (x:α):∀ {o:List α},SSor lt o→SSor lt (insD lt s x o)∧∀ z,z ∈ insD lt s x o↔z=x∨z ∈ o
  | [],_=>⟨List.pairwise_singleton _ _,fun z=>by simp [insD]⟩
  |y::r,ho=>by
    have ho':=List.pairwise_cons.1 ho
    obtain ⟨h1,h2⟩:=insD_ok h hs x ho'.2
    unfold insD
    split
    · rename_i hyx
      refine ⟨List.pairwise_cons.2 ⟨fun z hz=>?_,h1⟩,fun z=>?_⟩
      · rcases (h2 z).1 hz with e|e
        · subst e;exact hyx
        · exact ho'.1 z e
      · rw [List.mem_cons,h2,List.mem_cons]
        constructor<;>(rintro (e|e|e)<;>simp [e])
    · rename_i hyx
      have hyx':lt y x=false:=Bool.eq_false_iff.2 hyx
      split
      · rename_i hsy
        have e:=(hs y x hyx').1 hsy
        subst e
        exact ⟨ho,fun z=>by rw [List.mem_cons];constructor<;>(rintro e<;>simp_all)⟩
      · rename_i hsy
        have hxy:lt x y=true:=by
          cases e:lt x y with
          |true=>rfl
          |false=>exact absurd ((hs y x hyx').2 (h.tri y x hyx' e)) hsy
        refine ⟨List.pairwise_cons.2 ⟨fun z hz=>?_,ho⟩,fun z=>by rw [List.mem_cons]⟩
        rcases List.mem_cons.1 hz with e|e
        · subst e;exact hxy
        · exact h.tr _ _ _ hxy (ho'.1 z e)
theorem foldD_ok {α:Type}{lt s:α→α→Bool} (h:STO lt) (hs:∀ y x,lt y x=false→(s y x=true↔y=x)) (nf:α→α):∀ (xs o:List α),SSor lt o→SSor lt (xs.foldl (fun o x=>insD lt s (nf x) o) o)∧∀ z,z ∈ xs.foldl (fun o x=>insD lt s (nf x) o) o↔(∃ x ∈ xs,z=nf x)∨z ∈ o
  | [],o,ho=>⟨ho,fun z=>by simp⟩
  |x::r,o,ho=>by
    obtain ⟨h1,h2⟩:=insD_ok h hs (nf x) ho
    obtain ⟨h3,h4⟩:=foldD_ok h hs nf r _ h1
    refine ⟨h3,fun z=>?_⟩
    rw [List.foldl_cons,h4,h2]
    simp only [List.mem_cons]
    constructor
    · rintro (⟨y,hy,e⟩|e|e)
      · exact .inl ⟨y,.inr hy,e⟩
      · exact .inl ⟨x,.inl rfl,e⟩
      · exact .inr e
    · rintro (⟨y,hy|hy,e⟩|e)
      · subst hy;exact .inr (.inl e)
      · exact .inl ⟨y,hy,e⟩
      · exact .inr (.inr e)
def cptG {α:Type} (s:α→α→Bool):α→List α→List α
  |_, []=> []
  |p,y::r=>if s y p=true then cptG s y r else y::cptG s y r
def cptL {α:Type} (s:α→α→Bool):List α→List α
  | []=> []
  |x::r=>x::cptG s x r
theorem cptG_ok {α:Type}{lt s:α→α→Bool} (h:STO lt) (hs:∀ a b,s a b=true↔a=b):∀ {p:α}{l:List α},(p::l).Pairwise (fun a b=>lt b a=false)→SSor lt (p::cptG s p l)∧∀ z,z ∈ p::cptG s p l↔z ∈ p::l
  |p, [],_=>⟨List.pairwise_singleton _ _,fun z=>Iff.rfl⟩
  |p,y::r,hp=>by
    have hp':=List.pairwise_cons.1 hp
    obtain ⟨h1,h2⟩:=cptG_ok h hs hp'.2
    unfold cptG
    split
    · rename_i e
      have e:=(hs y p).1 e
      subst e
      exact ⟨h1,fun z=>by rw [h2];simp⟩
    · rename_i e
      have hne:y≠p:=fun k=>e ((hs y p).2 k)
      have hlt:lt p y=true:=by
        cases e2:lt p y with
        |true=>rfl
        |false=>exact absurd (h.tri p y e2 (hp'.1 y (List.mem_cons_self ..))).symm hne
      refine ⟨List.pairwise_cons.2 ⟨fun z hz=>?_,h1⟩,fun z=>by rw [List.mem_cons,h2,List.mem_cons (a:=z) (b:=p)]⟩
      rcases List.mem_cons.1 hz with k|k
      · subst k;exact hlt
      · exact h.tr _ _ _ hlt ((List.pairwise_cons.1 h1).1 z k)
/-- Sorted, then each thing once: as if each had been laid at its place. -/
theorem cpt_fold {α:Type}{lt s e:α→α→Bool} (h:STO lt) (hs:∀ y x,lt y x=false→(s y x=true↔y=x)) (he:∀ a b,e a b=true↔a=b) (nf:α→α) {xs ys:List α} (hp:ys.Perm (xs.map nf)) (hy:ys.Pairwise fun a b=>lt b a=false):cptL e ys=xs.foldl (fun o x=>insD lt s (nf x) o) []:=by
  obtain ⟨h1,h2⟩:=foldD_ok h hs nf xs [] List.Pairwise.nil
  have h3:∀ z,z ∈ ys↔∃ x ∈ xs,z=nf x:=fun z=>by rw [hp.mem_iff,List.mem_map];constructor<;>(rintro ⟨x,hx,e⟩;exact ⟨x,hx,e.symm⟩)
  match ys,hy,h3 with
  | [],_,h3=>exact ssor_eq h List.Pairwise.nil h1 fun z=>⟨fun hz=>(by cases hz),fun hz=>((h2 z).1 hz).elim (fun k=>(h3 z).2 k) fun k=>k⟩
  |p::l,hy,h3=>
    obtain ⟨h4,h5⟩:=cptG_ok h he hy
    exact ssor_eq h h4 h1 fun z=>by
      show z ∈ p::cptG e p l↔_
      rw [h5,h2,h3];simp
end Go.Proofs.YtidjjfjhmlndjaaGreatDoor
namespace Go.Proofs.YtidjjfjhmlndjaaGreatDoor
open Go.RowKit Go.Sort Go.Shelf
theorem OwnP.one {w:World}{tg:Nat→Option (Nat × List Nat)}{i:Nat}{p:List Nat}{d:D}{u:Value} (h:OwnP w tg i p d u):u.oneCell' = true:=by cases h<;>first|assumption|rfl
theorem sortW_row {α:Type} [Inhabited α] (enc:α→List Value) (k:Nat) (w:World) (blk m:Nat) (dk:Array α) (os:Array Obj) {cur:Array Value}{e:TypeId}{fr:Nat × Nat} (h:w.heap[blk]? = some (.cells cur e fr)):
    ∃ cur',cur'.size=cur.size∧(sortWorldK enc k w blk 0 m dk os).heap[blk]? = some (.cells cur' e fr):=by
  have hlt:blk < w.heap.size:=(Array.getElem?_eq_some_iff.1 h).1
  refine ⟨putCells id 0 (flatK enc k dk) cur,by simp [putCells],?_⟩
  show ((w.heap.modify blk (onCells (putCells id 0 (flatK enc k dk))))++os)[blk]? = _
  rw [Array.getElem?_append_left (by simpa using hlt),Array.getElem?_modify,if_pos rfl,h]
  rfl
theorem sortW_old {α:Type} [Inhabited α] (enc:α→List Value) (k:Nat) (w:World) (blk m:Nat) (dk:Array α) (os:Array Obj) (b:Nat) (hb:b < w.heap.size) (hne:b≠blk):(sortWorldK enc k w blk 0 m dk os).heap[b]? = w.heap[b]? :=by
  show ((w.heap.modify blk (onCells (putCells id 0 (flatK enc k dk))))++os)[b]? = _
  rw [Array.getElem?_append_left (by simpa using hb),Array.getElem?_modify,if_neg (fun e=>hne e.symm)]
theorem sortW_size {α:Type} [Inhabited α] (enc:α→List Value) (k:Nat) (w:World) (blk m:Nat) (dk:Array α) (os:Array Obj):w.heap.size≤(sortWorldK enc k w blk 0 m dk os).heap.size:=by
  show _≤((w.heap.modify blk (onCells (putCells id 0 (flatK enc k dk))))++os).size
  simp
/-- A slice of strings that lies apart from a block. -/
def StrRowB (blk:Nat) (w:World) (v:Value) (xs:List ByteArray):Prop:=∃ A c,v = .slice A xs.length c∧xs.length≤9223372036854775807∧∀ (k:Nat) (h:k < xs.length),∃ b o,A=some ⟨b,o,none⟩∧b < w.heap.size∧b≠blk∧w.cell? ⟨b,o+k,none⟩=some (.string xs[k])
theorem StrRowB.to {blk:Nat}{w w':World}{v:Value}{xs:List ByteArray} (h:StrRowB blk w v xs) (hs:w.heap.size≤w'.heap.size) (hb:∀ b,b < w.heap.size→b≠blk→w'.heap[b]? = w.heap[b]?):StrRow w' v xs:=by
  obtain ⟨A,c,h1,h2,h3⟩:=h
  refine ⟨A,c,h1,h2,fun k hk=>?_⟩
  obtain ⟨b,o,h4,h5,h6,h7⟩:=h3 k hk
  exact ⟨b,o,h4,Nat.lt_of_lt_of_le h5 hs,(World.cell?_of_block (a:=⟨b,o+k,none⟩) (hb b h5 h6)).trans h7⟩
structure NedRows (blk:Nat) (w:World) (xs:List NeedD) (vs:List Value):Prop where
  len:vs.length=xs.length
  row:∀ (i:Nat) (h:i < vs.length),StrRowB blk w vs[i] (xs.getD i default).values∧(vs[i]).oneCell' = true
theorem NedRows.at {blk:Nat}{w:World}{xs:List NeedD}{vs:List Value} (h:NedRows blk w xs vs) (i:Nat):StrRowB blk w (vs.getD i (.slice none 0 0)) (xs.getD i default).values∧(vs.getD i (.slice none 0 0)).oneCell' = true:=by
  rcases Nat.lt_or_ge i vs.length with hi|hi
  · have e:vs.getD i (.slice none 0 0)=vs[i]:=by rw [List.getD_eq_getElem?_getD,List.getElem?_eq_getElem hi];rfl
    rw [e]
    exact h.row i hi
  · have e:vs.getD i (.slice none 0 0) = .slice none 0 0:=by rw [List.getD_eq_getElem?_getD,List.getElem?_eq_none hi];rfl
    have e2:xs.getD i default=default:=by rw [List.getD_eq_getElem?_getD,List.getElem?_eq_none (by rw [← h.len];exact hi)];rfl
    rw [e,e2]
    exact ⟨⟨none,0,rfl,Nat.zero_le _,fun k hk=>absurd hk (Nat.not_lt_zero _)⟩,rfl⟩
theorem range_map {α:Type} [Inhabited α] (xs:List α):(List.range xs.length).map (fun k=>xs.getD k default)=xs:=by
  refine List.ext_getElem? fun j=>?_
  rw [List.getElem?_map]
  rcases Nat.lt_or_ge j xs.length with h|h
  · rw [List.getElem?_range h]
    show some (xs.getD j default)=_
    rw [List.getD_eq_getElem?_getD,List.getElem?_eq_getElem h]
    rfl
  · rw [List.getElem?_eq_none (by simpa using h),List.getElem?_eq_none h]
    rfl
/-- What the sort's kit says, over lists. -/
theorem sorted_list {α:Type} [Inhabited α] {lt:α→α→Bool}{cf:Nat→Nat→Int}{xs:List α} (hcf:∀ i j,ltOf cf i j=lt (xs.getD i default) (xs.getD j default)) {d':Array Nat} (hp:PermIn 0 (Array.range xs.length).size (Array.range xs.length) d') (hs:SortedIn (ltOf cf) 0 (Array.range xs.length).size d'):
    d'.toList.Perm (List.range xs.length)∧(d'.toList.map fun k=>xs.getD k default).Perm xs∧(d'.toList.map fun k=>xs.getD k default).Pairwise fun a b=>lt b a=false:=by
  obtain ⟨h1,_,h3⟩:=hp
  have h4:d'.toList.Perm (List.range xs.length):=by
    have e1:d'.extract 0 (Array.range xs.length).size=d':=by rw [← h1];exact Array.extract_size
    have e2:(Array.range xs.length).extract 0 (Array.range xs.length).size=Array.range xs.length:=Array.extract_size
    rw [e1,e2,Array.toList_range] at h3
    exact h3
  refine ⟨h4,?_,?_⟩
  · have:=h4.map fun k=>xs.getD k default
    rwa [range_map] at this
  · rw [List.pairwise_map,List.pairwise_iff_getElem]
    intro i j hi hj hij
    have hj':j < d'.size:=by simpa using hj
    have hi':i < d'.size:=by simpa using hi
    have:=hs i j (Nat.zero_le _) hij (by rw [← h1];exact hj')
    rw [hcf,getElem!_pos d' j hj',getElem!_pos d' i hi'] at this
    simpa using this
end Go.Proofs.YtidjjfjhmlndjaaGreatDoor
