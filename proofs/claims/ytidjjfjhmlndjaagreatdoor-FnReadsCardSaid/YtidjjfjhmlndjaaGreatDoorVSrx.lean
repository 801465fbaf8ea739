/- Srx (what is wanted of them). -/
import Derived.Test.YtidjjfjhmlndjaaGreatDoorVCl6
import Derived.Test.YtidjjfjhmlndjaaGreatDoorVShelf3
import Derived.Sort.Grow
import Derived.StillTailTactics
import Derived.Test.YtidjjfjhmlndjaaGreatDoorVClx
import Derived.Test.YtidjjfjhmlndjaaGreatDoorVDk
import Derived.Test.YtidjjfjhmlndjaaGreatDoorVRal
import Derived.Test.YtidjjfjhmlndjaaGreatDoorVOpen
import Derived.Test.YtidjjfjhmlndjaaGreatDoorVShelf4
import Derived.Shelf.SlSortCmp.WholeK
import Derived.Shelf.SlSortCmp.NoneTotal
namespace Go.Proofs.YtidjjfjhmlndjaaGreatDoor
open Go.RowKit Go.Sort
theorem isNaNI_any (x:Int) (w:World):Calls Tryz.prog 207 #[.int .i64 x] w fun e w'=>e = .returned (.bool false)∧w' = w:=by
  go_enter Tryz.func207,Tryz.ntmps207
  go_wp2
  go_ret
  exact ⟨rfl,rfl⟩
theorem isNaNS_any (x:ByteArray) (w:World):Calls Tryz.prog 341 #[.string x] w fun e w'=>e = .returned (.bool false)∧w' = w:=by
  go_enter Tryz.func341,Tryz.ntmps341
  go_wp2
  go_ret
  exact ⟨rfl,rfl⟩
set_option maxHeartbeats 1000000 in
theorem cmpInt_any (x y:Int) (w:World):Calls Tryz.prog 114 #[.int .i64 x,.int .i64 y] w fun e w'=>e = .returned (.int .i64 (cmpI x y))∧w' = w:=by
  have h1:=fun z W=>isNaNI_any z W
  by_cases hlt:x < y
  · go_enter Tryz.func114,Tryz.ntmps114
    go_wp2_with (go_at_call 207;refine (h1 _ _).mono ?_;rintro e w' ⟨rfl,rfl⟩)
    go_ret
    exact ⟨by show Ending.returned (.int .i64 (-1))=_;unfold cmpI;rw [if_pos hlt],rfl⟩
  · by_cases hgt:y < x
    · go_enter Tryz.func114,Tryz.ntmps114
      go_wp2_with (go_at_call 207;refine (h1 _ _).mono ?_;rintro e w' ⟨rfl,rfl⟩)
      go_ret
      exact ⟨by show Ending.returned (.int .i64 1)=_;unfold cmpI;rw [if_neg (by omega),if_pos (by omega)],rfl⟩
    · go_enter Tryz.func114,Tryz.ntmps114
      go_wp2_with (go_at_call 207;refine (h1 _ _).mono ?_;rintro e w' ⟨rfl,rfl⟩)
      go_ret
      exact ⟨by show Ending.returned (.int .i64 0)=_;unfold cmpI;rw [if_neg (by omega),if_neg (by omega)],rfl⟩
set_option maxHeartbeats 1000000 in
theorem cmpStr_any (x y:ByteArray) (w:World):Calls Tryz.prog 293 #[.string x,.string y] w fun e w'=>e = .returned (.int .i64 (cmpB x y))∧w' = w:=by
  have h1:=fun z W=>isNaNS_any z W
  cases hlt:lessB x y
  · have hlt':Op.bytesLess x.toList y.toList=false:=hlt
    have hq:=cmpB_eq x y
    cases he:(x.toList==y.toList)
    · have hgt:lessB y x=true:=by
        rw [cmpB_if,hlt] at hq
        cases h:lessB y x with
        |true=>rfl
        |false=>
          rw [h] at hq
          have:eqB x y=true:=hq.symm
          rw [show eqB x y=(x.toList==y.toList) from rfl,he] at this
          cases this
      go_enter Tryz.func293,Tryz.ntmps293
      go_wp2_with (go_at_call 341;refine (h1 _ _).mono ?_;rintro e w' ⟨rfl,rfl⟩)
      go_ret
      exact ⟨by show Ending.returned (.int .i64 1)=_;rw [cmpB_if,hlt,hgt];rfl,rfl⟩
    · have h0:cmpB x y=0:=by
        rw [show eqB x y=(x.toList==y.toList) from rfl,he] at hq
        exact beq_iff_eq.1 hq
      go_enter Tryz.func293,Tryz.ntmps293
      go_wp2_with (go_at_call 341;refine (h1 _ _).mono ?_;rintro e w' ⟨rfl,rfl⟩)
      go_ret
      exact ⟨by show Ending.returned (.int .i64 0)=_;rw [h0],rfl⟩
  · have hlt':Op.bytesLess x.toList y.toList=true:=hlt
    go_enter Tryz.func293,Tryz.ntmps293
    go_wp2_with (go_at_call 341;refine (h1 _ _).mono ?_;rintro e w' ⟨rfl,rfl⟩)
    go_ret
    exact ⟨by show Ending.returned (.int .i64 (-1))=_;rw [cmpB_if,hlt];rfl,rfl⟩
set_option maxHeartbeats 1000000 in
theorem orInt_any (zs:List Int) (b c:Nat) (w:World) (hl:zs.length≤100) (h:∀ (k:Nat) (hk:k < zs.length),w.cell? ⟨b,k,none⟩=some (.int .i64 zs[k])):Calls Tryz.prog 113 #[.slice (some ⟨b,0,none⟩) zs.length c] w fun e w'=>e = .returned (.int .i64 (orN (fun k=>zs.getD k default) zs.length))∧w' = w:=by
  have H:=Lib.hid h
  clear h
  go_enter Tryz.func113,Tryz.ntmps113
  go_wp2
  go_loopw [8] (fun i wr=>∃ k:Nat,k≤zs.length∧i = .int .i64 k∧Hid (∀ j,j < k→zs.getD j default=0)∧wr=w) (fun i _=>zs.length - (intOf i).toNat)
  case atStart=>exact ⟨0,by omega,rfl,Lib.hid (fun j hj=>absurd hj (Nat.not_lt_zero _)),rfl⟩
  case round=>
    obtain ⟨k,hk,rfl,hj,rfl⟩:=hrel
    by_cases hlt:k < zs.length
    · have hc:=H.out k hlt
      have hg:zs.getD k default=zs[k]:=by rw [List.getD_eq_getElem?_getD,List.getElem?_eq_getElem hlt];rfl
      have HG:=Lib.hid hg
      clear hg
      generalize zs[k]=z at hc HG
      have k0:(0:Int)≤(k:Int):=Int.natCast_nonneg _
      have k1:(k:Int) < (zs.length:Int):=by omega
      have hc0:wr.cell? ⟨b,0+k,none⟩=some (.int .i64 z):=by rw [Nat.zero_add];exact hc
      by_cases hz:z=0
      · subst hz
        go_wp2
        go_roundw
        case rel => exact ⟨k + 1, by omega, by go_num, Lib.hid (fun j h => by
          by_cases e:j=k
          · subst e;exact HG.out
          · exact hj.out j (by omega)), trivial⟩
        case measure=>simp [intOf];omega
      · go_wp2
        go_ret
        refine ⟨?_,rfl⟩
        show Ending.returned (.int .i64 z)=_
        rw [orN_hit (k:=k) hlt (by rw [HG.out];simpa using hz) (fun j h=>by rw [hj.out j h];rfl),HG.out]
    · go_wp2
      go_ret
      refine ⟨?_,rfl⟩
      show Ending.returned (.int .i64 0)=_
      rw [orN_none (k:=k) (by omega) (fun j h=>by rw [hj.out j h];rfl)]
/-- A slice whose cells are strings. -/
def StrRow (w:World) (v:Value) (xs:List ByteArray):Prop:=∃ A c,v = .slice A xs.length c∧xs.length≤9223372036854775807∧∀ (k:Nat) (h:k < xs.length),∃ b o,A=some ⟨b,o,none⟩∧b < w.heap.size∧w.cell? ⟨b,o+k,none⟩=some (.string xs[k])
set_option maxHeartbeats 1000000 in
theorem cmpStrs_any (u v:Value) (xs ys:List ByteArray) (w:World) (hu:StrRow w u xs) (hv:StrRow w v ys):Calls Tryz.prog 223 #[u,v] w fun e w'=>e = .returned (.int .i64 (cmpVals xs ys))∧w' = w:=by
  obtain ⟨A,c,rfl,hm,h⟩:=hu
  obtain ⟨A',c',rfl,hm',h'⟩:=hv
  have H:=Lib.hid h
  have H':=Lib.hid h'
  have hS:=fun x y W=>cmpStr_any x y W
  clear h h'
  go_enter Tryz.func223,Tryz.ntmps223
  go_wp2
  go_loopw [11] (fun i wr=>∃ k:Nat,k≤xs.length∧i = .int .i64 k∧Hid (cmpVals (xs.drop k) (ys.drop k)=cmpVals xs ys)∧wr=w) (fun i _=>xs.length - (intOf i).toNat)
  case atStart=>exact ⟨0,by omega,rfl,Lib.hid rfl,rfl⟩
  case round=>
    obtain ⟨k,hk,rfl,hR,rfl⟩:=hrel
    have k0:(0:Int)≤(k:Int):=Int.natCast_nonneg _
    by_cases hlt:k < xs.length
    · have k1:(k:Int) < (xs.length:Int):=by omega
      obtain ⟨b,o,rfl,_,hc⟩:=H.out k hlt
      have hg:xs.getD k default=xs[k]:=by rw [List.getD_eq_getElem?_getD,List.getElem?_eq_getElem hlt];rfl
      have HG:=Lib.hid hg
      clear hg
      generalize xs[k]=x at hc HG
      by_cases hly:k < ys.length
      · have k2:(k:Int) < (ys.length:Int):=by omega
        obtain ⟨b',o',rfl,_,hc'⟩:=H'.out k hly
        have hg':ys.getD k default=ys[k]:=by rw [List.getD_eq_getElem?_getD,List.getElem?_eq_getElem hly];rfl
        have HG':=Lib.hid hg'
        clear hg'
        generalize ys[k]=y at hc' HG'
        have he:=cmpVals_at hlt hly
        rw [HG.out,HG'.out] at he
        have HE:=Lib.hid he
        clear he
        have hz:=hS x y wr
        generalize hq:cmpB x y=z at hz HE
        have HQ:=Lib.hid hq
        clear hq
        by_cases h0:z=0
        · subst h0
          go_wp2_with (go_at_call 293;refine hz.mono ?_;rintro e w' ⟨rfl,rfl⟩)
          go_roundw
          case rel=>exact ⟨k+1,by omega,by go_num,Lib.hid (by rw [← hR.out,HE.out];rfl),trivial⟩
          case measure=>simp [intOf];omega
        · go_wp2_with (go_at_call 293;refine hz.mono ?_;rintro e w' ⟨rfl,rfl⟩)
          go_ret
          refine ⟨?_,rfl⟩
          show Ending.returned (.int .i64 z)=_
          rw [← hR.out,HE.out,if_neg (by simpa using h0)]
      · have k2:(ys.length:Int)≤(k:Int):=by omega
        go_wp2
        go_ret
        refine ⟨?_,rfl⟩
        show Ending.returned (.int .i64 1)=_
        rw [← hR.out,cmpVals_one hlt (by omega)]
    · have k1:(xs.length:Int)≤(k:Int):=by omega
      have he:=cmpVals_end (a:=xs) (b:=ys) (k:=k) (by omega) hk
      have HE:=Lib.hid (he.symm.trans hR.out)
      clear he
      by_cases hl:xs.length < ys.length
      · have k3:(xs.length:Int) < (ys.length:Int):=by omega
        go_wp2
        go_ret
        refine ⟨?_,rfl⟩
        show Ending.returned (.int .i64 (-1))=_
        rw [← HE.out,if_pos hl]
      · have k3:(ys.length:Int)≤(xs.length:Int):=by omega
        go_wp2
        go_ret
        refine ⟨?_,rfl⟩
        show Ending.returned (.int .i64 0)=_
        rw [← HE.out,if_neg hl]
theorem grow3 (w:World) (a b c:Obj):World.alloc { (w.alloc a).alloc b with drawn:=((w.alloc a).alloc b).drawn+1 } c=grow (w.drewN 1) #[a,b,c]:=by
  show (⟨((w.heap.push a).push b).push c,w.tape,w.drawn+1,w.os,w.output⟩:World)=⟨w.heap++#[a,b,c],w.tape,w.drawn+1,w.os,w.output⟩
  congr 1
theorem StrRow.keep {w w':World}{v:Value}{xs:List ByteArray} (h:StrRow w v xs) (hs:w.heap.size≤w'.heap.size) (hb:∀ b,b < w.heap.size→w'.heap[b]? = w.heap[b]?):StrRow w' v xs:=by
  obtain ⟨A,c,h1,h2,h3⟩:=h
  refine ⟨A,c,h1,h2,fun k hk=>?_⟩
  obtain ⟨b,o,h4,h5,h6⟩:=h3 k hk
  exact ⟨b,o,h4,Nat.lt_of_lt_of_le h5 hs,(World.cell?_of_block (a:=⟨b,o+k,none⟩) (hb b h5)).trans h6⟩
set_option maxRecDepth 100000 in
set_option maxHeartbeats 2000000 in
theorem cmpNeeds_any (k1 k2:ByteArray) (o1 o2:Int) (u v:Value) (xs ys:List ByteArray) (w:World) (hu:StrRow w u xs) (hv:StrRow w v ys) (_c1:u.oneCell' = true) (_c2:v.oneCell' = true):Calls Tryz.prog 138 #[.agg #[.string k1,.int .i64 o1,u],.agg #[.string k2,.int .i64 o2,v]] w fun e w'=>e = .returned (.int .i64 (or3 (cmpB k1 k2) (cmpI o1 o2) (cmpVals xs ys)))∧∃ q os',w' = grow (w.drewN q) os':=by
  have HU:=Lib.hid hu
  have HV:=Lib.hid hv
  clear hu hv
  go_enter Tryz.func138,Tryz.ntmps138
  go_wp2
  refine wp_region_still_tail 15 (by kernel_rfl) (by kernel_rfl) ?_
  simp only [List.take_succ_cons,List.take_zero,List.drop_succ_cons,List.drop_zero]
  have hW:∃ W:World,W={ ((w.alloc (.cells #[.string k1,.int .i64 o1,u] 103)).alloc (.cells #[.string k2,.int .i64 o2,v] 103)) with drawn:=((w.alloc (.cells #[.string k1,.int .i64 o1,u] 103)).alloc (.cells #[.string k2,.int .i64 o2,v] 103)).drawn+1 }:=⟨_,rfl⟩
  obtain ⟨W,hW⟩:=hW
  have f0:W.cell? ⟨w.heap.size,0,none⟩=some (.string k1):=by rw [hW];show World.cell? (World.drew ((w.alloc (.cells #[.string k1,.int .i64 o1,u] 103)).alloc (.cells #[.string k2,.int .i64 o2,v] 103))) _=_;simp
  have f1:W.cell? ⟨w.heap.size,1,none⟩=some (.int .i64 o1):=by rw [hW];show World.cell? (World.drew ((w.alloc (.cells #[.string k1,.int .i64 o1,u] 103)).alloc (.cells #[.string k2,.int .i64 o2,v] 103))) _=_;simp
  have f2:W.cell? ⟨w.heap.size,2,none⟩=some u:=by rw [hW];show World.cell? (World.drew ((w.alloc (.cells #[.string k1,.int .i64 o1,u] 103)).alloc (.cells #[.string k2,.int .i64 o2,v] 103))) _=_;simp
  have g0:W.cell? ⟨w.heap.size+1,0,none⟩=some (.string k2):=by rw [hW];show World.cell? (World.drew ((w.alloc (.cells #[.string k1,.int .i64 o1,u] 103)).alloc (.cells #[.string k2,.int .i64 o2,v] 103))) _=_;simp
  have g1:W.cell? ⟨w.heap.size+1,1,none⟩=some (.int .i64 o2):=by rw [hW];show World.cell? (World.drew ((w.alloc (.cells #[.string k1,.int .i64 o1,u] 103)).alloc (.cells #[.string k2,.int .i64 o2,v] 103))) _=_;simp
  have g2:W.cell? ⟨w.heap.size+1,2,none⟩=some v:=by rw [hW];show World.cell? (World.drew ((w.alloc (.cells #[.string k1,.int .i64 o1,u] 103)).alloc (.cells #[.string k2,.int .i64 o2,v] 103))) _=_;simp
  have hs:W.heap.size=w.heap.size+2:=by rw [hW];simp
  have hb:∀ b,b < w.heap.size→W.heap[b]? = w.heap[b]? :=fun b hb=>by
    rw [hW]
    show ((w.heap.push _).push _)[b]? = _
    rw [Array.getElem?_push,if_neg (by rw [Array.size_push];omega),Array.getElem?_push,if_neg (by omega)]
  have HB:=Lib.hid hb
  clear hb
  rw [← hW]
  have HW:=Lib.hid hW
  clear hW
  repeat still_step
  still_call (Tryz.strings_Compare _ _ _)
  repeat still_step
  still_call (cmpInt_any _ _ _)
  repeat still_step
  still_call (cmpStrs_any _ _ xs ys _ (HU.out.keep (by omega) HB.out) (HV.out.keep (by omega) HB.out))
  repeat still_step
  refine wpStill_nil ?_
  generalize hz0:Lib.compareBytes k1.data.toList k2.data.toList=z0
  generalize hz1:cmpI o1 o2=z1
  generalize hz2:cmpVals xs ys=z2
  have hO:Calls Tryz.prog 113 #[.slice (some ⟨w.heap.size+2,0,none⟩) 3 3] (W.alloc (.cells #[.int .i64 z0,.int .i64 z1,.int .i64 z2] 3)) fun e w'=>e = .returned (.int .i64 (or3 z0 z1 z2))∧w' = W.alloc (.cells #[.int .i64 z0,.int .i64 z1,.int .i64 z2] 3):=
    orInt_any [z0, z1, z2] (w.heap.size + 2) 3 _ (show 3 ≤ 100 by decide) (fun k hk => by
      rw [← hs]
      match k,hk with
      |0,_=>exact World.cell?_alloc_new W _ _ 0
      |1,_=>exact World.cell?_alloc_new W _ _ 1
      | 2, _ => exact World.cell?_alloc_new W _ _ 2)
  have HZ:Hid (or3 z0 z1 z2=or3 (cmpB k1 k2) (cmpI o1 o2) (cmpVals xs ys)):=Lib.hid (by rw [← hz1,← hz2,← hz0];rfl)
  clear hz0 hz1 hz2
  go_wp2_with (go_at_call 113;refine hO.mono ?_;rintro e w' ⟨rfl,rfl⟩)
  go_ret
  refine ⟨congrArg (fun z=>Ending.returned (.int .i64 z)) HZ.out,1,#[.cells #[.string k1,.int .i64 o1,u] 103,.cells #[.string k2,.int .i64 o2,v] 103,.cells #[.int .i64 z0,.int .i64 z1,.int .i64 z2] 3],?_⟩
  rw [HW.out]
  exact grow3 w _ _ _
end Go.Proofs.YtidjjfjhmlndjaaGreatDoor
namespace Go.Proofs.YtidjjfjhmlndjaaGreatDoor
open Go.RowKit
theorem OwnP.root {w w':World}{tg tg':Nat→Option (Nat × List Nat)}{i j j':Nat}{p:List Nat}{d:D}{u:Value} (h:OwnP w tg i p d u) (hj:p.getLast? = some j)
    (hm:∀ b q,tg b=some (i,q)→q.getLast? = some j→w'.heap[b]? = w.heap[b]? ∧tg' b=some (i,q.dropLast ++ [j'])):OwnP w' tg' i (p.dropLast ++ [j']) d u:=by
  induction h with
  |sc p v h1=>exact .sc _ v h1
  |nil p ty size=>exact .nil _ ty size
  |tr p ty size n cs b c cur us hb hw hz hl hcur hn hc hu hat hrep ih=>
    obtain ⟨h1,h2⟩:=hm b p hb hj
    refine .tr _ ty size n cs b c cur us h2 (h1.trans hw) hz hl hcur hn hc hu hat fun k d u hd hu'=>?_
    have:=ih k d u hd hu' (by rw [List.getLast?_cons,hj];rfl)
    rw [List.dropLast_cons_of_ne_nil (by rintro rfl;simp at hj)] at this
    exact this
theorem tp_rep {E E':Env}{w w':World}{d:D}{u:Value} (hd:d.tp=true) (h:Rep1 E w d u):Rep1 E' w' d u:=by
  cases d<;>first|exact h|trivial|cases hd
/-- Where a cell comes to lie. -/
def newPos (σ:List Nat) (size j:Nat):Option Nat:=if j / size ∈ σ then some (σ.idxOf (j / size)*size+j % size) else none
def reTag (σ:List Nat) (size:Nat) (tg:Nat→Option (Nat × List Nat)) (b:Nat):Option (Nat × List Nat):=match tg b with
  |some (i,p)=>if i=0 then (p.getLast?.bind (newPos σ size)).map (fun j=>(0,p.dropLast ++ [j])) else some (i,p)
  |none=>none
theorem reTag_old {σ:List Nat}{size:Nat}{tg:Nat→Option (Nat × List Nat)}{b i:Nat}{p:List Nat} (h:reTag σ size tg b=some (i,p)):∃ q,tg b=some (i,q):=by
  unfold reTag at h
  cases e:tg b with
  |none=>rw [e] at h;cases h
  |some x=>
    obtain ⟨k,q⟩:=x
    rw [e] at h
    simp only [] at h
    split at h
    · rename_i hk
      subst hk
      obtain ⟨j,_,h⟩:=Option.map_eq_some_iff.1 h
      injection h with h1 h2
      subst h1
      exact ⟨q,rfl⟩
    · injection h with h
      injection h with h1 h2
      subst h1
      exact ⟨q,rfl⟩
theorem flat_at {α:Type} [Inhabited α] {cells:α→List D}{size:Nat} (hs:∀ x,(cells x).length=size) (h0:0 < size) {xs:List α}{j:Nat}{d:D} (h:(flatD cells xs)[j]? = some d):j / size < xs.length∧(cells (xs.getD (j / size) default))[j % size]? = some d:=by
  have hj:j < xs.length*size:=by rw [← flat_len hs];exact (List.getElem?_eq_some_iff.1 h).1
  have h1:j / size < xs.length:=Nat.div_lt_of_lt_mul (by rw [Nat.mul_comm];exact hj)
  have h2:=flat_cell hs xs (j / size) (j % size) h1 (Nat.mod_lt _ h0)
  rw [show j / size*size+j % size=j by rw [Nat.mul_comm];exact Nat.div_add_mod j size,h] at h2
  exact ⟨h1,h2.symm⟩
theorem getD_map {α:Type} [Inhabited α] (σ:List Nat) (xs:List α) {q:Nat} (h:q < σ.length):(σ.map fun k=>xs.getD k default).getD q default=xs.getD (σ.getD q 0) default:=by
  rw [List.getD_eq_getElem?_getD,List.getElem?_map,List.getElem?_eq_getElem h]
  rw [show σ.getD q 0=σ[q] by rw [List.getD_eq_getElem?_getD,List.getElem?_eq_getElem h];rfl]
  rfl
theorem sel_sr {α:Type} [Inhabited α] {cells:α→List D}{size:Nat} (hs:∀ x,(cells x).length=size) (h0:0 < size) (htp:∀ x,(cells x).all D.tp=true) {M:Nat→Prop}{E:Env}{w w':World}{ty:Nat}{xs:List α}
    (hsr:SR M E [(0,⟨ty,size,xs.length,flatD cells xs⟩)] 1 w) {l:Loc} (hl:E.at_ 0=some (some l)) {cur cur':Array Value} (hc0:w.heap[l.g]? = some (.cells cur ty (0,0)))
    (σ:List Nat) (hσ:∀ q ∈ σ,q < xs.length) (hnd:σ.Nodup) (hle:σ.length≤xs.length) (hc1:w'.heap[l.g]? = some (.cells cur' ty (0,0))) (hcs:cur'.size=l.cap*size)
    (hcell:∀ q r,q < σ.length→r < size→cur'[q*size+r]? = cur[σ.getD q 0*size+r]?) (hsz:w.heap.size≤w'.heap.size) (hold:∀ b,b < w.heap.size→b≠l.g→w'.heap[b]? = w.heap[b]?):
    ∃ E':Env,E'.at_=E.at_∧E'.ro=E.ro∧SR (fun g=>w.heap.size≤g∨M g) E' [(0,⟨ty,size,σ.length,flatD cells (σ.map fun k=>xs.getD k default)⟩)] 1 w':=by
  have hob:=hsr.obs 0 _ (List.mem_singleton.2 rfl)
  obtain ⟨hM,hro,hcap,hmax,hrow⟩:M l.g∧¬ E.ro l.g∧xs.length≤l.cap∧l.cap≤maxLen∧∀ (j:Nat) (d:D),(flatD cells xs)[j]? = some d→∃ u,cur[j]? = some u∧u.oneCell' = true∧Rep1 E w d u:=by
    rcases hob.2 with ⟨h5,_⟩|⟨m,h5,h6,h7,h8,h9,h10⟩
    · rw [hl] at h5;cases h5
    · rw [hl] at h5;injection h5 with h5;injection h5 with h5;subst h5
      refine ⟨h6,h7,h8,h9,fun j d hd=>?_⟩
      rcases h10 with ⟨c,c1,c2,c3⟩|⟨c1,_⟩
      · obtain ⟨u,d1,d2,d3⟩:=c3 j d hd
        refine ⟨u,?_,d2,d3⟩
        have e1:=c1.cell j
        rw [← d1,← e1]
        exact (cell_of_row w l.g j cur _ _ hc0).symm
      · exact absurd c1 (by show size≠0;omega)
  -- a new cell is an old one
  have key:∀ (j:Nat) (d:D),(flatD cells (σ.map fun k=>xs.getD k default))[j]? = some d→∃ jo,(flatD cells xs)[jo]? = some d∧cur'[j]? = cur[jo]? ∧newPos σ size jo=some j:=by
    intro j d hd
    obtain ⟨h1,h2⟩:=flat_at hs h0 hd
    rw [List.length_map] at h1
    rw [getD_map σ xs h1] at h2
    have hm:=Nat.mod_lt j h0
    have hjj:j / size*size+j % size=j:=by rw [Nat.mul_comm];exact Nat.div_add_mod j size
    have e1:=hcell (j / size) (j % size) h1 hm
    rw [hjj] at e1
    have hmem:σ.getD (j / size) 0 ∈ σ:=by rw [List.getD_eq_getElem?_getD,List.getElem?_eq_getElem h1];exact List.getElem_mem _
    refine ⟨σ.getD (j / size) 0*size+j % size,?_,e1,?_⟩
    · rw [← h2]
      exact flat_cell hs xs _ _ (hσ _ hmem) hm
    · have e2:(σ.getD (j / size) 0*size+j % size) / size=σ.getD (j / size) 0:=by
        rw [Nat.mul_comm,Nat.mul_add_div h0,Nat.div_eq_of_lt hm,Nat.add_zero]
      have e3:(σ.getD (j / size) 0*size+j % size) % size=j % size:=by rw [Nat.mul_comm,Nat.mul_add_mod,Nat.mod_eq_of_lt hm]
      have e4:σ.idxOf (σ.getD (j / size) 0)=j / size:=by
        rw [show σ.getD (j / size) 0=σ[j / size] by rw [List.getD_eq_getElem?_getD,List.getElem?_eq_getElem h1];rfl]
        exact hnd.idxOf_getElem _ h1
      unfold newPos
      rw [e2,e3,if_pos hmem,e4,hjj]
  refine ⟨⟨E.ro,E.at_,reTag σ size E.tg⟩,rfl,rfl,⟨fun i x hi=>?_,fun i hi=>hsr.new i hi,?_,fun i x j y hi hj hij=>?_,by simp,⟨fun b i p hb=>?_,fun i x hi j ty' sz m cs hj=>?_⟩⟩⟩
  · simp only [List.mem_singleton,Prod.mk.injEq] at hi
    obtain ⟨rfl,rfl⟩:=hi
    refine ⟨fun _=>by show (flatD cells _).length=_;rw [flat_len hs,List.length_map],.inr ⟨l,hl,.inr hM,hro,Nat.le_trans hle hcap,hmax,.inl ⟨cur',.inl hc1,hcs,fun j d hd=>?_⟩⟩⟩
    obtain ⟨jo,h1,h2,_⟩:=key j d hd
    obtain ⟨u,h3,h4,h5⟩:=hrow jo d h1
    have hd2:d.tp=true:=List.all_eq_true.1 (flat_tp htp xs) d (List.mem_of_getElem? h1)
    exact ⟨u,h2.trans h3,h4,tp_rep hd2 h5⟩
  · exact hsr.rolt.grow (fun _ h=>h) (fun b hb=>hold b (hsr.rolt b hb) fun e=>hro (e ▸ hb)) fun b hb=>Nat.lt_of_lt_of_le (hsr.rolt b hb) hsz
  · simp only [List.mem_singleton,Prod.mk.injEq] at hi hj
    exact absurd (hi.1.trans hj.1.symm) hij
  · obtain ⟨q,hq⟩:=reTag_old hb
    obtain ⟨h1,h2,h3,h4⟩:=hsr.tr.blk b i q hq
    refine ⟨Nat.lt_of_lt_of_le h1 hsz,.inr h2,h3,fun j y l' hj hl'=>?_⟩
    simp only [List.mem_singleton,Prod.mk.injEq] at hj
    exact h4 0 _ l' (List.mem_singleton.2 rfl) (by rw [← hj.1];exact hl')
  · simp only [List.mem_singleton,Prod.mk.injEq] at hi
    obtain ⟨rfl,rfl⟩:=hi
    obtain ⟨jo,h1,h2,h3⟩:=key j _ hj
    obtain ⟨l',u,h4,h5,h6⟩:=hsr.tr.cell 0 _ (List.mem_singleton.2 rfl) jo ty' sz m cs h1
    rw [hl] at h4;injection h4 with h4;injection h4 with h4;subst h4
    refine ⟨l,u,hl,?_,?_⟩
    · rw [cell_of_row w' l.g j cur' _ _ hc1,h2,← h5]
      exact (cell_of_row w l.g jo cur _ _ hc0).symm
    · have h7:=h6.root (w':=w') (tg':=reTag σ size E.tg) (j:=jo) (j':=j) rfl fun b q hb hq=>by
        obtain ⟨e1,_,_,e4⟩:=hsr.tr.blk b 0 q hb
        refine ⟨hold b e1 (fun e=>e4 0 _ l (List.mem_singleton.2 rfl) hl e.symm),?_⟩
        unfold reTag
        rw [hb]
        simp [hq,h3]
      exact h7
end Go.Proofs.YtidjjfjhmlndjaaGreatDoor
namespace Go.Proofs.YtidjjfjhmlndjaaGreatDoor
open Go.RowKit Go.Sort Go.Shelf
theorem OwnP.one {w:World}{tg:Nat→Option (Nat × List Nat)}{i:Nat}{p:List Nat}{d:D}{u:Value} (h:OwnP w tg i p d u):u.oneCell' = true:=by cases h<;>first|assumption|rfl
theorem sortW_row {α:Type} [Inhabited α] (enc:α→List Value) (k:Nat) (w:World) (blk m:Nat) (dk:Array α) (os:Array Obj) {cur:Array Value}{e:TypeId}{fr:Nat × Nat} (h:w.heap[blk]? = some (.cells cur e fr)):
    ∃ cur',cur'.size=cur.size∧(sortWorldK enc k w blk 0 m dk os).heap[blk]? = some (.cells cur' e fr):=by
  have hlt:blk < w.heap.size:=(Array.getElem?_eq_some_iff.1 h).1
  refine ⟨putCells id 0 (flatK enc k dk) cur,by simp [putCells],?_⟩
  show ((w.heap.modify blk (onCells (putCells id 0 (flatK enc k dk))))++os)[blk]? = _
  rw [Array.getElem?_append_left (by simpa using hlt),Array.getElem?_modify,if_pos rfl,h]
  rfl
theorem sortW_old {α:Type} [Inhabited α] (enc:α→List Value) (k:Nat) (w:World) (blk m:Nat) (dk:Array α) (os:Array Obj) (b:Nat) (hb:b < w.heap.size) (hne:b≠blk):(sortWorldK enc k w blk 0 m dk os).heap[b]? = w.heap[b]? :=by
  show ((w.heap.modify blk (onCells (putCells id 0 (flatK enc k dk))))++os)[b]? = _
  rw [Array.getElem?_append_left (by simpa using hb),Array.getElem?_modify,if_neg (fun e=>hne e.symm)]
theorem sortW_size {α:Type} [Inhabited α] (enc:α→List Value) (k:Nat) (w:World) (blk m:Nat) (dk:Array α) (os:Array Obj):w.heap.size≤(sortWorldK enc k w blk 0 m dk os).heap.size:=by
  show _≤((w.heap.modify blk (onCells (putCells id 0 (flatK enc k dk))))++os).size
  simp
/-- A slice of strings that lies apart from a block. -/
def StrRowB (blk:Nat) (w:World) (v:Value) (xs:List ByteArray):Prop:=∃ A c,v = .slice A xs.length c∧xs.length≤9223372036854775807∧∀ (k:Nat) (h:k < xs.length),∃ b o,A=some ⟨b,o,none⟩∧b < w.heap.size∧b≠blk∧w.cell? ⟨b,o+k,none⟩=some (.string xs[k])
theorem StrRowB.to {blk:Nat}{w w':World}{v:Value}{xs:List ByteArray} (h:StrRowB blk w v xs) (hs:w.heap.size≤w'.heap.size) (hb:∀ b,b < w.heap.size→b≠blk→w'.heap[b]? = w.heap[b]?):StrRow w' v xs:=by
  obtain ⟨A,c,h1,h2,h3⟩:=h
  refine ⟨A,c,h1,h2,fun k hk=>?_⟩
  obtain ⟨b,o,h4,h5,h6,h7⟩:=h3 k hk
  exact ⟨b,o,h4,Nat.lt_of_lt_of_le h5 hs,(World.cell?_of_block (a:=⟨b,o+k,none⟩) (hb b h5 h6)).trans h7⟩
def nedE (xs:List NeedD) (vs:List Value) (i:Nat):List Value:= [.string (xs.getD i default).key,.int .i64 (xs.getD i default).op,vs.getD i (.slice none 0 0)]
def nedC (xs:List NeedD) (i j:Nat):Int:=cmpNeed (xs.getD i default) (xs.getD j default)
theorem nedC_lt (xs:List NeedD) (i j:Nat):ltOf (nedC xs) i j=needLess (xs.getD i default) (xs.getD j default):=cmpNeed_lt _ _
theorem nedC_swo (xs:List NeedD):SWO (ltOf (nedC xs)) where
  irrefl i:=by rw [nedC_lt];exact needLess_sto.irr _
  trans i j k h1 h2:=by rw [nedC_lt] at *;exact needLess_sto.tr _ _ _ h1 h2
  ntrans i j k h1 h2:=by rw [nedC_lt] at *;exact needLess_sto.neg h1 h2
structure NedRows (blk:Nat) (w:World) (xs:List NeedD) (vs:List Value):Prop where
  len:vs.length=xs.length
  row:∀ (i:Nat) (h:i < vs.length),StrRowB blk w vs[i] (xs.getD i default).values∧(vs[i]).oneCell' = true
theorem NedRows.at {blk:Nat}{w:World}{xs:List NeedD}{vs:List Value} (h:NedRows blk w xs vs) (i:Nat):StrRowB blk w (vs.getD i (.slice none 0 0)) (xs.getD i default).values∧(vs.getD i (.slice none 0 0)).oneCell' = true:=by
  rcases Nat.lt_or_ge i vs.length with hi|hi
  · have e:vs.getD i (.slice none 0 0)=vs[i]:=by rw [List.getD_eq_getElem?_getD,List.getElem?_eq_getElem hi];rfl
    rw [e]
    exact h.row i hi
  · have e:vs.getD i (.slice none 0 0) = .slice none 0 0:=by rw [List.getD_eq_getElem?_getD,List.getElem?_eq_none hi];rfl
    have e2:xs.getD i default=default:=by rw [List.getD_eq_getElem?_getD,List.getElem?_eq_none (by rw [← h.len];exact hi)];rfl
    rw [e,e2]
    exact ⟨⟨none,0,rfl,Nat.zero_le _,fun k hk=>absurd hk (Nat.not_lt_zero _)⟩,rfl⟩
theorem nedLays {blk:Nat}{w:World}{xs:List NeedD}{vs:List Value} (h:NedRows blk w xs vs) (size:Nat):CmpLays Tryz.prog 138 #[] (nedE xs vs) 3 (nedC xs) blk 0 size w:=by
  intro m os dk _ x y
  have h1:=h.at x
  have h2:=h.at y
  exact cmpNeeds_any _ _ _ _ _ _ _ _ _ (h1.1.to (sortW_size ..) (sortW_old _ _ _ _ _ _ _)) (h2.1.to (sortW_size ..) (sortW_old _ _ _ _ _ _ _)) h1.2 h2.2
theorem nedE_len (xs:List NeedD) (vs:List Value) (i:Nat):(nedE xs vs i).length=3:=rfl
theorem nedE_one {blk:Nat}{w:World}{xs:List NeedD}{vs:List Value} (h:NedRows blk w xs vs) (i:Nat):∀ v ∈ nedE xs vs i,v.oneCell' = true:=by
  intro v hv
  simp only [nedE,List.mem_cons,List.not_mem_nil,or_false] at hv
  rcases hv with rfl|rfl|rfl
  · rfl
  · rfl
  · exact (h.at i).2
/-- What a row of needs with its memory says of the cells. -/
theorem ned_rows {M:Nat→Prop}{E:Env}{w:World}{ty:Nat}{xs:List NeedD} (_hv:∀ k,(xs.getD k default).values.length≤9223372036854775807) (hsr:SR M E [(0,⟨ty,3,xs.length,needsT xs⟩)] 1 w) {l:Loc} (hl:E.at_ 0=some (some l)) {cur:Array Value} (hc0:w.heap[l.g]? = some (.cells cur ty (0,0))) (hcur:∀ (j:Nat) (d:D),(needsT xs)[j]? = some d→∃ u,cur[j]? = some u∧u.oneCell' = true∧Rep1 E w d u):
    ∃ vs:List Value,NedRows l.g w xs vs∧∀ i,i < xs.length→∀ r,r < 3→cur[i*3+r]? = (nedE xs vs i)[r]? :=by
  obtain ⟨vs,hlen,hvs⟩:=choose_list (p:=fun i v=>cur[i*3+2]? = some v∧StrRowB l.g w v (xs.getD i default).values∧v.oneCell' = true) xs.length fun i hi=>by
    have e2:=needsT_f2 xs i hi
    obtain ⟨l',u,h4,h5,h6⟩:=hsr.tr.cell 0 _ (List.mem_singleton.2 rfl) (i*3+2) _ _ _ _ e2
    rw [hl] at h4;injection h4 with h4;injection h4 with h4;subst h4
    refine ⟨u,?_,?_,?_⟩
    · rw [← h5];exact (cell_of_row w l.g _ cur _ _ hc0).symm
    · generalize (xs.getD i default).values=ys at h6
      generalize hn:ys.length=n at h6
      generalize hcs:strsD ys=cs at h6
      cases h6 with
      |nil=>
        obtain rfl:ys = []:=List.eq_nil_of_length_eq_zero hn
        exact ⟨none,0,rfl,Nat.zero_le _,fun k hk=>absurd hk (Nat.not_lt_zero _)⟩
      |tr p ty' size' n' cs' b c cur2 us hb hw hz hl2 hcur2 hnc hcm hu hat hrep=>
        subst hn
        obtain ⟨q1,_,_,q4⟩:=hsr.tr.blk b 0 _ hb
        refine ⟨some ⟨b,0,none⟩,c,rfl,by unfold maxLen at hcm;omega,fun k hk=>⟨b,0,rfl,q1,fun e=>q4 0 _ l (List.mem_singleton.2 rfl) hl e.symm,?_⟩⟩
        have hkc:k < us.length:=by rw [hu,hl2];omega
        have h8:=hat k us[k] (List.getElem?_eq_getElem hkc)
        have h9:cs[k]? = some (.sc (.string ys[k])):=by rw [← hcs];simp [strsD,hk]
        have h10:=hrep k _ us[k] h9 (List.getElem?_eq_getElem hkc)
        have h11:us[k] = .string ys[k]:=by
          generalize us[k]=x at h10
          cases h10
          rfl
        rw [cell_of_row w b _ cur2 _ _ hw,Nat.zero_add,h8,h11]
    · exact h6.one
  have hrow:NedRows l.g w xs vs:=⟨hlen,fun i hi=>⟨(hvs i hi).2.1,(hvs i hi).2.2⟩⟩
  refine ⟨vs,hrow,fun i hi r hr=>?_⟩
  have hiv:i < vs.length:=by rw [hlen];exact hi
  match r,hr with
  |0,_=>
    obtain ⟨u,h1,_,h2⟩:=hcur (i*3) _ (needsT_f0 xs i hi)
    show cur[i*3]? = some _
    rw [h1,h2.1]
  |1,_=>
    obtain ⟨u,h1,_,h2⟩:=hcur (i*3+1) _ (needsT_f1 xs i hi)
    show cur[i*3+1]? = some _
    rw [h1,h2.1]
  |2,_=>
    show cur[i*3+2]? = some (vs.getD i (.slice none 0 0))
    rw [(hvs i hiv).1,List.getD_eq_getElem?_getD,List.getElem?_eq_getElem hiv]
    rfl
/-- The row as the sort's own kit reads it. -/
theorem ned_holds {w:World}{g:Nat}{ty:Nat}{xs:List NeedD}{vs:List Value}{cur:Array Value} (hc0:w.heap[g]? = some (.cells cur ty (0,0))) (hcells:∀ i,i < xs.length→∀ r,r < 3→cur[i*3+r]? = (nedE xs vs i)[r]?) (d:Array Nat) (hd:∀ i,i < d.size→d[i]! < xs.length∧d[i]! = i):HoldsK (nedE xs vs) 3 w g 0 d:=by
  intro j hj
  rw [size_flatK] at hj
  have hq:j / 3 < d.size:=by omega
  obtain ⟨h1,h2⟩:=hd (j / 3) hq
  refine ⟨?_,?_⟩
  · rw [get_flatK _ _ _ _ hj,h2,cell_of_row w g _ cur _ _ hc0,Nat.zero_add]
    have h3:=hcells (j / 3) (by omega) (j % 3) (by omega)
    rw [show j / 3*3+j % 3=j by omega] at h3
    rw [h3]
    have h4:j % 3 < (nedE xs vs (j / 3)).length:=by rw [nedE_len];omega
    rw [List.getElem?_eq_getElem h4]
    simp [getElem!_pos,h4]
  · unfold World.frozen?
    simp [hc0]
theorem range_map {α:Type} [Inhabited α] (xs:List α):(List.range xs.length).map (fun k=>xs.getD k default)=xs:=by
  refine List.ext_getElem? fun j=>?_
  rw [List.getElem?_map]
  rcases Nat.lt_or_ge j xs.length with h|h
  · rw [List.getElem?_range h]
    show some (xs.getD j default)=_
    rw [List.getD_eq_getElem?_getD,List.getElem?_eq_getElem h]
    rfl
  · rw [List.getElem?_eq_none (by simpa using h),List.getElem?_eq_none h]
    rfl
/-- What the sort's kit says, over lists. -/
theorem sorted_list {α:Type} [Inhabited α] {lt:α→α→Bool}{cf:Nat→Nat→Int}{xs:List α} (hcf:∀ i j,ltOf cf i j=lt (xs.getD i default) (xs.getD j default)) {d':Array Nat} (hp:PermIn 0 (Array.range xs.length).size (Array.range xs.length) d') (hs:SortedIn (ltOf cf) 0 (Array.range xs.length).size d'):
    d'.toList.Perm (List.range xs.length)∧(d'.toList.map fun k=>xs.getD k default).Perm xs∧(d'.toList.map fun k=>xs.getD k default).Pairwise fun a b=>lt b a=false:=by
  obtain ⟨h1,_,h3⟩:=hp
  have h4:d'.toList.Perm (List.range xs.length):=by
    have e1:d'.extract 0 (Array.range xs.length).size=d':=by rw [← h1];exact Array.extract_size
    have e2:(Array.range xs.length).extract 0 (Array.range xs.length).size=Array.range xs.length:=Array.extract_size
    rw [e1,e2,Array.toList_range] at h3
    exact h3
  refine ⟨h4,?_,?_⟩
  · have:=h4.map fun k=>xs.getD k default
    rwa [range_map] at this
  · rw [List.pairwise_map,List.pairwise_iff_getElem]
    intro i j hi hj hij
    have hj':j < d'.size:=by simpa using hj
    have hi':i < d'.size:=by simpa using hi
    have:=hs i j (Nat.zero_le _) hij (by rw [← h1];exact hj')
    rw [hcf,getElem!_pos d' j hj',getElem!_pos d' i hi'] at this
    simpa using this
set_option maxHeartbeats 1000000 in
theorem sortNeeds_H (xs:List NeedD) (hn:xs.length≤1048576) (hv:∀ k,(xs.getD k default).values.length≤9223372036854775807):SpecH Tryz.prog 137 [.own 0 0 xs.length,.fn 138 []] [(0,⟨103,3,xs.length,needsT xs⟩)] 1
    (fun d os' nb'=>d = .tup []∧(∃ ys:List NeedD,ys.Perm xs∧(ys.Pairwise fun a b=>needLess b a=false)∧os' = [(0,⟨103,3,xs.length,needsT ys⟩)])∧nb' = 1):=by
  refine ⟨callable Tryz.func137 rfl (by kernel_rfl),fun E M w args hsr hsz hrep=>?_⟩
  obtain ⟨v,fv,rfl⟩:=args2 hsz
  have h0:Rep E w (.own 0 0 xs.length) v:=hrep 0 _ rfl
  have hf:Rep E w (.fn 138 []) fv:=hrep 1 _ rfl
  obtain ⟨us,rfl,hul,_⟩:=hf
  obtain rfl:us = []:=List.eq_nil_of_length_eq_zero hul
  have hsame : SR (fun g => w.heap.size ≤ g ∨ M g) E [(0, ⟨103, 3, xs.length, needsT xs⟩)] 1 w := ⟨fun i x hi => by
      have:=hsr.obs i x hi
      refine ⟨this.1,this.2.imp_right ?_⟩
      rintro ⟨l,q1,q2,q3⟩
      exact ⟨l, q1, .inr q2, q3⟩, hsr.new, hsr.rolt, hsr.apart, hsr.nodup, ⟨fun b i p hb => by obtain ⟨q1, q2, q3⟩ := hsr.tr.blk b i p hb; exact ⟨q1, .inr q2, q3⟩, hsr.tr.cell⟩⟩
  have hemp:xs = []→∀ (p:Option Addr) (c:Nat),v = .slice p 0 c→Calls Tryz.prog 137 #[v,.func (.func 138) #[] ([]:List Value).toArray] w fun e w'=>∃ d os' nb' E' u,(d = .tup []∧(∃ ys:List NeedD,ys.Perm xs∧(ys.Pairwise fun a b=>needLess b a=false)∧os' = [(0,⟨103,3,xs.length,needsT ys⟩)])∧nb' = 1)∧e = .returned u∧Rep E' w' d u∧SR (fun g=>w.heap.size≤g∨M g) E' os' nb' w'∧1≤nb'∧E.le E'∧
      w'.os=w.os∧w'.tape=w.tape∧w'.output=w.output∧w.heap.size≤w'.heap.size∧(∀ b,b < w.heap.size→¬ M b→w'.heap[b]? = w.heap[b]?)∧(∀ b,E'.ro b→E.ro b∨w.heap.size≤b∨M b)∧(∀ i l,1≤i→E'.at_ i=some (some l)→w.heap.size≤l.g∨M l.g):=by
    intro hx p c hvp
    subst hvp
    refine (AnyF.slices_SortFunc_none Tryz.sortNeed p c _ w).mono ?_
    rintro e w' ⟨rfl,rfl⟩
    refine ⟨.tup [],_,1,E,.tuple #[],⟨rfl,⟨xs,List.Perm.refl _,?_,rfl⟩,rfl⟩,rfl,⟨[],rfl,rfl,fun j d u hd=>by simp at hd⟩,hsame,Nat.le_refl _,.refl E,rfl,rfl,rfl,Nat.le_refl _,fun _ _ _=>rfl,fun b hb=>.inl hb,fun i l hi hil=>by rw [hsr.new i hi] at hil;cases hil⟩
    rw [hx];exact List.Pairwise.nil
  rcases h0 with ⟨l,c,hl,rfl,hnc,hcm,hcc⟩|⟨_,_,hn0,rfl⟩
  · by_cases hx:xs = []
    · subst hx
      exact hemp rfl _ _ rfl
    · have hob:=hsr.obs 0 _ (List.mem_singleton.2 rfl)
      obtain ⟨cur,hc0,hcsz,hcur,hMl⟩:∃ cur,w.heap[l.g]? = some (.cells cur 103 (0,0))∧cur.size=l.cap*3∧(∀ (j:Nat) (d:D),(needsT xs)[j]? = some d→∃ u,cur[j]? = some u∧u.oneCell' = true∧Rep1 E w d u)∧M l.g:=by
        rcases hob.2 with ⟨h5,_⟩|⟨m,h5,h6,h7,h8,h9,h10⟩
        · rw [hl] at h5;cases h5
        · rw [hl] at h5;injection h5 with h5;injection h5 with h5;subst h5
          rcases h10 with ⟨cur,c1,c2,c3⟩|⟨c1,_⟩
          · exact ⟨cur,c1.row (by show ¬ 103=1000000;decide),c2,c3,h6⟩
          · exact absurd c1 (by show ¬ (3=0);decide)
      obtain ⟨vs,hrows,hcells⟩:=ned_rows hv hsr hl hc0 hcur
      have hblk:l.g < w.heap.size:=(Array.getElem?_eq_some_iff.1 hc0).1
      have hH:=ned_holds hc0 hcells (Array.range xs.length) fun i hi=>by
        have hi':i < xs.length:=by simpa using hi
        rw [getElem!_pos _ i hi,Array.getElem_range]
        exact ⟨hi',rfl⟩
      have hcall:=AnyQ.slices_SortFunc Tryz.sortNeed 3 Tryz.isAgg103 Tryz.sizeOf103 (nedE xs vs) (nedE_len xs vs) (nedE_one hrows) (nedC xs) (nedC_swo xs) 138 #[] l.g 0 c (Array.range xs.length) w (callable Tryz.func138 rfl (by kernel_rfl)) (nedLays hrows _) hH hblk (by rw [Array.size_range];omega)
      rw [Array.size_range] at hcall
      refine hcall.mono ?_
      rintro e w' ⟨rfl,d',n,os,hp,hs,rfl⟩
      obtain ⟨hσ,hperm,hpair⟩:=sorted_list (lt:=needLess) (nedC_lt xs) (by rw [Array.size_range];exact hp) (by rw [Array.size_range];exact hs)
      have hdl:d'.toList.length=xs.length:=by rw [hσ.length_eq,List.length_range]
      obtain ⟨cur',hc1,hc2⟩:=sortW_row (nedE xs vs) 3 w l.g n d' os hc0
      have hH2:=holdsK_sortWorldK_c (nedE xs vs) 3 w l.g 0 (Array.range xs.length) d' n os hH hblk (by rw [Array.size_range,← Array.length_toList,hdl])
      have hdlt:∀ q,q ∈ d'.toList→q < xs.length:=fun q hq=>List.mem_range.1 (hσ.mem_iff.1 hq)
      obtain ⟨E', hE1, hE2, hsr'⟩ := sel_sr (cells := needCellsT) needCellsT_len (by decide) (fun _ => rfl) hsr hl hc0 d'.toList hdlt (hσ.nodup_iff.2 List.nodup_range) (by omega) hc2 (by rw [hc1, hcsz]) (fun q r hq hr => by
        have hq':q < d'.size:=by simpa using hq
        have e1:=(HoldsK.cells hH2 (nedE_len xs vs) hq')
        have hmem:d'[q]! < xs.length:=by rw [getElem!_pos d' q hq'];exact hdlt _ (by simp)
        have e2:d'.toList.getD q 0=d'[q]! :=by
          rw [List.getD_eq_getElem?_getD,List.getElem?_eq_getElem hq,getElem!_pos d' q hq']
          simp
        rw [e2,hcells _ hmem r hr]
        have h4:r < (nedE xs vs d'[q]!).length:=hr
        have e3:=e1 r _ (List.getElem?_eq_getElem h4)
        rw [Addr.add_lit,Nat.zero_add,cell_of_row _ l.g _ cur' _ _ hc2] at e3
        rw [e3, List.getElem?_eq_getElem h4]) (sortW_size ..) (fun b hb hne => sortW_old _ _ _ _ _ _ _ b hb hne)
      refine ⟨.tup [],_,1,E',.tuple #[],⟨rfl,⟨_,hperm,hpair,?_⟩,rfl⟩,rfl,⟨[],rfl,rfl,fun j d u hd=>by simp at hd⟩,hsr',Nat.le_refl _,⟨fun i m hm=>by rw [hE1];exact hm,fun b hb=>by rw [hE2];exact hb⟩,rfl,rfl,rfl,sortW_size ..,fun b hb hm=>sortW_old _ _ _ _ _ _ _ b hb (fun e=>hm (e ▸ hMl)),fun b hb=>.inl (by rw [hE2] at hb;exact hb),fun i m hi him=>by rw [hE1,hsr.new i hi] at him;cases him⟩
      rw [hdl]
      rfl
  · exact hemp (List.eq_nil_of_length_eq_zero hn0) _ _ rfl
end Go.Proofs.YtidjjfjhmlndjaaGreatDoor
