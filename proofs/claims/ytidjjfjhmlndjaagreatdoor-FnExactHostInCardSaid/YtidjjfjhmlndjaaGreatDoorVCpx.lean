/- Cpx (what is wanted of them). -/
import Derived.Test.YtidjjfjhmlndjaaGreatDoorVSrx
import Derived.Shelf.Lays
import Derived.Shelf.Sort.Plain
import Derived.Shelf.Slices.In.SortNone
import Derived.Shelf.Slices.CompactS
import Derived.Test.YtidjjfjhmlndjaaGreatDoorProg
namespace Go.Proofs.YtidjjfjhmlndjaaGreatDoor
open Go.RowKit Go.Sort Go.Shelf Go.Lib
def keepL (e:Nat→Nat→Bool) (m:Nat):List Nat:=(List.range m).filter fun j=>j==0||!e j (j - 1)
theorem keepL_yes {e:Nat→Nat→Bool}{m:Nat} (h:(m==0||!e m (m - 1))=true):keepL e (m+1)=keepL e m ++ [m]:=by
  unfold keepL
  rw [List.range_succ,List.filter_append]
  simp only [List.filter_cons,List.filter_nil,h,if_true]
theorem keepL_no {e:Nat→Nat→Bool}{m:Nat} (h:(m==0||!e m (m - 1))=false):keepL e (m+1)=keepL e m:=by
  unfold keepL
  rw [List.range_succ,List.filter_append]
  simp only [List.filter_cons,List.filter_nil,h]
  simp
theorem keepL_le (e:Nat→Nat→Bool) (m:Nat):(keepL e m).length≤m:=by
  have:=List.length_filter_le (fun j=>j==0||!e j (j - 1)) (List.range m)
  rwa [List.length_range] at this
theorem keepL_lt {e:Nat→Nat→Bool}{m q:Nat} (h:q ∈ keepL e m):q < m:=List.mem_range.1 (List.mem_filter.1 h).1
theorem keepL_nodup (e:Nat→Nat→Bool) (m:Nat):(keepL e m).Nodup:=List.nodup_range.filter _
theorem keepL_all {e:Nat→Nat→Bool}{m:Nat} (h:∀ j,j < m→0 < j→e j (j - 1)=false):keepL e m=List.range m:=by
  unfold keepL
  rw [List.filter_eq_self]
  intro j hj
  have hj:=List.mem_range.1 hj
  rcases Nat.eq_zero_or_pos j with h0|h0
  · simp [h0]
  · simp [h j hj h0]
/-- The row's things while it is compacted. -/
def dkOf (e:Nat→Nat→Bool) (n m:Nat):Array Nat:=(keepL e m++(List.range n).drop (keepL e m).length).toArray
theorem dkOf_size {e:Nat→Nat→Bool}{n m:Nat} (h:m≤n):(dkOf e n m).size=n:=by
  have:=keepL_le e m
  simp [dkOf];omega
theorem dkOf_high {e:Nat→Nat→Bool}{n m i:Nat} (h:(keepL e m).length≤i) (hi:i < n):(dkOf e n m)[i]! = i:=by
  unfold dkOf
  rw [getElem!_pos _ i (by simp;omega)]
  simp only [List.getElem_toArray]
  rw [List.getElem_append_right h]
  simp;omega
theorem dkOf_low {e:Nat→Nat→Bool}{n m i:Nat} (h:i < (keepL e m).length):(dkOf e n m)[i]! = (keepL e m).getD i 0:=by
  unfold dkOf
  rw [getElem!_pos _ i (by simp;omega)]
  simp only [List.getElem_toArray]
  rw [List.getElem_append_left h,List.getD_eq_getElem?_getD,List.getElem?_eq_getElem h]
  rfl
theorem dkOf_yes {e:Nat→Nat→Bool}{n m:Nat} (hm:m < n) (h:(m==0||!e m (m - 1))=true):(dkOf e n m).setIfInBounds (keepL e m).length m=dkOf e n (m+1):=by
  have hl:=keepL_le e m
  unfold dkOf
  rw [keepL_yes h]
  apply Array.ext'
  rw [Array.toList_setIfInBounds]
  simp only [List.length_append,List.length_singleton]
  rw [List.set_append_right _ _ (Nat.le_refl _),Nat.sub_self]
  have hd:(List.range n).drop (keepL e m).length=(keepL e m).length::(List.range n).drop ((keepL e m).length+1):=by
    rw [List.drop_eq_getElem_cons (by simp;omega)]
    simp
  rw [hd]
  simp
theorem dkOf_no {e:Nat→Nat→Bool}{n m:Nat} (h:(m==0||!e m (m - 1))=false):dkOf e n (m+1)=dkOf e n m:=by
  unfold dkOf
  rw [keepL_no h]
theorem dkOf_all {e:Nat→Nat→Bool}{n m:Nat} (hm:m≤n) (h:∀ j,j < m→0 < j→e j (j - 1)=false):dkOf e n m=Array.range n:=by
  unfold dkOf
  rw [keepL_all h,List.length_range]
  have h1:List.range m=(List.range n).take m:=by rw [List.take_range,Nat.min_eq_left hm]
  rw [h1,List.take_append_drop]
  apply Array.ext'
  simp
section
variable {α:Type} [Inhabited α] {enc:α→List Value}{k:Nat}{w0 W:World}{blk off:Nat}{dk:Array α}
theorem setMany_set (hk:∀ x,(enc x).length=k) (d:Array α) (i:Nat) (y:α) (hi:i < d.size):setMany (flatK enc k d) (i*k) (enc y)=flatK enc k (d.setIfInBounds i y):=by
  refine ext_get! (by simp) fun t ht=>?_
  have ht':t < d.size*k:=by simpa using ht
  have k0:0 < k:=by
    rcases Nat.eq_zero_or_pos k with h|h
    · subst h;simp at ht'
    · exact h
  have hq:t / k < d.size:=Nat.div_lt_of_lt_mul (by rw [Nat.mul_comm];exact ht')
  rw [get_setMany _ _ _ t (by simpa using ht'),get_flatK _ _ _ t ht',get_flatK _ _ _ t (by simpa using ht'),hk]
  by_cases a:t / k=i
  · rw [if_pos ((blk_iff k i t k0).2 a)]
    have e1:t - i*k=t % k:=by subst a;rw [Nat.mod_eq_sub_div_mul]
    rw [e1,a,getElem!_pos (d.setIfInBounds i y) i (by simpa using hi)]
    simp
  · rw [if_neg (fun h=>a ((blk_iff k i t k0).1 h))]
    rw [getElem!_pos d (t / k) hq,getElem!_pos (d.setIfInBounds i y) (t / k) (by simpa using hq),Array.getElem_setIfInBounds hq,if_neg (fun h=>a h.symm)]
omit [Inhabited α] in
theorem rowK_in (dk:Array α) (k x:Nat) (hx:x < dk.size):x*k+k≤dk.size*k:=by
  have:=Nat.mul_le_mul_right k (show x+1≤dk.size from hx);rwa [Nat.add_mul,Nat.one_mul] at this
theorem swk_stored (h:SWK enc k w0 blk off dk W) (hk:∀ x,(enc x).length=k) (hblk:blk < w0.heap.size) (i:Nat) (y:α) (hi:i < dk.size):SWK enc k w0 blk off (dk.setIfInBounds i y) (W.setCells blk (off+i*k) (enc y)):=by
  obtain ⟨n,os,rfl⟩:=h
  refine ⟨n,os,?_⟩
  unfold sortWorldK
  rw [← putRowK_grow enc k (Sort.ahead w0 n) os blk off dk hblk,← putRowK_grow enc k (Sort.ahead w0 n) os blk off _ hblk]
  unfold putRowK
  rw [setCells_putRow _ _ _ _ _ _ (by rw [hk,size_flatK];exact rowK_in dk k i hi),setMany_set hk dk i y hi]
theorem setCells_app (w:World) (b:Nat):∀ (xs:List Value) (o:Nat) (ys:List Value),w.setCells b o (xs++ys)=(w.setCells b o xs).setCells b (o+xs.length) ys
  | [],o,ys=>rfl
  |x::xs,o,ys=>by
    show (w.setCell ⟨b,o,none⟩ x).setCells b (o+1) (xs++ys)=((w.setCell ⟨b,o,none⟩ x).setCells b (o+1) xs).setCells b (o+(xs.length+1)) ys
    rw [setCells_app _ b xs (o+1) ys,show o+1+xs.length=o+(xs.length+1) by omega]
theorem swk_cleared (hk:∀ x,(enc x).length=k) (hblk:blk < w0.heap.size) (z:α):∀ (t s:Nat) (dk:Array α) (W:World),SWK enc k w0 blk off dk W→s+t≤dk.size→∃ dk':Array α,dk'.size=dk.size∧(∀ i,i < s→dk'[i]! = dk[i]!)∧SWK enc k w0 blk off dk' (W.setCells blk (off+s*k) (List.replicate t (enc z)).flatten)
  |0,s,dk,W,h,_=>⟨dk,rfl,fun _ _=>rfl,h⟩
  |t+1,s,dk,W,h,hs=>by
    obtain ⟨dk',h1,h2,h3⟩:=swk_cleared hk hblk z t (s+1) (dk.setIfInBounds s z) _ (swk_stored h hk hblk s z (by omega)) (by simpa using (by omega:s+1+t≤dk.size))
    refine ⟨dk',by simpa using h1,fun i hi=>?_,?_⟩
    · rw [h2 i (by omega)]
      by_cases hsz:i < dk.size
      · rw [getElem!_pos (dk.setIfInBounds s z) i (by simpa using hsz),getElem!_pos dk i hsz,Array.getElem_setIfInBounds hsz,if_neg (by omega)]
      · omega
    · have e1:(List.replicate (t+1) (enc z)).flatten=enc z++(List.replicate t (enc z)).flatten:=rfl
      rw [e1,setCells_app,hk,show off+s*k+k=off+(s+1)*k by rw [Nat.add_mul,Nat.one_mul,Nat.add_assoc]]
      exact h3
theorem zero_flat (z:Array Value) (n:Nat):(Builtin.zeroCells z n).toList=(List.replicate n z.toList).flatten:=by
  induction n with
  |zero=>simp [Builtin.zeroCells]
  |succ n ih=>
    rw [List.replicate_succ',List.flatten_append,← ih]
    unfold Builtin.zeroCells
    simp only [Array.toList_map,Array.toList_range]
    rw [Nat.add_mul,Nat.one_mul,List.range_add,List.map_append]
    congr 1
    refine List.ext_getElem (by simp) fun i h1 h2=>?_
    have hi:i < z.size:=by simpa using h1
    simp [Nat.add_mod,Nat.mod_eq_of_lt hi,getElem!_pos z i hi]
theorem run_clear_k {P:Program}{t e ty:TypeId}{z:Array Value} (ht:P.underlying t=some (.slice e)) (hv:∀ w,(zeroValue e).run P w = .ok (.agg z) w) (h1:∀ v ∈ z.toList,v.oneCell' = true) {F:Array Value} (hH:Holds id W blk off F) (s n c:Nat) (hn:0 < n) (hs:s+n*z.size≤F.size):
    (Builtin.clear_ #[t] ty #[.slice (some ⟨blk,off+s,none⟩) n c]).run P W = .ok (.tuple #[]) (W.setCells blk (off+s) (List.replicate n z.toList).flatten):=by
  have hst := stores_of_holds P hH s (List.replicate n z.toList).flatten (by simpa using hs) (fun v hv => by
    obtain ⟨l,h2,h3⟩:=List.mem_flatten.1 hv
    rw [List.eq_of_mem_replicate h2] at h3
    exact h1 v h3)
  rw [← zero_flat] at hst
  obtain ⟨m,rfl⟩:∃ m,n=m+1:=⟨n - 1,by omega⟩
  rw [← zero_flat]
  simp [Builtin.clear_,run_underlying ht,hv,Value.cells,hst]
end
end Go.Proofs.YtidjjfjhmlndjaaGreatDoor
namespace Go.Proofs.YtidjjfjhmlndjaaGreatDoor
open Go.RowKit Go.Sort Go.Shelf Go.Lib
theorem rowK_in' (n k x:Nat) (hx:x < n):x*k+k≤n*k:=by
  have:=Nat.mul_le_mul_right k (show x+1≤n from hx);rwa [Nat.add_mul,Nat.one_mul] at this
theorem zero_run {P:Program}{t:TypeId}{z:Value} (hz:zeroK P t=some z) (w:World):(zeroValue t).run P w = .ok z w:=by
  unfold zeroK at hz
  cases hi:P.info? t with
  |none=>rw [hi] at hz;cases hz
  |some i=>
    rw [hi] at hz
    have hz':i.zero=some z:=hz
    simp [zeroValue,run_typeInfo w hi,hz']
/-- What the walk is told of the test. -/
def EqLays (enc:Nat→List Value) (e:Nat→Nat→Bool) (g k blk off size:Nat) (w:World):Prop:=∀ (m:Nat) (os:Array Obj) (dk:Array Nat),dk.size=size→∀ x y,Calls Tryz.prog g #[.agg (enc x).toArray,.agg (enc y).toArray] (sortWorldK enc k w blk off m dk os) fun e' w'=>e' = .returned (.bool (e x y))∧∃ q os',w' = grow ((sortWorldK enc k w blk off m dk os).drewN q) os'
theorem EqLays.at {enc:Nat→List Value}{e:Nat→Nat→Bool}{g k blk off size:Nat}{w W:World}{dk:Array Nat} (hC:EqLays enc e g k blk off size w) (h:SWK enc k w blk off dk W) (hs:dk.size=size) (x y n:Nat) (os:Array Obj):Calls Tryz.prog g (#[.agg (enc x).toArray,.agg (enc y).toArray]++#[]) (grow (W.drewN n) os) fun e' w'=>e' = .returned (.bool (e x y))∧∃ q os',w' = grow ((grow (W.drewN n) os).drewN q) os':=by
  obtain ⟨m,os0,hw⟩:=h.grown n os
  rw [hw]
  exact hC m os0 dk hs x y
end Go.Proofs.YtidjjfjhmlndjaaGreatDoor
namespace Go.Proofs.YtidjjfjhmlndjaaGreatDoor
open Go.RowKit Go.Sort Go.Shelf Go.Lib
theorem cptG_app {α:Type} (s:α→α→Bool) (y:α):∀ (p:α) (l:List α),cptG s p (l ++ [y])=cptG s p l++if s y ((p::l).getLast (List.cons_ne_nil _ _))=true then [] else [y]
  |p, []=>by
    show (if s y p=true then [] else [y]) = []++if s y p=true then [] else [y]
    rfl
  |p,a::r=>by
    rw [List.cons_append,cptG,cptG_app s y a r,cptG,List.getLast_cons (List.cons_ne_nil a r)]
    split<;>rfl
theorem cptL_keep {α:Type} [Inhabited α] (s:α→α→Bool) (xs:List α):∀ m,m≤xs.length→cptL s (xs.take m)=(keepL (fun i j=>s (xs.getD i default) (xs.getD j default)) m).map fun k=>xs.getD k default
  |0,_=>rfl
  |m+1,h=>by
    have ih:=cptL_keep s xs m (by omega)
    have hg:xs.getD m default=xs[m]:=by rw [List.getD_eq_getElem?_getD,List.getElem?_eq_getElem (by omega)];rfl
    rw [List.take_succ_eq_append_getElem (by omega),← hg]
    rcases Nat.eq_zero_or_pos m with h0|h0
    · subst h0
      rw [keepL_yes rfl]
      rfl
    · obtain ⟨k,rfl⟩:∃ k,m=k+1:=⟨m - 1,by omega⟩
      match xs,h with
      |x::r,h=>
        have h':k+1≤r.length:=by simpa using h
        rw [List.take_succ_cons] at ih ⊢
        rw [List.cons_append]
        show x::cptG s x (r.take k ++ [_])=_
        rw [cptG_app,← List.cons_append]
        have ih':x::cptG s x (r.take k)=_:=ih
        rw [ih']
        have hl:(x::r.take k).getLast (List.cons_ne_nil _ _)=(x::r).getD k default:=by
          rw [List.getLast_eq_getElem,List.getD_eq_getElem?_getD,List.getElem?_eq_getElem (by simp;omega)]
          have:(x::r.take k).length - 1=k:=by simp;omega
          simp only [this]
          show _=(x::r)[k]
          have e2:x::r.take k=(x::r).take (k+1):=rfl
          simp only [e2,List.getElem_take]
        rw [hl]
        by_cases hs:s ((x::r).getD (k+1) default) ((x::r).getD k default)=true
        · rw [if_pos hs,keepL_no (m:=k+1) (by show (k+1==0||!s ((x::r).getD (k+1) default) ((x::r).getD (k+1 - 1) default))=false;rw [Nat.add_sub_cancel,hs];rfl),List.append_nil]
        · rw [if_neg hs,keepL_yes (m:=k+1) (by show (k+1==0||!s ((x::r).getD (k+1) default) ((x::r).getD (k+1 - 1) default))=true;rw [Nat.add_sub_cancel,Bool.eq_false_iff.2 hs];rfl),List.map_append]
          rfl
end Go.Proofs.YtidjjfjhmlndjaaGreatDoor
namespace Go.Proofs.YtidjjfjhmlndjaaGreatDoor
open Go.RowKit Go.Sort Go.Shelf Go.Lib
end Go.Proofs.YtidjjfjhmlndjaaGreatDoor
