/- Cpx (what is wanted of them). -/
import Derived.Test.YtidjjfjhmlndjaaGreatDoorVSrx
import Derived.Test.YtidjjfjhmlndjaaGreatDoorVShelf5
namespace Go.Proofs.YtidjjfjhmlndjaaGreatDoor
open Go.RowKit Go.Sort Go.Shelf Go.Lib
def keepL (e:Nat→Nat→Bool) (m:Nat):List Nat:=(List.range m).filter fun j=>j==0||!e j (j - 1)
theorem keepL_yes {e:Nat→Nat→Bool}{m:Nat} (h:(m==0||!e m (m - 1))=true):keepL e (m+1)=keepL e m ++ [m]:=by
  unfold keepL
  rw [List.range_succ,List.filter_append]
  simp only [List.filter_cons,List.filter_nil,h,if_true]
theorem keepL_no {e:Nat→Nat→Bool}{m:Nat} (h:(m==0||!e m (m - 1))=false):keepL e (m+1)=keepL e m:=by
  unfold keepL
  rw [List.range_succ,List.filter_append]
  simp only [List.filter_cons,List.filter_nil,h]
  simp
theorem keepL_le (e:Nat→Nat→Bool) (m:Nat):(keepL e m).length≤m:=by
  have:=List.length_filter_le (fun j=>j==0||!e j (j - 1)) (List.range m)
  rwa [List.length_range] at this
theorem keepL_lt {e:Nat→Nat→Bool}{m q:Nat} (h:q ∈ keepL e m):q < m:=List.mem_range.1 (List.mem_filter.1 h).1
theorem keepL_nodup (e:Nat→Nat→Bool) (m:Nat):(keepL e m).Nodup:=List.nodup_range.filter _
theorem keepL_all {e:Nat→Nat→Bool}{m:Nat} (h:∀ j,j < m→0 < j→e j (j - 1)=false):keepL e m=List.range m:=by
  unfold keepL
  rw [List.filter_eq_self]
  intro j hj
  have hj:=List.mem_range.1 hj
  rcases Nat.eq_zero_or_pos j with h0|h0
  · simp [h0]
  · simp [h j hj h0]
/-- The row's things while it is compacted. -/
def dkOf (e:Nat→Nat→Bool) (n m:Nat):Array Nat:=(keepL e m++(List.range n).drop (keepL e m).length).toArray
theorem dkOf_size {e:Nat→Nat→Bool}{n m:Nat} (h:m≤n):(dkOf e n m).size=n:=by
  have:=keepL_le e m
  simp [dkOf];omega
theorem dkOf_high {e:Nat→Nat→Bool}{n m i:Nat} (h:(keepL e m).length≤i) (hi:i < n):(dkOf e n m)[i]! = i:=by
  unfold dkOf
  rw [getElem!_pos _ i (by simp;omega)]
  simp only [List.getElem_toArray]
  rw [List.getElem_append_right h]
  simp;omega
theorem dkOf_low {e:Nat→Nat→Bool}{n m i:Nat} (h:i < (keepL e m).length):(dkOf e n m)[i]! = (keepL e m).getD i 0:=by
  unfold dkOf
  rw [getElem!_pos _ i (by simp;omega)]
  simp only [List.getElem_toArray]
  rw [List.getElem_append_left h,List.getD_eq_getElem?_getD,List.getElem?_eq_getElem h]
  rfl
theorem dkOf_yes {e:Nat→Nat→Bool}{n m:Nat} (hm:m < n) (h:(m==0||!e m (m - 1))=true):(dkOf e n m).setIfInBounds (keepL e m).length m=dkOf e n (m+1):=by
  have hl:=keepL_le e m
  unfold dkOf
  rw [keepL_yes h]
  apply Array.ext'
  rw [Array.toList_setIfInBounds]
  simp only [List.length_append,List.length_singleton]
  rw [List.set_append_right _ _ (Nat.le_refl _),Nat.sub_self]
  have hd:(List.range n).drop (keepL e m).length=(keepL e m).length::(List.range n).drop ((keepL e m).length+1):=by
    rw [List.drop_eq_getElem_cons (by simp;omega)]
    simp
  rw [hd]
  simp
theorem dkOf_no {e:Nat→Nat→Bool}{n m:Nat} (h:(m==0||!e m (m - 1))=false):dkOf e n (m+1)=dkOf e n m:=by
  unfold dkOf
  rw [keepL_no h]
theorem dkOf_all {e:Nat→Nat→Bool}{n m:Nat} (hm:m≤n) (h:∀ j,j < m→0 < j→e j (j - 1)=false):dkOf e n m=Array.range n:=by
  unfold dkOf
  rw [keepL_all h,List.length_range]
  have h1:List.range m=(List.range n).take m:=by rw [List.take_range,Nat.min_eq_left hm]
  rw [h1,List.take_append_drop]
  apply Array.ext'
  simp
section
variable {α:Type} [Inhabited α] {enc:α→List Value}{k:Nat}{w0 W:World}{blk off:Nat}{dk:Array α}
theorem setMany_set (hk:∀ x,(enc x).length=k) (d:Array α) (i:Nat) (y:α) (hi:i < d.size):setMany (flatK enc k d) (i*k) (enc y)=flatK enc k (d.setIfInBounds i y):=by
  refine ext_get! (by simp) fun t ht=>?_
  have ht':t < d.size*k:=by simpa using ht
  have k0:0 < k:=by
    rcases Nat.eq_zero_or_pos k with h|h
    · subst h;simp at ht'
    · exact h
  have hq:t / k < d.size:=Nat.div_lt_of_lt_mul (by rw [Nat.mul_comm];exact ht')
  rw [get_setMany _ _ _ t (by simpa using ht'),get_flatK _ _ _ t ht',get_flatK _ _ _ t (by simpa using ht'),hk]
  by_cases a:t / k=i
  · rw [if_pos ((blk_iff k i t k0).2 a)]
    have e1:t - i*k=t % k:=by subst a;rw [Nat.mod_eq_sub_div_mul]
    rw [e1,a,getElem!_pos (d.setIfInBounds i y) i (by simpa using hi)]
    simp
  · rw [if_neg (fun h=>a ((blk_iff k i t k0).1 h))]
    rw [getElem!_pos d (t / k) hq,getElem!_pos (d.setIfInBounds i y) (t / k) (by simpa using hq),Array.getElem_setIfInBounds hq,if_neg (fun h=>a h.symm)]
omit [Inhabited α] in
theorem rowK_in (dk:Array α) (k x:Nat) (hx:x < dk.size):x*k+k≤dk.size*k:=by
  have:=Nat.mul_le_mul_right k (show x+1≤dk.size from hx);rwa [Nat.add_mul,Nat.one_mul] at this
theorem swk_stored (h:SWK enc k w0 blk off dk W) (hk:∀ x,(enc x).length=k) (hblk:blk < w0.heap.size) (i:Nat) (y:α) (hi:i < dk.size):SWK enc k w0 blk off (dk.setIfInBounds i y) (W.setCells blk (off+i*k) (enc y)):=by
  obtain ⟨n,os,rfl⟩:=h
  refine ⟨n,os,?_⟩
  unfold sortWorldK
  rw [← putRowK_grow enc k (Sort.ahead w0 n) os blk off dk hblk,← putRowK_grow enc k (Sort.ahead w0 n) os blk off _ hblk]
  unfold putRowK
  rw [setCells_putRow _ _ _ _ _ _ (by rw [hk,size_flatK];exact rowK_in dk k i hi),setMany_set hk dk i y hi]
theorem setCells_app (w:World) (b:Nat):∀ (xs:List Value) (o:Nat) (ys:List Value),w.setCells b o (xs++ys)=(w.setCells b o xs).setCells b (o+xs.length) ys
  | [],o,ys=>rfl
  |x::xs,o,ys=>by
    show (w.setCell ⟨b,o,none⟩ x).setCells b (o+1) (xs++ys)=((w.setCell ⟨b,o,none⟩ x).setCells b (o+1) xs).setCells b (o+(xs.length+1)) ys
    rw [setCells_app _ b xs (o+1) ys,show o+1+xs.length=o+(xs.length+1) by omega]
theorem swk_cleared (hk:∀ x,(enc x).length=k) (hblk:blk < w0.heap.size) (z:α):∀ (t s:Nat) (dk:Array α) (W:World),SWK enc k w0 blk off dk W→s+t≤dk.size→∃ dk':Array α,dk'.size=dk.size∧(∀ i,i < s→dk'[i]! = dk[i]!)∧SWK enc k w0 blk off dk' (W.setCells blk (off+s*k) (List.replicate t (enc z)).flatten)
  |0,s,dk,W,h,_=>⟨dk,rfl,fun _ _=>rfl,h⟩
  |t+1,s,dk,W,h,hs=>by
    obtain ⟨dk',h1,h2,h3⟩:=swk_cleared hk hblk z t (s+1) (dk.setIfInBounds s z) _ (swk_stored h hk hblk s z (by omega)) (by simpa using (by omega:s+1+t≤dk.size))
    refine ⟨dk',by simpa using h1,fun i hi=>?_,?_⟩
    · rw [h2 i (by omega)]
      by_cases hsz:i < dk.size
      · rw [getElem!_pos (dk.setIfInBounds s z) i (by simpa using hsz),getElem!_pos dk i hsz,Array.getElem_setIfInBounds hsz,if_neg (by omega)]
      · omega
    · have e1:(List.replicate (t+1) (enc z)).flatten=enc z++(List.replicate t (enc z)).flatten:=rfl
      rw [e1,setCells_app,hk,show off+s*k+k=off+(s+1)*k by rw [Nat.add_mul,Nat.one_mul,Nat.add_assoc]]
      exact h3
theorem zero_flat (z:Array Value) (n:Nat):(Builtin.zeroCells z n).toList=(List.replicate n z.toList).flatten:=by
  induction n with
  |zero=>simp [Builtin.zeroCells]
  |succ n ih=>
    rw [List.replicate_succ',List.flatten_append,← ih]
    unfold Builtin.zeroCells
    simp only [Array.toList_map,Array.toList_range]
    rw [Nat.add_mul,Nat.one_mul,List.range_add,List.map_append]
    congr 1
    refine List.ext_getElem (by simp) fun i h1 h2=>?_
    have hi:i < z.size:=by simpa using h1
    simp [Nat.add_mod,Nat.mod_eq_of_lt hi,getElem!_pos z i hi]
theorem run_clear_k {P:Program}{t e ty:TypeId}{z:Array Value} (ht:P.underlying t=some (.slice e)) (hv:∀ w,(zeroValue e).run P w = .ok (.agg z) w) (h1:∀ v ∈ z.toList,v.oneCell' = true) {F:Array Value} (hH:Holds id W blk off F) (s n c:Nat) (hn:0 < n) (hs:s+n*z.size≤F.size):
    (Builtin.clear_ #[t] ty #[.slice (some ⟨blk,off+s,none⟩) n c]).run P W = .ok (.tuple #[]) (W.setCells blk (off+s) (List.replicate n z.toList).flatten):=by
  have hst := stores_of_holds P hH s (List.replicate n z.toList).flatten (by simpa using hs) (fun v hv => by
    obtain ⟨l,h2,h3⟩:=List.mem_flatten.1 hv
    rw [List.eq_of_mem_replicate h2] at h3
    exact h1 v h3)
  rw [← zero_flat] at hst
  obtain ⟨m,rfl⟩:∃ m,n=m+1:=⟨n - 1,by omega⟩
  rw [← zero_flat]
  simp [Builtin.clear_,run_underlying ht,hv,Value.cells,hst]
end
end Go.Proofs.YtidjjfjhmlndjaaGreatDoor
namespace Go.Proofs.YtidjjfjhmlndjaaGreatDoor
open Go.RowKit Go.Sort Go.Shelf Go.Lib
theorem grow2 (w:World) (a b:Obj) (q:Nat) (os:Array Obj):grow (((w.alloc a).alloc b).drewN q) os=grow (w.drewN q) (#[a,b]++os):=by
  show (⟨((w.heap.push a).push b)++os,w.tape,w.drawn+q,w.os,w.output⟩:World)=⟨w.heap++(#[a,b]++os),w.tape,w.drawn+q,w.os,w.output⟩
  rw [show ((w.heap.push a).push b)++os=w.heap++(#[a,b]++os) from Array.ext' (by simp)]
set_option maxRecDepth 100000 in
set_option maxHeartbeats 2000000 in
theorem sameNeed_any (k1 k2:ByteArray) (o1 o2:Int) (u v:Value) (xs ys:List ByteArray) (w:World) (hu:StrRow w u xs) (hv:StrRow w v ys) (c1:u.oneCell' = true) (c2:v.oneCell' = true):Calls Tryz.prog 140 #[.agg #[.string k1,.int .i64 o1,u],.agg #[.string k2,.int .i64 o2,v]] w fun e w'=>e = .returned (.bool (decide (or3 (cmpB k1 k2) (cmpI o1 o2) (cmpVals xs ys)=0)))∧∃ q os',w' = grow (w.drewN q) os':=by
  have HU:=Lib.hid hu
  have HV:=Lib.hid hv
  clear hu hv
  have hC:∀ W:World,w.heap.size≤W.heap.size→(∀ b,b < w.heap.size→W.heap[b]? = w.heap[b]?)→Calls Tryz.prog 138 #[.agg #[.string k1,.int .i64 o1,u],.agg #[.string k2,.int .i64 o2,v]] W fun e w'=>e = .returned (.int .i64 (or3 (cmpB k1 k2) (cmpI o1 o2) (cmpVals xs ys)))∧∃ q os',w' = grow (W.drewN q) os':=fun W h1 h2=>cmpNeeds_any k1 k2 o1 o2 u v xs ys W (HU.out.keep h1 h2) (HV.out.keep h1 h2) c1 c2
  have HC:=Lib.hid hC
  clear hC
  have hC2:=HC.out ((w.alloc (.cells #[.string k1,.int .i64 o1,u] 103)).alloc (.cells #[.string k2,.int .i64 o2,v] 103)) (by show w.heap.size≤((w.heap.push _).push _).size;rw [Array.size_push,Array.size_push];omega) (fun b hb=>by show ((w.heap.push _).push _)[b]? = _;rw [Array.getElem?_push,if_neg (by rw [Array.size_push];omega),Array.getElem?_push,if_neg (by omega)])
  go_enter Tryz.func140,Tryz.ntmps140
  go_wp2_with (go_at_call 138;refine hC2.mono ?_;rintro e w' ⟨rfl,q,os,rfl⟩)
  go_ret
  refine ⟨?_,_,_,grow2 w _ _ _ _⟩
  rfl
theorem rowK_in' (n k x:Nat) (hx:x < n):x*k+k≤n*k:=by
  have:=Nat.mul_le_mul_right k (show x+1≤n from hx);rwa [Nat.add_mul,Nat.one_mul] at this
theorem zero_run {P:Program}{t:TypeId}{z:Value} (hz:zeroK P t=some z) (w:World):(zeroValue t).run P w = .ok z w:=by
  unfold zeroK at hz
  cases hi:P.info? t with
  |none=>rw [hi] at hz;cases hz
  |some i=>
    rw [hi] at hz
    have hz':i.zero=some z:=hz
    simp [zeroValue,run_typeInfo w hi,hz']
theorem needsU:Tryz.prog.underlying 44=some (.slice 103):=by kernel_rfl
theorem needZ (w:World):(zeroValue 103).run Tryz.prog w = .ok (.agg #[.string ⟨#[]⟩,.int .i64 0,.slice none 0 0]) w:=zero_run ze103 w
/-- What the walk is told of the test. -/
def EqLays (enc:Nat→List Value) (e:Nat→Nat→Bool) (g k blk off size:Nat) (w:World):Prop:=∀ (m:Nat) (os:Array Obj) (dk:Array Nat),dk.size=size→∀ x y,Calls Tryz.prog g #[.agg (enc x).toArray,.agg (enc y).toArray] (sortWorldK enc k w blk off m dk os) fun e' w'=>e' = .returned (.bool (e x y))∧∃ q os',w' = grow ((sortWorldK enc k w blk off m dk os).drewN q) os'
theorem EqLays.at {enc:Nat→List Value}{e:Nat→Nat→Bool}{g k blk off size:Nat}{w W:World}{dk:Array Nat} (hC:EqLays enc e g k blk off size w) (h:SWK enc k w blk off dk W) (hs:dk.size=size) (x y n:Nat) (os:Array Obj):Calls Tryz.prog g (#[.agg (enc x).toArray,.agg (enc y).toArray]++#[]) (grow (W.drewN n) os) fun e' w'=>e' = .returned (.bool (e x y))∧∃ q os',w' = grow ((grow (W.drewN n) os).drewN q) os':=by
  obtain ⟨m,os0,hw⟩:=h.grown n os
  rw [hw]
  exact hC m os0 dk hs x y
set_option maxHeartbeats 4000000 in
set_option maxRecDepth 1000000 in
theorem compactF_any (enc:Nat→List Value) (k:Nat) (hk3:Hid (k=3)) (hk:∀ x,(enc x).length=k) (h1:∀ x,∀ v ∈ enc x,v.oneCell' = true) (z:Nat) (hz:enc z = [.string ⟨#[]⟩,.int .i64 0,.slice none 0 0]) (e:Nat→Nat→Bool) (g blk off n cap:Nat) (w:World) (eg:∀ args w,(callFunc g args).run Tryz.prog w = .ok (.enter g args) w)
    (hcmp:EqLays enc e g k blk off n w) (hH:HoldsK enc k w blk off (Array.range n)) (hblk:blk < w.heap.size) (hn:n≤1048576) (hcap:n≤cap):
    Calls Tryz.prog 139 #[.slice (some ⟨blk,off,none⟩) n cap,.func (.func g) #[] #[]] w fun e' w'=>e' = .returned (.slice (some ⟨blk,off,none⟩) (keepL e n).length cap)∧∃ dk':Array Nat,dk'.size=n∧(∀ i,i < (keepL e n).length→dk'[i]! = (keepL e n).getD i 0)∧SWK enc k w blk off dk' w':=by
  have mixed:Tryz.prog.follows .mixedOrders=true:=by kernel_rfl
  have aE:=Tryz.isAgg103
  have zE:∀ w,(Go.sizeOf 103).run Tryz.prog w = .ok k w:=by rw [hk3.out];exact Tryz.sizeOf103
  have R:RowK enc k w blk off (Array.range n):=⟨hk,h1,hH,hblk⟩
  have RR:=Lib.hid R
  have HC:=Lib.hid hcmp
  have HZ:=Lib.hid hz
  have S0:SWK enc k w blk off (Array.range n) w:=SWK.start hH
  have SS0:=Lib.hid S0
  clear hcmp hH hk h1 hz R S0
  have same:(∀ j,j < n→0 < j→e j (j - 1)=false)→(keepL e n).length=n∧∀ i,i < (keepL e n).length→(Array.range n)[i]! = (keepL e n).getD i 0:=by
    intro h
    rw [keepL_all h]
    refine ⟨List.length_range,fun i hi=>?_⟩
    have hi:i < n:=by simpa using hi
    rw [getElem!_pos (Array.range n) i (by simpa using hi),List.getD_eq_getElem?_getD,List.getElem?_range hi]
    simp
  have HS:=Lib.hid same
  clear same
  by_cases h2:n < 2
  · have hn2:(n:Int) < 2:=by omega
    go_enter Tryz.func139,Tryz.ntmps139
    go_wp2
    go_ret
    obtain ⟨e1,e2⟩:=HS.out (fun j hj h0=>by omega)
    exact ⟨by rw [e1];rfl,_,by simp,e2,SS0.out⟩
  · have hn2:¬ (n:Int) < 2:=by omega
    go_enter Tryz.func139,Tryz.ntmps139
    go_wp2
    go_loopg [5] n (fun gg s5 wr=>∃ i:Nat,1≤i∧i≤n∧n - i≤gg∧s5 = .int .i64 i∧Hid (SWK enc k w blk off (Array.range n) wr)∧Hid (∀ j,j < i→0 < j→e j (j - 1)=false))
    case atStart=>exact ⟨1,Nat.le_refl _,by omega,by omega,rfl,SS0,Lib.hid (fun j hj h0=>by omega)⟩
    case round=>
      obtain ⟨i,hi1,hi,hg,rfl,hS,hall⟩:=hrel
      by_cases hlt:i < n
      · obtain ⟨kp,rfl⟩:∃ kp,i=kp+1:=⟨i - 1,by omega⟩
        have jz:(kp:Int)+1 < (n:Int):=by omega
        have jz1:(kp:Int) < (n:Int):=by omega
        have p0:(0:Int)≤(kp:Int)+1:=by omega
        have e0:((kp:Int)+1).toNat=kp+1:=by omega
        have hwp:IntKind.i64.wrap (kp:Int)=(kp:Int):=by rw [IntKind.wrap_i64];omega
        have r1:(Array.range n)[kp+1]! = kp+1:=by rw [getElem!_pos _ _ (by simpa using hlt)];simp
        have r0:(Array.range n)[kp]! = kp:=by rw [getElem!_pos _ _ (by simp;omega)];simp
        have lj:∀ n' os',Sem.run Tryz.prog (loadCellsFrom ⟨blk,off+(kp+1)*k,none⟩ 0 k #[]) (grow (wr.drewN n') os') = .ok (enc (kp+1)).toArray (grow (wr.drewN n') os'):=fun n' os'=>by
          have:=hS.out.ld RR.out rfl Tryz.prog (kp+1) (by simpa using hlt) n' os'
          rwa [r1] at this
        have lp:∀ n' os',Sem.run Tryz.prog (loadCellsFrom ⟨blk,off+kp*k,none⟩ 0 k #[]) (grow (wr.drewN n') os') = .ok (enc kp).toArray (grow (wr.drewN n') os'):=fun n' os'=>by
          have:=hS.out.ld RR.out rfl Tryz.prog kp (by simp;omega) n' os'
          rwa [r0] at this
        have hcg:=fun n' os'=>EqLays.at HC.out hS.out (by simp) (kp+1) kp n' os'
        cases hlv:e (kp+1) kp
        · rw [hlv] at hcg
          go_wp2_with fail
          go_quiet_grown (first|(go_at_fn g;refine Calls.grown_of (hcg _ _)))
          go_wp2
          go_roundg (n - (kp+1+1))
          case measure=>omega
          case rel => exact ⟨kp + 1 + 1, by omega, by omega, Nat.le_refl _, by go_num, Lib.hid (hS.out.grown nq osq), Lib.hid (fun j hj h0 => by
            by_cases ej:j=kp+1
            · subst ej;exact hlv
            · exact hall.out j (by omega) h0)⟩
        · rw [hlv] at hcg
          have hK1:keepL e (kp+1)=List.range (kp+1):=keepL_all hall.out
          have hK2:keepL e (kp+1+1)=keepL e (kp+1):=keepL_no (by simp [hlv])
          have hD:dkOf e n (kp+1+1)=Array.range n:=by rw [dkOf_no (by simp [hlv])];exact dkOf_all (by omega) hall.out
          have HKL:Hid ((keepL e (kp+1+1)).length=kp+1):=Lib.hid (by rw [hK2,hK1,List.length_range])
          have HD:=Lib.hid hD
          clear hK1 hK2 hD
          go_wp2_with fail
          go_quiet_grown (first|(go_at_fn g;refine Calls.grown_of (hcg _ _)))
          go_wp2_with fail
          have hS2:=Lib.hid (hS.out.grown nq osq)
          clear lj lp hcg
          generalize grow (wr.drewN nq) osq=wr1 at hS2 ⊢
          go_wp2
          generalize hr:n - (kp+1)=r
          generalize cap - (kp+1)=rc
          go_loopg [5,7] n (fun gg s5 s7 wr=>∃ kk k2:Nat,s5 = .int .i64 kk∧s7 = .int .i64 k2∧1≤k2∧kp+1+k2≤n∧n - (kp+1+k2)≤gg∧Hid (kk=(keepL e (kp+1+k2)).length)∧kk+1≤kp+1+k2∧Hid (SWK enc k w blk off (dkOf e n (kp+1+k2)) wr))
          case atStart=>exact ⟨kp+1,1,rfl,rfl,Nat.le_refl _,by omega,by omega,Lib.hid HKL.out.symm,by omega,Lib.hid (by rw [HD.out];exact hS2.out)⟩
          case round=>
            obtain ⟨kk,k2,rfl,rfl,h21,hle,hg2,hkk,hkl,hS3⟩:=hrel
            by_cases hlt2:kp+1+k2 < n
            · obtain ⟨k2p,rfl⟩:∃ k2p,k2=k2p+1:=⟨k2 - 1,by omega⟩
              have q0:(k2p:Int)+1 < (r:Int):=by omega
              have q1:(k2p:Int) < (r:Int):=by omega
              have q2:(0:Int)≤(k2p:Int)+1:=by omega
              have q3:((k2p:Int)+1).toNat=k2p+1:=by omega
              have q4:IntKind.i64.wrap (k2p:Int)=(k2p:Int):=by rw [IntKind.wrap_i64];omega
              have q5:(kk:Int) < (n:Int):=by omega
              have hds:(dkOf e n (kp+1+(k2p+1))).size=n:=dkOf_size (by omega)
              have r2:(dkOf e n (kp+1+(k2p+1)))[kp+1+(k2p+1)]! = kp+1+(k2p+1):=dkOf_high (by rw [← hkk.out];omega) hlt2
              have r3:(dkOf e n (kp+1+(k2p+1)))[kp+1+k2p]! = kp+1+k2p:=dkOf_high (by rw [← hkk.out];omega) (by omega)
              have lj:∀ n' os',Sem.run Tryz.prog (loadCellsFrom ⟨blk,off+(kp+1)*k+(k2p+1)*k,none⟩ 0 k #[]) (grow (wr.drewN n') os') = .ok (enc (kp+1+(k2p+1))).toArray (grow (wr.drewN n') os'):=fun n' os'=>by
                have:=hS3.out.ld RR.out (by rw [hds];simp) Tryz.prog (kp+1+(k2p+1)) (by rw [hds];exact hlt2) n' os'
                rwa [r2,Nat.add_mul (kp+1),← Nat.add_assoc off] at this
              have lp:∀ n' os',Sem.run Tryz.prog (loadCellsFrom ⟨blk,off+(kp+1)*k+k2p*k,none⟩ 0 k #[]) (grow (wr.drewN n') os') = .ok (enc (kp+1+k2p)).toArray (grow (wr.drewN n') os'):=fun n' os'=>by
                have:=hS3.out.ld RR.out (by rw [hds];simp) Tryz.prog (kp+1+k2p) (by rw [hds];omega) n' os'
                rwa [r3,Nat.add_mul (kp+1),← Nat.add_assoc off] at this
              have hcg:=fun n' os'=>EqLays.at HC.out hS3.out hds (kp+1+(k2p+1)) (kp+1+k2p) n' os'
              have hke:(kp+1+(k2p+1)==0||!e (kp+1+(k2p+1)) (kp+1+(k2p+1) - 1))=!e (kp+1+(k2p+1)) (kp+1+k2p):=by
                rw [show (kp+1+(k2p+1)==0)=false from beq_eq_false_iff_ne.2 (by omega),show kp+1+(k2p+1) - 1=kp+1+k2p by omega];rfl
              have HKE:=Lib.hid hke
              have HR2:=Lib.hid r2
              have HDS:=Lib.hid hds
              clear hke r2 r3 hds
              cases hlv:e (kp+1+(k2p+1)) (kp+1+k2p)
              · rw [hlv] at hcg
                go_wp2_with fail
                go_quiet_grown (first|(go_at_fn g;refine Calls.grown_of (hcg _ _)))
                have st1:Sem.run Tryz.prog (storeCells ⟨blk,off+kk*k,none⟩ (enc (kp+1+(k2p+1))) 0) (grow (wr.drewN nq) osq) = .ok () ((grow (wr.drewN nq) osq).setCells blk (off+kk*k) (enc (kp+1+(k2p+1)))):=
                  stores_of_holds Tryz.prog ((hS3.out.grown nq osq).holds RR.out.hblk RR.out.hH (by rw [HDS.out];simp)) (kk*k) _ (by rw [RR.out.hk,size_flatK,HDS.out];exact rowK_in' n k kk (by omega)) (RR.out.h1 _)
                have hsl:(enc (kp+1+(k2p+1))).length=k:=RR.out.hk _
                go_wp2
                go_roundg (n - (kp+1+(k2p+1+1)))
                case measure=>omega
                case rel => exact ⟨kk + 1, k2p + 1 + 1, by go_num, by go_num, by omega, by omega, Nat.le_refl _, Lib.hid (by
                    rw [show kp+1+(k2p+1+1)=kp+1+(k2p+1)+1 by omega,keepL_yes (by rw [HKE.out,hlv];rfl),List.length_append,← hkk.out];rfl),by omega,Lib.hid (by
                    have:=swk_stored (hS3.out.grown nq osq) RR.out.hk RR.out.hblk kk (kp+1+(k2p+1)) (by rw [HDS.out];omega)
                    rw [hkk.out,dkOf_yes hlt2 (by rw [HKE.out,hlv];rfl),← hkk.out] at this
                    exact this)⟩
              · rw [hlv] at hcg
                go_wp2_with fail
                go_quiet_grown (first|(go_at_fn g;refine Calls.grown_of (hcg _ _)))
                go_wp2
                go_roundg (n - (kp+1+(k2p+1+1)))
                case measure=>omega
                case rel => exact ⟨kk, k2p + 1 + 1, rfl, by go_num, by omega, by omega, Nat.le_refl _, Lib.hid (by
                    rw [show kp+1+(k2p+1+1)=kp+1+(k2p+1)+1 by omega,keepL_no (by rw [HKE.out,hlv];rfl)];exact hkk.out),by omega,Lib.hid (by
                    rw [show kp+1+(k2p+1+1)=kp+1+(k2p+1)+1 by omega,dkOf_no (by rw [HKE.out,hlv];rfl)]
                    exact hS3.out.grown nq osq)⟩
            · have hend:kp+1+k2=n:=by omega
              have q6:¬ (k2:Int) < (r:Int):=by omega
              have q7:(kk:Int) < (n:Int):=by omega
              have hH3:HoldsK enc k wr blk off (dkOf e n (kp+1+k2)):=hS3.out.holds RR.out.hblk RR.out.hH (by rw [dkOf_size (by omega)];simp)
              have hcl:∀ ty,(Builtin.clear_ #[44] ty #[.slice (some ⟨blk,off+kk*k,none⟩) (n - kk) (cap - kk)]).run Tryz.prog wr = .ok (.tuple #[]) (wr.setCells blk (off+kk*k) (List.replicate (n - kk) (enc z)).flatten):=fun ty=>by
                have hlen:(enc z).length=k:=RR.out.hk _
                rw [HZ.out] at hlen ⊢
                refine run_clear_k (e:=103) (z:=#[.string ⟨#[]⟩,.int .i64 0,.slice none 0 0]) needsU needZ ?_ hH3 (kk*k) (n - kk) _ (by omega) ?_
                · intro v hv
                  rw [← HZ.out] at hv
                  exact RR.out.h1 _ v hv
                · rw [size_flatK,dkOf_size (by omega)]
                  have:(#[Value.string ⟨#[]⟩,.int .i64 0,.slice none 0 0]:Array Value).size=k:=hlen
                  rw [this,← Nat.add_mul,show kk+(n - kk)=n by omega]
                  exact Nat.le_refl _
              clear hH3
              have HE:=Lib.hid hend
              go_wp2
              go_ret
              have e1:keepL e n=keepL e (kp+1+k2):=by rw [HE.out]
              rw [e1,← hkk.out]
              refine ⟨rfl,?_⟩
              obtain ⟨dk',h4,h5,h6⟩:=swk_cleared RR.out.hk RR.out.hblk z (n - kk) kk _ _ hS3.out (by rw [dkOf_size (by omega)];omega)
              exact ⟨dk',by rw [h4,dkOf_size (by omega)],fun i hi=>(h5 i hi).trans (dkOf_low (by rw [← hkk.out];exact hi)),h6⟩
      · have:i=n:=by omega
        subst this
        go_wp2
        go_ret
        obtain ⟨e1,e2⟩:=HS.out hall.out
        exact ⟨by rw [e1];rfl,_,by simp,e2,hS.out⟩
end Go.Proofs.YtidjjfjhmlndjaaGreatDoor
namespace Go.Proofs.YtidjjfjhmlndjaaGreatDoor
open Go.RowKit Go.Sort Go.Shelf Go.Lib
theorem cmpI_zero {a b:Int} (h:cmpI a b=0):a=b:=by unfold cmpI at h;split at h<;>first|omega|(split at h<;>omega)
theorem cmpB_zero {a b:ByteArray} (h:cmpB a b=0):a=b:=eqB_eq (by rw [← cmpB_eq,h];rfl)
theorem cmpVals_zero:∀ {a b:List ByteArray},cmpVals a b=0→a=b
  | [], [],_=>rfl
  | [],_::_,h=>by simp [cmpVals] at h
  |_::_, [],h=>by simp [cmpVals] at h
  |x::r,y::q,h=>by
    rw [cmpVals] at h
    by_cases e:cmpB x y=0
    · rw [if_pos (by simpa using e)] at h
      rw [cmpB_zero e,cmpVals_zero h]
    · rw [if_neg (by simpa using e)] at h
      exact absurd h e
theorem cmpVals_same:∀ a:List ByteArray,cmpVals a a=0
  | []=>rfl
  |x::r=>by
    rw [cmpVals,if_pos (by rw [cmpB_eq];exact eqB_refl' x)]
    exact cmpVals_same r
theorem cmpB_same (a:ByteArray):cmpB a a=0:=by simpa using (cmpB_eq a a).trans (eqB_refl' a)
theorem cmpI_same (a:Int):cmpI a a=0:=by unfold cmpI;rw [if_neg (by omega),if_neg (by omega)]
def needE (a b:NeedD):Bool:=decide (cmpNeed a b=0)
theorem needE_iff (a b:NeedD):needE a b=true↔a=b:=by
  unfold needE cmpNeed
  rw [decide_eq_true_iff,or3_eq]
  constructor
  · intro h
    split at h
    · rename_i h1
      split at h
      · rename_i h2
        obtain ⟨k,o,v⟩:=a
        obtain ⟨k',o',v'⟩:=b
        have e1:=cmpB_zero (by simpa using h1)
        have e2:=cmpI_zero (by simpa using h2)
        have e3:=cmpVals_zero h
        simp only at e1 e2 e3
        subst e1;subst e2;subst e3
        rfl
      · rename_i h2
        exact absurd h (by simpa using h2)
    · rename_i h1
      exact absurd h (by simpa using h1)
  · intro h
    subst h
    rw [cmpB_same,cmpI_same,cmpVals_same]
    rfl
theorem cptG_app {α:Type} (s:α→α→Bool) (y:α):∀ (p:α) (l:List α),cptG s p (l ++ [y])=cptG s p l++if s y ((p::l).getLast (List.cons_ne_nil _ _))=true then [] else [y]
  |p, []=>by
    show (if s y p=true then [] else [y]) = []++if s y p=true then [] else [y]
    rfl
  |p,a::r=>by
    rw [List.cons_append,cptG,cptG_app s y a r,cptG,List.getLast_cons (List.cons_ne_nil a r)]
    split<;>rfl
theorem cptL_keep {α:Type} [Inhabited α] (s:α→α→Bool) (xs:List α):∀ m,m≤xs.length→cptL s (xs.take m)=(keepL (fun i j=>s (xs.getD i default) (xs.getD j default)) m).map fun k=>xs.getD k default
  |0,_=>rfl
  |m+1,h=>by
    have ih:=cptL_keep s xs m (by omega)
    have hg:xs.getD m default=xs[m]:=by rw [List.getD_eq_getElem?_getD,List.getElem?_eq_getElem (by omega)];rfl
    rw [List.take_succ_eq_append_getElem (by omega),← hg]
    rcases Nat.eq_zero_or_pos m with h0|h0
    · subst h0
      rw [keepL_yes rfl]
      rfl
    · obtain ⟨k,rfl⟩:∃ k,m=k+1:=⟨m - 1,by omega⟩
      match xs,h with
      |x::r,h=>
        have h':k+1≤r.length:=by simpa using h
        rw [List.take_succ_cons] at ih ⊢
        rw [List.cons_append]
        show x::cptG s x (r.take k ++ [_])=_
        rw [cptG_app,← List.cons_append]
        have ih':x::cptG s x (r.take k)=_:=ih
        rw [ih']
        have hl:(x::r.take k).getLast (List.cons_ne_nil _ _)=(x::r).getD k default:=by
          rw [List.getLast_eq_getElem,List.getD_eq_getElem?_getD,List.getElem?_eq_getElem (by simp;omega)]
          have:(x::r.take k).length - 1=k:=by simp;omega
          simp only [this]
          show _=(x::r)[k]
          have e2:x::r.take k=(x::r).take (k+1):=rfl
          simp only [e2,List.getElem_take]
        rw [hl]
        by_cases hs:s ((x::r).getD (k+1) default) ((x::r).getD k default)=true
        · rw [if_pos hs,keepL_no (m:=k+1) (by show (k+1==0||!s ((x::r).getD (k+1) default) ((x::r).getD (k+1 - 1) default))=false;rw [Nat.add_sub_cancel,hs];rfl),List.append_nil]
        · rw [if_neg hs,keepL_yes (m:=k+1) (by show (k+1==0||!s ((x::r).getD (k+1) default) ((x::r).getD (k+1 - 1) default))=true;rw [Nat.add_sub_cancel,Bool.eq_false_iff.2 hs];rfl),List.map_append]
          rfl
theorem compactF_nil (cap:Nat) (p:Option Addr) (fv:Value) (w:World):Calls Tryz.prog 139 #[.slice p 0 cap,fv] w fun e' w'=>e' = .returned (.slice p 0 cap)∧w' = w:=by
  go_enter Tryz.func139,Tryz.ntmps139
  go_wp2
  go_ret
  exact ⟨rfl,rfl⟩
/-- The test that the program compacts by, at needs by their numbers. -/
theorem nedEq {blk:Nat}{w:World}{xs:List NeedD}{vs:List Value} (h:NedRows blk w xs vs) (size:Nat):EqLays (nedE xs vs) (fun i j=>needE (xs.getD i default) (xs.getD j default)) 140 3 blk 0 size w:=by
  intro m os dk _ x y
  have h1:=h.at x
  have h2:=h.at y
  exact sameNeed_any _ _ _ _ _ _ _ _ _ (h1.1.to (sortW_size ..) (sortW_old _ _ _ _ _ _ _)) (h2.1.to (sortW_size ..) (sortW_old _ _ _ _ _ _ _)) h1.2 h2.2
set_option maxHeartbeats 1000000 in
theorem compactNeeds_H (xs:List NeedD) (hn:xs.length≤1048576) (hv:∀ k,(xs.getD k default).values.length≤9223372036854775807):SpecH Tryz.prog 139 [.own 0 0 xs.length,.fn 140 []] [(0,⟨103,3,xs.length,needsT xs⟩)] 1
    (fun d os' nb'=>d = .own 0 0 (cptL needE xs).length∧os' = [(0,⟨103,3,(cptL needE xs).length,needsT (cptL needE xs)⟩)]∧nb' = 1):=by
  refine ⟨callable Tryz.func139 rfl (by kernel_rfl),fun E M w args hsr hsz hrep=>?_⟩
  obtain ⟨v,fv,rfl⟩:=args2 hsz
  have h0:Rep E w (.own 0 0 xs.length) v:=hrep 0 _ rfl
  have hf:Rep E w (.fn 140 []) fv:=hrep 1 _ rfl
  obtain ⟨us,rfl,hul,_⟩:=hf
  obtain rfl:us = []:=List.eq_nil_of_length_eq_zero hul
  have hsame : SR (fun g => w.heap.size ≤ g ∨ M g) E [(0, ⟨103, 3, xs.length, needsT xs⟩)] 1 w := ⟨fun i x hi => by
      have:=hsr.obs i x hi
      refine ⟨this.1,this.2.imp_right ?_⟩
      rintro ⟨l,q1,q2,q3⟩
      exact ⟨l, q1, .inr q2, q3⟩, hsr.new, hsr.rolt, hsr.apart, hsr.nodup, ⟨fun b i p hb => by obtain ⟨q1, q2, q3⟩ := hsr.tr.blk b i p hb; exact ⟨q1, .inr q2, q3⟩, hsr.tr.cell⟩⟩
  have hcp:cptL needE xs=(keepL (fun i j=>needE (xs.getD i default) (xs.getD j default)) xs.length).map fun k=>xs.getD k default:=by
    have:=cptL_keep needE xs xs.length (Nat.le_refl _)
    rwa [List.take_length] at this
  rcases h0 with ⟨l,c,hl,rfl,hnc,hcm,hcc⟩|⟨hl,_,hn0,rfl⟩
  · have hob:=hsr.obs 0 _ (List.mem_singleton.2 rfl)
    obtain ⟨cur,hc0,hcsz,hcur,hMl⟩:∃ cur,w.heap[l.g]? = some (.cells cur 103 (0,0))∧cur.size=l.cap*3∧(∀ (j:Nat) (d:D),(needsT xs)[j]? = some d→∃ u,cur[j]? = some u∧u.oneCell' = true∧Rep1 E w d u)∧M l.g:=by
      rcases hob.2 with ⟨h5,_⟩|⟨m,h5,h6,h7,h8,h9,h10⟩
      · rw [hl] at h5;cases h5
      · rw [hl] at h5;injection h5 with h5;injection h5 with h5;subst h5
        rcases h10 with ⟨cur,c1,c2,c3⟩|⟨c1,_⟩
        · exact ⟨cur,c1.row (by show ¬ 103=1000000;decide),c2,c3,h6⟩
        · exact absurd c1 (by show ¬ (3=0);decide)
    obtain ⟨vs,hrows,hcells⟩:=ned_rows hv hsr hl hc0 hcur
    have hblk:l.g < w.heap.size:=(Array.getElem?_eq_some_iff.1 hc0).1
    have hH:=ned_holds hc0 hcells (Array.range xs.length) fun i hi=>by
      have hi':i < xs.length:=by simpa using hi
      rw [getElem!_pos _ i hi,Array.getElem_range]
      exact ⟨hi',rfl⟩
    have hz:nedE xs vs (xs.length+vs.length) = [.string ⟨#[]⟩,.int .i64 0,.slice none 0 0]:=by
      unfold nedE
      rw [List.getD_eq_getElem?_getD,List.getElem?_eq_none (by omega),List.getD_eq_getElem?_getD,List.getElem?_eq_none (by omega)]
      rfl
    have hcall:=compactF_any (nedE xs vs) 3 rfl (nedE_len xs vs) (nedE_one hrows) _ hz (fun i j=>needE (xs.getD i default) (xs.getD j default)) 140 l.g 0 xs.length c w (callable Tryz.func140 rfl (by kernel_rfl)) (nedEq hrows _) hH hblk hn hnc
    refine hcall.mono ?_
    rintro e w' ⟨rfl,d',hd1,hd2,n,os,rfl⟩
    generalize hσ:keepL (fun i j=>needE (xs.getD i default) (xs.getD j default)) xs.length=σ at hcp hd2 ⊢
    have hσl:σ.length≤xs.length:=by rw [← hσ];exact keepL_le _ _
    have hσm:∀ q ∈ σ,q < xs.length:=fun q hq=>by rw [← hσ] at hq;exact keepL_lt hq
    have hσn:σ.Nodup:=by rw [← hσ];exact keepL_nodup _ _
    obtain ⟨cur',hc1,hc2⟩:=sortW_row (nedE xs vs) 3 w l.g n d' os hc0
    have hH2:=holdsK_sortWorldK_c (nedE xs vs) 3 w l.g 0 (Array.range xs.length) d' n os hH hblk (by rw [Array.size_range,hd1])
    obtain ⟨E', hE1, hE2, hsr'⟩ := sel_sr (cells := needCellsT) needCellsT_len (by decide) (fun _ => rfl) hsr hl hc0 σ hσm hσn hσl hc2 (by rw [hc1, hcsz]) (fun q r hq hr => by
      have hq':q < d'.size:=by rw [hd1];omega
      have e1:=(HoldsK.cells hH2 (nedE_len xs vs) hq')
      have e2:=hd2 q hq
      have hmem:σ.getD q 0 < xs.length:=hσm _ (by rw [List.getD_eq_getElem?_getD,List.getElem?_eq_getElem hq];exact List.getElem_mem _)
      rw [hcells _ hmem r hr,← e2]
      have h4:r < (nedE xs vs d'[q]!).length:=hr
      have e3:=e1 r _ (List.getElem?_eq_getElem h4)
      rw [Addr.add_lit,Nat.zero_add,cell_of_row _ l.g _ cur' _ _ hc2] at e3
      rw [e3, List.getElem?_eq_getElem h4]) (sortW_size ..) (fun b hb hne => sortW_old _ _ _ _ _ _ _ b hb hne)
    have hlen:(cptL needE xs).length=σ.length:=by rw [hcp,List.length_map]
    refine ⟨_,_,1,E',_,⟨rfl,rfl,rfl⟩,rfl,?_,?_,Nat.le_refl _,⟨fun i m hm=>by rw [hE1];exact hm,fun b hb=>by rw [hE2];exact hb⟩,rfl,rfl,rfl,sortW_size ..,fun b hb hm=>sortW_old _ _ _ _ _ _ _ b hb (fun e=>hm (e ▸ hMl)),fun b hb=>.inl (by rw [hE2] at hb;exact hb),fun i m hi him=>by rw [hE1,hsr.new i hi] at him;cases him⟩
    · rw [hlen]
      exact .inl ⟨l,c,by rw [hE1];exact hl,rfl,by omega,hcm,hcc⟩
    · rw [hlen,hcp]
      exact hsr'
  · obtain rfl:xs = []:=List.eq_nil_of_length_eq_zero hn0
    refine (compactF_nil 0 none _ w).mono ?_
    rintro e w' ⟨rfl,rfl⟩
    exact ⟨_,_,1,E,_,⟨rfl,rfl,rfl⟩,rfl,.inr ⟨hl,rfl,rfl,rfl⟩,hsame,Nat.le_refl _,.refl E,rfl,rfl,rfl,Nat.le_refl _,fun _ _ _=>rfl,fun b hb=>.inl hb,fun i l hi hil=>by rw [hsr.new i hi] at hil;cases hil⟩
end Go.Proofs.YtidjjfjhmlndjaaGreatDoor
namespace Go.Proofs.YtidjjfjhmlndjaaGreatDoor
open Go.RowKit Go.Sort Go.Shelf Go.Lib
/-- A row of plain cells of one's own, laid anew in its block. -/
theorem row_sr {M:Nat→Prop}{E:Env}{w w':World}{ty size n n':Nat}{cs:List D}{vs:List Value} (hsr:SR M E [(0,⟨ty,size,n,cs⟩)] 1 w) {l:Loc} (hl:E.at_ 0=some (some l)) (_h0:0 < size) {cur':Array Value} (hc1:w'.heap[l.g]? = some (.cells cur' ty (0,0))) (hcs:cur'.size=l.cap*size) (hlen:vs.length=n' * size) (hn:n'≤n)
    (hcell:∀ (j:Nat) (v:Value),vs[j]? = some v→cur'[j]? = some v∧v.oneCell' = true) (hsz:w.heap.size≤w'.heap.size) (hold:∀ b,b < w.heap.size→b≠l.g→w'.heap[b]? = w.heap[b]?):
    ∃ E':Env,E'.at_=E.at_∧E'.ro=E.ro∧SR (fun g=>w.heap.size≤g∨M g) E' [(0,⟨ty,size,n',vs.map .sc⟩)] 1 w':=by
  have hob:=hsr.obs 0 _ (List.mem_singleton.2 rfl)
  obtain ⟨hM,hro,hcap,hmax⟩:M l.g∧¬ E.ro l.g∧n≤l.cap∧l.cap≤maxLen:=by
    rcases hob.2 with ⟨h5,_⟩|⟨m,h5,h6,h7,h8,h9,h10⟩
    · rw [hl] at h5;cases h5
    · rw [hl] at h5;injection h5 with h5;injection h5 with h5;subst h5
      exact ⟨h6,h7,h8,h9⟩
  refine ⟨⟨E.ro,E.at_,fun _=>none⟩,rfl,rfl,⟨fun i x hi=>?_,fun i hi=>hsr.new i hi,?_,fun i x j y hi hj hij=>?_,by simp,⟨fun b i p hb=>(by cases hb),fun i x hi j ty' sz m cs hj=>?_⟩⟩⟩
  · simp only [List.mem_singleton,Prod.mk.injEq] at hi
    obtain ⟨rfl,rfl⟩:=hi
    refine ⟨fun _=>by show (vs.map D.sc).length=_;rw [List.length_map];exact hlen,.inr ⟨l,hl,.inr hM,hro,Nat.le_trans hn hcap,hmax,.inl ⟨cur',.inl hc1,hcs,fun j d hd=>?_⟩⟩⟩
    have hd':(vs.map D.sc)[j]? = some d:=hd
    rw [List.getElem?_map] at hd'
    obtain ⟨v,h1,h2⟩:=Option.map_eq_some_iff.1 hd'
    subst h2
    obtain ⟨h3,h4⟩:=hcell j v h1
    exact ⟨v,h3,h4,⟨rfl,h4⟩⟩
  · exact hsr.rolt.grow (fun _ h=>h) (fun b hb=>hold b (hsr.rolt b hb) fun e=>hro (e ▸ hb)) fun b hb=>Nat.lt_of_lt_of_le (hsr.rolt b hb) hsz
  · simp only [List.mem_singleton,Prod.mk.injEq] at hi hj
    exact absurd (hi.1.trans hj.1.symm) hij
  · simp only [List.mem_singleton,Prod.mk.injEq] at hi
    obtain ⟨rfl,rfl⟩:=hi
    have hj':(vs.map D.sc)[j]? = some _:=hj
    rw [List.getElem?_map] at hj'
    obtain ⟨v,_,h2⟩:=Option.map_eq_some_iff.1 hj'
    cases h2
def putW (w:World) (blk m:Nat) (d:Array (List UInt8)) (os:Array Obj):World:=grow (putRow encStr (Sort.ahead w m) blk 0 d) os
theorem putW_row (w:World) (blk m:Nat) (d:Array (List UInt8)) (os:Array Obj) {cur:Array Value}{e:TypeId}{fr:Nat × Nat} (h:w.heap[blk]? = some (.cells cur e fr)):
    ∃ cur',cur'.size=cur.size∧(putW w blk m d os).heap[blk]? = some (.cells cur' e fr):=by
  have hlt:blk < w.heap.size:=(Array.getElem?_eq_some_iff.1 h).1
  refine ⟨putCells encStr 0 d cur,by simp [putCells],?_⟩
  show ((w.heap.modify blk (onCells (putCells encStr 0 d)))++os)[blk]? = _
  rw [Array.getElem?_append_left (by simpa using hlt),Array.getElem?_modify,if_pos rfl,h]
  rfl
theorem putW_old (w:World) (blk m:Nat) (d:Array (List UInt8)) (os:Array Obj) (b:Nat) (hb:b < w.heap.size) (hne:b≠blk):(putW w blk m d os).heap[b]? = w.heap[b]? :=by
  show ((w.heap.modify blk (onCells (putCells encStr 0 d)))++os)[b]? = _
  rw [Array.getElem?_append_left (by simpa using hb),Array.getElem?_modify,if_neg (fun e=>hne e.symm)]
theorem putW_size (w:World) (blk m:Nat) (d:Array (List UInt8)) (os:Array Obj):w.heap.size≤(putW w blk m d os).heap.size:=by
  show _≤((w.heap.modify blk (onCells (putCells encStr 0 d)))++os).size
  simp
theorem putW_cell (w:World) (blk m:Nat) (d d0:Array (List UInt8)) (os:Array Obj) (hblk:blk < w.heap.size) (h0:Holds encStr w blk 0 d0) (hs:d.size=d0.size) (j:Nat) (hj:j < d.size):(putW w blk m d os).cell? ⟨blk,j,none⟩=some (encStr d[j]!):=by
  have h1:Holds encStr (putRow encStr (Sort.ahead w m) blk 0 d) blk 0 d:=holds_putRow encStr _ blk 0 d0 d (holds_ahead encStr w m blk 0 d0 h0) hs
  have h2:=(h1 j hj).1
  rw [Nat.zero_add] at h2
  unfold putW
  rw [cell?_grow _ _ _ (by show blk < ((w.heap.modify blk (onCells (putCells encStr 0 d)))).size;simpa using hblk)]
  exact h2
def strL (s:ByteArray):List UInt8:=s.data.toList
def strO (l:List UInt8):ByteArray:=⟨l.toArray⟩
theorem strOL (s:ByteArray):strO (strL s)=s:=by cases s;simp [strO,strL]
theorem strLO (l:List UInt8):strL (strO l)=l:=by simp [strO,strL]
theorem encO (s:ByteArray):encStr (strL s) = .string s:=congrArg Value.string (strOL s)
def sortB (xs:List ByteArray):List ByteArray:=((xs.map strL).mergeSort fun x y=>decide (x≤y)).map strO
theorem sortB_perm (xs:List ByteArray):(sortB xs).Perm xs:=by
  have h:=(List.mergeSort_perm (xs.map strL) fun x y=>decide (x≤y)).map strO
  rw [List.map_map] at h
  have e:xs.map (strO ∘ strL)=xs:=(List.map_congr_left (g:=id) fun s _=>strOL s).trans (List.map_id xs)
  rwa [e] at h
theorem sortB_len (xs:List ByteArray):(sortB xs).length=xs.length:=(sortB_perm xs).length_eq
theorem lessB_lt (a b:ByteArray):lessB a b=decide (strL a < strL b):=by
  show Op.bytesLess a.toList b.toList=_
  rw [bytesLess_eq,Lib.toList_data,Lib.toList_data]
  rfl
theorem sortB_sor (xs:List ByteArray):(sortB xs).Pairwise fun a b=>lessB b a=false:=by
  unfold sortB
  rw [List.pairwise_map]
  refine (List.pairwise_mergeSort (le:=fun x y=>decide (x≤y)) (fun a b c h1 h2=>?_) (fun a b=>?_) _).imp fun {a b} h=>?_
  · simp only [decide_eq_true_eq] at *
    exact List.le_trans h1 h2
  · simp only [Bool.or_eq_true,decide_eq_true_eq]
    exact List.le_total a b
  · rw [lessB_lt,strLO,strLO]
    have h:=of_decide_eq_true h
    exact decide_eq_false (List.not_lt.2 h)
theorem compact_cpt (xs:List ByteArray):Lib.compact (xs.map strL)=(cptL eqB xs).map strL:=by
  have h:=cptL_keep eqB xs xs.length (Nat.le_refl _)
  rw [List.take_length] at h
  rw [h,List.map_map]
  unfold Lib.compact compactUpTo
  rw [List.length_map]
  have hg:∀ j,j < xs.length→(xs.map strL).toArray[j]! = strL (xs.getD j default):=fun j hj=>by
    rw [getElem!_pos _ j (by simpa using hj)]
    simp [List.getD_eq_getElem?_getD,hj]
  have hk:(List.range xs.length).filter (keeps (xs.map strL).toArray)=keepL (fun i j=>eqB (xs.getD i default) (xs.getD j default)) xs.length:=by
    unfold keepL
    refine List.filter_congr fun j hj=>?_
    have hj:=List.mem_range.1 hj
    unfold keeps
    rw [hg j hj]
    rcases Nat.eq_zero_or_pos j with h0|h0
    · simp [h0]
    · rw [hg (j - 1) (by omega)]
      have h1:(j==0)=false:=beq_eq_false_iff_ne.2 (by omega)
      rw [h1,Bool.false_or]
      show _=!(eqB (xs.getD j default) (xs.getD (j - 1) default))
      cases e:eqB (xs.getD j default) (xs.getD (j - 1) default) with
      |true=>
        have:=eqB_eq e
        rw [this]
        exact decide_eq_false (fun k=>k.elim (fun k=>absurd k (by omega)) fun k=>k rfl)
      |false=>
        have:=eqB_nq e
        exact decide_eq_true (Or.inr fun k=>this (by rw [← strOL (xs.getD j default),k,strOL]))
  rw [hk]
  refine List.map_congr_left fun j hj=>?_
  have hj:j < xs.length:=keepL_lt hj
  exact hg j hj
theorem strs_vals (xs:List ByteArray):(xs.map Value.string).map D.sc=strsD xs:=by rw [List.map_map];rfl
/-- What a row of strings says of the cells. -/
theorem strs_own {M:Nat→Prop}{E:Env}{w:World}{xs:List ByteArray} (hsr:SR M E [(0,⟨9,1,xs.length,strsD xs⟩)] 1 w) {l:Loc} (hl:E.at_ 0=some (some l)):∃ cur,w.heap[l.g]? = some (.cells cur 9 (0,0))∧cur.size=l.cap*1∧Holds encStr w l.g 0 (xs.map strL).toArray∧M l.g∧l.g < w.heap.size:=by
  have hob:=hsr.obs 0 _ (List.mem_singleton.2 rfl)
  rcases hob.2 with ⟨h5,_⟩|⟨m,h5,h6,h7,h8,h9,h10⟩
  · rw [hl] at h5;cases h5
  · rw [hl] at h5;injection h5 with h5;injection h5 with h5;subst h5
    rcases h10 with ⟨cur,c1,c2,c3⟩|⟨c1,_⟩
    · have hc0:=c1.row (by show ¬ 9=1000000;decide)
      refine ⟨cur,hc0,c2,fun j hj=>?_,h6,(Array.getElem?_eq_some_iff.1 hc0).1⟩
      have hj':j < xs.length:=by simpa using hj
      have h1:(strsD xs)[j]? = some (.sc (.string xs[j])):=by unfold strsD;rw [List.getElem?_map,List.getElem?_eq_getElem hj'];rfl
      obtain ⟨u,h2,_,h3⟩:=c3 j _ h1
      have h4:(xs.map strL).toArray[j]! = strL xs[j]:=by rw [getElem!_pos _ j hj];simp
      refine ⟨?_,?_⟩
      · rw [cell_of_row w l.g _ cur _ _ hc0,Nat.zero_add,h2,h4,encO,h3.1]
      · unfold World.frozen?
        simp [hc0]
    · exact absurd c1 (by show ¬ (1=0);decide)
theorem strs_sr {M:Nat→Prop}{E:Env}{w:World}{xs:List ByteArray} (hsr:SR M E [(0,⟨9,1,xs.length,strsD xs⟩)] 1 w) {l:Loc} (hl:E.at_ 0=some (some l)) (q:Nat) (os:Array Obj) (d:Array (List UInt8)) (hd:d.size=xs.length) (ys:List ByteArray) (hy:ys.length≤xs.length) (hyd:∀ (j:Nat) (h:j < ys.length),d[j]! = strL ys[j]):
    ∃ E':Env,E'.at_=E.at_∧E'.ro=E.ro∧SR (fun g=>w.heap.size≤g∨M g) E' [(0,⟨9,1,ys.length,strsD ys⟩)] 1 (putW w l.g q d os):=by
  obtain ⟨cur,hc0,hcs,hH,_,hblk⟩:=strs_own hsr hl
  obtain ⟨cur',hc1,hc2⟩:=putW_row w l.g q d os hc0
  have h := row_sr (w' := putW w l.g q d os) (n' := ys.length) (vs := ys.map Value.string) hsr hl (by decide) hc2 (by rw [hc1, hcs]) (by simp) hy (fun j v hv => by
    rw [List.getElem?_map] at hv
    obtain ⟨s,h1,h2⟩:=Option.map_eq_some_iff.1 hv
    subst h2
    obtain ⟨hj,h3⟩:=List.getElem?_eq_some_iff.1 h1
    refine ⟨?_,rfl⟩
    have h4:=putW_cell w l.g q d _ os hblk hH (by simpa using hd) j (by omega)
    rw [cell_of_row _ l.g j cur' _ _ hc2,hyd j hj,h3,encO] at h4
    exact h4) (putW_size ..) fun b hb hne => putW_old w l.g q d os b hb hne
  rw [strs_vals] at h
  exact h
set_option maxHeartbeats 1000000 in
theorem sortStr_H (xs:List ByteArray) (hn:xs.length≤1048576):SpecH Tryz.prog 132 [.own 0 0 xs.length] [(0,⟨9,1,xs.length,strsD xs⟩)] 1
    (fun d os' nb'=>d = .tup []∧os' = [(0,⟨9,1,xs.length,strsD (sortB xs)⟩)]∧nb' = 1):=by
  refine ⟨callable Tryz.func132 rfl (by kernel_rfl),fun E M w args hsr hsz hrep=>?_⟩
  obtain ⟨v,rfl⟩:=args1 hsz
  have h0:Rep E w (.own 0 0 xs.length) v:=hrep 0 _ rfl
  have hsame : SR (fun g => w.heap.size ≤ g ∨ M g) E [(0, ⟨9, 1, xs.length, strsD xs⟩)] 1 w := ⟨fun i x hi => by
      have:=hsr.obs i x hi
      refine ⟨this.1,this.2.imp_right ?_⟩
      rintro ⟨l,q1,q2,q3⟩
      exact ⟨l, q1, .inr q2, q3⟩, hsr.new, hsr.rolt, hsr.apart, hsr.nodup, ⟨fun b i p hb => by obtain ⟨q1, q2, q3⟩ := hsr.tr.blk b i p hb; exact ⟨q1, .inr q2, q3⟩, hsr.tr.cell⟩⟩
  rcases h0 with ⟨l,c,hl,rfl,hnc,hcm,hcc⟩|⟨hl,_,hn0,rfl⟩
  · obtain ⟨cur,hc0,hcs,hH,hMl,hblk⟩:=strs_own hsr hl
    have hcall:=Tryz.slices_Sort_string l.g 0 c (xs.map strL) w hH hblk (by rw [List.length_map];omega)
    rw [List.length_map] at hcall
    refine hcall.mono ?_
    rintro e w' ⟨rfl,n,os,rfl⟩
    obtain ⟨E', hE1, hE2, hsr'⟩ := strs_sr hsr hl n os ((xs.map strL).mergeSort fun x y => decide (x ≤ y)).toArray (by simp [List.length_mergeSort]) (sortB xs) (by rw [sortB_len]; exact Nat.le_refl _) (fun j hj => by
      have hj':j < ((xs.map strL).mergeSort fun x y=>decide (x≤y)).length:=by simpa [sortB] using hj
      rw [getElem!_pos _ j (by simpa using hj')]
      simp only [sortB, List.getElem_map, strLO, List.getElem_toArray])
    rw [sortB_len] at hsr'
    exact ⟨.tup [],_,1,E',.tuple #[],⟨rfl,rfl,rfl⟩,rfl,⟨[],rfl,rfl,fun j d u hd=>by simp at hd⟩,hsr',Nat.le_refl _,⟨fun i m hm=>by rw [hE1];exact hm,fun b hb=>by rw [hE2];exact hb⟩,rfl,rfl,rfl,putW_size w l.g n _ os,fun b hb hm=>putW_old w l.g n _ os b hb (fun e=>hm (e ▸ hMl)),fun b hb=>.inl (by rw [hE2] at hb;exact hb),fun i m hi him=>by rw [hE1,hsr.new i hi] at him;cases him⟩
  · obtain rfl:xs = []:=List.eq_nil_of_length_eq_zero hn0
    refine (Any.slices_Sort_string_none Tryz.lays190 none 0 w).mono ?_
    rintro e w' ⟨rfl,rfl⟩
    have e0:sortB [] = []:=List.eq_nil_of_length_eq_zero (sortB_len [])
    exact ⟨.tup [],_,1,E,.tuple #[],⟨rfl,by rw [e0],rfl⟩,rfl,⟨[],rfl,rfl,fun j d u hd=>by simp at hd⟩,hsame,Nat.le_refl _,.refl E,rfl,rfl,rfl,Nat.le_refl _,fun _ _ _=>rfl,fun b hb=>.inl hb,fun i l hi hil=>by rw [hsr.new i hi] at hil;cases hil⟩
set_option maxHeartbeats 1000000 in
theorem cptStr_H (xs:List ByteArray) (hn:xs.length≤1048576):SpecH Tryz.prog 133 [.own 0 0 xs.length] [(0,⟨9,1,xs.length,strsD xs⟩)] 1
    (fun d os' nb'=>d = .own 0 0 (cptL eqB xs).length∧os' = [(0,⟨9,1,(cptL eqB xs).length,strsD (cptL eqB xs)⟩)]∧nb' = 1):=by
  refine ⟨callable Tryz.func133 rfl (by kernel_rfl),fun E M w args hsr hsz hrep=>?_⟩
  obtain ⟨v,rfl⟩:=args1 hsz
  have h0:Rep E w (.own 0 0 xs.length) v:=hrep 0 _ rfl
  have hsame : SR (fun g => w.heap.size ≤ g ∨ M g) E [(0, ⟨9, 1, xs.length, strsD xs⟩)] 1 w := ⟨fun i x hi => by
      have:=hsr.obs i x hi
      refine ⟨this.1,this.2.imp_right ?_⟩
      rintro ⟨l,q1,q2,q3⟩
      exact ⟨l, q1, .inr q2, q3⟩, hsr.new, hsr.rolt, hsr.apart, hsr.nodup, ⟨fun b i p hb => by obtain ⟨q1, q2, q3⟩ := hsr.tr.blk b i p hb; exact ⟨q1, .inr q2, q3⟩, hsr.tr.cell⟩⟩
  rcases h0 with ⟨l,c,hl,rfl,hnc,hcm,hcc⟩|⟨hl,_,hn0,rfl⟩
  · obtain ⟨cur,hc0,hcs,hH,hMl,hblk⟩:=strs_own hsr hl
    have hcall:=Tryz.slices_Compact_string l.g 0 c (xs.map strL) w hH (by rw [List.length_map];omega) (by rw [List.length_map];exact hnc)
    rw [List.length_map,compact_cpt,List.length_map] at hcall
    have hle:(cptL eqB xs).length≤xs.length:=by
      have:=cptL_keep eqB xs xs.length (Nat.le_refl _)
      rw [List.take_length] at this
      rw [this,List.length_map]
      exact keepL_le _ _
    refine hcall.mono ?_
    rintro e w' ⟨rfl,n,hw⟩
    have hw':w' = putW w l.g n ((cptL eqB xs).map strL++List.replicate (xs.length - (cptL eqB xs).length) []).toArray #[]:=by rw [hw];exact (grow_empty _).symm
    subst hw'
    clear hw
    obtain ⟨E', hE1, hE2, hsr'⟩ := strs_sr hsr hl n #[] ((cptL eqB xs).map strL ++ List.replicate (xs.length - (cptL eqB xs).length) []).toArray (by simp; omega) (cptL eqB xs) hle (fun j hj => by
      rw [getElem!_pos _ j (by simp;omega)]
      simp only [List.getElem_toArray]
      rw [List.getElem_append_left (by simpa using hj), List.getElem_map])
    refine ⟨_,_,1,E',_,⟨rfl,rfl,rfl⟩,rfl,?_,hsr',Nat.le_refl _,⟨fun i m hm=>by rw [hE1];exact hm,fun b hb=>by rw [hE2];exact hb⟩,rfl,rfl,rfl,putW_size w l.g n _ #[],fun b hb hm=>putW_old w l.g n _ #[] b hb (fun e=>hm (e ▸ hMl)),fun b hb=>.inl (by rw [hE2] at hb;exact hb),fun i m hi him=>by rw [hE1,hsr.new i hi] at him;cases him⟩
    exact .inl ⟨l,c,by rw [hE1];exact hl,rfl,by omega,hcm,hcc⟩
  · obtain rfl:xs = []:=List.eq_nil_of_length_eq_zero hn0
    refine (Tryz.slices_Compact_string_empty none 0 w).mono ?_
    rintro e w' ⟨rfl,rfl⟩
    exact ⟨_,_,1,E,_,⟨rfl,rfl,rfl⟩,rfl,.inr ⟨hl,rfl,rfl,rfl⟩,hsame,Nat.le_refl _,.refl E,rfl,rfl,rfl,Nat.le_refl _,fun _ _ _=>rfl,fun b hb=>.inl hb,fun i l hi hil=>by rw [hsr.new i hi] at hil;cases hil⟩
end Go.Proofs.YtidjjfjhmlndjaaGreatDoor
