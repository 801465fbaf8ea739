/- Fr7, Fr8 (what is wanted of them). -/
import Derived.Test.YtidjjfjhmlndjaaGreatDoorVFr3
import Derived.Test.YtidjjfjhmlndjaaGreatDoorVFr5
import Derived.Test.YtidjjfjhmlndjaaGreatDoorVTeq
namespace Go.Proofs.YtidjjfjhmlndjaaGreatDoor
open Go.RowKit
set_option linter.unusedVariables false
set_option linter.unusedSimpArgs false
theorem bytB_l {a b:ByteArray}{k:Nat} (h:k < a.size):bytB (a++b) k=bytB a k:=by
  unfold bytB
  rw [ByteArray.data_append,Array.getD_eq_getD_getElem?, Array.getD_eq_getD_getElem?, Array.getElem?_append_left h]
theorem bytB_r (a b:ByteArray) (k:Nat):bytB (a++b) (a.size+k)=bytB b k:=by
  unfold bytB
  rw [ByteArray.data_append,Array.getD_eq_getD_getElem?, Array.getD_eq_getD_getElem?]
  have e:(a.data++b.data)[a.size+k]? = b.data[k]? :=by
    rw [Array.getElem?_append_right (show a.data.size≤a.size+k from Nat.le_add_right _ _)]
    congr 1
    exact Nat.add_sub_cancel_left _ _
  rw [e]
theorem dec_head:∀ (k u:Nat),u < 10 ^ k→1≤u→∃ b r,Lib.decDigits u=b::r∧b.toNat≠48
  |0,u,h,h1=>by simp at h;omega
  |k+1,u,h,h1=>by
    by_cases hu:u < 10
    · refine ⟨UInt8.ofNat (48+u), [],Lib.decDigits_one hu,?_⟩
      rw [UInt8.toNat_ofNat']
      omega
    · have h2:u / 10 < 10 ^ k:=by
        rw [Nat.pow_succ] at h
        omega
      obtain ⟨b,r,h3,h4⟩:=dec_head k (u / 10) h2 (by omega)
      refine ⟨b,r ++ [UInt8.ofNat (48+u % 10)],?_,h4⟩
      rw [Lib.decDigits,dif_neg hu,h3]
      rfl
theorem itoa_head {n:Int} (h0:0≤n) (h1:n≤9223372036854775807):Lib.itoa n≠ []∧(1 < (Lib.itoa n).length→bytB (ba (Lib.itoa n)) 0≠48):=by
  have e:=(itoa_dig h0 h1).2.2
  rw [e]
  by_cases hz:n.toNat=0
  · rw [hz,Lib.decDigits_one (by decide)]
    exact ⟨by simp,fun h=>absurd h (by simp)⟩
  · obtain ⟨b,r,h3,h4⟩:=dec_head 19 n.toNat (by omega) (by omega)
    rw [h3]
    refine ⟨by simp,fun _=>?_⟩
    unfold bytB ba
    simp only [Array.getD_eq_getD_getElem?]
    show ((((b::r).toArray)[0]?.getD 0).toNat:Int)≠48
    simp only [List.getElem?_toArray,List.getElem?_cons_zero,Option.getD_some]
    omega
theorem digI_run {s:ByteArray}{L:Nat} (hd:∀ i,i < L→48≤bytB s i∧bytB s i≤57) (hL:¬ (48≤bytB s L∧bytB s L≤57)):∀ (k n i:Nat),i+k=L→k≤n→digI s n i=L
  |0,0,i,h,_=>h
  |0,n+1,i,h,_=>by
    have:i=L:=h
    subst this
    rw [digI,if_neg hL]
  |k+1,0,i,_,hk=>by omega
  |k+1,n+1,i,h,hk=>by
    rw [digI,if_pos (hd i (by omega))]
    exact digI_run hd hL k n (i+1) (by omega) (by omega)
theorem bl_same {a b:ByteArray} (h:bl a=bl b):a=b:=by
  apply ByteArray.ext
  exact Array.ext' h
theorem ext_app (a b:ByteArray):(a++b).extract 0 a.size=a∧(a++b).extract a.size (a++b).size=b:=by
  constructor
  · apply bl_same
    rw [bl_ext2,bl_app3,List.drop_zero,List.take_left' (bl_len a)]
  · apply bl_same
    rw [bl_ext2,bl_app3,ByteArray.size_append,List.take_of_length_le (by rw [List.length_append,bl_len,bl_len];exact Nat.le_refl _),List.drop_left' (bl_len a)]
theorem readA_of {v m:Int}{u:ByteArray} (h0:0≤v) (h1:v≤9223372036854775807) (hm:0≤m) (hvm:v*m≤9223372036854775807) (hu:u.size≤2) (hb:¬ (48≤bytB u 0∧bytB u 0≤57)) (hF:unitF u=(m,true)):readA (ba (Lib.itoa v)++u)=(v*m,0):=by
  have hsz:=itoa_sz h0 h1
  have hbl:(ba (Lib.itoa v)).size=(Lib.itoa v).length:=ba_len _
  have hD:digN (ba (Lib.itoa v)++u)=(ba (Lib.itoa v)).size:=by
    unfold digN
    refine digI_run (fun i hi=>?_) ?_ _ _ 0 (Nat.zero_add _) (by rw [ByteArray.size_append];omega)
    · rw [bytB_l hi]
      obtain ⟨b,h2,h3⟩:=bytB_bl hi
      have:=(itoa_dig h0 h1).1 b (by rw [bl_ba] at h2;exact List.mem_of_getElem? h2)
      omega
    · have:=bytB_r (ba (Lib.itoa v)) u 0
      rw [Nat.add_zero] at this
      rw [this]
      exact hb
  obtain ⟨e1,e2⟩:=ext_app (ba (Lib.itoa v)) u
  have hI:IntR (bl (ba (Lib.itoa v))) v true:=intR_yes h0 h1 (eqB_refl' _)
  have hM:mulI v m=(v*m,true):=if_pos ⟨h0,hm,hvm⟩
  have hh:=itoa_head h0 h1
  refine (readA_3 (f:=ba (Lib.itoa v)) (u:=u) (by rw [hD];exact e1) (by rw [hD];exact e2) ?_ ?_).trans ?_
  · rintro (k|k|k|k)
    · rw [ByteArray.size_append] at k;omega
    · have:=emptyB_sz k
      rw [hbl] at this
      exact hh.1 (List.eq_nil_of_length_eq_zero this)
    · rw [hbl] at k
      exact hh.2 k.1 k.2
    · rw [hF] at k;cases k
  · rintro (k|k)
    · rw [← hI.eq.2] at k;cases k
    · rw [← hI.eq.1,hF,hM] at k;cases k
  · rw [← hI.eq.1,hF,hM]
theorem amtU_mul:∀ (f u:Nat),u=(amtU f u).1*1024 ^ (amtU f u).2∧(amtU f u).2≤f
  |0,u=>⟨(Nat.mul_one u).symm,Nat.le_refl _⟩
  |f+1,u=>by
    by_cases h:0 < u∧u % 1024=0
    · rw [amtU_go h]
      obtain ⟨h1,h2⟩:=amtU_mul f (u / 1024)
      refine ⟨?_,Nat.succ_le_succ h2⟩
      show u=(amtU f (u / 1024)).1*1024 ^ ((amtU f (u / 1024)).2+1)
      rw [Nat.pow_succ,← Nat.mul_assoc,← h1]
      omega
    · rw [amtU_no h]
      exact ⟨(Nat.mul_one u).symm,Nat.zero_le _⟩
theorem suf_unit:∀ k:Fin 5,unitF (sufB k.val)=(((1000*1024 ^ k.val:Nat):Int),true)∧(sufB k.val).size≤2∧(decide (48≤bytB (sufB k.val) 0)&&decide (bytB (sufB k.val) 0≤57))=false:=by decide +kernel
theorem m_unit:unitF ⟨#[109]⟩=(1,true)∧(⟨#[109]⟩:ByteArray).size≤2∧(decide (48≤bytB ⟨#[109]⟩ 0)&&decide (bytB ⟨#[109]⟩ 0≤57))=false:=by decide +kernel
theorem not_dig {x:Int} (h:(decide (48≤x)&&decide (x≤57))=false):¬ (48≤x∧x≤57):=by
  intro k
  rw [decide_eq_true k.1,decide_eq_true k.2] at h
  cases h
/-- An amount comes back out of its text. -/
theorem readA_amt {n:Int} (h0:0≤n) (h1:n≤9223372036854775807):readA (amtB n)=(n,0):=by
  by_cases hm:n % 1000=0
  · obtain ⟨hu,hk⟩:=amtU_mul 4 (n.toNat / 1000)
    obtain ⟨v,k,he⟩:∃ v k,amtU 4 (n.toNat / 1000)=(v,k):=⟨_,_,rfl⟩
    rw [he] at hu hk
    rw [amt_u h0 hm he]
    simp only at hu hk
    obtain ⟨e1,e2,e3⟩:=suf_unit ⟨k,by omega⟩
    have hn:(v:Int)*((1000*1024 ^ k:Nat):Int)=n:=by
      have:n.toNat=v*(1000*1024 ^ k):=by
        rw [Nat.mul_left_comm,← hu]
        omega
      rw [← Int.natCast_mul,← this]
      omega
    have hv:v≤n.toNat:=by
      have h2:v*1≤v*1024 ^ k:=Nat.mul_le_mul (Nat.le_refl _) (Nat.one_le_pow _ _ (by decide))
      omega
    have:=readA_of (v:=(v:Int)) (m:=((1000*1024 ^ k:Nat):Int)) (u:=sufB k) (by omega) (by omega) (Int.natCast_nonneg _) (by rw [hn];exact h1) e2 (not_dig e3) e1
    rw [this,hn]
  · rw [amt_m h0 hm]
    have:=readA_of (v:=n) (m:=1) h0 h1 (by decide) (by omega) m_unit.2.1 (not_dig m_unit.2.2) m_unit.1
    rw [this,Int.mul_one]
end Go.Proofs.YtidjjfjhmlndjaaGreatDoor
namespace Go.Proofs.YtidjjfjhmlndjaaGreatDoor
open Go.RowKit
set_option linter.unusedVariables false
set_option linter.unusedSimpArgs false
/-- The kid under a key, if there is one. -/
def gets (t:TreeD) (k:ByteArray):Option TreeD:=if hasT t k=true then some (kidT t k) else none
section
variable {t c:TreeD}{p k s:ByteArray}{n a b u:Int}{l:List TreeD}
theorem gets_y (h:gets t k=some c):hasT t k=true∧kidT t k=c:=by
  unfold gets at h
  split at h
  · rename_i e;injection h with h;exact ⟨e,h⟩
  · cases h
theorem gets_n (h:gets t k=none):hasT t k=false:=by
  unfold gets at h
  split at h
  · cases h
  · rename_i e;simpa using e
theorem textF_g (h:gets t k=some (textTr s)):textF t p k=(s,noF):=by
  obtain ⟨h1,h2⟩:=gets_y h
  unfold textF
  rw [if_pos h1,h2]
  rfl
theorem fineF_g {fine:ByteArray→Bool} (h:gets t k=some (textTr s)) (hf:fine s=true):fineF t p k fine=(s,noF):=by
  unfold fineF
  rw [textF_g h,if_neg (fun q=>by rw [hf] at q;cases q.2)]
theorem oneF_g {ws:List ByteArray}{e:Int} (h:gets t k=some (textTr s)) (hw:wordN ws s=e) (he:e≠0):oneF t p k ws=(e,noF):=by
  unfold oneF
  rw [textF_g h,if_pos noF_code]
  show (if wordN ws s=0 then _ else (wordN ws s,noF))=_
  rw [hw,if_neg he]
theorem wholeF_g (h:gets t k=some (intTr n)) (hi:inB n a b=true):wholeF t p k a b u=(n,noF):=by
  obtain ⟨h1,h2⟩:=gets_y h
  unfold wholeF
  rw [if_pos h1,h2]
  exact (if_pos rfl).trans (if_pos hi)
theorem wholeF_0 (h:gets t k=none):wholeF t p k a b u=(u,noF):=by
  unfold wholeF
  rw [gets_n h]
  rfl
theorem listF_g (h:gets t k=some (listTr l)) (hl:l.length≤40):listF t p k 40=(l,noF):=by
  obtain ⟨h1,h2⟩:=gets_y h
  unfold listF
  rw [if_pos h1,h2]
  refine (if_pos rfl).trans (if_neg ?_)
  show ¬ (40:Int) < (l.length:Int)
  omega
theorem listF_0 (h:gets t k=none):listF t p k 40=([],noF):=by
  unfold listF
  rw [gets_n h]
  rfl
theorem mapF_g {ks:List ByteArray}{cs:List TreeD} (h:gets t k=some (mapTr ks cs)):mapF t p k=(mapTr ks cs,noF):=by
  obtain ⟨h1,h2⟩:=gets_y h
  unfold mapF
  rw [if_pos h1,h2]
  rfl
theorem mapF_0 (h:gets t k=none):mapF t p k=(mapTr [] [],noF):=by
  unfold mapF
  rw [gets_n h]
  rfl
theorem amountF_G (h:gets t k=some (textTr (amtB n))) (h0:0≤n) (h1:n≤9223372036854775807):amountF t p k=(n,noF):=by
  obtain ⟨h2,h3⟩:=gets_y h
  have e:=readA_amt h0 h1
  rw [amountF_a h2 (by rw [h3];rfl) (by rw [h3];show (readA (amtB n)).2=0;rw [e]),h3]
  show ((readA (amtB n)).1,noF)=_
  rw [e]
end
theorem next_lt {α:Type} [Inhabited α] {lt:α→α→Bool} (h:STO lt) {xs:List α} (hx:∀ i,i < xs.length→nextB lt xs i=true):∀ (k i:Nat),i+k+1 < xs.length→lt (xs.getD i default) (xs.getD (i+k+1) default)=true
  |0,i,hi=>by
    have:=hx (i+1) hi
    unfold nextB at this
    simpa using this
  |k+1,i,hi=>by
    have:=hx (i+k+1+1) hi
    unfold nextB at this
    rw [show i+(k+1)+1=i+k+1+1 by omega]
    exact h.tr _ _ _ (next_lt h hx k i (by omega)) (by simpa using this)
theorem next_sor {α:Type} [Inhabited α] {lt:α→α→Bool} (h:STO lt) {xs:List α} (hx:∀ i,i < xs.length→nextB lt xs i=true):SSor lt xs:=by
  refine List.pairwise_iff_getElem.2 fun i j hi hj hij=>?_
  have h1:=next_lt h hx (j - i - 1) i (by omega)
  rw [show i+(j - i - 1)+1=j by omega,List.getD_eq_getElem?_getD,List.getD_eq_getElem?_getD,List.getElem?_eq_getElem hi,List.getElem?_eq_getElem hj] at h1
  exact h1
theorem fold_same {α:Type}{lt s:α→α→Bool} (h:STO lt) (hs:∀ y x,lt y x=false→(s y x=true↔y=x)) (nf:α→α) {xs:List α} (hn:∀ x ∈ xs,nf x=x) (hx:SSor lt xs):xs.foldl (fun o x=>insD lt s (nf x) o) []=xs:=by
  obtain ⟨h1,h2⟩:=foldD_ok h hs nf xs [] List.Pairwise.nil
  refine ssor_eq h h1 hx fun z=>?_
  rw [h2]
  constructor
  · rintro (⟨x,hm,rfl⟩|k)
    · rw [hn x hm];exact hm
    · cases k
  · intro k
    exact .inl ⟨z,k,(hn z k).symm⟩
theorem allB_a {n:Nat}{p:Nat→Bool} (h:allB n p=true) {k:Nat} (hk:k < n):p k=true:=List.all_eq_true.1 h k (List.mem_range.2 hk)
theorem row_parts {α:Type} [Inhabited α] {B:α→Bool}{lt:α→α→Bool}{xs:List α}{m:Nat} (h:(decide (xs.length≤m)&&allB xs.length fun i=>B (xs.getD i default)&&nextB lt xs i)=true):xs.length≤m∧(∀ x ∈ xs,B x=true)∧∀ i,i < xs.length→nextB lt xs i=true:=by
  rw [Bool.and_eq_true] at h
  have h2:=fun i (hi:i < xs.length)=>Bool.and_eq_true _ _ ▸ allB_a h.2 hi
  refine ⟨of_decide_eq_true h.1,fun x hx=>?_,fun i hi=>(h2 i hi).2⟩
  obtain ⟨i,hi,rfl⟩:=List.getElem_of_mem hx
  have:=(h2 i hi).1
  rw [List.getD_eq_getElem?_getD,List.getElem?_eq_getElem hi] at this
  exact this
theorem empty_is {s:ByteArray} (h:emptyB s=true):s=⟨#[]⟩:=eqB_eq h
theorem labs_parts {ls:List LabelD} (h:labelsB ls=true):ls.length≤6∧∀ i,i < ls.length→keyB (ls.getD i default).key=true∧valueB (ls.getD i default).value=true:=by
  unfold labelsB at h
  rw [Bool.and_eq_true] at h
  refine ⟨of_decide_eq_true h.1,fun i hi=>?_⟩
  have:=allB_a h.2 hi
  simp only [Bool.and_eq_true] at this
  exact ⟨this.1,this.2.1⟩
theorem map_at {α β:Type} [Inhabited α] [Inhabited β] (f:α→β) {xs:List α}{i:Nat} (h:i < xs.length):(xs.map f).getD i default=f (xs.getD i default):=by
  rw [List.getD_eq_getElem?_getD,List.getD_eq_getElem?_getD,List.getElem?_map,List.getElem?_eq_getElem h]
  rfl
theorem labsE_no {ls:List LabelD}{p:ByteArray} (h:labelsB ls=true):∀ (n i:Nat),i+n≤ls.length→labsE p (labelsTr ls) n i=noF
  |0,_,_=>rfl
  |n+1,i,hi=>by
    have hk:(labelsTr ls).keys.getD i default=(ls.getD i default).key:=map_at LabelD.key (by omega)
    have hc:(labelsTr ls).kids.getD i default=textTr (ls.getD i default).value:=map_at (fun l:LabelD=>textTr l.value) (by omega)
    have hv:=(labs_parts h).2 i (by omega)
    rw [labsE,hc,hk]
    rw [if_pos (show (textTr (ls.getD i default).value).kind=4 from rfl),if_pos (by show (keyB _&&valueB (ls.getD i default).value)=true;rw [hv.1,hv.2];rfl)]
    exact labsE_no h n (i+1) (by omega)
theorem range_is {α:Type} [Inhabited α] (xs:List α):(List.range xs.length).map (fun k=>xs.getD k default)=xs:=by
  refine List.ext_getElem? fun j=>?_
  rw [List.getElem?_map]
  rcases Nat.lt_or_ge j xs.length with h|h
  · rw [List.getElem?_range h]
    show some (xs.getD j default)=_
    rw [List.getD_eq_getElem?_getD,List.getElem?_eq_getElem h]
    rfl
  · rw [List.getElem?_eq_none (by simpa using h),List.getElem?_eq_none h]
    rfl
theorem labsF_back {ls:List LabelD}{p:ByteArray} (h:labelsB ls=true):labsF (labelsTr ls) p=(ls,noF):=by
  have hl:(labelsTr ls).keys.length=ls.length:=List.length_map ..
  have hc:(labelsTr ls).kids.length=ls.length:=List.length_map ..
  have h6:=(labs_parts h).1
  rw [labsF_d ⟨rfl,by rw [hl,hc]⟩ (by rw [hl];omega) (by rw [hl];exact labsE_no h _ _ (by omega)),hl]
  refine Prod.ext ?_ rfl
  show labsO (labelsTr ls) ls.length=ls
  unfold labsO
  refine Eq.trans (List.map_congr_left fun i hi=>?_) (range_is ls)
  have hi:=List.mem_range.1 hi
  rw [show (labelsTr ls).keys.getD i default=(ls.getD i default).key from map_at LabelD.key hi,show (labelsTr ls).kids.getD i default=textTr (ls.getD i default).value from map_at (fun l:LabelD=>textTr l.value) hi]
  rfl
theorem labsF_0 {p:ByteArray}:labsF (mapTr [] []) p=([],noF):=rfl
theorem eff_back {e:Int} (h:1≤e∧e≤2):wordN effW (effW' e)=e:=by
  have:e=1∨e=2:=by omega
  rcases this with rfl|rfl<;>decide +kernel
theorem taint_gets (x:TaintD):gets (taintTr x) wEffect=some (textTr (effW' x.effect))∧gets (taintTr x) wKey=some (textTr x.key)∧gets (taintTr x) wValue=(if emptyB x.value=true then none else some (textTr x.value))∧∀ p,knownT (taintTr x) p kTaint=noF:=by
  unfold taintTr
  by_cases h:emptyB x.value=true
  · simp only [optL,if_pos h]
    exact ⟨by kernel_rfl,by kernel_rfl,by kernel_rfl,fun p=>by kernel_rfl⟩
  · simp only [optL,if_neg h]
    exact ⟨by kernel_rfl,by kernel_rfl,by kernel_rfl,fun p=>by kernel_rfl⟩
theorem taint_back {x:TaintD} (h:taintB x=true) (p:ByteArray):taintM (taintTr x) p=(x,noF):=by
  have he:=taint_eff h
  unfold taintB at h
  rw [Bool.and_eq_true,Bool.and_eq_true] at h
  obtain ⟨g1,g2,g3,g4⟩:=taint_gets x
  have hv:valueF (taintTr x) p=(x.value,noF):=by
    unfold valueF
    by_cases k:emptyB x.value=true
    · rw [if_pos k] at g3
      rw [gets_n g3,empty_is k]
      rfl
    · rw [if_neg k] at g3
      rw [if_pos (gets_y g3).1]
      exact fineF_g g3 h.2.1
  unfold taintM
  rw [g4,fineF_g g2 h.1,hv,oneF_g g1 (eff_back he) (by omega)]
  rfl
theorem taintsE_back {p:ByteArray}:∀ {xs:List TaintD} (i:Nat),(∀ x ∈ xs,taintB x=true)→taintsE p i (xs.map taintTr)=(xs,noF)
  | [],_,_=>rfl
  |x::r,i,h=>by
    rw [List.map_cons,taintsE,taint_back (h x (List.mem_cons_self ..)),if_pos noF_code,taintsE_back (i+1) fun y hy=>h y (List.mem_cons_of_mem _ hy)]
theorem srtTnt_same {xs:List TaintD} (h:taintsB xs=true):srtTnt xs=(xs,true):=by
  obtain ⟨h1,_,h3⟩:=row_parts (B:=taintB) (lt:=taintLess) h
  have e:xs.foldl (fun o x=>insTnt x o) []=xs:=fold_same taintLess_sto (fun y x _=>taintSame_iff y x) id (fun _ _=>rfl) (next_sor taintLess_sto h3)
  unfold srtTnt
  rw [if_neg (by omega),e,if_pos h]
theorem toler_gets (x:TolerD):gets (tolerTr x) wEffect=(if x.effect=0 then none else some (textTr (effW' x.effect)))∧gets (tolerTr x) wKey=(if emptyB x.key=true then none else some (textTr x.key))∧gets (tolerTr x) wValue=(if x.equal=false then none else some (textTr x.value))∧∀ p,knownT (tolerTr x) p kTaint=noF:=by
  unfold tolerTr
  by_cases h1:x.effect=0<;>by_cases h2:emptyB x.key=true<;>by_cases h3:x.equal=false
  all_goals
    simp only [optL]
    first|rw [if_pos h1,if_pos h1,if_pos h1]|rw [if_neg h1,if_neg h1,if_neg h1]
    first|rw [if_pos h2,if_pos h2,if_pos h2]|rw [if_neg h2,if_neg h2,if_neg h2]
    first|rw [if_pos h3,if_pos h3,if_pos h3]|rw [if_neg h3,if_neg h3,if_neg h3]
    exact ⟨by kernel_rfl,by kernel_rfl,by kernel_rfl,fun p=>by kernel_rfl⟩
theorem rText_g {t:TreeD}{p k s:ByteArray}{fine:ByteArray→Bool} (h:gets t k=some (textTr s)) (hf:fine s=true):rText t p noF k fine=(s,noF):=(rText_none noF_code).trans (fineF_g h hf)
theorem keyB_ne {s:ByteArray} (h:keyB s=true):emptyB s=false:=by
  rw [Bool.eq_false_iff]
  intro k
  have e:=empty_is k
  subst e
  exact absurd h (by decide +kernel)
theorem toler_back {x:TolerD} (h:tolerB x=true) (p:ByteArray):tolerI (tolerTr x) p=(x,noF):=by
  have he:=toler_eff h
  obtain ⟨g1,g2,g3,g4⟩:=toler_gets x
  obtain ⟨k,q,v,e⟩:=x
  unfold tolerB at h
  rw [Bool.and_eq_true] at h
  obtain ⟨_,h⟩:=h
  simp only at *
  have hkey:(emptyB k||keyB k)=true∧(q=true→emptyB k=false∧valueB v=true)∧(q=false→emptyB v=true):=by
    cases q with
    |true=>
      simp only [if_true,Bool.and_eq_true] at h
      exact ⟨by rw [h.1,Bool.or_true],fun _=>⟨keyB_ne h.1,h.2⟩,fun k=>(by cases k)⟩
    |false=>
      simp only [Bool.false_eq_true,if_false,Bool.and_eq_true] at h
      exact ⟨h.2,fun k=>(by cases k),fun _=>h.1⟩
  have hA:rKeyT (tolerTr ⟨k,q,v,e⟩) p noF=(k,noF):=by
    by_cases z:emptyB k=true
    · rw [if_pos z] at g2
      rw [rKeyT_n (gets_n g2),empty_is z]
    · rw [if_neg z] at g2
      exact rKeyT_y (gets_y g2).1 (rText_g g2 hkey.1)
  have hq:hasT (tolerTr ⟨k,q,v,e⟩) wValue=q:=by
    cases q with
    |true=>exact (gets_y g3).1
    |false=>exact gets_n g3
  have hB:rValT (tolerTr ⟨k,q,v,e⟩) p noF k=(v,noF):=by
    cases q with
    |true=>
      refine rValT_y (gets_y g3).1 (rText_g g3 ?_)
      obtain ⟨z1,z2⟩:=hkey.2.1 rfl
      show (!emptyB k&&valueB v)=true
      rw [z1,z2]
      rfl
    |false=>rw [rValT_n (gets_n g3),empty_is (hkey.2.2 rfl)]
  by_cases z:e=0
  · rw [if_pos z] at g1
    rw [tlI_e (g4 p) hA hq hB (gets_n g1),tlI_3 noF_code,z]
  · rw [if_neg z] at g1
    have hw:effN (effW' e)=e:=eff_back (by omega)
    have hC:rEffT (tolerTr ⟨k,q,v,e⟩) p noF=(effW' e,noF):=rEffT_y (gets_y g1).1 (rText_g g1 (by rw [hw];simpa using z))
    rw [tlI (g4 p) hA hq hB hC,tlI_3 noF_code,hw]
theorem tolersE_back {p:ByteArray}:∀ {xs:List TolerD} (i:Nat),(∀ x ∈ xs,tolerB x=true)→tolersE p i (xs.map tolerTr)=(xs,noF)
  | [],_,_=>rfl
  |x::r,i,h=>by
    rw [List.map_cons,tolersE,toler_back (h x (List.mem_cons_self ..)),if_pos noF_code,tolersE_back (i+1) fun y hy=>h y (List.mem_cons_of_mem _ hy)]
theorem srtTol_same {xs:List TolerD} (h:tolersB xs=true):srtTol xs=(xs,true):=by
  obtain ⟨h1,_,h3⟩:=row_parts (B:=tolerB) (lt:=tolerLess) h
  have e:xs.foldl (fun o x=>insTol x o) []=xs:=fold_same tolerLess_sto (fun y x _=>tolerSame_iff y x) id (fun _ _=>rfl) (next_sor tolerLess_sto h3)
  unfold srtTol
  rw [if_neg (by omega),e,if_pos h]
theorem op_back {e:Int} (h:1≤e∧e≤4):wordN opsW (opsW.getD e.toNat default)=e:=by
  have:e=1∨e=2∨e=3∨e=4:=by omega
  rcases this with rfl|rfl|rfl|rfl<;>decide +kernel
theorem need_gets (n:NeedD):gets (needTr n) wKey=some (textTr n.key)∧gets (needTr n) wOp=some (textTr (opW' n))∧gets (needTr n) wValues=(if n.values.length=0 then none else some (listTr (n.values.map textTr)))∧∀ p,knownT (needTr n) p [wKey,wOp,wValues]=noF:=by
  unfold needTr
  by_cases h:n.values.length=0
  · simp only [optL,if_pos h]
    exact ⟨by kernel_rfl,by kernel_rfl,by kernel_rfl,fun p=>by kernel_rfl⟩
  · simp only [optL,if_neg h]
    exact ⟨by kernel_rfl,by kernel_rfl,by kernel_rfl,fun p=>by kernel_rfl⟩
theorem valsE_back {p:ByteArray}:∀ {vs:List ByteArray} (i:Nat),(∀ x ∈ vs,valueB x=true)→valsE p i (vs.map textTr)=noF
  | [],_,_=>rfl
  |x::r,i,h=>by
    rw [List.map_cons,valsE,if_pos (show (textTr x).kind=4 from rfl),if_pos (show valueB (textTr x).text=true from h x (List.mem_cons_self ..))]
    exact valsE_back (i+1) fun y hy=>h y (List.mem_cons_of_mem _ hy)
theorem texts_back (vs:List ByteArray):textsOf (vs.map textTr)=vs:=by
  unfold textsOf
  rw [List.map_map]
  exact List.map_id _
theorem eqB_iff2 (y x:ByteArray):eqB y x=true↔y=x:=⟨eqB_eq,fun h=>by subst h;exact eqB_refl' _⟩
theorem need_vals {n:NeedD} (h:needB n=true):n.values.length≤4∧(∀ x ∈ n.values,valueB x=true)∧valsF n.values=n.values∧(0 < n.values.length↔n.op < 3)∧(1≤n.op∧n.op≤4)∧keyB n.key=true:=by
  unfold needB at h
  rw [Bool.and_eq_true,Bool.and_eq_true] at h
  obtain ⟨h1,h2,h3⟩:=h
  unfold inB at h2
  rw [Bool.and_eq_true] at h2
  have h2':=And.intro (of_decide_eq_true h2.1) (of_decide_eq_true h2.2)
  by_cases k:3≤n.op
  · rw [if_pos k] at h3
    have h4:n.values = []:=List.eq_nil_of_length_eq_zero (by have:=eq_of_beq h3;omega)
    rw [h4]
    exact ⟨by decide,fun x hx=>(by cases hx),rfl,by simp;omega,h2',h1⟩
  · rw [if_neg k,Bool.and_eq_true] at h3
    obtain ⟨h4,h5⟩:=h3
    unfold inB at h4
    rw [Bool.and_eq_true] at h4
    have h4':=And.intro (of_decide_eq_true h4.1) (of_decide_eq_true h4.2)
    obtain ⟨_,h6,h7⟩:=row_parts (B:=valueB) (lt:=lessB) (xs:=n.values) (m:=n.values.length) (by rw [h5];simp)
    exact ⟨by omega,h6,fold_same lessB_sto (fun y x _=>eqB_iff2 y x) id (fun _ _=>rfl) (next_sor lessB_sto h7),by omega,h2',h1⟩
theorem need_back {n:NeedD} (h:needB n=true) (p:ByteArray):needM (needTr n) p=(n,noF):=by
  obtain ⟨v1,v2,v3,v4,v5,v6⟩:=need_vals h
  obtain ⟨g1,g2,g3,g4⟩:=need_gets n
  have hl:listF (needTr n) p wValues 40=(n.values.map textTr,noF):=by
    by_cases k:n.values.length=0
    · rw [if_pos k] at g3
      rw [listF_0 g3,List.eq_nil_of_length_eq_zero k]
      rfl
    · rw [if_neg k] at g3
      exact listF_g g3 (by rw [List.length_map];omega)
  unfold needM
  rw [g4,fineF_g g1 v6,oneF_g g2 (op_back v5) (by omega),hl]
  simp only [valsE_back 0 v2,texts_back,v3,noF_code]
  rw [if_neg (by simp),if_neg (by simp),if_neg (by simp),if_neg (by simp),if_neg (by simp),if_neg (fun k=>k (decide_eq_decide.2 v4)),if_neg (by omega)]
theorem needsE_back {p:ByteArray}:∀ {xs:List NeedD} (i:Nat),(∀ x ∈ xs,needB x=true)→needsE p i (xs.map needTr)=(xs,noF)
  | [],_,_=>rfl
  |x::r,i,h=>by
    rw [List.map_cons,needsE,need_back (h x (List.mem_cons_self ..)),if_pos noF_code,needsE_back (i+1) fun y hy=>h y (List.mem_cons_of_mem _ hy)]
theorem srtNed_same {xs:List NeedD} (h:needsB xs=true):srtNed xs=(xs,true):=by
  obtain ⟨h1,h2,h3⟩:=row_parts (B:=needB) (lt:=needLess) h
  have e : xs.foldl (fun o x => insNed x o) [] = xs := fold_same needLess_sto needS_iff needN (fun x hx => by
    unfold needN
    rw [(need_vals (h2 x hx)).2.2.1]) (next_sor needLess_sto h3)
  have ha:(xs.any fun n=>decide (40 < n.values.length))=false:=by
    rw [Bool.eq_false_iff]
    intro k
    obtain ⟨x,hx,hk⟩:=List.any_eq_true.1 k
    have:=(need_vals (h2 x hx)).1
    have:=of_decide_eq_true hk
    omega
  unfold srtNed
  rw [if_neg (by rw [ha];rintro (k|k);omega;cases k),e,if_pos h]
theorem needsR_back {xs:List NeedD} (h:needsB xs=true) (p:ByteArray):needsR (xs.map needTr) p=(xs,noF):=by
  obtain ⟨h1,h2,h3⟩:=row_parts (B:=needB) (lt:=needLess) h
  unfold needsR
  rw [needsE_back 0 h2,if_pos noF_code]
  show (if (srtNed xs).2=true then ((srtNed xs).1,noF) else _)=_
  rw [srtNed_same h]
  rfl
end Go.Proofs.YtidjjfjhmlndjaaGreatDoor
