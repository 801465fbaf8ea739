/- Ho0 (what is wanted of them). -/
import Derived.Test.YtidjjfjhmlndjaaGreatDoorVTf
namespace Go.Proofs.YtidjjfjhmlndjaaGreatDoor
open Go.RowKit
set_option linter.unusedVariables false
set_option linter.unusedSimpArgs false
def mulI (a b:Int):Int × Bool:=if 0≤a∧0≤b∧a*b≤9223372036854775807 then (a*b,true) else (0,false)
theorem mulI_comm (a b:Int):mulI a b=mulI b a:=by
  unfold mulI
  rw [Int.mul_comm b a]
  by_cases h:0≤a∧0≤b∧a*b≤9223372036854775807
  · rw [if_pos h,if_pos ⟨h.2.1,h.1,h.2.2⟩]
  · rw [if_neg h,if_neg fun k=>h ⟨k.2.1,k.1,k.2.2⟩]
theorem mulI_rng (a b:Int):0≤(mulI a b).1∧(mulI a b).1≤9223372036854775807:=by
  unfold mulI
  split
  · rename_i h
    exact ⟨Int.mul_nonneg h.1 h.2.1,h.2.2⟩
  · exact ⟨Int.le_refl _,by decide⟩
/-- The parts of an amount: its figures, and what comes behind them. -/
def digI (s:ByteArray):Nat→Nat→Nat
  |0,i=>i
  |n+1,i=>if 48≤bytB s i∧bytB s i≤57 then digI s n (i+1) else i
def digN (s:ByteArray):Nat:=digI s s.size 0
theorem digI_go {s:ByteArray}{i:Nat} (h:i < s.size) (hb:48≤bytB s i∧bytB s i≤57) (hR:digI s (s.size - i) i=digN s):digI s (s.size - (i+1)) (i+1)=digN s:=by
  rw [← hR,show s.size - i=(s.size - (i+1))+1 by omega,digI,if_pos hb]
theorem digI_out {s:ByteArray}{i:Nat} (h:i < s.size) (hb:¬ (48≤bytB s i∧bytB s i≤57)) (hR:digI s (s.size - i) i=digN s):digN s=i:=by
  rw [← hR,show s.size - i=(s.size - (i+1))+1 by omega,digI,if_neg hb]
theorem digI_end {s:ByteArray}{i:Nat} (h:s.size≤i) (hR:digI s (s.size - i) i=digN s):digN s=i:=by
  rw [← hR,show s.size - i=0 by omega,digI]
theorem digI_le (s:ByteArray):∀ n i,digI s n i≤i+n
  |0,i=>Nat.le_refl _
  |n+1,i=>by
    rw [digI]
    have:=digI_le s n (i+1)
    split<;>omega
theorem digN_le (s:ByteArray):digN s≤s.size:=by have:=digI_le s s.size 0;unfold digN;omega
/-- The units of amounts. -/
def sufW:List ByteArray:= [⟨#[]⟩,⟨#[109]⟩,⟨#[107]⟩,⟨#[77]⟩,⟨#[71]⟩,⟨#[84]⟩,⟨#[75,105]⟩,⟨#[77,105]⟩,⟨#[71,105]⟩,⟨#[84,105]⟩]
def unitsW:List Int:= [1000,1,1000000,1000000000,1000000000000,1000000000000000,1024000,1048576000,1073741824000,1099511627776000]
def unitK (s:ByteArray):Int:=firstN 10 fun j=>eqB (sufW.getD j default) s
def unitF (s:ByteArray):Int × Bool:=if unitK s < 0 then (0,false) else (unitsW.getD (unitK s).toNat 0,true)
theorem unitF_rng (s:ByteArray):0≤(unitF s).1∧(unitF s).1≤1099511627776000:=by
  have key:∀ k:Nat,0≤unitsW.getD k 0∧unitsW.getD k 0≤1099511627776000:=by
    intro k
    rcases Nat.lt_or_ge k 10 with h|h
    · have:∀ k:Fin 10,0≤unitsW.getD k.val 0∧unitsW.getD k.val 0≤1099511627776000:=by decide
      exact this ⟨k,h⟩
    · rw [List.getD_eq_getElem?_getD,List.getElem?_eq_none (show unitsW.length≤k from h)]
      decide
  unfold unitF
  split
  · decide
  · exact key _
theorem inB_yes {n a b:Int} (h:a≤n∧n≤b):inB n a b=true:=by unfold inB;rw [decide_eq_true h.1,decide_eq_true h.2];rfl
theorem inB_no {n a b:Int} (h:n < a∨b < n):inB n a b=false:=by
  unfold inB
  rcases h with h|h
  · rw [decide_eq_false (by omega)];rfl
  · rw [decide_eq_false (show ¬ n≤b by omega),Bool.and_false]
section
variable {t:TreeD}{p key:ByteArray}{a b u:Int}
theorem wholeF_a (h:hasT t key=true) (hk:(kidT t key).kind=3) (hi:inB (kidT t key).num a b=true):wholeF t p key a b u=((kidT t key).num,noF):=by unfold wholeF;rw [if_pos h,if_pos hk,if_pos hi]
theorem wholeF_b (h:hasT t key=true) (hk:(kidT t key).kind=3) (hi:inB (kidT t key).num a b=false):wholeF t p key a b u=(0,fltF 15 (pathK p key)):=by unfold wholeF;rw [if_pos h,if_pos hk,if_neg (by rw [hi];decide)]
theorem wholeF_c (h:hasT t key=true) (hk:¬ (kidT t key).kind=3):wholeF t p key a b u=(0,fltF 11 (pathK p key)):=by unfold wholeF;rw [if_pos h,if_neg hk]
theorem wholeF_d (h:hasT t key=false):wholeF t p key a b u=(u,noF):=by unfold wholeF;rw [if_neg (by rw [h];decide)]
theorem mapF_a (h:hasT t key=true) (hk:(kidT t key).kind=6):mapF t p key=(kidT t key,noF):=by unfold mapF;rw [if_pos h,if_pos hk]
theorem mapF_b (h:hasT t key=true) (hk:¬ (kidT t key).kind=6):mapF t p key=(default,fltF 11 (pathK p key)):=by unfold mapF;rw [if_pos h,if_neg hk]
theorem mapF_c (h:hasT t key=false):mapF t p key=(⟨6,false,0,⟨#[]⟩, [], []⟩,noF):=by unfold mapF;rw [if_neg (by rw [h];decide)]
end
def labsE (p:ByteArray) (t:TreeD):Nat→Nat→FaultD
  |0,_=>noF
  |n+1,i=>if (t.kids.getD i default).kind=4 then (if (keyB (t.keys.getD i default)&&valueB (t.kids.getD i default).text)=true then labsE p t n (i+1) else fltF 14 (pathK p (t.keys.getD i default))) else fltF 11 (pathK p (t.keys.getD i default))
def labsO (t:TreeD) (n:Nat):List LabelD:=(List.range n).map fun i=>⟨t.keys.getD i default,(t.kids.getD i default).text⟩
def labsF (t:TreeD) (p:ByteArray):List LabelD × FaultD:=
  if t.kind=6∧t.keys.length=t.kids.length then (if 6 < t.keys.length then ([],fltF 16 p) else if (labsE p t t.keys.length 0).code=0 then (labsO t t.keys.length,noF) else ([],labsE p t t.keys.length 0)) else ([],fltF 11 p)
theorem labsO_len (t:TreeD) (n:Nat):(labsO t n).length=n:=by unfold labsO;rw [List.length_map,List.length_range]
theorem labsO_snoc (t:TreeD) (n:Nat):labsO t n ++ [⟨t.keys.getD n default,(t.kids.getD n default).text⟩]=labsO t (n+1):=by
  unfold labsO
  rw [List.range_succ,List.map_append]
  rfl
section
variable {p:ByteArray}{t:TreeD}{i:Nat}
theorem labsE_go (h:i < t.keys.length) (hk:(t.kids.getD i default).kind=4) (hv:(keyB (t.keys.getD i default)&&valueB (t.kids.getD i default).text)=true) (hR:labsE p t (t.keys.length - i) i=labsE p t t.keys.length 0):labsE p t (t.keys.length - (i+1)) (i+1)=labsE p t t.keys.length 0:=by
  rw [← hR,show t.keys.length - i=(t.keys.length - (i+1))+1 by omega,labsE,if_pos hk,if_pos hv]
theorem labsE_k (h:i < t.keys.length) (hk:¬ (t.kids.getD i default).kind=4) (hR:labsE p t (t.keys.length - i) i=labsE p t t.keys.length 0):labsE p t t.keys.length 0=fltF 11 (pathK p (t.keys.getD i default)):=by
  rw [← hR,show t.keys.length - i=(t.keys.length - (i+1))+1 by omega,labsE,if_neg hk]
theorem labsE_v (h:i < t.keys.length) (hk:(t.kids.getD i default).kind=4) (hv:(keyB (t.keys.getD i default)&&valueB (t.kids.getD i default).text)=false) (hR:labsE p t (t.keys.length - i) i=labsE p t t.keys.length 0):labsE p t t.keys.length 0=fltF 14 (pathK p (t.keys.getD i default)):=by
  rw [← hR,show t.keys.length - i=(t.keys.length - (i+1))+1 by omega,labsE,if_pos hk,if_neg (by rw [hv];decide)]
theorem labsE_end (h:t.keys.length≤i) (hR:labsE p t (t.keys.length - i) i=labsE p t t.keys.length 0):labsE p t t.keys.length 0=noF:=by
  rw [← hR,show t.keys.length - i=0 by omega,labsE]
theorem labsF_a (h:¬ (t.kind=6∧t.keys.length=t.kids.length)):labsF t p=([],fltF 11 p):=if_neg h
theorem labsF_b (h:t.kind=6∧t.keys.length=t.kids.length) (hl:6 < t.keys.length):labsF t p=([],fltF 16 p):=by unfold labsF;rw [if_pos h,if_pos hl]
theorem labsF_c (h:t.kind=6∧t.keys.length=t.kids.length) (hl:¬ 6 < t.keys.length) {f:FaultD} (hf:labsE p t t.keys.length 0=f) (hc:¬ f.code=0):labsF t p=([],f):=by unfold labsF;rw [if_pos h,if_neg hl,hf,if_neg hc]
theorem labsF_d (h:t.kind=6∧t.keys.length=t.kids.length) (hl:¬ 6 < t.keys.length) (hf:labsE p t t.keys.length 0=noF):labsF t p=(labsO t t.keys.length,noF):=by unfold labsF;rw [if_pos h,if_neg hl,hf,if_pos noF_code]
end
def wKind:ByteArray:=⟨#[107,105,110,100]⟩
def wName:ByteArray:=⟨#[110,97,109,101]⟩
def wLabels:ByteArray:=⟨#[108,97,98,101,108,115]⟩
def wCpu:ByteArray:=⟨#[99,112,117]⟩
def wMem:ByteArray:=⟨#[109,101,109]⟩
def wSlots:ByteArray:=⟨#[115,108,111,116,115]⟩
def wTaints:ByteArray:=⟨#[116,97,105,110,116,115]⟩
def wEffect:ByteArray:=⟨#[101,102,102,101,99,116]⟩
def wValue:ByteArray:=⟨#[118,97,108,117,101]⟩
def wHost:ByteArray:=⟨#[104,111,115,116]⟩
def effW:List ByteArray:= [⟨#[]⟩,⟨#[110,101,118,101,114]⟩,⟨#[115,111,102,116]⟩]
theorem pathK_no (k:ByteArray):pathK ⟨#[]⟩ k=k:=if_pos (by simp [emptyB,eqB])
def effN (s:ByteArray):Int:=wordN effW s
theorem effN_rng (s:ByteArray):0≤effN s∧effN s≤2:=by
  have h:=wordI_rng (ws:=effW) (s:=s) (n:=2) (i:=1)
  show 0≤wordI effW s 2 1∧wordI effW s 2 1≤2
  rcases h with h|h<;>omega
def valueF (t:TreeD) (p:ByteArray):ByteArray × FaultD:=if hasT t wValue=true then fineF t p wValue valueB else (⟨#[]⟩,noF)
def kTaint:List ByteArray:= [wEffect,wKey,wValue]
def taintM (t:TreeD) (p:ByteArray):TaintD × FaultD:=
  if (knownT t p kTaint).code≠0 then (default,knownT t p kTaint)
  else if (fineF t p wKey keyB).2.code≠0 then (default,(fineF t p wKey keyB).2)
  else if (valueF t p).2.code≠0 then (default,(valueF t p).2)
  else if (oneF t p wEffect effW).2.code≠0 then (default,(oneF t p wEffect effW).2)
  else (⟨(fineF t p wKey keyB).1,(valueF t p).1,(oneF t p wEffect effW).1⟩,noF)
def rValue (t:TreeD) (p:ByteArray) (f:FaultD):ByteArray × FaultD:=if hasT t wValue=true then rText t p f wValue valueB else (⟨#[]⟩,f)
def taintI3 (k v:ByteArray) (e:Int) (f:FaultD):TaintD × FaultD:=if f.code=0 then (⟨k,v,e⟩,noF) else (default,f)
def taintI (t:TreeD) (p:ByteArray):TaintD × FaultD:=
  let f0:=knownT t p kTaint
  let a:=rText t p f0 wKey keyB
  let b:=rValue t p a.2
  let c:=rText t p b.2 wEffect (fun s=>decide (effN s≠0))
  taintI3 a.1 b.1 (effN c.1) c.2
theorem rText_set {t:TreeD}{p:ByteArray}{f:FaultD}{key:ByteArray}{fine:ByteArray→Bool} (h:¬ f.code=0):rText t p f key fine=(⟨#[]⟩,f):=if_neg h
theorem rText_none {t:TreeD}{p:ByteArray}{f:FaultD}{key:ByteArray}{fine:ByteArray→Bool} (h:f.code=0):rText t p f key fine=fineF t p key fine:=if_pos h
theorem rValue_set {t:TreeD}{p:ByteArray}{f:FaultD} (h:¬ f.code=0):(rValue t p f).2=f:=by
  unfold rValue
  split
  · rw [rText_set h]
  · rfl
theorem rValue_none {t:TreeD}{p:ByteArray}{f:FaultD} (h:f=noF):rValue t p f=valueF t p:=by
  subst h
  unfold rValue valueF
  split
  · exact rText_none noF_code
  · rfl
theorem one_fine (t:TreeD) (p:ByteArray) (key:ByteArray) (ws:List ByteArray):fineF t p key (fun s=>decide (wordN ws s≠0))=if (textF t p key).2.code=0∧wordN ws (textF t p key).1=0 then ((textF t p key).1,fltF 14 (pathK p key)) else textF t p key:=by
  unfold fineF
  simp
/-- The program and the model read the same taint. -/
theorem taint_same (t:TreeD) (p:ByteArray):taintI t p=taintM t p:=by
  unfold taintI taintM
  by_cases h0:(knownT t p kTaint).code=0
  · rw [if_neg (fun k=>k h0)]
    simp only [rText_none h0]
    by_cases h1:(fineF t p wKey keyB).2.code=0
    · rw [if_neg (fun k=>k h1)]
      simp only [rValue_none (flt_zero _ (fineF_ok t p wKey keyB) h1)]
      by_cases h2:(valueF t p).2.code=0
      · rw [if_neg (fun k=>k h2)]
        simp only [rText_none h2]
        rw [show (fun s=>decide (effN s≠0))=fun s=>decide (wordN effW s≠0) from rfl,one_fine]
        unfold oneF
        by_cases h3:(textF t p wEffect).2.code=0
        · by_cases h4:wordN effW (textF t p wEffect).1=0
          · rw [if_pos ⟨h3,h4⟩,if_pos h3,if_pos h4,if_pos (nzF _ _)]
            exact if_neg (nzF _ _)
          · rw [if_neg (fun k=>h4 k.2),if_pos h3,if_neg h4,if_neg (fun k=>k noF_code)]
            exact if_pos h3
        · rw [if_neg (fun k=>h3 k.1),if_neg h3,if_pos h3]
          exact if_neg h3
      · rw [if_pos h2]
        simp only [rText_set h2]
        exact if_neg h2
    · rw [if_pos h1]
      simp only [rValue_set h1,rText_set h1]
      exact if_neg h1
  · rw [if_pos h0]
    simp only [rText_set h0,rValue_set h0]
    exact if_neg h0
def rLabs (t:TreeD) (p:ByteArray) (f:FaultD):List LabelD × FaultD:=if f.code=0 then (if (mapF t p wLabels).2.code=0 then labsF (mapF t p wLabels).1 (pathK p wLabels) else ([],(mapF t p wLabels).2)) else ([],f)
def taintsE (p:ByteArray):Nat→List TreeD→List TaintD × FaultD
  |_, []=>([],noF)
  |i,x::r=>if (taintM x (pathP p (i:Int))).2.code=0 then ((taintM x (pathP p (i:Int))).1::(taintsE p (i+1) r).1,(taintsE p (i+1) r).2) else ([],(taintM x (pathP p (i:Int))).2)
end Go.Proofs.YtidjjfjhmlndjaaGreatDoor
