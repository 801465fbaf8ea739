/- Tf (what is wanted of them). -/
import Derived.Test.YtidjjfjhmlndjaaGreatDoorVClx
import Derived.Test.YtidjjfjhmlndjaaGreatDoorVCl1
import Derived.Test.YtidjjfjhmlndjaaGreatDoorVDk
namespace Go.Proofs.YtidjjfjhmlndjaaGreatDoor
open Go.RowKit
/-- A fault: its code, its place in a text, its path. -/
structure FaultD where
  code:Int
  at_:Int
  path:ByteArray
def noF:FaultD:=⟨0,0,⟨#[]⟩⟩
def fltF (code:Int) (p:ByteArray):FaultD:=⟨code,0,p⟩
theorem fltF_code (c:Int) (p:ByteArray):(fltF c p).code=c:=rfl
theorem noF_code:noF.code=0:=rfl
theorem nzF (c:Int) (p:ByteArray) (h:c≠0:=by decide):(fltF c p).code≠0:=h
def pathK (p k:ByteArray):ByteArray:=if emptyB p=true then k else (p++⟨#[46]⟩)++k
def pathP (p:ByteArray) (i:Int):ByteArray:=((p++⟨#[91]⟩)++ba (Lib.itoa i))++⟨#[93]⟩
def hasK (xs:List ByteArray) (k:ByteArray):Bool:=!allB xs.length fun i=>!eqB (xs.getD i default) k
def keyAtT (t:TreeD) (key:ByteArray):Int:=if t.kind=6 then firstN t.keys.length (fun i=>eqB (t.keys.getD i default) key) else -1
def hasT (t:TreeD) (key:ByteArray):Bool:=decide (0≤keyAtT t key)&&decide (t.keys.length=t.kids.length)
def kidT (t:TreeD) (key:ByteArray):TreeD:=t.kids.getD (keyAtT t key).toNat default
theorem hasT_lt {t:TreeD}{key:ByteArray} (h:hasT t key=true):(keyAtT t key).toNat < t.kids.length:=by
  unfold hasT at h
  simp only [Bool.and_eq_true,decide_eq_true_eq] at h
  have h2:=(firstN_rng t.keys.length fun i=>eqB (t.keys.getD i default) key).2.1
  have h3:keyAtT t key=firstN t.keys.length (fun i=>eqB (t.keys.getD i default) key):=by
    unfold keyAtT at h ⊢
    by_cases hk:t.kind=6
    · rw [if_pos hk]
    · rw [if_neg hk] at h
      omega
  omega
theorem kidT_mem {t:TreeD}{key:ByteArray} (h:hasT t key=true):kidT t key ∈ t.kids:=by
  unfold kidT
  rw [List.getD_eq_getElem?_getD,List.getElem?_eq_getElem (hasT_lt h)]
  exact List.getElem_mem _
/-- The first of a map's keys that is none of those named. -/
def knownL (p:ByteArray) (keys:List ByteArray):List ByteArray→FaultD
  | []=>noF
  |k::r=>if hasK keys k=true then knownL p keys r else fltF 13 (pathK p k)
def knownT (t:TreeD) (p:ByteArray) (keys:List ByteArray):FaultD:=if t.kind=6 then knownL p keys t.keys else fltF 11 p
def textF (t:TreeD) (p key:ByteArray):ByteArray × FaultD:=if hasT t key=true then (if (kidT t key).kind=4 then ((kidT t key).text,noF) else (⟨#[]⟩,fltF 11 (pathK p key))) else (⟨#[]⟩,fltF 12 (pathK p key))
def wholeF (t:TreeD) (p key:ByteArray) (least most usual:Int):Int × FaultD:=if hasT t key=true then (if (kidT t key).kind=3 then (if inB (kidT t key).num least most=true then ((kidT t key).num,noF) else (0,fltF 15 (pathK p key))) else (0,fltF 11 (pathK p key))) else (usual,noF)
def listF (t:TreeD) (p key:ByteArray) (most:Int):List TreeD × FaultD:=if hasT t key=true then (if (kidT t key).kind=5 then (if most < ((kidT t key).kids.length:Int) then ([],fltF 16 (pathK p key)) else ((kidT t key).kids,noF)) else ([],fltF 11 (pathK p key))) else ([],noF)
def mapF (t:TreeD) (p key:ByteArray):TreeD × FaultD:=if hasT t key=true then (if (kidT t key).kind=6 then (kidT t key,noF) else (default,fltF 11 (pathK p key))) else (⟨6,false,0,⟨#[]⟩, [], []⟩,noF)
def wKey:ByteArray:=⟨#[107,101,121]⟩
def wOp:ByteArray:=⟨#[111,112]⟩
def wValues:ByteArray:=⟨#[118,97,108,117,101,115]⟩
def opsW:List ByteArray:= [⟨#[]⟩,⟨#[105,110]⟩,⟨#[110,111,116,105,110]⟩,⟨#[104,97,115]⟩,⟨#[104,97,115,110,111,116]⟩]
/-- The place of a word among some, from the first on; 0 if it is none. -/
def wordI (ws:List ByteArray) (s:ByteArray):Nat→Nat→Int
  |0,_=>0
  |n+1,i=>if eqB (ws.getD i default) s=true then (i:Int) else wordI ws s n (i+1)
def wordN (ws:List ByteArray) (s:ByteArray):Int:=wordI ws s (ws.length - 1) 1
def oneF (t:TreeD) (p key:ByteArray) (ws:List ByteArray):Int × FaultD:=if (textF t p key).2.code=0 then (if wordN ws (textF t p key).1=0 then (0,fltF 14 (pathK p key)) else (wordN ws (textF t p key).1,noF)) else (0,(textF t p key).2)
/-- A text that must be as a test says. -/
def fineF (t:TreeD) (p key:ByteArray) (fine:ByteArray→Bool):ByteArray × FaultD:=if (textF t p key).2.code=0∧fine (textF t p key).1=false then ((textF t p key).1,fltF 14 (pathK p key)) else textF t p key
/-- The values of a need: the first fault. -/
def valsE (p:ByteArray):Nat→List TreeD→FaultD
  |_, []=>noF
  |i,x::r=>if x.kind=4 then (if valueB x.text=true then valsE p (i+1) r else fltF 14 (pathP p (i:Int))) else fltF 11 (pathP p (i:Int))
def textsOf (xs:List TreeD):List ByteArray:=xs.map TreeD.text
def needM (t:TreeD) (p:ByteArray):NeedD × FaultD:=
  if (knownT t p [wKey,wOp,wValues]).code≠0 then (default,knownT t p [wKey,wOp,wValues])
  else if (fineF t p wKey keyB).2.code≠0 then (default,(fineF t p wKey keyB).2)
  else if (oneF t p wOp opsW).2.code≠0 then (default,(oneF t p wOp opsW).2)
  else if (listF t p wValues 40).2.code≠0 then (default,(listF t p wValues 40).2)
  else if (valsE (pathK p wValues) 0 (listF t p wValues 40).1).code≠0 then (default,valsE (pathK p wValues) 0 (listF t p wValues 40).1)
  else if (decide (0 < (valsF (textsOf (listF t p wValues 40).1)).length))≠decide ((oneF t p wOp opsW).1 < 3) then (default,fltF 14 (pathK p wValues))
  else if 4 < (valsF (textsOf (listF t p wValues 40).1)).length then (default,fltF 16 (pathK p wValues))
  else (⟨(fineF t p wKey keyB).1,(oneF t p wOp opsW).1,valsF (textsOf (listF t p wValues 40).1)⟩,noF)
def rText (t:TreeD) (p:ByteArray) (f:FaultD) (key:ByteArray) (fine:ByteArray→Bool):ByteArray × FaultD:=if f.code=0 then fineF t p key fine else (⟨#[]⟩,f)
def rList (t:TreeD) (p:ByteArray) (f:FaultD) (key:ByteArray):List TreeD × FaultD:=if f.code=0 then listF t p key 40 else ([],f)
def rWhole (t:TreeD) (p:ByteArray) (f:FaultD) (key:ByteArray) (least most usual:Int):Int × FaultD:=if f.code=0 then wholeF t p key least most usual else (0,f)
def rFail (f:FaultD) (code:Int) (p:ByteArray):FaultD:=if f.code=0 then fltF code p else f
def valsR (p:ByteArray):FaultD→Nat→List TreeD→FaultD
  |f,_, []=>f
  |f,i,x::r=>valsR p (if valueB x.text=true then (if x.kind=4 then f else rFail f 11 (pathP p (i:Int))) else rFail (if x.kind=4 then f else rFail f 11 (pathP p (i:Int))) 14 (pathP p (i:Int))) (i+1) r
theorem valsR_set {p:ByteArray}:∀ {r:List TreeD}{f:FaultD}{i:Nat},f.code≠0→valsR p f i r=f
  | [],f,i,h=>rfl
  |x::r,f,i,h=>by
    have e:∀ c q,rFail f c q=f:=fun c q=>if_neg h
    rw [valsR]
    simp only [e,ite_self]
    exact valsR_set h
theorem valsR_S {p:ByteArray}:∀ {r:List TreeD}{i:Nat}{f:FaultD},f=noF→valsR p f i r=valsE p i r
  | [],i,f,h=>h
  |x::r,i,f,h=>by
    subst h
    have e:∀ c q,rFail noF c q=fltF c q:=fun c q=>if_pos rfl
    rw [valsR,valsE]
    by_cases h1:x.kind=4
    · by_cases h2:valueB x.text=true
      · rw [if_pos h2,if_pos h1,if_pos h1,if_pos h2]
        exact valsR_S rfl
      · rw [if_neg h2,if_pos h1,if_pos h1,if_neg h2,e]
        exact valsR_set (nzF _ _)
    · rw [if_neg h1,if_neg h1,e]
      rw [show rFail (fltF 11 (pathP p (i:Int))) 14 (pathP p (i:Int))=fltF 11 (pathP p (i:Int)) from if_neg (nzF _ _),ite_self]
      exact valsR_set (nzF _ _)
def needI3 (_t:TreeD) (p:ByteArray) (k:ByteArray) (op:Int) (l:List TreeD) (f:FaultD):NeedD × FaultD:=
  let vs:=valsF (textsOf l)
  let f1:=valsR (pathK p wValues) f 0 l
  let f2:=if decide (0 < vs.length)=(decide (op=1)||decide (op=2)) then f1 else rFail f1 14 (pathK p wValues)
  let f3:=if 4 < vs.length then rFail f2 16 (pathK p wValues) else f2
  if f3.code=0 then (⟨k,op,vs⟩,noF) else (default,f3)
def opW (s:ByteArray):Int:=wordN opsW s
def needI (t:TreeD) (p:ByteArray):NeedD × FaultD:=
  let f0:=knownT t p [wKey,wOp,wValues]
  let a:=rText t p f0 wKey keyB
  let b:=rText t p a.2 wOp (fun s=>decide (opW s≠0))
  let c:=rList t p b.2 wValues
  needI3 t p a.1 (opW b.1) c.1 c.2
theorem wordI_rng {ws:List ByteArray}{s:ByteArray}:∀ {n i:Nat},wordI ws s n i=0∨((i:Int)≤wordI ws s n i∧wordI ws s n i < (i:Int)+n)
  |0,i=>.inl rfl
  |n+1,i=>by
    rw [wordI]
    split
    · exact .inr ⟨Int.le_refl _,by omega⟩
    · rcases wordI_rng (ws:=ws) (s:=s) (n:=n) (i:=i+1) with h|h
      · exact .inl h
      · exact .inr (by omega)
theorem opW_rng (s:ByteArray):0≤opW s∧opW s≤4:=by
  have h:=wordI_rng (ws:=opsW) (s:=s) (n:=4) (i:=1)
  show 0≤wordI opsW s 4 1∧wordI opsW s 4 1≤4
  rcases h with h|h<;>omega
theorem rFail_set {f:FaultD}{c:Int}{p:ByteArray} (h:f.code≠0):rFail f c p=f:=if_neg h
theorem needI3_set {t:TreeD}{p k:ByteArray}{op:Int}{l:List TreeD}{f:FaultD} (h:f.code≠0):needI3 t p k op l f=(default,f):=by
  unfold needI3
  simp only [valsR_set h,rFail_set h,ite_self]
  rw [if_neg h]
theorem flt_zero (f:FaultD) (h:f=noF∨f.code≠0):f.code=0→f=noF:=fun e=>h.resolve_right (fun k=>k e)
/-- A fault that is none is the fault of no kind. -/
def fltOk (f:FaultD):Prop:=f=noF∨f.code≠0
theorem fltOk_no:fltOk noF:=.inl rfl
theorem fltOk_F {c:Int} (p:ByteArray) (h:c≠0):fltOk (fltF c p):=.inr h
theorem textF_ok (t:TreeD) (p key:ByteArray):fltOk (textF t p key).2:=by
  unfold textF
  split
  · split
    · exact fltOk_no
    · exact fltOk_F _ (by decide)
  · exact fltOk_F _ (by decide)
theorem fineF_ok (t:TreeD) (p key:ByteArray) (fine:ByteArray→Bool):fltOk (fineF t p key fine).2:=by
  unfold fineF
  split
  · exact fltOk_F _ (by decide)
  · exact textF_ok t p key
theorem listF_ok (t:TreeD) (p key:ByteArray) (m:Int):fltOk (listF t p key m).2:=by
  unfold listF
  split
  · split
    · split
      · exact fltOk_F _ (by decide)
      · exact fltOk_no
    · exact fltOk_F _ (by decide)
  · exact fltOk_no
theorem valsE_ok {p:ByteArray}:∀ (r:List TreeD) (i:Nat),fltOk (valsE p i r)
  | [],i=>fltOk_no
  |x::r,i=>by
    rw [valsE]
    split
    · split
      · exact valsE_ok r (i+1)
      · exact fltOk_F _ (by decide)
    · exact fltOk_F _ (by decide)
/-- The program and the model read the same need. -/
theorem need_same (t:TreeD) (p:ByteArray):needI t p=needM t p:=by
  unfold needI needM
  by_cases h0:(knownT t p [wKey,wOp,wValues]).code=0
  · simp only [rText,h0,if_true,ne_eq,not_true_eq_false,if_false]
    by_cases h1:(fineF t p wKey keyB).2.code=0
    · simp only [h1,if_true,not_true_eq_false,if_false]
      have e2:fineF t p wOp (fun s=>decide (opW s≠0))=if (textF t p wOp).2.code=0∧opW (textF t p wOp).1=0 then ((textF t p wOp).1,fltF 14 (pathK p wOp)) else textF t p wOp:=by
        unfold fineF
        simp
      rw [e2]
      unfold oneF
      by_cases h2:(textF t p wOp).2.code=0
      · by_cases h3:opW (textF t p wOp).1=0
        · rw [if_pos ⟨h2,h3⟩,if_pos h2,if_pos (show wordN opsW (textF t p wOp).1=0 from h3)]
          show needI3 t p _ _ (rList t p (fltF 14 (pathK p wOp)) wValues).1 (rList t p (fltF 14 (pathK p wOp)) wValues).2=_
          rw [show rList t p (fltF 14 (pathK p wOp)) wValues=([],fltF 14 (pathK p wOp)) from if_neg (nzF _ _),needI3_set (nzF _ _)]
          rfl
        · rw [if_neg (fun k=>h3 k.2),if_pos h2,if_neg (show ¬ wordN opsW (textF t p wOp).1=0 from h3)]
          simp only [noF_code,not_true_eq_false,if_false]
          have e3:rList t p (textF t p wOp).2 wValues=listF t p wValues 40:=if_pos h2
          rw [e3]
          by_cases h4:(listF t p wValues 40).2.code=0
          · rw [if_neg (fun k=>k h4)]
            have e4:=flt_zero _ (listF_ok t p wValues 40) h4
            unfold needI3
            simp only [valsR_S e4]
            by_cases h5:(valsE (pathK p wValues) 0 (listF t p wValues 40).1).code=0
            · have e5:=flt_zero _ (valsE_ok _ 0) h5
              simp only [e5,noF_code,not_true_eq_false,if_false]
              have hr:=opW_rng (textF t p wOp).1
              have e6:(decide (opW (textF t p wOp).1=1)||decide (opW (textF t p wOp).1=2))=decide (wordN opsW (textF t p wOp).1 < 3):=by
                show (decide (opW (textF t p wOp).1=1)||decide (opW (textF t p wOp).1=2))=decide (opW (textF t p wOp).1 < 3)
                rw [← Bool.decide_or]
                exact decide_eq_decide.2 (by omega)
              rw [e6]
              have r1:rFail noF 14 (pathK p wValues)=fltF 14 (pathK p wValues):=if_pos rfl
              have r2:rFail (fltF 14 (pathK p wValues)) 16 (pathK p wValues)=fltF 14 (pathK p wValues):=if_neg (nzF _ _)
              have r3:rFail noF 16 (pathK p wValues)=fltF 16 (pathK p wValues):=if_pos rfl
              by_cases h6:decide (0 < (valsF (textsOf (listF t p wValues 40).1)).length)=decide (wordN opsW (textF t p wOp).1 < 3)
              · by_cases h7:4 < (valsF (textsOf (listF t p wValues 40).1)).length
                · simp only [h6,h7,if_true,not_true_eq_false,if_false,r3,fltF_code,show ¬ (16:Int)=0 by decide]
                · simp only [h6,h7,if_true,not_true_eq_false,if_false,noF_code]
                  rfl
              · simp only [h6,if_true,not_false_eq_true,if_false,r1,r2,ite_self,fltF_code,show ¬ (14:Int)=0 by decide]
            · simp only [h5,rFail_set h5,ite_self,not_false_eq_true,if_true,if_false]
          · rw [if_pos h4,needI3_set h4]
      · have e2:¬ ((textF t p wOp).2.code=0∧opW (textF t p wOp).1=0):=fun k=>h2 k.1
        rw [if_neg e2,if_neg h2,if_pos h2]
        show needI3 t p _ _ (rList t p (textF t p wOp).2 wValues).1 (rList t p (textF t p wOp).2 wValues).2=_
        rw [show rList t p (textF t p wOp).2 wValues=([],(textF t p wOp).2) from if_neg h2,needI3_set h2]
    · simp only [h1,not_false_eq_true,if_true,if_false]
      rw [show rList t p (fineF t p wKey keyB).2 wValues=([],(fineF t p wKey keyB).2) from if_neg h1,needI3_set h1]
  · rw [if_pos h0]
    simp only [rText,if_neg h0]
    rw [show rList t p (knownT t p [wKey,wOp,wValues]) wValues=([],knownT t p [wKey,wOp,wValues]) from if_neg h0,needI3_set h0]
def needsE (p:ByteArray):Nat→List TreeD→List NeedD × FaultD
  |_, []=>([],noF)
  |i,x::r=>if (needM x (pathP p (i:Int))).2.code=0 then ((needM x (pathP p (i:Int))).1::(needsE p (i+1) r).1,(needsE p (i+1) r).2) else ([],(needM x (pathP p (i:Int))).2)
def needsR (l:List TreeD) (p:ByteArray):List NeedD × FaultD:=
  if (needsE p 0 l).2.code=0 then (if (srtNed (needsE p 0 l).1).2=true then ((srtNed (needsE p 0 l).1).1,noF) else ([],fltF 16 p)) else ([],(needsE p 0 l).2)
end Go.Proofs.YtidjjfjhmlndjaaGreatDoor
