/- Tf (what is wanted of them). -/
import Derived.Test.YtidjjfjhmlndjaaGreatDoorVClx
import Derived.Test.YtidjjfjhmlndjaaGreatDoorVRa1
import Derived.Test.YtidjjfjhmlndjaaGreatDoorVSox
namespace Go.Proofs.YtidjjfjhmlndjaaGreatDoor
open Go.RowKit
/-- A fault: its code, its place in a text, its path. -/
structure FaultD where
  code:Int
  at_:Int
  path:ByteArray
def noF:FaultD:=⟨0,0,⟨#[]⟩⟩
def fltF (code:Int) (p:ByteArray):FaultD:=⟨code,0,p⟩
theorem noF_code:noF.code=0:=rfl
theorem nzF (c:Int) (p:ByteArray) (h:c≠0:=by decide):(fltF c p).code≠0:=h
def pathK (p k:ByteArray):ByteArray:=if emptyB p=true then k else (p++⟨#[46]⟩)++k
def pathP (p:ByteArray) (i:Int):ByteArray:=((p++⟨#[91]⟩)++ba (Lib.itoa i))++⟨#[93]⟩
def hasK (xs:List ByteArray) (k:ByteArray):Bool:=!allB xs.length fun i=>!eqB (xs.getD i default) k
def keyAtT (t:TreeD) (key:ByteArray):Int:=if t.kind=6 then firstN t.keys.length (fun i=>eqB (t.keys.getD i default) key) else -1
def hasT (t:TreeD) (key:ByteArray):Bool:=decide (0≤keyAtT t key)&&decide (t.keys.length=t.kids.length)
def kidT (t:TreeD) (key:ByteArray):TreeD:=t.kids.getD (keyAtT t key).toNat default
theorem hasT_lt {t:TreeD}{key:ByteArray} (h:hasT t key=true):(keyAtT t key).toNat < t.kids.length:=by
  unfold hasT at h
  simp only [Bool.and_eq_true,decide_eq_true_eq] at h
  have h2:=(firstN_rng t.keys.length fun i=>eqB (t.keys.getD i default) key).2.1
  have h3:keyAtT t key=firstN t.keys.length (fun i=>eqB (t.keys.getD i default) key):=by
    unfold keyAtT at h ⊢
    by_cases hk:t.kind=6
    · rw [if_pos hk]
    · rw [if_neg hk] at h
      omega
  omega
theorem kidT_mem {t:TreeD}{key:ByteArray} (h:hasT t key=true):kidT t key ∈ t.kids:=by
  unfold kidT
  rw [List.getD_eq_getElem?_getD,List.getElem?_eq_getElem (hasT_lt h)]
  exact List.getElem_mem _
/-- The first of a map's keys that is none of those named. -/
def knownL (p:ByteArray) (keys:List ByteArray):List ByteArray→FaultD
  | []=>noF
  |k::r=>if hasK keys k=true then knownL p keys r else fltF 13 (pathK p k)
def knownT (t:TreeD) (p:ByteArray) (keys:List ByteArray):FaultD:=if t.kind=6 then knownL p keys t.keys else fltF 11 p
def textF (t:TreeD) (p key:ByteArray):ByteArray × FaultD:=if hasT t key=true then (if (kidT t key).kind=4 then ((kidT t key).text,noF) else (⟨#[]⟩,fltF 11 (pathK p key))) else (⟨#[]⟩,fltF 12 (pathK p key))
def wholeF (t:TreeD) (p key:ByteArray) (least most usual:Int):Int × FaultD:=if hasT t key=true then (if (kidT t key).kind=3 then (if inB (kidT t key).num least most=true then ((kidT t key).num,noF) else (0,fltF 15 (pathK p key))) else (0,fltF 11 (pathK p key))) else (usual,noF)
def listF (t:TreeD) (p key:ByteArray) (most:Int):List TreeD × FaultD:=if hasT t key=true then (if (kidT t key).kind=5 then (if most < ((kidT t key).kids.length:Int) then ([],fltF 16 (pathK p key)) else ((kidT t key).kids,noF)) else ([],fltF 11 (pathK p key))) else ([],noF)
def mapF (t:TreeD) (p key:ByteArray):TreeD × FaultD:=if hasT t key=true then (if (kidT t key).kind=6 then (kidT t key,noF) else (default,fltF 11 (pathK p key))) else (⟨6,false,0,⟨#[]⟩, [], []⟩,noF)
def wKey:ByteArray:=⟨#[107,101,121]⟩
def wOp:ByteArray:=⟨#[111,112]⟩
def wValues:ByteArray:=⟨#[118,97,108,117,101,115]⟩
def opsW:List ByteArray:= [⟨#[]⟩,⟨#[105,110]⟩,⟨#[110,111,116,105,110]⟩,⟨#[104,97,115]⟩,⟨#[104,97,115,110,111,116]⟩]
/-- The place of a word among some, from the first on; 0 if it is none. -/
def wordI (ws:List ByteArray) (s:ByteArray):Nat→Nat→Int
  |0,_=>0
  |n+1,i=>if eqB (ws.getD i default) s=true then (i:Int) else wordI ws s n (i+1)
def wordN (ws:List ByteArray) (s:ByteArray):Int:=wordI ws s (ws.length - 1) 1
def oneF (t:TreeD) (p key:ByteArray) (ws:List ByteArray):Int × FaultD:=if (textF t p key).2.code=0 then (if wordN ws (textF t p key).1=0 then (0,fltF 14 (pathK p key)) else (wordN ws (textF t p key).1,noF)) else (0,(textF t p key).2)
/-- A text that must be as a test says. -/
def fineF (t:TreeD) (p key:ByteArray) (fine:ByteArray→Bool):ByteArray × FaultD:=if (textF t p key).2.code=0∧fine (textF t p key).1=false then ((textF t p key).1,fltF 14 (pathK p key)) else textF t p key
/-- The values of a need: the first fault. -/
def valsE (p:ByteArray):Nat→List TreeD→FaultD
  |_, []=>noF
  |i,x::r=>if x.kind=4 then (if valueB x.text=true then valsE p (i+1) r else fltF 14 (pathP p (i:Int))) else fltF 11 (pathP p (i:Int))
def textsOf (xs:List TreeD):List ByteArray:=xs.map TreeD.text
def needM (t:TreeD) (p:ByteArray):NeedD × FaultD:=
  if (knownT t p [wKey,wOp,wValues]).code≠0 then (default,knownT t p [wKey,wOp,wValues])
  else if (fineF t p wKey keyB).2.code≠0 then (default,(fineF t p wKey keyB).2)
  else if (oneF t p wOp opsW).2.code≠0 then (default,(oneF t p wOp opsW).2)
  else if (listF t p wValues 40).2.code≠0 then (default,(listF t p wValues 40).2)
  else if (valsE (pathK p wValues) 0 (listF t p wValues 40).1).code≠0 then (default,valsE (pathK p wValues) 0 (listF t p wValues 40).1)
  else if (decide (0 < (valsF (textsOf (listF t p wValues 40).1)).length))≠decide ((oneF t p wOp opsW).1 < 3) then (default,fltF 14 (pathK p wValues))
  else if 4 < (valsF (textsOf (listF t p wValues 40).1)).length then (default,fltF 16 (pathK p wValues))
  else (⟨(fineF t p wKey keyB).1,(oneF t p wOp opsW).1,valsF (textsOf (listF t p wValues 40).1)⟩,noF)
def rText (t:TreeD) (p:ByteArray) (f:FaultD) (key:ByteArray) (fine:ByteArray→Bool):ByteArray × FaultD:=if f.code=0 then fineF t p key fine else (⟨#[]⟩,f)
def rList (t:TreeD) (p:ByteArray) (f:FaultD) (key:ByteArray):List TreeD × FaultD:=if f.code=0 then listF t p key 40 else ([],f)
def rWhole (t:TreeD) (p:ByteArray) (f:FaultD) (key:ByteArray) (least most usual:Int):Int × FaultD:=if f.code=0 then wholeF t p key least most usual else (0,f)
def rFail (f:FaultD) (code:Int) (p:ByteArray):FaultD:=if f.code=0 then fltF code p else f
theorem wordI_rng {ws:List ByteArray}{s:ByteArray}:∀ {n i:Nat},wordI ws s n i=0∨((i:Int)≤wordI ws s n i∧wordI ws s n i < (i:Int)+n)
  |0,i=>.inl rfl
  |n+1,i=>by
    rw [wordI]
    split
    · exact .inr ⟨Int.le_refl _,by omega⟩
    · rcases wordI_rng (ws:=ws) (s:=s) (n:=n) (i:=i+1) with h|h
      · exact .inl h
      · exact .inr (by omega)
theorem flt_zero (f:FaultD) (h:f=noF∨f.code≠0):f.code=0→f=noF:=fun e=>h.resolve_right (fun k=>k e)
/-- A fault that is none is the fault of no kind. -/
def fltOk (f:FaultD):Prop:=f=noF∨f.code≠0
theorem fltOk_no:fltOk noF:=.inl rfl
theorem fltOk_F {c:Int} (p:ByteArray) (h:c≠0):fltOk (fltF c p):=.inr h
theorem knownL_ok {p:ByteArray}{keys:List ByteArray}:∀ r:List ByteArray,fltOk (knownL p keys r)
  | []=>fltOk_no
  |k::r=>by
    rw [knownL]
    split
    · exact knownL_ok r
    · exact fltOk_F _ (by decide)
theorem knownT_ok (t:TreeD) (p:ByteArray) (keys:List ByteArray):fltOk (knownT t p keys):=by
  unfold knownT
  split
  · exact knownL_ok _
  · exact fltOk_F _ (by decide)
theorem textF_ok (t:TreeD) (p key:ByteArray):fltOk (textF t p key).2:=by
  unfold textF
  split
  · split
    · exact fltOk_no
    · exact fltOk_F _ (by decide)
  · exact fltOk_F _ (by decide)
theorem fineF_ok (t:TreeD) (p key:ByteArray) (fine:ByteArray→Bool):fltOk (fineF t p key fine).2:=by
  unfold fineF
  split
  · exact fltOk_F _ (by decide)
  · exact textF_ok t p key
theorem listF_ok (t:TreeD) (p key:ByteArray) (m:Int):fltOk (listF t p key m).2:=by
  unfold listF
  split
  · split
    · split
      · exact fltOk_F _ (by decide)
      · exact fltOk_no
    · exact fltOk_F _ (by decide)
  · exact fltOk_no
def needsE (p:ByteArray):Nat→List TreeD→List NeedD × FaultD
  |_, []=>([],noF)
  |i,x::r=>if (needM x (pathP p (i:Int))).2.code=0 then ((needM x (pathP p (i:Int))).1::(needsE p (i+1) r).1,(needsE p (i+1) r).2) else ([],(needM x (pathP p (i:Int))).2)
def needsR (l:List TreeD) (p:ByteArray):List NeedD × FaultD:=
  if (needsE p 0 l).2.code=0 then (if (srtNed (needsE p 0 l).1).2=true then ((srtNed (needsE p 0 l).1).1,noF) else ([],fltF 16 p)) else ([],(needsE p 0 l).2)
end Go.Proofs.YtidjjfjhmlndjaaGreatDoor
