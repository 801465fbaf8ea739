/- Fr5 (what is wanted of them). -/
import Derived.Test.YtidjjfjhmlndjaaGreatDoorVFr0
import Derived.Test.YtidjjfjhmlndjaaGreatDoorVHo2
namespace Go.Proofs.YtidjjfjhmlndjaaGreatDoor
open Go.RowKit
set_option linter.unusedVariables false
set_option linter.unusedSimpArgs false
/-- The first of two faults. -/
def stepF (a b:FaultD):FaultD:=if a.code=0 then b else a
theorem stepF_0 {a b:FaultD} (h:a.code=0):stepF a b=b:=if_pos h
theorem stepF_1 {a b:FaultD} (h:¬ a.code=0):stepF a b=a:=if_neg h
theorem stepF_congr {a b b':FaultD} (h:a.code=0→b=b'):stepF a b=stepF a b':=by
  unfold stepF
  split
  · rename_i k;exact h k
  · rfl
theorem stepF_z {a b:FaultD} (h:(stepF a b).code=0):a.code=0∧b.code=0:=by
  unfold stepF at h
  split at h
  · rename_i k;exact ⟨k,h⟩
  · rename_i k;exact absurd h k
def rKeyT (t:TreeD) (p:ByteArray) (f:FaultD):ByteArray × FaultD:=if hasT t wKey=true then rText t p f wKey (fun s=>emptyB s||keyB s) else (⟨#[]⟩,f)
def rValT (t:TreeD) (p:ByteArray) (f:FaultD) (k:ByteArray):ByteArray × FaultD:=if hasT t wValue=true then rText t p f wValue (fun s=>!emptyB k&&valueB s) else (⟨#[]⟩,f)
def rEffT (t:TreeD) (p:ByteArray) (f:FaultD):ByteArray × FaultD:=if hasT t wEffect=true then rText t p f wEffect (fun s=>decide (effN s≠0)) else (⟨#[]⟩,f)
def tolerI3 (k:ByteArray) (q:Bool) (v:ByteArray) (e:Int) (f:FaultD):TolerD × FaultD:=if f.code=0 then (⟨k,q,v,e⟩,noF) else (default,f)
def tolerI (t:TreeD) (p:ByteArray):TolerD × FaultD:=
  let f0:=knownT t p kTaint
  let a:=rKeyT t p f0
  let b:=rValT t p a.2 a.1
  let c:=rEffT t p b.2
  tolerI3 a.1 (hasT t wValue) b.1 (effN c.1) c.2
theorem effN_no:effN ⟨#[]⟩=0:=by decide +kernel
theorem rKeyT_y {t:TreeD}{p:ByteArray}{f:FaultD}{a:ByteArray × FaultD} (h:hasT t wKey=true) (e:rText t p f wKey (fun s=>emptyB s||keyB s)=a):rKeyT t p f=a:=(if_pos h).trans e
theorem rKeyT_n {t:TreeD}{p:ByteArray}{f:FaultD} (h:hasT t wKey=false):rKeyT t p f=(⟨#[]⟩,f):=if_neg (by rw [h];decide)
theorem rValT_y {t:TreeD}{p:ByteArray}{f:FaultD}{k:ByteArray}{a:ByteArray × FaultD} (h:hasT t wValue=true) (e:rText t p f wValue (fun s=>!emptyB k&&valueB s)=a):rValT t p f k=a:=(if_pos h).trans e
theorem rValT_n {t:TreeD}{p:ByteArray}{f:FaultD}{k:ByteArray} (h:hasT t wValue=false):rValT t p f k=(⟨#[]⟩,f):=if_neg (by rw [h];decide)
theorem rEffT_y {t:TreeD}{p:ByteArray}{f:FaultD}{a:ByteArray × FaultD} (h:hasT t wEffect=true) (e:rText t p f wEffect (fun s=>decide (effN s≠0))=a):rEffT t p f=a:=(if_pos h).trans e
theorem rEffT_n {t:TreeD}{p:ByteArray}{f:FaultD} (h:hasT t wEffect=false):rEffT t p f=(⟨#[]⟩,f):=if_neg (by rw [h];decide)
theorem tlI {t:TreeD}{p:ByteArray}{f0:FaultD}{a b c:ByteArray × FaultD}{q:Bool} (hA:knownT t p kTaint=f0) (hB:rKeyT t p f0=a) (hq:hasT t wValue=q) (hC:rValT t p a.2 a.1=b) (hD:rEffT t p b.2=c):tolerI t p=tolerI3 a.1 q b.1 (effN c.1) c.2:=by
  subst hA;subst hB;subst hC;subst hD;subst hq
  rfl
theorem tlI_e {t:TreeD}{p:ByteArray}{f0:FaultD}{a b:ByteArray × FaultD}{q:Bool} (hA:knownT t p kTaint=f0) (hB:rKeyT t p f0=a) (hq:hasT t wValue=q) (hC:rValT t p a.2 a.1=b) (he:hasT t wEffect=false):tolerI t p=tolerI3 a.1 q b.1 0 b.2:=by
  have h:=tlI hA hB hq hC (rEffT_n he)
  rw [show effN ((⟨#[]⟩,b.2):ByteArray × FaultD).1=0 from effN_no] at h
  exact h
theorem tlI_3 {k v:ByteArray}{q:Bool}{e:Int}{f:FaultD} (h:f.code=0):tolerI3 k q v e f=(⟨k,q,v,e⟩,noF):=if_pos h
theorem tlI_4 {k v:ByteArray}{q:Bool}{e:Int}{f:FaultD} (h:¬ f.code=0):tolerI3 k q v e f=(default,f):=if_neg h
def tolersE (p:ByteArray):Nat→List TreeD→List TolerD × FaultD
  |_, []=>([],noF)
  |i,x::r=>if (tolerI x (pathP p (i:Int))).2.code=0 then ((tolerI x (pathP p (i:Int))).1::(tolersE p (i+1) r).1,(tolersE p (i+1) r).2) else ([],(tolerI x (pathP p (i:Int))).2)
structure TlE (p:ByteArray) (l:List TreeD) (i:Nat) (o:List TolerD):Prop where
  r1:o++(tolersE p i (l.drop i)).1=(tolersE p 0 l).1
  r2:(tolersE p i (l.drop i)).2=(tolersE p 0 l).2
  len:o.length=i
theorem tlE_0 (p:ByteArray) (l:List TreeD):TlE p l 0 []:=⟨rfl,rfl,rfl⟩
section
variable {p:ByteArray}{l:List TreeD}{i:Nat}{o:List TolerD}
theorem TlE.go (h:TlE p l i o) (hi:i < l.length) (hc:(tolerI (l.getD i default) (pathP p (i:Int))).2.code=0):TlE p l (i+1) (o ++ [(tolerI (l.getD i default) (pathP p (i:Int))).1]):=by
  have e1:=h.r1
  have e2:=h.r2
  rw [getD_drop l hi,tolersE,if_pos hc] at e1 e2
  exact ⟨by rw [List.append_assoc];exact e1,e2,by rw [List.length_append,h.len];rfl⟩
theorem TlE.flt (h:TlE p l i o) (hi:i < l.length) (hc:¬ (tolerI (l.getD i default) (pathP p (i:Int))).2.code=0):(tolersE p 0 l).2=(tolerI (l.getD i default) (pathP p (i:Int))).2:=by
  have e2:=h.r2
  rw [getD_drop l hi,tolersE,if_neg hc] at e2
  exact e2.symm
theorem TlE.fin (h:TlE p l i o) (hi:l.length≤i):(tolersE p 0 l).2=noF∧o=(tolersE p 0 l).1:=by
  have e1:=h.r1
  have e2:=h.r2
  rw [List.drop_of_length_le hi,tolersE] at e1 e2
  rw [List.append_nil] at e1
  exact ⟨e2.symm,e1⟩
end
/-- The same where a fault does not end the loop. -/
structure TlI (p:ByteArray) (l:List TreeD) (g:FaultD) (i:Nat) (o:List TolerD) (f:FaultD):Prop where
  len:o.length≤i
  go:f.code=0→g.code=0∧TlE p l i o
  no:¬ f.code=0→(¬ g.code=0∧f=g)∨(g.code=0∧(tolersE p 0 l).2=f)
theorem tlI_0 (p:ByteArray) (l:List TreeD) (g:FaultD):TlI p l g 0 [] g:=⟨Nat.le_refl _,fun h=>⟨h,tlE_0 p l⟩,fun h=>.inl ⟨h,rfl⟩⟩
section
variable {p:ByteArray}{l:List TreeD}{g f:FaultD}{i:Nat}{o:List TolerD}
theorem TlI.step (h:TlI p l g i o f) (hf:f.code=0) (hi:i < l.length) {r:TolerD × FaultD} (hr:tolerI (l.getD i default) (pathP p (i:Int))=r):TlI p l g (i+1) (o ++ [r.1]) r.2:=by
  obtain ⟨h0,h1⟩:=h.go hf
  refine ⟨by rw [List.length_append];exact Nat.succ_le_succ h.len,fun hc=>⟨h0,?_⟩,fun hc=>.inr ⟨h0,?_⟩⟩
  · subst hr;exact h1.go hi hc
  · have:=h1.flt hi (by rw [hr];exact hc);rw [hr] at this;exact this
theorem TlI.keep (h:TlI p l g i o f) (hf:¬ f.code=0):TlI p l g (i+1) o f:=⟨Nat.le_succ_of_le h.len,fun k=>absurd k hf,h.no⟩
end
def tolF (ls:List TolerD):List TolerD:=ls.foldl (fun o x=>insTol x o) []
def kPod:List ByteArray:= [wCpu,wKind,wLabels,wMem,wName,wNeeds,wRank,wToler]
def rNeeds (f:FaultD) (l:List TreeD):List NeedD × FaultD:=if f.code=0 then needsR l wNeeds else ([],f)
noncomputable def podG (t:TreeD):FaultD:=stepF (stepF (stepF (stepF (stepF (knownT t ⟨#[]⟩ kPod) (headF t wPod)) (wholeF t ⟨#[]⟩ wRank 0 1000 0).2) (listF t ⟨#[]⟩ wNeeds 40).2) (needsR (listF t ⟨#[]⟩ wNeeds 40).1 wNeeds).2) (listF t ⟨#[]⟩ wToler 40).2
noncomputable def podF (t:TreeD):FaultD:=stepF (stepF (podG t) (tolersE wToler 0 (listF t ⟨#[]⟩ wToler 40).1).2) (if (srtTol (tolersE wToler 0 (listF t ⟨#[]⟩ wToler 40).1).1).2=true then noF else fltF 16 wToler)
noncomputable def podV (t:TreeD):PodD:=⟨hName t,hLabs t,hCpu t,hMem t,(wholeF t ⟨#[]⟩ wRank 0 1000 0).1,(needsR (listF t ⟨#[]⟩ wNeeds 40).1 wNeeds).1,(srtTol (tolersE wToler 0 (listF t ⟨#[]⟩ wToler 40).1).1).1⟩
structure CoK (t:TreeD) (kd:ByteArray) (f0:FaultD) (b:ByteArray × FaultD) (c:List LabelD × FaultD) (d e:Int × FaultD):Prop where
  yes:e.2.code=0→f0.code=0∧(headF t kd).code=0∧b.1=hName t∧c.1=hLabs t∧d.1=hCpu t∧e.1=hMem t
  no:f0.code=0→e.2=headF t kd
  set:¬ f0.code=0→e.2=f0
section
variable {t:TreeD}{f0 f g:FaultD}{b:ByteArray × FaultD}{c:List LabelD × FaultD}{d e s:Int × FaultD}{l m:List TreeD × FaultD}{n:List NeedD × FaultD}{i:Nat}{o:List TolerD}
theorem CoK.sum {kd:ByteArray} (h:CoK t kd f0 b c d e):e.2=stepF f0 (headF t kd):=by
  unfold stepF
  split
  · rename_i k;exact h.no k
  · rename_i k;exact h.set k
theorem rWhole_s {key:ByteArray}{x y u:Int} (h:rWhole t ⟨#[]⟩ f key x y u=s):s.2=stepF f (wholeF t ⟨#[]⟩ key x y u).2∧(f.code=0→s.1=(wholeF t ⟨#[]⟩ key x y u).1):=by
  subst h
  unfold rWhole stepF
  split
  · exact ⟨rfl,fun _=>rfl⟩
  · rename_i k;exact ⟨rfl,fun q=>absurd q k⟩
theorem rList_s {key:ByteArray} (h:rList t ⟨#[]⟩ f key=l):l.2=stepF f (listF t ⟨#[]⟩ key 40).2∧(f.code=0→l.1=(listF t ⟨#[]⟩ key 40).1)∧(¬ f.code=0→l.1 = []∧l.2=f):=by
  subst h
  unfold rList stepF
  split
  · rename_i k;exact ⟨rfl,fun _=>rfl,fun q=>absurd k q⟩
  · rename_i k;exact ⟨rfl,fun q=>absurd q k,fun _=>⟨rfl,rfl⟩⟩
theorem rNeeds_s (h:rNeeds l.2 l.1=n):n.2=stepF l.2 (needsR l.1 wNeeds).2∧(l.2.code=0→n.1=(needsR l.1 wNeeds).1):=by
  subst h
  unfold rNeeds stepF
  split
  · exact ⟨rfl,fun _=>rfl⟩
  · rename_i k;exact ⟨rfl,fun q=>absurd q k⟩
theorem rNeeds_y (h:l.2.code=0) (hN:needsR l.1 wNeeds=n) (hy:n.2=noF):rNeeds l.2 l.1=(n.1,noF):=(if_pos h).trans (hN.trans (Prod.ext rfl hy))
theorem rNeeds_n (h:l.2.code=0) (hN:needsR l.1 wNeeds=n):rNeeds l.2 l.1=n:=(if_pos h).trans hN
theorem rNeeds_0 (h:¬ l.2.code=0):rNeeds l.2 l.1=([],l.2):=if_neg h
/-- All that is read ahead of the tolerations. -/
structure PdP (t:TreeD) (f0:FaultD) (b:ByteArray × FaultD) (c:List LabelD × FaultD) (d e s:Int × FaultD) (l:List TreeD × FaultD) (n:List NeedD × FaultD) (m:List TreeD × FaultD):Prop where
  hK:knownT t ⟨#[]⟩ kPod=f0
  hF:CoK t wPod f0 b c d e
  hS:rWhole t ⟨#[]⟩ e.2 wRank 0 1000 0=s
  hL:rList t ⟨#[]⟩ s.2 wNeeds=l
  hN:rNeeds l.2 l.1=n
  hM:rList t ⟨#[]⟩ n.2 wToler=m
theorem PdP.sum (h:PdP t f0 b c d e s l n m):m.2=podG t:=by
  obtain ⟨hK,hF,hS,hL,hN,hM⟩:=h
  have e1:=hF.sum
  have e2:=(rWhole_s hS).1
  obtain ⟨e3,e4,_⟩:=rList_s hL
  have e5:=(rNeeds_s hN).1
  have e6:=(rList_s hM).1
  have e7:stepF l.2 (needsR l.1 wNeeds).2=stepF l.2 (needsR (listF t ⟨#[]⟩ wNeeds 40).1 wNeeds).2:=stepF_congr fun k=>by
    rw [e4 (stepF_z (e3 ▸ k)).1]
  unfold podG
  rw [e6,e5,e7,e3,e2,e1,hK]
theorem PdP.got (h:PdP t f0 b c d e s l n m) (hm:m.2.code=0):m.1=(listF t ⟨#[]⟩ wToler 40).1∧n.1=(needsR (listF t ⟨#[]⟩ wNeeds 40).1 wNeeds).1∧s.1=(wholeF t ⟨#[]⟩ wRank 0 1000 0).1∧b.1=hName t∧c.1=hLabs t∧d.1=hCpu t∧e.1=hMem t:=by
  obtain ⟨hK,hF,hS,hL,hN,hM⟩:=h
  obtain ⟨e2,e2'⟩:=rWhole_s hS
  obtain ⟨e3,e4,_⟩:=rList_s hL
  obtain ⟨e5,e5'⟩:=rNeeds_s hN
  obtain ⟨e6,e6',_⟩:=rList_s hM
  have k6:=(stepF_z (e6 ▸ hm)).1
  have k5:=(stepF_z (e5 ▸ k6)).1
  have k3:=(stepF_z (e3 ▸ k5)).1
  have k2:=(stepF_z (e2 ▸ k3)).1
  obtain ⟨_,_,q1,q2,q3,q4⟩:=hF.yes k2
  exact ⟨e6' k6,by rw [e5' k5,e4 k3],e2' k2,q1,q2,q3,q4⟩
theorem pod_1 (h:PdP t f0 b c d e s l n m) (hE:TlI wToler m.1 m.2 i o f) (hf:¬ f.code=0):podF t=f:=by
  unfold podF
  rw [← h.sum]
  rcases hE.no hf with ⟨h1,h2⟩|⟨h1,h2⟩
  · rw [stepF_1 (a:=m.2) h1,stepF_1 h1,h2]
  · rw [stepF_0 (a:=m.2) h1,← (h.got h1).1,h2,stepF_1 hf]
theorem pod_end (h:PdP t f0 b c d e s l n m) (hE:TlI wToler m.1 m.2 i o f) (hi:m.1.length≤i) (hf:f.code=0):
    ((srtTol o).2=false→podF t=fltF 16 wToler)∧((srtTol o).2=true→podF t=noF∧podV t=⟨b.1,c.1,d.1,e.1,s.1,n.1,(srtTol o).1⟩):=by
  obtain ⟨h1,h2⟩:=hE.go hf
  obtain ⟨h3,h4⟩:=h2.fin hi
  obtain ⟨g1,g2,g3,g4,g5,g6,g7⟩:=h.got h1
  have hz:(stepF (podG t) (tolersE wToler 0 (listF t ⟨#[]⟩ wToler 40).1).2).code=0:=by
    rw [← h.sum,stepF_0 h1,← g1,h3]
    rfl
  unfold podF podV
  rw [stepF_0 hz,← g1,← h4,← g2,← g3,← g4,← g5,← g6,← g7]
  exact ⟨fun k=>if_neg (by rw [k];decide),fun k=>⟨if_pos k,rfl⟩⟩
theorem podC (h:PdP t f0 b c d e s l n m) (hE:TlI wToler m.1 m.2 i o f) (hi:m.1.length≤i) (hs:(srtTol o).2=false):podF t=rFail f 16 wToler∧¬ (rFail f 16 wToler).code=0:=by
  by_cases k:f.code=0
  · rw [show rFail f 16 wToler=fltF 16 wToler from if_pos k]
    exact ⟨(pod_end h hE hi k).1 hs,nzF 16 _⟩
  · rw [show rFail f 16 wToler=f from if_neg k]
    exact ⟨pod_1 h hE k,k⟩
/-- With a fault the tolerations are no more looked at. -/
theorem m_nil (hM:rList t ⟨#[]⟩ f wToler=m) (hf:¬ f.code=0):m.1 = []∧m.2=f:=(rList_s hM).2.2 hf
theorem l_nz {x:FaultD} (hx:¬ x.code=0) (hS:rWhole t ⟨#[]⟩ x wRank 0 1000 0=s) (hL:rList t ⟨#[]⟩ s.2 wNeeds=l):¬ l.2.code=0:=by
  have h1:=(rWhole_s hS).1
  rw [stepF_1 hx] at h1
  rw [← h1] at hx
  rw [((rList_s hL).2.2 hx).2]
  exact hx
end
end Go.Proofs.YtidjjfjhmlndjaaGreatDoor
