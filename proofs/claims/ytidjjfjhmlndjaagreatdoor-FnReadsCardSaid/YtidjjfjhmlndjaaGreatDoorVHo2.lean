/- Ho2, Ho3, Ho4 (what is wanted of them). -/
import Derived.Test.YtidjjfjhmlndjaaGreatDoorVHo1
import Derived.Test.YtidjjfjhmlndjaaGreatDoorVNe1
import Derived.Test.YtidjjfjhmlndjaaGreatDoorVCl3
import Derived.Test.YtidjjfjhmlndjaaGreatDoorVDk
import Derived.Test.YtidjjfjhmlndjaaGreatDoorVNo
namespace Go.Proofs.YtidjjfjhmlndjaaGreatDoor
open Go.RowKit
set_option linter.unusedVariables false
set_option linter.unusedSimpArgs false
noncomputable def amountF (t:TreeD) (p key:ByteArray):Int × FaultD:=
  if hasT t key=true then
    if (kidT t key).kind=4 then
      if (readA (kidT t key).text).2=0 then ((readA (kidT t key).text).1,noF) else (0,fltF (13+(readA (kidT t key).text).2) (pathK p key))
    else if (kidT t key).kind=3 then
      if (kidT t key).num < 0 then (0,fltF 14 (pathK p key)) else if (mulI (kidT t key).num 1000).2=true then ((mulI (kidT t key).num 1000).1,noF) else (0,fltF 15 (pathK p key))
    else (0,fltF 11 (pathK p key))
  else (0,fltF 12 (pathK p key))
section
variable {t:TreeD}{p key:ByteArray}
theorem amountF_a (h:hasT t key=true) (hk:(kidT t key).kind=4) (hr:(readA (kidT t key).text).2=0):amountF t p key=((readA (kidT t key).text).1,noF):=by unfold amountF;rw [if_pos h,if_pos hk,if_pos hr]
theorem amountF_b (h:hasT t key=true) (hk:(kidT t key).kind=4) (hr:(readA (kidT t key).text).2=1):amountF t p key=(0,fltF 14 (pathK p key)):=by unfold amountF;rw [if_pos h,if_pos hk,if_neg (by omega),hr];rfl
theorem amountF_c (h:hasT t key=true) (hk:(kidT t key).kind=4) (hr:¬ (readA (kidT t key).text).2=1) (hr0:¬ (readA (kidT t key).text).2=0):amountF t p key=(0,fltF 15 (pathK p key)):=by
  have h2:=(readA_rng (kidT t key).text).2
  unfold amountF;rw [if_pos h,if_pos hk,if_neg hr0,show (readA (kidT t key).text).2=2 by omega];rfl
theorem amountF_g (h:hasT t key=true) (hk:(kidT t key).kind=4) (hr0:¬ (readA (kidT t key).text).2=0) {c:Int} (hc:c=13+(readA (kidT t key).text).2):amountF t p key=(0,fltF c (pathK p key)):=by
  subst hc
  unfold amountF;rw [if_pos h,if_pos hk,if_neg hr0]
theorem amountF_d (h:hasT t key=true) (hk:(kidT t key).kind=3) (hn:(kidT t key).num < 0):amountF t p key=(0,fltF 14 (pathK p key)):=by unfold amountF;rw [if_pos h,if_neg (by omega),if_pos hk,if_pos hn]
theorem amountF_e (h:hasT t key=true) (hk:(kidT t key).kind=3) (hn:¬ (kidT t key).num < 0) (hm:(mulI (kidT t key).num 1000).2=true):amountF t p key=((mulI (kidT t key).num 1000).1,noF):=by unfold amountF;rw [if_pos h,if_neg (by omega),if_pos hk,if_neg hn,if_pos hm]
theorem amountF_f (h:hasT t key=true) (hk:(kidT t key).kind=3) (hn:¬ (kidT t key).num < 0) (hm:(mulI (kidT t key).num 1000).2=false):amountF t p key=(0,fltF 15 (pathK p key)):=by unfold amountF;rw [if_pos h,if_neg (by omega),if_pos hk,if_neg hn,if_neg (by rw [hm];decide)]
theorem amountF_h (h:hasT t key=true) (hk:¬ (kidT t key).kind=4) (hk2:¬ (kidT t key).kind=3):amountF t p key=(0,fltF 11 (pathK p key)):=by unfold amountF;rw [if_pos h,if_neg hk,if_neg hk2]
theorem amountF_i (h:hasT t key=false):amountF t p key=(0,fltF 12 (pathK p key)):=by unfold amountF;rw [if_neg (by rw [h];decide)]
end
noncomputable def headF (t:TreeD) (kd:ByteArray):FaultD:=
  if (fineF t ⟨#[]⟩ wKind (fun s=>eqB s kd)).2.code≠0 then (fineF t ⟨#[]⟩ wKind (fun s=>eqB s kd)).2
  else if (fineF t ⟨#[]⟩ wName nmB).2.code≠0 then (fineF t ⟨#[]⟩ wName nmB).2
  else if (mapF t ⟨#[]⟩ wLabels).2.code≠0 then (mapF t ⟨#[]⟩ wLabels).2
  else if (labsF (mapF t ⟨#[]⟩ wLabels).1 wLabels).2.code≠0 then (labsF (mapF t ⟨#[]⟩ wLabels).1 wLabels).2
  else if (amountF t ⟨#[]⟩ wCpu).2.code≠0 then (amountF t ⟨#[]⟩ wCpu).2
  else (amountF t ⟨#[]⟩ wMem).2
def hName (t:TreeD):ByteArray:=(fineF t ⟨#[]⟩ wName nmB).1
def hLabs (t:TreeD):List LabelD:=(labsF (mapF t ⟨#[]⟩ wLabels).1 wLabels).1
noncomputable def hCpu (t:TreeD):Int:=(amountF t ⟨#[]⟩ wCpu).1
noncomputable def hMem (t:TreeD):Int:=(amountF t ⟨#[]⟩ wMem).1
section
variable {t:TreeD}{kd:ByteArray}
theorem headF_1 (h:¬ (fineF t ⟨#[]⟩ wKind (fun s=>eqB s kd)).2.code=0):headF t kd=(fineF t ⟨#[]⟩ wKind (fun s=>eqB s kd)).2:=if_pos h
theorem headF_2 (h0:(fineF t ⟨#[]⟩ wKind (fun s=>eqB s kd)).2.code=0) (h:¬ (fineF t ⟨#[]⟩ wName nmB).2.code=0):headF t kd=(fineF t ⟨#[]⟩ wName nmB).2:=by unfold headF;rw [if_neg (fun k=>k h0),if_pos h]
theorem headF_3 (h0:(fineF t ⟨#[]⟩ wKind (fun s=>eqB s kd)).2.code=0) (h1:(fineF t ⟨#[]⟩ wName nmB).2.code=0) (h:¬ (mapF t ⟨#[]⟩ wLabels).2.code=0):headF t kd=(mapF t ⟨#[]⟩ wLabels).2:=by unfold headF;rw [if_neg (fun k=>k h0),if_neg (fun k=>k h1),if_pos h]
theorem headF_4 (h0:(fineF t ⟨#[]⟩ wKind (fun s=>eqB s kd)).2.code=0) (h1:(fineF t ⟨#[]⟩ wName nmB).2.code=0) (h2:(mapF t ⟨#[]⟩ wLabels).2.code=0) (h:¬ (labsF (mapF t ⟨#[]⟩ wLabels).1 wLabels).2.code=0):headF t kd=(labsF (mapF t ⟨#[]⟩ wLabels).1 wLabels).2:=by unfold headF;rw [if_neg (fun k=>k h0),if_neg (fun k=>k h1),if_neg (fun k=>k h2),if_pos h]
theorem headF_5 (h0:(fineF t ⟨#[]⟩ wKind (fun s=>eqB s kd)).2.code=0) (h1:(fineF t ⟨#[]⟩ wName nmB).2.code=0) (h2:(mapF t ⟨#[]⟩ wLabels).2.code=0) (h3:(labsF (mapF t ⟨#[]⟩ wLabels).1 wLabels).2.code=0) (h:¬ (amountF t ⟨#[]⟩ wCpu).2.code=0):headF t kd=(amountF t ⟨#[]⟩ wCpu).2:=by unfold headF;rw [if_neg (fun k=>k h0),if_neg (fun k=>k h1),if_neg (fun k=>k h2),if_neg (fun k=>k h3),if_pos h]
theorem headF_6 (h0:(fineF t ⟨#[]⟩ wKind (fun s=>eqB s kd)).2.code=0) (h1:(fineF t ⟨#[]⟩ wName nmB).2.code=0) (h2:(mapF t ⟨#[]⟩ wLabels).2.code=0) (h3:(labsF (mapF t ⟨#[]⟩ wLabels).1 wLabels).2.code=0) (h4:(amountF t ⟨#[]⟩ wCpu).2.code=0):headF t kd=(amountF t ⟨#[]⟩ wMem).2:=by unfold headF;rw [if_neg (fun k=>k h0),if_neg (fun k=>k h1),if_neg (fun k=>k h2),if_neg (fun k=>k h3),if_neg (fun k=>k h4)]
end
noncomputable def rAmt (t:TreeD) (p:ByteArray) (f:FaultD) (key:ByteArray):Int × FaultD:=if f.code=0 then amountF t p key else (0,f)
theorem rAmt_0 {t:TreeD}{p:ByteArray}{f:FaultD}{key:ByteArray} (h:¬ f.code=0):rAmt t p f key=(0,f):=if_neg h
theorem rAmt_1 {t:TreeD}{p:ByteArray}{f:FaultD}{key:ByteArray} (h:f.code=0):rAmt t p f key=amountF t p key:=if_pos h
theorem rWhole_0 {t:TreeD}{p:ByteArray}{f:FaultD}{key:ByteArray}{a b u:Int} (h:¬ f.code=0):rWhole t p f key a b u=(0,f):=if_neg h
theorem rWhole_1 {t:TreeD}{p:ByteArray}{f:FaultD}{key:ByteArray}{a b u:Int} (h:f.code=0):rWhole t p f key a b u=wholeF t p key a b u:=if_pos h
theorem rLabs_0 {t:TreeD}{p:ByteArray}{f:FaultD} (h:¬ f.code=0):rLabs t p f=([],f):=if_neg h
theorem rLabs_1 {t:TreeD}{p:ByteArray}{f:FaultD} (h:f.code=0) (hm:¬ (mapF t p wLabels).2.code=0):rLabs t p f=([],(mapF t p wLabels).2):=by unfold rLabs;rw [if_pos h,if_neg hm]
theorem rLabs_2 {t:TreeD}{p:ByteArray}{f:FaultD} (h:f.code=0) (hm:(mapF t p wLabels).2.code=0):rLabs t p f=labsF (mapF t p wLabels).1 (pathK p wLabels):=by unfold rLabs;rw [if_pos h,if_pos hm]
/-- What is read at one go: where the reader stands at the end, and what it holds. -/
theorem com_yes {t:TreeD}{f0:FaultD}{kd:ByteArray}{a b:ByteArray × FaultD}{c:List LabelD × FaultD}{d e:Int × FaultD} (hA:rText t ⟨#[]⟩ f0 wKind (fun s=>eqB s kd)=a) (hB:rText t ⟨#[]⟩ a.2 wName nmB=b) (hC:rLabs t ⟨#[]⟩ b.2=c) (hD:rAmt t ⟨#[]⟩ c.2 wCpu=d) (hE:rAmt t ⟨#[]⟩ d.2 wMem=e) (h:e.2.code=0):f0.code=0∧(headF t kd).code=0∧b.1=hName t∧c.1=hLabs t∧d.1=hCpu t∧e.1=hMem t:=by
  have hd:d.2.code=0:=by
    by_cases k:d.2.code=0
    · exact k
    · rw [rAmt_0 k] at hE;subst hE;exact absurd h k
  have hc:c.2.code=0:=by
    by_cases k:c.2.code=0
    · exact k
    · rw [rAmt_0 k] at hD;subst hD;exact absurd hd k
  have hb:b.2.code=0:=by
    by_cases k:b.2.code=0
    · exact k
    · rw [rLabs_0 k] at hC;subst hC;exact absurd hc k
  have ha:a.2.code=0:=by
    by_cases k:a.2.code=0
    · exact k
    · rw [rText_set k] at hB;subst hB;exact absurd hb k
  have h0:f0.code=0:=by
    by_cases k:f0.code=0
    · exact k
    · rw [rText_set k] at hA;subst hA;exact absurd ha k
  rw [rText_none h0] at hA
  rw [rText_none ha] at hB
  have hm:(mapF t ⟨#[]⟩ wLabels).2.code=0:=by
    by_cases k:(mapF t ⟨#[]⟩ wLabels).2.code=0
    · exact k
    · rw [rLabs_1 hb k] at hC;subst hC;exact absurd hc k
  rw [rLabs_2 hb hm,pathK_no] at hC
  rw [rAmt_1 hc] at hD
  rw [rAmt_1 hd] at hE
  subst hA;subst hB;subst hC;subst hD;subst hE
  exact ⟨h0,by rw [headF_6 ha hb hm hc hd];exact h,rfl,rfl,rfl,rfl⟩
theorem com_no {t:TreeD}{f0:FaultD}{kd:ByteArray}{a b:ByteArray × FaultD}{c:List LabelD × FaultD}{d e:Int × FaultD} (hA:rText t ⟨#[]⟩ f0 wKind (fun s=>eqB s kd)=a) (hB:rText t ⟨#[]⟩ a.2 wName nmB=b) (hC:rLabs t ⟨#[]⟩ b.2=c) (hD:rAmt t ⟨#[]⟩ c.2 wCpu=d) (hE:rAmt t ⟨#[]⟩ d.2 wMem=e) (h0:f0.code=0):e.2=headF t kd:=by
  rw [rText_none h0] at hA
  subst hA
  by_cases ha:(fineF t ⟨#[]⟩ wKind (fun s=>eqB s kd)).2.code=0
  · rw [rText_none ha] at hB
    subst hB
    by_cases hb:(fineF t ⟨#[]⟩ wName nmB).2.code=0
    · by_cases hm:(mapF t ⟨#[]⟩ wLabels).2.code=0
      · rw [rLabs_2 hb hm,pathK_no] at hC
        subst hC
        by_cases hc:(labsF (mapF t ⟨#[]⟩ wLabels).1 wLabels).2.code=0
        · rw [rAmt_1 hc] at hD
          subst hD
          by_cases hd:(amountF t ⟨#[]⟩ wCpu).2.code=0
          · rw [rAmt_1 hd] at hE
            subst hE
            exact (headF_6 ha hb hm hc hd).symm
          · rw [rAmt_0 hd] at hE
            subst hE
            exact (headF_5 ha hb hm hc hd).symm
        · rw [rAmt_0 hc] at hD
          subst hD
          rw [rAmt_0 hc] at hE
          subst hE
          exact (headF_4 ha hb hm hc).symm
      · rw [rLabs_1 hb hm] at hC
        subst hC
        rw [rAmt_0 hm] at hD
        subst hD
        rw [rAmt_0 hm] at hE
        subst hE
        exact (headF_3 ha hb hm).symm
    · rw [rLabs_0 hb] at hC
      subst hC
      rw [rAmt_0 hb] at hD
      subst hD
      rw [rAmt_0 hb] at hE
      subst hE
      exact (headF_2 ha hb).symm
  · rw [rText_set ha] at hB
    subst hB
    rw [rLabs_0 ha] at hC
    subst hC
    rw [rAmt_0 ha] at hD
    subst hD
    rw [rAmt_0 ha] at hE
    subst hE
    exact (headF_1 ha).symm
theorem com_set {t:TreeD}{p:ByteArray}{f0:FaultD}{kd:ByteArray}{a b:ByteArray × FaultD}{c:List LabelD × FaultD}{d e:Int × FaultD} (hA:rText t p f0 wKind (fun s=>eqB s kd)=a) (hB:rText t p a.2 wName nmB=b) (hC:rLabs t p b.2=c) (hD:rAmt t p c.2 wCpu=d) (hE:rAmt t p d.2 wMem=e) (h0:¬ f0.code=0):e.2=f0:=by
  rw [rText_set h0] at hA
  subst hA
  rw [rText_set h0] at hB
  subst hB
  rw [rLabs_0 h0] at hC
  subst hC
  rw [rAmt_0 h0] at hD
  subst hD
  rw [rAmt_0 h0] at hE
  subst hE
  rfl
def kHost:List ByteArray:= [wCpu,wKind,wLabels,wMem,wName,wSlots,wTaints]
noncomputable def hostF (t:TreeD):FaultD:=
  if (knownT t ⟨#[]⟩ kHost).code≠0 then knownT t ⟨#[]⟩ kHost
  else if (headF t wHost).code≠0 then headF t wHost
  else if (wholeF t ⟨#[]⟩ wSlots 1 20 20).2.code≠0 then (wholeF t ⟨#[]⟩ wSlots 1 20 20).2
  else if (listF t ⟨#[]⟩ wTaints 40).2.code≠0 then (listF t ⟨#[]⟩ wTaints 40).2
  else if (taintsE wTaints 0 (listF t ⟨#[]⟩ wTaints 40).1).2.code≠0 then (taintsE wTaints 0 (listF t ⟨#[]⟩ wTaints 40).1).2
  else if (srtTnt (taintsE wTaints 0 (listF t ⟨#[]⟩ wTaints 40).1).1).2=true then noF else fltF 16 wTaints
noncomputable def hostV (t:TreeD):HostD:=⟨hName t,hLabs t,hCpu t,hMem t,(wholeF t ⟨#[]⟩ wSlots 1 20 20).1,(srtTnt (taintsE wTaints 0 (listF t ⟨#[]⟩ wTaints 40).1).1).1⟩
section
variable {t:TreeD}
theorem hostF_1 (h:¬ (knownT t ⟨#[]⟩ kHost).code=0):hostF t=knownT t ⟨#[]⟩ kHost:=if_pos h
theorem hostF_2 (h0:(knownT t ⟨#[]⟩ kHost).code=0) (h:¬ (headF t wHost).code=0):hostF t=headF t wHost:=by unfold hostF;rw [if_neg (fun k=>k h0),if_pos h]
theorem hostF_3 (h0:(knownT t ⟨#[]⟩ kHost).code=0) (h1:(headF t wHost).code=0) (h:¬ (wholeF t ⟨#[]⟩ wSlots 1 20 20).2.code=0):hostF t=(wholeF t ⟨#[]⟩ wSlots 1 20 20).2:=by unfold hostF;rw [if_neg (fun k=>k h0),if_neg (fun k=>k h1),if_pos h]
theorem hostF_4 (h0:(knownT t ⟨#[]⟩ kHost).code=0) (h1:(headF t wHost).code=0) (h2:(wholeF t ⟨#[]⟩ wSlots 1 20 20).2.code=0) (h:¬ (listF t ⟨#[]⟩ wTaints 40).2.code=0):hostF t=(listF t ⟨#[]⟩ wTaints 40).2:=by unfold hostF;rw [if_neg (fun k=>k h0),if_neg (fun k=>k h1),if_neg (fun k=>k h2),if_pos h]
theorem hostF_5 (h0:(knownT t ⟨#[]⟩ kHost).code=0) (h1:(headF t wHost).code=0) (h2:(wholeF t ⟨#[]⟩ wSlots 1 20 20).2.code=0) (h3:(listF t ⟨#[]⟩ wTaints 40).2.code=0) {f:FaultD} (hf:(taintsE wTaints 0 (listF t ⟨#[]⟩ wTaints 40).1).2=f) (h:¬ f.code=0):hostF t=f:=by subst hf;unfold hostF;rw [if_neg (fun k=>k h0),if_neg (fun k=>k h1),if_neg (fun k=>k h2),if_neg (fun k=>k h3),if_pos h]
theorem hostF_6 (h0:(knownT t ⟨#[]⟩ kHost).code=0) (h1:(headF t wHost).code=0) (h2:(wholeF t ⟨#[]⟩ wSlots 1 20 20).2.code=0) (h3:(listF t ⟨#[]⟩ wTaints 40).2.code=0) (h4:(taintsE wTaints 0 (listF t ⟨#[]⟩ wTaints 40).1).2.code=0) {o:List TaintD} (ho:o=(taintsE wTaints 0 (listF t ⟨#[]⟩ wTaints 40).1).1) (h:(srtTnt o).2=false):hostF t=fltF 16 wTaints:=by subst ho;unfold hostF;rw [if_neg (fun k=>k h0),if_neg (fun k=>k h1),if_neg (fun k=>k h2),if_neg (fun k=>k h3),if_neg (fun k=>k h4),if_neg (by rw [h];decide)]
theorem hostF_7 (h0:(knownT t ⟨#[]⟩ kHost).code=0) (h1:(headF t wHost).code=0) (h2:(wholeF t ⟨#[]⟩ wSlots 1 20 20).2.code=0) (h3:(listF t ⟨#[]⟩ wTaints 40).2.code=0) (h4:(taintsE wTaints 0 (listF t ⟨#[]⟩ wTaints 40).1).2.code=0) {o:List TaintD} (ho:o=(taintsE wTaints 0 (listF t ⟨#[]⟩ wTaints 40).1).1) (h:(srtTnt o).2=true):hostF t=noF:=by subst ho;unfold hostF;rw [if_neg (fun k=>k h0),if_neg (fun k=>k h1),if_neg (fun k=>k h2),if_neg (fun k=>k h3),if_neg (fun k=>k h4),if_pos h]
end
structure TnE (p:ByteArray) (l:List TreeD) (i:Nat) (o:List TaintD):Prop where
  r1:o++(taintsE p i (l.drop i)).1=(taintsE p 0 l).1
  r2:(taintsE p i (l.drop i)).2=(taintsE p 0 l).2
  len:o.length=i
theorem tnE_0 (p:ByteArray) (l:List TreeD):TnE p l 0 []:=⟨rfl,rfl,rfl⟩
section
variable {p:ByteArray}{l:List TreeD}{i:Nat}{o:List TaintD}
theorem TnE.go (h:TnE p l i o) (hi:i < l.length) (hc:(taintM (l.getD i default) (pathP p (i:Int))).2.code=0):TnE p l (i+1) (o ++ [(taintM (l.getD i default) (pathP p (i:Int))).1]):=by
  have e1:=h.r1
  have e2:=h.r2
  rw [getD_drop l hi,taintsE,if_pos hc] at e1 e2
  exact ⟨by rw [List.append_assoc];exact e1,e2,by rw [List.length_append,h.len];rfl⟩
theorem TnE.flt (h:TnE p l i o) (hi:i < l.length) (hc:¬ (taintM (l.getD i default) (pathP p (i:Int))).2.code=0):(taintsE p 0 l).2=(taintM (l.getD i default) (pathP p (i:Int))).2:=by
  have e2:=h.r2
  rw [getD_drop l hi,taintsE,if_neg hc] at e2
  exact e2.symm
theorem TnE.fin (h:TnE p l i o) (hi:l.length≤i):(taintsE p 0 l).2=noF∧o=(taintsE p 0 l).1:=by
  have e1:=h.r1
  have e2:=h.r2
  rw [List.drop_of_length_le hi,taintsE] at e1 e2
  rw [List.append_nil] at e1
  exact ⟨e2.symm,e1⟩
end
/-- The same where a fault does not end the loop. -/
structure TnI (p:ByteArray) (l:List TreeD) (g:FaultD) (i:Nat) (o:List TaintD) (f:FaultD):Prop where
  len:o.length≤i
  go:f.code=0→g.code=0∧TnE p l i o
  no:¬ f.code=0→(¬ g.code=0∧f=g)∨(g.code=0∧(taintsE p 0 l).2=f)
theorem tnI_0 (p:ByteArray) (l:List TreeD) (g:FaultD):TnI p l g 0 [] g:=⟨Nat.le_refl _,fun h=>⟨h,tnE_0 p l⟩,fun h=>.inl ⟨h,rfl⟩⟩
section
variable {p:ByteArray}{l:List TreeD}{g f:FaultD}{i:Nat}{o:List TaintD}
theorem TnI.step (h:TnI p l g i o f) (hf:f.code=0) (hi:i < l.length) {r:TaintD × FaultD} (hr:taintM (l.getD i default) (pathP p (i:Int))=r):TnI p l g (i+1) (o ++ [r.1]) r.2:=by
  obtain ⟨h0,h1⟩:=h.go hf
  refine ⟨by rw [List.length_append,h1.len];exact Nat.le_refl _,fun hc=>⟨h0,?_⟩,fun hc=>.inr ⟨h0,?_⟩⟩
  · subst hr;exact h1.go hi hc
  · have:=h1.flt hi (by rw [hr];exact hc);rw [hr] at this;exact this
theorem TnI.keep (h:TnI p l g i o f) (hf:¬ f.code=0):TnI p l g (i+1) o f:=⟨Nat.le_succ_of_le h.len,fun k=>absurd k hf,h.no⟩
end
end Go.Proofs.YtidjjfjhmlndjaaGreatDoor
namespace Go.Proofs.YtidjjfjhmlndjaaGreatDoor
open Go.RowKit
set_option linter.unusedVariables false
set_option linter.unusedSimpArgs false
set_option maxRecDepth 100000
set_option maxHeartbeats 4000000
theorem emptyT_fine (k:Int) (_:intOk k):TFine ⟨k,false,0,⟨#[]⟩, [], []⟩:=.mk (by show ByteArray.size ⟨#[]⟩≤1048576;decide) (by show intOk 0;decide) (Nat.zero_le _) (fun k=>Nat.zero_le _) (Nat.zero_le _) (fun x h=>by cases h)
theorem mapF_fine {t:TreeD} (hf:TFine t) (p key:ByteArray):TFine (mapF t p key).1:=by
  unfold mapF
  split
  · rename_i hh
    split
    · exact hf.of hh
    · exact emptyT_fine 0 (by decide)
  · exact emptyT_fine 6 (by decide)
section
variable {t:TreeD}{p:ByteArray}
end
def tntF (ls:List TaintD):List TaintD:=ls.foldl (fun o x=>insTnt x o) []
theorem srtTnt_a {ls:List TaintD} (h:40 < ls.length):srtTnt ls=(ls,false):=if_pos h
theorem srtTnt_c {ls:List TaintD} (h:ls.length≤40) (hb:taintsB (tntF ls)=true):srtTnt ls=(tntF ls,true):=by
  unfold srtTnt
  rw [if_neg (by omega)]
  exact if_pos hb
theorem srtTnt_d {ls:List TaintD} (h:ls.length≤40) (hb:taintsB (tntF ls)=false):srtTnt ls=(ls,false):=by
  unfold srtTnt
  rw [if_neg (by omega)]
  exact if_neg (by rw [show ls.foldl (fun o x=>insTnt x o) []=tntF ls from rfl,hb];decide)
theorem spec_l19Effects_D :Spec Tryz.prog 151 [] (fun d=>d = .sl 3 (strsD effW)):=by
  refine spG_ (rs:= [.tmp 0]) (nt:=2) Tryz.func151 rfl fun X hX=>?_
  refine nm_ ?_
  repeat' ((first|contradiction|(with_reducible exact tt_)|((with_reducible show Wk (AwStep _ _ _ _ _));first|(refine pln_ ?_))|((with_reducible show Wk (boolK _ _ _ _));first|(refine bk_ (fun h h'=>?_) (fun h h'=>?_)))|((with_reducible show Wk (_∧_));first|(refine and_ ?_ ?_))|((with_reducible show Wk (retOkG _ _ _ _));first|(refine rgg_ [.frz 0] ?_))|fail)<;>(try refine nm_ ?_))
  all_goals (refine ⟨?_⟩)
  all_goals first|contradiction|(exfalso;omega)|rfl
end Go.Proofs.YtidjjfjhmlndjaaGreatDoor
namespace Go.Proofs.YtidjjfjhmlndjaaGreatDoor
open Go.RowKit
set_option linter.unusedVariables false
set_option linter.unusedSimpArgs false
set_option maxRecDepth 100000
set_option maxHeartbeats 4000000
section
variable {t:TreeD}{kd:ByteArray}
end
end Go.Proofs.YtidjjfjhmlndjaaGreatDoor
