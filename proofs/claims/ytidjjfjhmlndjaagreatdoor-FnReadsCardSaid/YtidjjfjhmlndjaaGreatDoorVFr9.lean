/- Fr9 (what is wanted of them). -/
import Derived.Test.YtidjjfjhmlndjaaGreatDoorVFr7
namespace Go.Proofs.YtidjjfjhmlndjaaGreatDoor
open Go.RowKit
set_option linter.unusedVariables false
set_option linter.unusedSimpArgs false
/-- What lies under the keys of the head. -/
structure HeadT (t:TreeD) (kd nm:ByteArray) (ls:List LabelD) (cpu mem:Int):Prop where
  kind:gets t wKind=some (textTr kd)
  name:gets t wName=some (textTr nm)
  labs:gets t wLabels=if ls.length=0 then none else some (labelsTr ls)
  cpu:gets t wCpu=some (textTr (amtB cpu))
  mem:gets t wMem=some (textTr (amtB mem))
theorem head_back {t:TreeD}{kd nm:ByteArray}{ls:List LabelD}{cpu mem:Int} (g:HeadT t kd nm ls cpu mem) (hn:nmB nm=true) (hl:labelsB ls=true) (hc:0≤cpu∧cpu≤9223372036854775807) (hm:0≤mem∧mem≤9223372036854775807):headF t kd=noF∧hName t=nm∧hLabs t=ls∧hCpu t=cpu∧hMem t=mem:=by
  have e1:fineF t ⟨#[]⟩ wKind (fun s=>eqB s kd)=(kd,noF):=fineF_g g.kind (eqB_refl' _)
  have e2:fineF t ⟨#[]⟩ wName nmB=(nm,noF):=fineF_g g.name hn
  have e3:(mapF t ⟨#[]⟩ wLabels).2=noF∧labsF (mapF t ⟨#[]⟩ wLabels).1 wLabels=(ls,noF):=by
    have gl:=g.labs
    by_cases k:ls.length=0
    · rw [if_pos k] at gl
      rw [mapF_0 gl,List.eq_nil_of_length_eq_zero k]
      exact ⟨rfl,labsF_0⟩
    · rw [if_neg k] at gl
      rw [mapF_g (p:=⟨#[]⟩) gl]
      exact ⟨rfl,labsF_back hl⟩
  have e4:amountF t ⟨#[]⟩ wCpu=(cpu,noF):=amountF_G g.cpu hc.1 hc.2
  have e5:amountF t ⟨#[]⟩ wMem=(mem,noF):=amountF_G g.mem hm.1 hm.2
  refine ⟨?_,?_,?_,?_,?_⟩
  · rw [headF_6 (by rw [e1];rfl) (by rw [e2];rfl) (by rw [e3.1];rfl) (by rw [e3.2];rfl) (by rw [e4];rfl),e5]
  · unfold hName;rw [e2]
  · unfold hLabs;rw [e3.2]
  · unfold hCpu;rw [e4]
  · unfold hMem;rw [e5]
theorem pod_gets (p:PodD):(HeadT (podTr p) wPod p.name p.labels p.cpu p.mem∧gets (podTr p) wNeeds=(if p.needs.length=0 then none else some (listTr (p.needs.map needTr)))∧gets (podTr p) wRank=(if p.rank=0 then none else some (intTr p.rank))∧gets (podTr p) wToler=(if p.tolers.length=0 then none else some (listTr (p.tolers.map tolerTr))))∧
    knownT (podTr p) ⟨#[]⟩ kPod=noF∧knownT (mapTr (podKs p ++ [wZz]) (podCs p ++ [intTr 1])) ⟨#[]⟩ kPod=fltF 13 wZz:=by
  unfold podTr podKs podCs headKs headCs
  by_cases h1:p.labels.length=0<;>by_cases h2:p.needs.length=0<;>by_cases h3:p.rank=0<;>by_cases h4:p.tolers.length=0
  all_goals
    simp only [optL]
    first|simp only [if_pos h1]|simp only [if_neg h1]
    first|simp only [if_pos h2]|simp only [if_neg h2]
    first|simp only [if_pos h3]|simp only [if_neg h3]
    first|simp only [if_pos h4]|simp only [if_neg h4]
    refine ⟨⟨⟨?_,?_,?_,?_,?_⟩,?_,?_,?_⟩,?_,?_⟩
    · kernel_rfl
    · kernel_rfl
    · first|rw [if_pos h1]|rw [if_neg h1]
      kernel_rfl
    · kernel_rfl
    · kernel_rfl
    · kernel_rfl
    · kernel_rfl
    · kernel_rfl
    · kernel_rfl
    · kernel_rfl
theorem pod_parts {p:PodD} (h:podB p=true):nmB p.name=true∧labelsB p.labels=true∧needsB p.needs=true∧tolersB p.tolers=true∧0≤p.cpu∧0≤p.mem∧inB p.rank 0 1000=true:=by
  unfold podB at h
  simp only [Bool.and_eq_true] at h
  obtain ⟨h1,h2,h3,h4,h5,h6,h7⟩:=h
  exact ⟨h1,h2,h3,h4,of_decide_eq_true h5,of_decide_eq_true h6,h7⟩
theorem pod_back {p:PodD} (h:podB p=true) (hc:p.cpu≤9223372036854775807) (hm:p.mem≤9223372036854775807):podF (podTr p)=noF∧podV (podTr p)=p:=by
  obtain ⟨h1,h2,h3,h4,h5,h6,h7⟩:=pod_parts h
  obtain ⟨⟨g,gn,gr,gt⟩,gk,_⟩:=pod_gets p
  obtain ⟨e1,e2,e3,e4,e5⟩:=head_back g h1 h2 ⟨h5,hc⟩ ⟨h6,hm⟩
  have ew:wholeF (podTr p) ⟨#[]⟩ wRank 0 1000 0=(p.rank,noF):=by
    by_cases k:p.rank=0
    · rw [if_pos k] at gr
      rw [wholeF_0 gr,k]
    · rw [if_neg k] at gr
      exact wholeF_g gr h7
  have el:listF (podTr p) ⟨#[]⟩ wNeeds 40=(p.needs.map needTr,noF):=by
    by_cases k:p.needs.length=0
    · rw [if_pos k] at gn
      rw [listF_0 gn,List.eq_nil_of_length_eq_zero k]
      rfl
    · rw [if_neg k] at gn
      exact listF_g gn (by rw [List.length_map];have:=(row_parts (B:=needB) (lt:=needLess) h3).1;omega)
  have et:listF (podTr p) ⟨#[]⟩ wToler 40=(p.tolers.map tolerTr,noF):=by
    by_cases k:p.tolers.length=0
    · rw [if_pos k] at gt
      rw [listF_0 gt,List.eq_nil_of_length_eq_zero k]
      rfl
    · rw [if_neg k] at gt
      exact listF_g gt (by rw [List.length_map];have:=(row_parts (B:=tolerB) (lt:=tolerLess) h4).1;omega)
  have er:needsR (listF (podTr p) ⟨#[]⟩ wNeeds 40).1 wNeeds=(p.needs,noF):=by rw [el];exact needsR_back h3 wNeeds
  have eq:tolersE wToler 0 (listF (podTr p) ⟨#[]⟩ wToler 40).1=(p.tolers,noF):=by rw [et];exact tolersE_back 0 (row_parts (B:=tolerB) (lt:=tolerLess) h4).2.1
  constructor
  · unfold podF podG
    rw [eq,er,ew,el,et,e1,gk]
    show stepF (stepF (stepF (stepF (stepF (stepF (stepF noF noF) noF) noF) noF) noF) noF) (if (srtTol p.tolers).2=true then noF else fltF 16 wToler)=noF
    rw [srtTol_same h4]
    rfl
  · unfold podV
    rw [eq,er,ew,e2,e3,e4,e5]
    show PodD.mk p.name p.labels p.cpu p.mem p.rank p.needs (srtTol p.tolers).1=p
    rw [srtTol_same h4]
theorem known_pod {t:TreeD}{f:FaultD} (h:knownT t ⟨#[]⟩ kPod=f) (hf:¬ f.code=0):podF t=f:=by
  unfold podF podG
  rw [h,stepF_1 (a:=f) hf,stepF_1 (a:=f) hf,stepF_1 (a:=f) hf,stepF_1 (a:=f) hf,stepF_1 (a:=f) hf,stepF_1 (a:=f) hf,stepF_1 (a:=f) hf]
theorem pod_zzF (p:PodD):podF (mapTr (podKs p ++ [wZz]) (podCs p ++ [intTr 1]))=fltF 13 wZz:=known_pod (pod_gets p).2.2 (nzF 13 _)
theorem pod_0:podF (mapTr [] [])=fltF 12 wKind:=by
  have h1:knownT (mapTr [] []) ⟨#[]⟩ kPod=noF:=by kernel_rfl
  have h2:fineF (mapTr [] []) ⟨#[]⟩ wKind (fun s=>eqB s wPod)=(⟨#[]⟩,fltF 12 wKind):=by kernel_rfl
  have h3:headF (mapTr [] []) wPod=fltF 12 wKind:=by rw [headF_1 (by rw [h2];exact nzF 12 _),h2]
  unfold podF podG
  rw [h1,h3,stepF_0 (a:=noF) noF_code]
  have hf:¬ (fltF 12 wKind).code=0:=nzF 12 _
  rw [stepF_1 (a:=fltF 12 wKind) hf,stepF_1 (a:=fltF 12 wKind) hf,stepF_1 (a:=fltF 12 wKind) hf,stepF_1 (a:=fltF 12 wKind) hf,stepF_1 (a:=fltF 12 wKind) hf,stepF_1 (a:=fltF 12 wKind) hf]
theorem host_gets (x:HostD):(HeadT (hostTr x) wHost x.name x.labels x.cpu x.mem∧gets (hostTr x) wSlots=(if x.slots=20 then none else some (intTr x.slots))∧gets (hostTr x) wTaints=(if x.taints.length=0 then none else some (listTr (x.taints.map taintTr))))∧
    knownT (hostTr x) ⟨#[]⟩ kHost=noF∧knownT (mapTr (hostKs x ++ [wZz]) (hostCs x ++ [intTr 1])) ⟨#[]⟩ kHost=fltF 13 wZz:=by
  unfold hostTr hostKs hostCs headKs headCs
  by_cases h1:x.labels.length=0<;>by_cases h3:x.slots=20<;>by_cases h4:x.taints.length=0
  all_goals
    simp only [optL]
    first|simp only [if_pos h1]|simp only [if_neg h1]
    first|simp only [if_pos h3]|simp only [if_neg h3]
    first|simp only [if_pos h4]|simp only [if_neg h4]
    refine ⟨⟨⟨?_,?_,?_,?_,?_⟩,?_,?_⟩,?_,?_⟩
    · kernel_rfl
    · kernel_rfl
    · first|rw [if_pos h1]|rw [if_neg h1]
      kernel_rfl
    · kernel_rfl
    · kernel_rfl
    · kernel_rfl
    · kernel_rfl
    · kernel_rfl
    · kernel_rfl
theorem host_back {x:HostD} (h:hostB x=true) (hc:x.cpu≤9223372036854775807) (hm:x.mem≤9223372036854775807):hostF (hostTr x)=noF∧hostV (hostTr x)=x:=by
  unfold hostB at h
  simp only [Bool.and_eq_true] at h
  obtain ⟨h1,h2,h3,h4,h5,h6⟩:=h
  obtain ⟨⟨g,gr,gt⟩,gk,_⟩:=host_gets x
  obtain ⟨e1,e2,e3,e4,e5⟩:=head_back g h1 h2 ⟨of_decide_eq_true h4,hc⟩ ⟨of_decide_eq_true h5,hm⟩
  have ew:wholeF (hostTr x) ⟨#[]⟩ wSlots 1 20 20=(x.slots,noF):=by
    by_cases k:x.slots=20
    · rw [if_pos k] at gr
      rw [wholeF_0 gr,k]
    · rw [if_neg k] at gr
      exact wholeF_g gr h6
  have hp:=row_parts (B:=taintB) (lt:=taintLess) h3
  have et:listF (hostTr x) ⟨#[]⟩ wTaints 40=(x.taints.map taintTr,noF):=by
    by_cases k:x.taints.length=0
    · rw [if_pos k] at gt
      rw [listF_0 gt,List.eq_nil_of_length_eq_zero k]
      rfl
    · rw [if_neg k] at gt
      exact listF_g gt (by rw [List.length_map];have:=hp.1;omega)
  have eq:taintsE wTaints 0 (listF (hostTr x) ⟨#[]⟩ wTaints 40).1=(x.taints,noF):=by rw [et];exact taintsE_back 0 hp.2.1
  constructor
  · exact hostF_7 (by rw [gk];rfl) (by rw [e1];rfl) (by rw [ew];rfl) (by rw [et];rfl) (by rw [eq];rfl) rfl (by rw [eq];show (srtTnt x.taints).2=true;rw [srtTnt_same h3])
  · unfold hostV
    rw [eq,ew,e2,e3,e4,e5]
    show HostD.mk x.name x.labels x.cpu x.mem x.slots (srtTnt x.taints).1=x
    rw [srtTnt_same h3]
theorem host_zzF (x:HostD):hostF (mapTr (hostKs x ++ [wZz]) (hostCs x ++ [intTr 1]))=fltF 13 wZz:=by
  have h:=(host_gets x).2.2
  rw [hostF_1 (by rw [h];exact nzF 13 _),h]
/-- A pod is no host. -/
theorem host_no (p:PodD):¬ (hostF (podTr p)).code=0:=by
  by_cases k:(knownT (podTr p) ⟨#[]⟩ kHost).code=0
  · have g:=(pod_gets p).1.1.kind
    have h2:fineF (podTr p) ⟨#[]⟩ wKind (fun s=>eqB s wHost)=(wPod,fltF 14 wKind):=by
      unfold fineF
      rw [textF_g g,if_pos ⟨rfl,by decide +kernel⟩,pathK_no]
    have h3:headF (podTr p) wHost=fltF 14 wKind:=by rw [headF_1 (by rw [h2];exact nzF 14 _),h2]
    rw [hostF_2 k (by rw [h3];exact nzF 14 _),h3]
    exact nzF 14 _
  · rw [hostF_1 k]
    exact k
end Go.Proofs.YtidjjfjhmlndjaaGreatDoor
