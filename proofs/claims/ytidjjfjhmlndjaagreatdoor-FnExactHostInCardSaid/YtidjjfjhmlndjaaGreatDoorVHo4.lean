/- Ho4 (what is wanted of them). -/
import Derived.Test.YtidjjfjhmlndjaaGreatDoorVHo3
namespace Go.Proofs.YtidjjfjhmlndjaaGreatDoor
open Go.RowKit
set_option linter.unusedVariables false
set_option linter.unusedSimpArgs false
set_option maxRecDepth 100000
set_option maxHeartbeats 4000000
noncomputable def hPod (t:TreeD):PodD:=⟨hName t,hLabs t,hCpu t,hMem t,0, [], []⟩
def HdP (f:FaultD) (v:PodD) (d:D):Prop:=(f.code=0∧d = .tup [.agg (podCells v),.agg [.sc (.int .i64 0),.sc (.int .i64 0),.sc (.string ⟨#[]⟩)]])∨(¬ f.code=0∧∃ q:PodD,d = .tup [.agg (podCells q),.agg [.sc (.int .i64 (f).code),.sc (.int .i64 (f).at_),.sc (.string (f).path)]])
theorem hd_no {f:FaultD}{v:PodD}{cs:List D} (q:PodD) (hc:¬ f.code=0) (hs:SubNs cs (podCells q)):∃ d',SubT (.tup [.agg cs,.agg [.sc (.int .i64 (f).code),.sc (.int .i64 (f).at_),.sc (.string (f).path)]]) d'∧HdP f v d':=⟨.tup [.agg (podCells q),.agg [.sc (.int .i64 (f).code),.sc (.int .i64 (f).at_),.sc (.string (f).path)]],.tup ⟨.agg hs,.same _,trivial⟩,.inr ⟨hc,q,rfl⟩⟩
theorem hd_last {f:FaultD}{v:PodD}{cs:List D} (hf:fltOk f) (hs:SubNs cs (podCells v)):∃ d',SubT (.tup [.agg cs,.agg [.sc (.int .i64 (f).code),.sc (.int .i64 (f).at_),.sc (.string (f).path)]]) d'∧HdP f v d':=by
  rcases hf with hf|hf
  · subst hf
    exact ⟨.tup [.agg (podCells v),_],.tup ⟨.agg hs,.same _,trivial⟩,.inl ⟨rfl,rfl⟩⟩
  · exact ⟨.tup [.agg (podCells v),_],.tup ⟨.agg hs,.same _,trivial⟩,.inr ⟨hf,v,rfl⟩⟩
section
variable {t:TreeD}{kd:ByteArray}
theorem fine_ok {p key:ByteArray}{fine:ByteArray→Bool} (h:(textF t p key).2.code=0) (hf:fine (textF t p key).1=true):(fineF t p key fine).2.code=0:=by rw [fineF_b (.inr hf)];exact h
theorem hx_1a (h:(textF t ⟨#[]⟩ wKind).2.code=0) (hq:eqB (textF t ⟨#[]⟩ wKind).1 kd=false):headF t kd=fltF 14 wKind:=by
  have e:fineF t ⟨#[]⟩ wKind (fun s=>eqB s kd)=_:=fineF_a h hq
  rw [headF_1 (by rw [e];exact nzF 14 _),e]
  exact congrArg (fltF 14) (pathK_no wKind)
theorem hx_1b (h:¬ (textF t ⟨#[]⟩ wKind).2.code=0):headF t kd=(textF t ⟨#[]⟩ wKind).2:=by
  have e:fineF t ⟨#[]⟩ wKind (fun s=>eqB s kd)=_:=fineF_b (.inl h)
  rw [headF_1 (by rw [e];exact h),e]
/-- The kind is right. -/
structure HK (t:TreeD) (kd:ByteArray):Prop where
  k:(fineF t ⟨#[]⟩ wKind (fun s=>eqB s kd)).2.code=0
theorem hk_1 (h:(textF t ⟨#[]⟩ wKind).2.code=0) (hq:eqB (textF t ⟨#[]⟩ wKind).1 kd=true):HK t kd:=⟨fine_ok h hq⟩
theorem hx_2a (k:HK t kd) (h:(textF t ⟨#[]⟩ wName).2.code=0) (hq:nmB (textF t ⟨#[]⟩ wName).1=false):headF t kd=fltF 14 wName:=by
  rw [headF_2 k.k (by rw [fineF_a h hq];exact nzF 14 _),fineF_a h hq]
  exact congrArg (fltF 14) (pathK_no wName)
theorem hx_2b (k:HK t kd) (h:¬ (textF t ⟨#[]⟩ wName).2.code=0):headF t kd=(textF t ⟨#[]⟩ wName).2:=by
  rw [headF_2 k.k (by rw [fineF_b (.inl h)];exact h),fineF_b (.inl h)]
structure HN (t:TreeD) (kd:ByteArray):Prop extends HK t kd where
  n:(fineF t ⟨#[]⟩ wName nmB).2.code=0
  v:(textF t ⟨#[]⟩ wName).1=hName t
theorem hk_2 (k:HK t kd) (h:(textF t ⟨#[]⟩ wName).2.code=0) (hq:nmB (textF t ⟨#[]⟩ wName).1=true):HN t kd:=⟨k,fine_ok h hq,by unfold hName;rw [fineF_b (.inr hq)]⟩
end
theorem subN_pod {nm:ByteArray}{c m:Int}{l:D}{ls:List LabelD} (h:SubN l (.sl ls.length (labelsD ls))):SubNs [.sc (.string nm),l,.sc (.int .i64 c),.sc (.int .i64 m),.sc (.int .i64 0),.sc (.slice none 0 0),.sc (.slice none 0 0)] (podCells ⟨nm,ls,c,m,0, [], []⟩):=⟨.inl rfl,h,.inl rfl,.inl rfl,.inl rfl,.inr ⟨rfl,rfl⟩,.inr ⟨rfl,rfl⟩,trivial⟩
noncomputable def hostW (t:TreeD):HostD:=if (hostF t).code=0 then hostV t else default
def HoP (f:FaultD) (v:HostD) (d:D):Prop:=d = .tup [.agg (hostCells v),.agg [.sc (.int .i64 (f).code),.sc (.int .i64 (f).at_),.sc (.string (f).path)]]
theorem ho_no {t:TreeD}{f:FaultD} (e:hostF t=f) (hc:¬ f.code=0):∃ d',SubT (.tup [.agg [.sc (.string ⟨#[]⟩),.sc (.slice none 0 0),.sc (.int .i64 0),.sc (.int .i64 0),.sc (.int .i64 0),.sc (.slice none 0 0)],.agg [.sc (.int .i64 (f).code),.sc (.int .i64 (f).at_),.sc (.string (f).path)]]) d'∧HoP (hostF t) (hostW t) d':=by
  subst e
  refine ⟨.tup [.agg (hostCells default),_],.tup ⟨.agg ⟨.inl rfl,.inr ⟨rfl,rfl⟩,.inl rfl,.inl rfl,.inl rfl,.inr ⟨rfl,rfl⟩,trivial⟩,.same _,trivial⟩,?_⟩
  unfold HoP hostW
  rw [if_neg hc]
theorem ho_yes {t:TreeD} (e:hostF t=noF) {d:D} (hd:d = .tup [.agg (hostCells (hostV t)),.agg [.sc (.int .i64 0),.sc (.int .i64 0),.sc (.string ⟨#[]⟩)]]):∃ d',SubT d d'∧HoP (hostF t) (hostW t) d':=by
  refine ⟨d,.same _,?_⟩
  unfold HoP hostW
  rw [e,if_pos noF_code,hd]
  rfl
theorem bne_t {x:Int} (h:¬ x=0):(x != 0)=true:=bne_iff_ne.2 h
theorem pathP_sz {p:ByteArray}{i:Nat} (h:i≤1048576):(pathP p (i:Int)).size≤p.size+21:=by
  unfold pathP
  have h2:=itoaN_sz (n:=i) (by omega)
  rw [ByteArray.size_append,ByteArray.size_append,ByteArray.size_append,ba_len]
  show p.size+1+_+1≤_
  omega
theorem listF_len (t:TreeD) (p key:ByteArray):(listF t p key 40).1.length≤40:=by
  unfold listF
  split
  · split
    · split
      · exact Nat.zero_le _
      · show (kidT t key).kids.length≤40
        omega
    · exact Nat.zero_le _
  · exact Nat.zero_le _
theorem listF_fine {t:TreeD} (hf:TFine t) (p key:ByteArray) (m:Int) {x:TreeD} (h:x ∈ (listF t p key m).1):TFine x:=by
  unfold listF at h
  split at h
  · rename_i hh
    split at h
    · split at h
      · cases h
      · exact (hf.of hh).mem h
    · cases h
  · cases h
theorem spec_l19Head_O (t:TreeD) (kd:ByteArray) (hf:TFine t):Spec Tryz.prog 71 [.agg (treeC t),.sc (.string kd)] (fun d=>∃ d',SubT d d'∧HdP (headF t kd) (hPod t) d'):=by
  have hmf:=mapF_fine hf ⟨#[]⟩ wLabels;unfold treeC
  refine spG_ (rs:= [.cell 4 78,.cell 5 46]) (nt:=92) Tryz.func71 rfl fun X hX=>?_
  refine nm_ ?_
  repeat' ((first|contradiction|(with_reducible exact tt_)|((with_reducible show Wk (AwStepF _ _ _ _ _ _ _));first|(refine cl_ rfl _ _ (spec_TextField_D t ⟨#[]⟩ wKind hf (by decide) (by decide)) rfl rfl ?_;rintro _ rfl)|(refine cl_ rfl _ _ (spec_TextField_D t ⟨#[]⟩ wName hf (by decide) (by decide)) rfl rfl ?_;rintro _ rfl)|(refine cl_ rfl _ _ (spec_l18Fault_D _ _) rfl rfl ?_;rintro _ rfl)|(refine cl_ rfl _ _ (specName_D _) rfl rfl ?_;rintro _ rfl)|(refine cl_ rfl _ _ (spec_MapField_K t ⟨#[]⟩ wLabels hf (by decide) (by decide)) rfl rfl ?_;rintro _ rfl)|(refine cl_ rfl _ _ (spec_LabelsIn_X (mapF t ⟨#[]⟩ wLabels).1 wLabels hmf (by decide)) rfl rfl ?_;rintro _ rfl)|(refine cl_ rfl _ _ (spec_AmountField_D t ⟨#[]⟩ wCpu hf (by decide) (by decide)) rfl rfl ?_;rintro _ rfl)|(refine cl_ rfl _ _ (spec_AmountField_D t ⟨#[]⟩ wMem hf (by decide) (by decide)) rfl rfl ?_;rintro _ rfl))|((with_reducible show Wk (AwStep _ _ _ _ _));first|(refine pln_ ?_))|((with_reducible show Wk (AwCode _ _ _ _ _));first|(refine wo_ (id:=6) [1,2] [(0,true),(1,true),(2,false),(3,false)] ?_)|(refine wo_ (id:=11) [1,2] [(0,true),(1,true),(2,false),(3,false)] ?_)|(refine wo_ (id:=14) [1,2] [(0,true),(1,true),(2,false),(3,false)] ?_)|(refine wo_ (id:=17) [1,2] [(0,true),(1,true),(2,false),(3,false)] ?_)|(refine wo_ (id:=20) [1,2] [(0,true),(1,true),(2,false),(3,false)] ?_)|(refine wo_ (id:=22) [1,2] [(0,true),(1,true),(2,false),(3,false)] ?_))|((with_reducible show Wk (boolK _ _ _ _));first|(refine bk_ (fun h h'=>?_) (fun h h'=>?_)))|((with_reducible show Wk (_∧_));first|(refine and_ ?_ ?_))|((with_reducible show Wk (retOkG _ _ _ _));first|(refine rgg_ [] ?_))|fail)<;>(try refine nm_ ?_))
  all_goals (refine ⟨?_⟩)
  all_goals first|contradiction|(exfalso;omega)|skip
  all_goals first|(rw [hx_1a (by omega) (by assumption)];refine hd_no _ (nzF 14 _) (subN_pod (ls:= []) (.inr ⟨rfl,rfl⟩));done)|(rw [hx_1b (by omega)];refine hd_no _ (by omega) (subN_pod (ls:= []) (.inr ⟨rfl,rfl⟩));done)|(have hK:=hk_1 (t:=t) (kd:=kd) (by omega) (by assumption);first|(rw [hx_2a hK (by omega) (by assumption)];refine hd_no _ (nzF 14 _) (subN_pod (ls:= []) (.inr ⟨rfl,rfl⟩));done)|(rw [hx_2b hK (by omega)];refine hd_no _ (by omega) (subN_pod (ls:= []) (.inr ⟨rfl,rfl⟩));done)|(have hN:=hk_2 hK (by omega) (by assumption);first|(rw [headF_3 hN.k hN.n (by omega)];refine hd_no _ (by omega) (subN_pod (ls:= []) (.inr ⟨rfl,rfl⟩));done)|(rw [headF_4 hN.k hN.n (by omega) (by omega)];refine hd_no _ (by omega) (subN_pod (.inl rfl));done)|(rw [headF_5 hN.k hN.n (by omega) (by omega) (by omega)];refine hd_no _ (by omega) (subN_pod (.inl rfl));done)|(rw [headF_6 hN.k hN.n (by omega) (by omega) (by omega),hN.v];exact hd_last (v:=hPod t) (amountF_ok _ _ _) (subN_pod (.inl rfl)))))
theorem spec_l19Head_K (t:TreeD) (kd:ByteArray) (hf:TFine t):Spec Tryz.prog 71 [.agg (treeC t),.sc (.string kd)] (fun d=>HdP (headF t kd) (hPod t) d):=(spec_l19Head_O t kd hf).sub
theorem spec_HostIn_O (t:TreeD) (hf:TFine t):Spec Tryz.prog 27 [.agg (treeC t)] (fun d=>∃ d',SubT d d'∧HoP (hostF t) (hostW t) d'):=by
  have hll:=listF_len t ⟨#[]⟩ wTaints;have hlf:=Lib.hid (fun x=>listF_fine (x:=x) hf ⟨#[]⟩ wTaints 40);unfold treeC
  have ex0:=@taintsD_snoc;have ex1:=@hPod.eq_1;have ex2:=@podCells.eq_1;have ex3:=@taintCells.eq_1;have ex4:=@wt3_done;have ex5:=@wt3_early;have ex6:=@wt3_one;have ex7:=@wt3_two;have ex8:=@wt3_three
  refine spG_ (rs:= [.cell 2 63,.cell 3 46]) (nt:=103) Tryz.func27 rfl fun X hX=>?_
  refine nm_ ?_
  repeat' ((first|contradiction|(with_reducible exact tt_)|((with_reducible show Wk (AwStepF _ _ _ _ _ _ _));first|(refine cl_ rfl _ _ (spec_l19Head_K t wHost hf) rfl rfl ?_;rintro _ (⟨hh,rfl⟩|⟨hh,q,rfl⟩)<;>(try have hb:=bne_t hh))|(refine cl_ rfl _ _ (spec_WholeField_D t ⟨#[]⟩ wSlots hf (by decide) (by decide) 1 20 20) rfl rfl ?_;rintro _ rfl)|(refine cl_ rfl _ _ (spec_ListField_D t ⟨#[]⟩ wTaints hf (by decide) (by decide) 40) rfl rfl ?_;rintro _ rfl)|(refine cl_ rfl _ _ (spec_PathPlace_D wTaints i (by decide) (by omega)) rfl rfl ?_;rintro _ rfl)|(refine cl_ rfl _ _ (spec_TaintIn_X ((listF t ⟨#[]⟩ wTaints 40).1.getD i default) (pathP wTaints (i:Int)) (hx (by omega)) (by omega)) rfl rfl ?_;rintro _ rfl)|(refine cl_ rfl _ _ (spec_l18Fault_D _ _) rfl rfl ?_;rintro _ rfl)|(refine app_ rfl ?_)|(refine afz_ [3] ?_;refine nm_ ?_;refine cl_ rfl _ _ (spec_KnownKeys_D t ⟨#[]⟩ kHost hf (by decide) (by decide)) rfl rfl ?_;rintro _ rfl)|(refine afz_ [3] ?_;refine nm_ ?_;refine cl_ rfl _ _ (spec_SortTaints_X o (by omega)) rfl rfl ?_;rintro _ rfl))|((with_reducible show Wk (AwStep _ _ _ _ _));first|(refine pln_ ?_))|((with_reducible show Wk (AwCode _ _ _ _ _));first|(refine wo_ (id:=3) [1,2] [(0,true),(1,true),(2,false),(3,false)] ?_)|(refine wo_ (id:=6) [1,2] [(0,true),(1,true),(2,false),(3,false)] ?_)|(refine wo_ (id:=10) [1,2] [(0,true),(1,true),(2,false),(3,false)] ?_)|(refine wo_ (id:=13) [1,2] [(0,true),(1,true),(2,false),(3,false)] ?_)|(refine wtr3_ (id:=18) [] (.early 0 (.early 1 (.early 2 (.early 3 (.early 4 (.three 5 (.three 6 (.early 7 (.early 8 (.early 9 (.two 10 (.one 11 (.one 12 (.one 13 .done))) 11 (.one 10 (.one 12 (.one 13 .done))))))) 10 (.two 6 (.early 7 (.early 8 (.early 9 (.one 11 (.one 12 (.one 13 .done)))))) 11 (.one 6 (.early 7 (.early 8 (.early 9 (.one 12 (.one 13 .done))))))) 11 (.two 6 (.early 7 (.early 8 (.early 9 (.one 10 (.one 12 (.one 13 .done)))))) 10 (.one 6 (.early 7 (.early 8 (.early 9 (.one 12 (.one 13 .done)))))))) 10 (.two 5 (.two 6 (.early 7 (.early 8 (.early 9 (.one 11 (.one 12 (.one 13 .done)))))) 11 (.one 6 (.early 7 (.early 8 (.early 9 (.one 12 (.one 13 .done))))))) 11 (.one 5 (.one 6 (.early 7 (.early 8 (.early 9 (.one 12 (.one 13 .done)))))))) 11 (.two 5 (.two 6 (.early 7 (.early 8 (.early 9 (.one 10 (.one 12 (.one 13 .done)))))) 10 (.one 6 (.early 7 (.early 8 (.early 9 (.one 12 (.one 13 .done))))))) 10 (.one 5 (.one 6 (.early 7 (.early 8 (.early 9 (.one 12 (.one 13 .done)))))))))))))) ?_)|(refine wo_ (id:=20) [0,1] [(0,true),(1,true),(2,false),(3,false)] ?_)|(refine lpK_ (ι:=Nat × List TaintD) [] [1,2,7,9] 0xd8c (fun ⟨i,o⟩=> [(11,.sc (.int .i64 (i:Int))),(10,.own 3 0 o.length)]) (fun ⟨i,o⟩=> [(3,⟨118,3,(o).length,taintsD (o)⟩)]) (fun ⟨i,o⟩=>i≤(listF t ⟨#[]⟩ wTaints 40).1.length∧TnE wTaints (listF t ⟨#[]⟩ wTaints 40).1 i o) (fun ⟨i,o⟩=>(listF t ⟨#[]⟩ wTaints 40).1.length - i) (0, []) ?_ ?_;(focus (exact ⟨Nat.zero_le _,tnE_0 _ _⟩));rintro _ hN0 ⟨i,o⟩ hinv;(try dsimp only at hinv);obtain ⟨hi,hE⟩:=hinv;have hol1:o.length≤i:=Nat.le_of_eq hE.len;have hol2:i≤o.length:=Nat.le_of_eq hE.len.symm;replace hE:=Lib.hid hE;have hx:i < (listF t ⟨#[]⟩ wTaints 40).1.length→TFine ((listF t ⟨#[]⟩ wTaints 40).1.getD i default):=fun h=>hlf.out _ (getD_mem h);have hqz:=pathP_sz (p:=wTaints) (i:=i) (by omega);have hwt:wTaints.size=6:=rfl;skip))|((with_reducible show Wk (boolK _ _ _ _));first|(refine bk_ (fun h h'=>?_) (fun h h'=>?_)))|((with_reducible show Wk (_∧_));first|(refine and_ ?_ ?_))|((with_reducible show Wk (retOkG _ _ _ _));first|(refine rgg_ [] ?_))|(refine hN0.run ((i+1,o ++ [(taintM ((listF t ⟨#[]⟩ wTaints 40).1.getD i default) (pathP wTaints (i:Int))).1])) [] [0,1,2,7] ?_ ?_;(focus (exact ⟨by show i+1≤_;omega,hE.out.go (by omega) (by omega)⟩));(focus (show (listF t ⟨#[]⟩ wTaints 40).1.length - (i+1) < (listF t ⟨#[]⟩ wTaints 40).1.length - i;omega)))|fail)<;>(try refine nm_ ?_))
  all_goals clear ex0 ex1 ex2 ex3 ex4 ex5 ex6 ex7 ex8
  all_goals (refine ⟨?_⟩)
  all_goals first|contradiction|(exfalso;omega)|(exact ho_no (hostF_1 (by omega)) (by omega))|(exact ho_no (hostF_2 (by omega) hh) hh)|(exact ho_no (hostF_3 (by omega) hh (by omega)) (by omega))|(exact ho_no (hostF_4 (by omega) hh (by omega) (by omega)) (by omega))|(exact ho_no (hostF_5 (by omega) hh (by omega) (by omega) (hE.out.flt (by omega) (by omega)) (by omega)) (by omega))|(have e2:=hE.out.fin (by omega);have e3:(taintsE wTaints 0 (listF t ⟨#[]⟩ wTaints 40).1).2.code=0:=(by rw [e2.1];rfl);first|exact ho_no (hostF_6 (by omega) hh (by omega) (by omega) e3 e2.2 (by assumption)) (nzF 16 _)|exact ho_yes (hostF_7 (by omega) hh (by omega) (by omega) e3 e2.2 (by assumption)) (by unfold hostV;rw [← e2.2];rfl))
theorem spec_HostIn_K (t:TreeD) (hf:TFine t):Spec Tryz.prog 27 [.agg (treeC t)] (fun d=>HoP (hostF t) (hostW t) d):=(spec_HostIn_O t hf).sub
end Go.Proofs.YtidjjfjhmlndjaaGreatDoor
