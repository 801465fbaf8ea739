/- Ho6 (what is wanted of them). -/
import Derived.Test.YtidjjfjhmlndjaaGreatDoorVHo2
import Derived.Test.YtidjjfjhmlndjaaGreatDoorVHo5
import Derived.Test.YtidjjfjhmlndjaaGreatDoorVTeq
import Derived.Test.YtidjjfjhmlndjaaGreatDoorVNo
namespace Go.Proofs.YtidjjfjhmlndjaaGreatDoor
open Go.RowKit
set_option linter.unusedVariables false
set_option linter.unusedSimpArgs false
set_option maxRecDepth 100000
set_option maxHeartbeats 4000000
theorem tntF_eq {xs ys:List TaintD} (hp:ys.Perm xs) (hs:ys.Pairwise fun a b=>taintLess b a=false):cptL taintSame ys=tntF xs:=by
  have h:=cpt_fold (s:=taintSame) (e:=taintSame) taintLess_sto (fun y x _=>taintSame_iff y x) taintSame_iff id (xs:=xs) (ys:=ys) (by rw [List.map_id];exact hp) hs
  exact h
theorem tntF_sz (xs:List TaintD):(tntF xs).length≤xs.length:=by
  have e:tntF xs=foldTo (fun x o=>insTnt x o) xs xs.length:=(fold_all _ xs (Nat.le_refl _)).symm
  rw [e]
  exact fold_len (fun x o=>insD_len taintLess taintSame x o) xs xs.length (Nat.le_refl _)
theorem cptTaints_N (xs ys:List TaintD) (hp:ys.Perm xs) (hs:ys.Pairwise fun a b=>taintLess b a=false) (hn:xs.length≤1048576):SpecH Tryz.prog 168 [.own 0 0 xs.length] [(0,⟨118,3,xs.length,taintsD ys⟩)] 1
    (fun d os' nb'=>d = .own 0 0 (tntF xs).length∧os' = [(0,⟨118,3,(tntF xs).length,taintsD (tntF xs)⟩)]∧nb' = 1):=by
  have hl:ys.length=xs.length:=hp.length_eq
  have h:=compactTaints_H ys (by omega)
  rw [hl,tntF_eq hp hs] at h
  exact h
def cA (t:TreeD) (p:ByteArray) (f:FaultD) (kd:ByteArray):ByteArray × FaultD:=rText t p f wKind (fun s=>eqB s kd)
def cB (t:TreeD) (p:ByteArray) (f:FaultD) (kd:ByteArray):ByteArray × FaultD:=rText t p (cA t p f kd).2 wName nmB
def cC (t:TreeD) (p:ByteArray) (f:FaultD) (kd:ByteArray):List LabelD × FaultD:=rLabs t p (cB t p f kd).2
noncomputable def cD (t:TreeD) (p:ByteArray) (f:FaultD) (kd:ByteArray):Int × FaultD:=rAmt t p (cC t p f kd).2 wCpu
noncomputable def cE (t:TreeD) (p:ByteArray) (f:FaultD) (kd:ByteArray):Int × FaultD:=rAmt t p (cD t p f kd).2 wMem
def CoP (t:TreeD) (p:ByteArray) (f:FaultD) (kd:ByteArray) (d:D) (os':List (Nat × Ob)) (nb':Nat):Prop:=
  (d = .tup [.sc (.string (cB t p f kd).1),.own 1 0 (cC t p f kd).1.length,.sc (.int .i64 (cD t p f kd).1),.sc (.int .i64 (cE t p f kd).1)]∧os' = [(0,⟨125,10,1, [.sc (.int .i64 t.kind),.sc (.bool t.flag),.sc (.int .i64 t.num),.sc (.string t.text),.sl t.keys.length (strsD t.keys),.sl t.kids.length (treesD t.kids),.sc (.string p),.sc (.int .i64 ((cE t p f kd).2).code),.sc (.int .i64 ((cE t p f kd).2).at_),.sc (.string ((cE t p f kd).2).path)]⟩),(1,⟨217,2,((cC t p f kd).1).length,labelsD ((cC t p f kd).1)⟩)]∧nb' = 2)∨
  (¬ (cE t p f kd).2.code=0∧d = .tup [.sc (.string (cB t p f kd).1),.sl 0 [],.sc (.int .i64 (cD t p f kd).1),.sc (.int .i64 (cE t p f kd).1)]∧os' = [(0,⟨125,10,1, [.sc (.int .i64 t.kind),.sc (.bool t.flag),.sc (.int .i64 t.num),.sc (.string t.text),.sl t.keys.length (strsD t.keys),.sl t.kids.length (treesD t.kids),.sc (.string p),.sc (.int .i64 ((cE t p f kd).2).code),.sc (.int .i64 ((cE t p f kd).2).at_),.sc (.string ((cE t p f kd).2).path)]⟩)]∧nb' = 1)
section
variable {t:TreeD}{p:ByteArray}{f:FaultD}{kd:ByteArray}{a b:ByteArray × FaultD}{c:List LabelD × FaultD}{e1 e2:Int × FaultD}
theorem co_all (hA:rText t p f wKind (fun s=>eqB s kd)=a) (hB:rText t p a.2 wName nmB=b) (hC:rLabs t p b.2=c) (hD:rAmt t p c.2 wCpu=e1) (hE:rAmt t p e1.2 wMem=e2):cB t p f kd=b∧cC t p f kd=c∧cD t p f kd=e1∧cE t p f kd=e2:=by
  subst hA;subst hB;subst hC;subst hD;subst hE
  exact ⟨rfl,rfl,rfl,rfl⟩
theorem co_own (hA:rText t p f wKind (fun s=>eqB s kd)=a) (hB:rText t p a.2 wName nmB=b) (hC:rLabs t p b.2=c) (hD:rAmt t p c.2 wCpu=e1) (hE:rAmt t p e1.2 wMem=e2):CoP t p f kd (.tup [.sc (.string b.1),.own 1 0 c.1.length,.sc (.int .i64 e1.1),.sc (.int .i64 e2.1)]) [(0,⟨125,10,1, [.sc (.int .i64 t.kind),.sc (.bool t.flag),.sc (.int .i64 t.num),.sc (.string t.text),.sl t.keys.length (strsD t.keys),.sl t.kids.length (treesD t.kids),.sc (.string p),.sc (.int .i64 (e2.2).code),.sc (.int .i64 (e2.2).at_),.sc (.string (e2.2).path)]⟩),(1,⟨217,2,(c.1).length,labelsD (c.1)⟩)] 2:=by
  obtain ⟨h1,h2,h3,h4⟩:=co_all hA hB hC hD hE
  unfold CoP
  rw [h1,h2,h3,h4]
  exact .inl ⟨rfl,rfl,rfl⟩
theorem co_nil (hA:rText t p f wKind (fun s=>eqB s kd)=a) (hB:rText t p a.2 wName nmB=b) (hC:rLabs t p b.2=c) (hc:¬ c.2.code=0) (hD:rAmt t p c.2 wCpu=e1) (hE:rAmt t p e1.2 wMem=e2):CoP t p f kd (.tup [.sc (.string b.1),.sl 0 [],.sc (.int .i64 e1.1),.sc (.int .i64 e2.1)]) [(0,⟨125,10,1, [.sc (.int .i64 t.kind),.sc (.bool t.flag),.sc (.int .i64 t.num),.sc (.string t.text),.sl t.keys.length (strsD t.keys),.sl t.kids.length (treesD t.kids),.sc (.string p),.sc (.int .i64 (e2.2).code),.sc (.int .i64 (e2.2).at_),.sc (.string (e2.2).path)]⟩)] 1:=by
  obtain ⟨h1,h2,h3,h4⟩:=co_all hA hB hC hD hE
  unfold CoP
  rw [h1,h3,h4]
  refine .inr ⟨?_,rfl,rfl,rfl⟩
  rw [rAmt_0 hc] at hD
  subst hD
  rw [rAmt_0 hc] at hE
  subst hE
  exact hc
theorem co_lab (h:b.2.code=0) (hm:(mapF t p wLabels).2.code=0) (hq:(labsF (mapF t p wLabels).1 (pathK p wLabels)).2=noF):rLabs t p b.2=((labsF (mapF t p wLabels).1 (pathK p wLabels)).1,noF):=by
  rw [rLabs_2 h hm]
  exact Prod.ext rfl hq
end
structure CoF (t:TreeD) (f0:FaultD) (b:ByteArray × FaultD) (c:List LabelD × FaultD) (d e:Int × FaultD):Prop where
  yes:e.2.code=0→f0.code=0∧(headF t wHost).code=0∧b.1=hName t∧c.1=hLabs t∧d.1=hCpu t∧e.1=hMem t
  no:f0.code=0→e.2=headF t wHost
  set:¬ f0.code=0→e.2=f0
theorem coF (t:TreeD) (f0:FaultD):CoF t f0 (cB t ⟨#[]⟩ f0 wHost) (cC t ⟨#[]⟩ f0 wHost) (cD t ⟨#[]⟩ f0 wHost) (cE t ⟨#[]⟩ f0 wHost):=⟨com_yes rfl rfl rfl rfl rfl,com_no rfl rfl rfl rfl rfl,com_set rfl rfl rfl rfl rfl⟩
section
variable {t:TreeD}{f0 f:FaultD}{b:ByteArray × FaultD}{c:List LabelD × FaultD}{d e s:Int × FaultD}{l:List TreeD × FaultD}{i:Nat}{o:List TaintD}
theorem host_1 (hK:knownT t ⟨#[]⟩ kHost=f0) (hF:CoF t f0 b c d e) (hS:rWhole t ⟨#[]⟩ e.2 wSlots 1 20 20=s) (hL:rList t ⟨#[]⟩ s.2 wTaints=l) (hE:TnI wTaints l.1 l.2 i o f) (hf:¬ f.code=0):hostF t=f:=by
  have key:¬ l.2.code=0→f=l.2:=fun h=>by
    rcases hE.no hf with ⟨_,h2⟩|⟨h1,_⟩
    · exact h2
    · exact absurd h1 h
  have kS:¬ s.2.code=0→f=s.2:=fun h=>by
    rw [rList_0 h] at hL
    subst hL
    exact key h
  by_cases h0:f0.code=0
  · have h1:=hF.no h0
    by_cases h2:e.2.code=0
    · rw [rWhole_1 h2] at hS
      have h2':(headF t wHost).code=0:=by rw [← h1];exact h2
      by_cases h3:s.2.code=0
      · rw [rList_1 h3] at hL
        have h3':(wholeF t ⟨#[]⟩ wSlots 1 20 20).2.code=0:=by rw [hS];exact h3
        by_cases h4:l.2.code=0
        · rcases hE.no hf with ⟨h5,_⟩|⟨_,h5⟩
          · exact absurd h4 h5
          · rw [← hL] at h4 h5
            exact hostF_5 (by rw [hK];exact h0) h2' h3' h4 h5 hf
        · rw [key h4]
          rw [← hL] at h4 ⊢
          exact hostF_4 (by rw [hK];exact h0) h2' h3' h4
      · rw [kS h3]
        rw [← hS] at h3 ⊢
        exact hostF_3 (by rw [hK];exact h0) h2' h3
    · rw [rWhole_0 h2] at hS
      subst hS
      rw [kS h2]
      show hostF t=e.2
      rw [h1] at h2 ⊢
      exact hostF_2 (by rw [hK];exact h0) h2
  · have h1:=hF.set h0
    have h2:¬ e.2.code=0:=by rw [h1];exact h0
    rw [rWhole_0 h2] at hS
    subst hS
    rw [kS h2]
    show hostF t=e.2
    rw [h1]
    rw [← hK] at h0 ⊢
    exact hostF_1 h0
theorem host_all (hK:knownT t ⟨#[]⟩ kHost=f0) (hF:CoF t f0 b c d e) (hS:rWhole t ⟨#[]⟩ e.2 wSlots 1 20 20=s) (hL:rList t ⟨#[]⟩ s.2 wTaints=l) (hE:TnI wTaints l.1 l.2 i o f) (hi:l.1.length≤i) (hf:f.code=0):
    ((srtTnt o).2=false→hostF t=fltF 16 wTaints)∧((srtTnt o).2=true→hostF t=noF∧hostV t=⟨b.1,c.1,d.1,e.1,s.1,(srtTnt o).1⟩):=by
  obtain ⟨h4,hT⟩:=hE.go hf
  obtain ⟨e1,e2⟩:=hT.fin hi
  have h3:s.2.code=0:=by
    by_cases k:s.2.code=0
    · exact k
    · rw [rList_0 k] at hL;subst hL;exact absurd h4 k
  have h2:e.2.code=0:=by
    by_cases k:e.2.code=0
    · exact k
    · rw [rWhole_0 k] at hS;subst hS;exact absurd h3 k
  obtain ⟨h0,h1,hb,hc,hd,he⟩:=hF.yes h2
  rw [rWhole_1 h2] at hS
  rw [rList_1 h3] at hL
  have q0:(knownT t ⟨#[]⟩ kHost).code=0:=by rw [hK];exact h0
  have q3:(wholeF t ⟨#[]⟩ wSlots 1 20 20).2.code=0:=by rw [hS];exact h3
  rw [← hL] at h4 e1 e2
  have q5:(taintsE wTaints 0 (listF t ⟨#[]⟩ wTaints 40).1).2.code=0:=by rw [e1];rfl
  refine ⟨fun h=>hostF_6 q0 h1 q3 h4 q5 e2 h,fun h=>⟨hostF_7 q0 h1 q3 h4 q5 e2 h,?_⟩⟩
  unfold hostV
  rw [← e2,hS,hb,hc,hd,he]
theorem hostC (hK:knownT t ⟨#[]⟩ kHost=f0) (hF:CoF t f0 b c d e) (hS:rWhole t ⟨#[]⟩ e.2 wSlots 1 20 20=s) (hL:rList t ⟨#[]⟩ s.2 wTaints=l) (hE:TnI wTaints l.1 l.2 i o f) (hi:l.1.length≤i) (hs:(srtTnt o).2=false):hostF t=rFail f 16 wTaints∧¬ (rFail f 16 wTaints).code=0:=by
  by_cases h:f.code=0
  · rw [show rFail f 16 wTaints=fltF 16 wTaints from if_pos h]
    exact ⟨(host_all hK hF hS hL hE hi h).1 hs,nzF 16 _⟩
  · rw [show rFail f 16 wTaints=f from if_neg h]
    exact ⟨host_1 hK hF hS hL hE h,h⟩
theorem l_nil (hce:¬ e.2.code=0) (hS:rWhole t ⟨#[]⟩ e.2 wSlots 1 20 20=s) (hL:rList t ⟨#[]⟩ s.2 wTaints=l):l.1 = []∧l.2=e.2:=by
  rw [rWhole_0 hce] at hS
  subst hS
  rw [rList_0 hce] at hL
  subst hL
  exact ⟨rfl,rfl⟩
end
def HiP (t:TreeD) (d:D) (os':List (Nat × Ob)) (nb':Nat):Prop:=
  (hostF t=noF∧d = .tup [.agg [.sc (.string (hostV t).name),.own 0 0 (hostV t).labels.length,.sc (.int .i64 (hostV t).cpu),.sc (.int .i64 (hostV t).mem),.sc (.int .i64 (hostV t).slots),.own 1 0 (hostV t).taints.length],.agg [.sc (.int .i64 0),.sc (.int .i64 0),.sc (.string ⟨#[]⟩)]]∧os' = [(0,⟨217,2,((hostV t).labels).length,labelsD ((hostV t).labels)⟩),(1,⟨118,3,((hostV t).taints).length,taintsD ((hostV t).taints)⟩)]∧nb' = 2)∨
  (¬ (hostF t).code=0∧d = .tup [.agg [.sc (.string ⟨#[]⟩),.sc (.slice none 0 0),.sc (.int .i64 0),.sc (.int .i64 0),.sc (.int .i64 0),.sc (.slice none 0 0)],.agg [.sc (.int .i64 ((hostF t)).code),.sc (.int .i64 ((hostF t)).at_),.sc (.string ((hostF t)).path)]]∧os' = []∧nb' = 0)
theorem hi_no {t:TreeD}{f:FaultD} (e:hostF t=f) (hc:¬ f.code=0):∃ d',SubT (.tup [.agg [.sc (.string ⟨#[]⟩),.sc (.slice none 0 0),.sc (.int .i64 0),.sc (.int .i64 0),.sc (.int .i64 0),.sc (.slice none 0 0)],.agg [.sc (.int .i64 (f).code),.sc (.int .i64 (f).at_),.sc (.string (f).path)]]) d'∧HiP t d' [] 0:=by
  subst e
  exact ⟨_,.same _,.inr ⟨hc,rfl,rfl,rfl⟩⟩
theorem hi_yes {t:TreeD}{nm:ByteArray}{ls:List LabelD}{c m s:Int}{ts:List TaintD} (e:hostF t=noF∧hostV t=⟨nm,ls,c,m,s,ts⟩):∃ d',SubT (.tup [.agg [.sc (.string nm),.own 0 0 ls.length,.sc (.int .i64 c),.sc (.int .i64 m),.sc (.int .i64 s),.own 1 0 ts.length],.agg [.sc (.int .i64 0),.sc (.int .i64 0),.sc (.string ⟨#[]⟩)]]) d'∧HiP t d' [(0,⟨217,2,(ls).length,labelsD (ls)⟩),(1,⟨118,3,(ts).length,taintsD (ts)⟩)] 2:=by
  refine ⟨_,.same _,.inl ⟨e.1,?_,?_,rfl⟩⟩<;>rw [e.2]
theorem cloneT_O (xs:List TaintD) (hn:xs.length≤1048576):SpecH Tryz.prog 165 [.sl xs.length (taintsD xs)] [] 0 (fun d os' nb'=>(d = .own 0 0 xs.length∧os' = [(0,⟨118,3,xs.length,taintsD xs⟩)]∧nb' = 1)∨(d = .sc (.slice none 0 0)∧os' = []∧nb' = 0∧(D.own 0 0 0=D.own 0 0 xs.length∧ [(0,(⟨118,3,0, []⟩:Ob))] = [(0,⟨118,3,xs.length,taintsD xs⟩)]∧0+1=1))):=by
  refine spH_ (rs:= [.tmp 2]) (nt:=8) Tryz.func165 rfl fun X hX=>?_
  refine nm_ ?_
  repeat' ((first|contradiction|(with_reducible exact tt_)|((with_reducible show Wk (AwStepF _ _ _ _ _ _ _));first|(refine nnil_ rfl (fun hnil=>?_) ?_)|(refine app_ rfl ?_))|((with_reducible show Wk (AwStep _ _ _ _ _));first|(refine pln_ ?_))|((with_reducible show Wk (boolK _ _ _ _));first|(refine bk_ (fun h h'=>?_) (fun h h'=>?_)))|((with_reducible show Wk (_∧_));first|(refine and_ ?_ ?_))|((with_reducible show Wk (retOkH _ _ _ _ _));first|(refine rh_ [] ?_;refine nm_ ?_;fail_if_success (show Wk False))|(refine rh_ [1] ?_;refine nm_ ?_;fail_if_success (show Wk False)))|fail)<;>(try refine nm_ ?_))
  all_goals (refine ⟨?_⟩)
  all_goals first|contradiction|(exfalso;omega)|(exact .inl ⟨rfl,rfl,rfl⟩)|(obtain rfl:=row_none (f:=taintsD) (by decide) taintsD_len hnil;exact .inr ⟨rfl,rfl,rfl,rfl,rfl,rfl⟩)|(obtain rfl:=row_none (f:=taintsD) (by decide) taintsD_len hnil;rfl)
theorem cloneT_H (xs:List TaintD) (hn:xs.length≤1048576):SpecH Tryz.prog 165 [.sl xs.length (taintsD xs)] [] 0 (fun d os' nb'=>d = .own 0 0 xs.length∧os' = [(0,⟨118,3,xs.length,taintsD xs⟩)]∧nb' = 1):=specH_nil 118 3 (cloneT_O xs hn)
theorem impl_SortTaints_K (xs:List TaintD) (hn:xs.length≤1048576):SpecH Tryz.prog 82 [.sl xs.length (taintsD xs)] [] 0 (fun d os' nb'=>d = .tup [.own 0 0 (srtTnt xs).1.length,.sc (.bool (srtTnt xs).2)]∧os' = [(0,⟨118,3,(srtTnt xs).1.length,taintsD (srtTnt xs).1⟩)]∧nb' = 1):=by
  have hnl:=tntF_sz xs
  refine spH_ (rs:= [.tmp 2,.tmp 3]) (nt:=22) Tryz.func82 rfl fun X hX=>?_
  refine nm_ ?_
  repeat' ((first|contradiction|(with_reducible exact tt_)|((with_reducible show Wk (AwStepF _ _ _ _ _ _ _));first|(refine awH_ rfl (cloneT_H xs hn) [] ?_;rintro _ _ _ ⟨rfl,rfl,rfl⟩ _)|(refine awH_ rfl (sortTaints_H xs hn) [0] ?_;rintro _ _ _ ⟨rfl,⟨ys,hp,hs,rfl⟩,rfl⟩ _)|(refine awH_ rfl (cptTaints_N xs ys hp hs (by omega)) [0] ?_;rintro _ _ _ ⟨rfl,rfl,rfl⟩ _)|(refine bo_ rfl [.cool 0,.frz 0] (impl_TaintsOk_D (tntF xs) (by omega)) ?_;rintro _ rfl;refine ⟨rfl,?_⟩))|((with_reducible show Wk (AwStep _ _ _ _ _));first|(refine pln_ ?_))|((with_reducible show Wk (boolK _ _ _ _));first|(refine bk_ (fun h h'=>?_) (fun h h'=>?_)))|((with_reducible show Wk (_∧_));first|(refine and_ ?_ ?_))|((with_reducible show Wk (retOkH _ _ _ _ _));first|(refine rh_ [0] ?_;refine nm_ ?_;fail_if_success (show Wk False))|(refine rh_ [1] ?_;refine nm_ ?_;fail_if_success (show Wk False)))|fail)<;>(try refine nm_ ?_))
  all_goals (refine ⟨?_⟩)
  all_goals first|contradiction|(exfalso;omega)|(rw [srtTnt_a (by omega)]<;>(first|exact ⟨rfl,rfl,rfl⟩|exact ⟨rfl,rfl⟩|rfl))|(rw [srtTnt_c (by omega) (by assumption)]<;>(first|exact ⟨rfl,rfl,rfl⟩|exact ⟨rfl,rfl⟩|rfl))|(rw [srtTnt_d (by omega) (by assumption)]<;>(first|exact ⟨rfl,rfl,rfl⟩|exact ⟨rfl,rfl⟩|rfl))
theorem r_common_K (t:TreeD) (p:ByteArray) (f:FaultD) (kd:ByteArray) (hf:TFine t) (hp2:p.size≤2097000):SpecH Tryz.prog 78 [.ptr 0 0,.sc (.string kd)] [(0,⟨125,10,1, [.sc (.int .i64 t.kind),.sc (.bool t.flag),.sc (.int .i64 t.num),.sc (.string t.text),.sl t.keys.length (strsD t.keys),.sl t.kids.length (treesD t.kids),.sc (.string p),.sc (.int .i64 (f).code),.sc (.int .i64 (f).at_),.sc (.string (f).path)]⟩)] 1 (fun d os' nb'=>CoP t p f kd d os' nb'):=by
  have hp:p.size≤4194304:=Nat.le_trans hp2 (by decide);have hmf:=mapF_fine hf p wLabels;have hps:(pathK p wLabels).size≤2097152:=(by have:=path_sz p wLabels;have e:wLabels.size=6:=rfl;omega)
  have ex0:=@treeC.eq_1
  refine spH_ (rs:= [.tmp 4,.tmp 5,.tmp 6,.tmp 7]) (nt:=68) Tryz.func78 rfl fun X hX=>?_
  refine nm_ ?_
  repeat' ((first|contradiction|(with_reducible exact tt_)|((with_reducible show Wk (AwStepF _ _ _ _ _ _ _));first|(refine cl_ rfl _ _ (impl_MapField_K t p wLabels hf hp (by decide)) rfl rfl ?_;rintro _ rfl)|(refine cl_ rfl _ _ (impl_PathKey_D p wLabels (by omega) (by decide)) rfl rfl ?_;rintro _ rfl)|(refine afz_ [1] ?_;refine nm_ ?_;refine fn_ rfl rfl ?_)|(refine awH_ rfl (r_text_K t p f hf hp wKind (by decide) 155 [.cptr [.sc (.string kd)] 0] (fun s=>eqB s kd) rfl (fun s _=>common1_K kd s)) [0] ?_;rintro _ _ _ ⟨rfl,rfl,rfl⟩ _;(generalize hA:rText t p f wKind (fun s=>eqB s kd)=a at *;replace hA:=Lib.hid hA))|(refine awH_ rfl (r_text_K t p a.2 hf hp wName (by decide) 156 [] nmB rfl (fun s hs=>impl_NameOk_D s hs)) [0] ?_;rintro _ _ _ ⟨rfl,rfl,rfl⟩ _;(generalize hB:rText t p a.2 wName nmB=b at *;replace hB:=Lib.hid hB))|(refine awH_ rfl (impl_LabelsIn_K (mapF t p wLabels).1 (pathK p wLabels) hmf (by omega)) [] ?_;rintro _ _ _ (⟨hq,rfl,rfl,rfl⟩|⟨hq,hn,rfl,rfl,rfl⟩) _)|(refine awH_ rfl (r_amount_K t p e1.2 hf hp wMem (by decide)) [0] ?_;rintro _ _ _ ⟨rfl,rfl,rfl⟩ _;(generalize hE:rAmt t p e1.2 wMem=e2 at *;replace hE:=Lib.hid hE))|(refine awH_ rfl (r_amount_K t p b.2 hf hp wCpu (by decide)) [0] ?_;rintro _ _ _ ⟨rfl,rfl,rfl⟩ _;(generalize hD:rAmt t p b.2 wCpu=e1 at *;replace hD:=Lib.hid hD))|(refine awH_ rfl (r_amount_K t p noF hf hp wCpu (by decide)) [0] ?_;rintro _ _ _ ⟨rfl,rfl,rfl⟩ _;(generalize hD:rAmt t p noF wCpu=e1 at *;replace hD:=Lib.hid hD))|(refine awH_ rfl (r_amount_K t p (mapF t p wLabels).2 hf hp wCpu (by decide)) [0] ?_;rintro _ _ _ ⟨rfl,rfl,rfl⟩ _;(generalize hD:rAmt t p (mapF t p wLabels).2 wCpu=e1 at *;replace hD:=Lib.hid hD))|(refine awH_ rfl (r_amount_K t p (labsF (mapF t p wLabels).1 (pathK p wLabels)).2 hf hp wCpu (by decide)) [0] ?_;rintro _ _ _ ⟨rfl,rfl,rfl⟩ _;(generalize hD:rAmt t p (labsF (mapF t p wLabels).1 (pathK p wLabels)).2 wCpu=e1 at *;replace hD:=Lib.hid hD)))|((with_reducible show Wk (AwStep _ _ _ _ _));first|(refine pln_ ?_))|((with_reducible show Wk (AwCode _ _ _ _ _));first|(refine wtr_ (id:=6) [3,0] (.early 0 (.early 1 (.early 2 (.early 3 (.early 5 (.early 6 (.early 7 (.two 4 (.one 8 (.one 9 (.early 10 (.early 11 (.early 12 (.one 13 (.early 14 (.early 15 (.one 16 .done))))))))) 8 (.one 4 (.one 9 (.early 10 (.early 11 (.early 12 (.one 13 (.early 14 (.early 15 (.one 16 .done))))))))))))))))) ?_)|(refine wtr_ (id:=8) [0] (.early 0 (.early 1 (.early 2 (.early 3 (.early 4 (.one 5 (.one 6 (.one 7 (.early 8 (.early 9 (.early 10 (.early 11 (.early 12 (.early 13 (.one 14 .done))))))))))))))) ?_))|((with_reducible show Wk (boolK _ _ _ _));first|(refine bk_ (fun h h'=>?_) (fun h h'=>?_)))|((with_reducible show Wk (_∧_));first|(refine and_ ?_ ?_))|((with_reducible show Wk (retOkH _ _ _ _ _));first|(refine rh_ [] ?_;refine nm_ ?_;fail_if_success (show Wk False))|(refine rh_ [4] ?_;refine nm_ ?_;fail_if_success (show Wk False))|(refine rh_ [2] ?_;refine nm_ ?_;fail_if_success (show Wk False)))|fail)<;>(try refine nm_ ?_))
  all_goals clear ex0
  all_goals (refine ⟨?_⟩)
  all_goals first|contradiction|(exfalso;omega)|(exact co_own hA.out hB.out (rLabs_0 (by omega)) hD.out hE.out)|(exact co_own hA.out hB.out (rLabs_1 (by omega) (by omega)) hD.out hE.out)|(have e9:=co_own hA.out hB.out (co_lab (b:=b) (by omega) (by omega) hq) hD.out hE.out;exact e9)|(exact co_nil hA.out hB.out (rLabs_2 (by omega) (by omega)) hq hD.out hE.out)
theorem impl_HostIn_O (t:TreeD) (hf:TFine t):SpecH Tryz.prog 29 [.agg (treeC t)] [] 0 (fun d os' nb'=>∃ d',SubT d d'∧HiP t d' os' nb'):=by
  unfold treeC
  have ex0:=@taintsD_snoc;have ex1:=@treeC.eq_1;have ex2:=@taintCells.eq_1;have ex3:=@wt3_done;have ex4:=@wt3_early;have ex5:=@wt3_one;have ex6:=@wt3_two;have ex7:=@wt3_three
  refine spH_ (rs:= [.cell 2 63,.cell 3 46]) (nt:=76) Tryz.func29 rfl fun X hX=>?_
  refine nm_ ?_
  repeat' ((first|contradiction|(with_reducible exact tt_)|((with_reducible show Wk (AwStepF _ _ _ _ _ _ _));first|(refine cl_ rfl _ _ (impl_PathPlace_D wTaints i (by decide) (by omega)) rfl rfl ?_;rintro _ rfl)|(refine cl_ rfl _ _ (impl_TaintIn_X (l.1.getD i default) (pathP wTaints (i:Int)) (hx (by omega)) (by omega)) rfl rfl ?_;rintro _ rfl)|(refine app_ rfl ?_)|(refine afz_ [4] ?_;refine nm_ ?_;refine awH_ rfl (r_known_K t ⟨#[]⟩ noF hf (by decide) kHost (by decide)) [3] ?_;rintro _ _ _ ⟨rfl,rfl,rfl⟩ _;(generalize hA:knownT t ⟨#[]⟩ kHost=f0 at *;replace hA:=Lib.hid hA))|(refine awH_ rfl (r_common_K t ⟨#[]⟩ f0 wHost hf (by decide)) [3] ?_;rintro _ _ _ (⟨rfl,rfl,rfl⟩|⟨hce,rfl,rfl,rfl⟩) _;(all_goals (have hF:=Lib.hid (coF t f0);have hce2:=hF;generalize hgB:cB t ⟨#[]⟩ f0 wHost=b at *;generalize hgC:cC t ⟨#[]⟩ f0 wHost=c at *;generalize hgD:cD t ⟨#[]⟩ f0 wHost=c2 at *;generalize hgE:cE t ⟨#[]⟩ f0 wHost=e at *;clear hgB hgC hgD hgE hce2)))|(refine awH_ rfl (r_whole_K t ⟨#[]⟩ e.2 hf (by decide) wSlots (by decide) 1 20 20) [3] ?_;rintro _ _ _ ⟨rfl,rfl,rfl⟩ _;(generalize hS:rWhole t ⟨#[]⟩ e.2 wSlots 1 20 20=s at *;replace hS:=Lib.hid hS))|(refine awH_ rfl (r_list_K t ⟨#[]⟩ s.2 hf (by decide) wTaints (by decide)) [3] ?_;rintro _ _ _ ⟨rfl,rfl,rfl⟩ _;(have hll:=rList_len t ⟨#[]⟩ s.2 wTaints;have hlf:=Lib.hid (fun x=>rList_fine (x:=x) hf ⟨#[]⟩ s.2 wTaints);generalize hL:rList t ⟨#[]⟩ s.2 wTaints=l at *;replace hL:=Lib.hid hL))|(refine afz_ [5] ?_;refine nm_ ?_;refine awH_ rfl (impl_SortTaints_K o (by omega)) [] ?_;rintro _ _ _ ⟨rfl,rfl,rfl⟩ _)|(refine afz_ [4] ?_;refine nm_ ?_;refine awH_ rfl (impl_SortTaints_K ([]:List TaintD) (by decide)) [] ?_;rintro _ _ _ ⟨rfl,rfl,rfl⟩ _)|(refine awH_ rfl (r_fail_K t ⟨#[]⟩ f 16 wTaints) [2] ?_;rintro _ _ _ ⟨rfl,rfl,rfl⟩ _)|(refine awH_ rfl (r_fail_K t ⟨#[]⟩ l.2 16 wTaints) [2] ?_;rintro _ _ _ ⟨rfl,rfl,rfl⟩ _))|((with_reducible show Wk (AwStep _ _ _ _ _));first|(refine pln_ ?_))|((with_reducible show Wk (AwCode _ _ _ _ _));first|(refine nilC_ 5 5 118 3 (by simp [nilAt,St.ob,cellOb,List.lookup_cons]) ?_;refine nm_ ?_;refine lpK_ (ι:=Nat) [] [1,2,3,5,6] 0xe000003c (fun i=> [(31,.sc (.int .i64 (i:Int)))]) (fun i=> []) (fun i=>i≤0) (fun i=>0) 0 ?_ ?_;(focus ((have hce3:=hce;exact Nat.le_refl _)));rintro _ hN0 i hinv;(try dsimp only at hinv);have hi0:i≤0:=hinv;have hl0:l.1.length=0:=(by rw [(l_nil hce hS.out hL.out).1];rfl);skip)|(refine wtr3_ (id:=10) [] (.early 0 (.early 1 (.three 2 (.three 3 (.early 4 (.early 5 (.early 6 (.two 7 (.one 8 (.one 9 (.one 10 .done))) 8 (.one 7 (.one 9 (.one 10 .done))))))) 7 (.two 3 (.early 4 (.early 5 (.early 6 (.one 8 (.one 9 (.one 10 .done)))))) 8 (.one 3 (.early 4 (.early 5 (.early 6 (.one 9 (.one 10 .done))))))) 8 (.two 3 (.early 4 (.early 5 (.early 6 (.one 7 (.one 9 (.one 10 .done)))))) 7 (.one 3 (.early 4 (.early 5 (.early 6 (.one 9 (.one 10 .done)))))))) 7 (.two 2 (.two 3 (.early 4 (.early 5 (.early 6 (.one 8 (.one 9 (.one 10 .done)))))) 8 (.one 3 (.early 4 (.early 5 (.early 6 (.one 9 (.one 10 .done))))))) 8 (.one 2 (.one 3 (.early 4 (.early 5 (.early 6 (.one 9 (.one 10 .done)))))))) 8 (.two 2 (.two 3 (.early 4 (.early 5 (.early 6 (.one 7 (.one 9 (.one 10 .done)))))) 7 (.one 3 (.early 4 (.early 5 (.early 6 (.one 9 (.one 10 .done))))))) 7 (.one 2 (.one 3 (.early 4 (.early 5 (.early 6 (.one 9 (.one 10 .done))))))))))) ?_)|(refine wo_ (id:=19) [0,1] [(0,true),(1,true),(2,true),(3,false),(4,false)] ?_)|(refine nilC_ 5 5 118 3 (by simp [nilAt,St.ob,cellOb,List.lookup_cons]) ?_;refine nm_ ?_;refine lpK_ (ι:=Nat × FaultD × List TaintD) [] [1,2,3,5,6,7] 0xe000003c (fun ⟨i,f,o⟩=> [(31,.sc (.int .i64 (i:Int)))]) (fun ⟨i,f,o⟩=> [(2,⟨125,10,1, [.sc (.int .i64 t.kind),.sc (.bool t.flag),.sc (.int .i64 t.num),.sc (.string t.text),.sl t.keys.length (strsD t.keys),.sl t.kids.length (treesD t.kids),.sc (.string ⟨#[]⟩),.sc (.int .i64 (f).code),.sc (.int .i64 (f).at_),.sc (.string (f).path)]⟩),(3,⟨63,6,1, [.sc (.string b.1),.own 4 0 c.1.length,.sc (.int .i64 c2.1),.sc (.int .i64 e.1),.sc (.int .i64 s.1),.own 5 0 o.length]⟩),(5,⟨118,3,(o).length,taintsD (o)⟩)]) (fun ⟨i,f,o⟩=>i≤l.1.length∧TnI wTaints l.1 l.2 i o f) (fun ⟨i,f,o⟩=>l.1.length - i) (0,l.2, []) ?_ ?_;(focus (exact ⟨Nat.zero_le _,tnI_0 _ _ _⟩));rintro _ hN0 ⟨i,f,o⟩ hinv;(try dsimp only at hinv);obtain ⟨hi,hE⟩:=hinv;have hol1:o.length≤i:=hE.len;replace hE:=Lib.hid hE;have hx:i < l.1.length→TFine (l.1.getD i default):=fun h=>hlf.out _ (getD_mem h);have hqz:=pathP_sz (p:=wTaints) (i:=i) (by omega);have hwt:wTaints.size=6:=rfl;skip))|((with_reducible show Wk (boolK _ _ _ _));first|(refine bk_ (fun h h'=>?_) (fun h h'=>?_)))|((with_reducible show Wk (_∧_));first|(refine and_ ?_ ?_))|((with_reducible show Wk (retOkH _ _ _ _ _));first|(refine rh_ [] ?_;refine nm_ ?_;fail_if_success (show Wk False))|(refine rh_ [4,6] ?_;refine nm_ ?_;fail_if_success (show Wk False)))|(refine hN0.run ((i+1,(taintM (l.1.getD i default) (pathP wTaints (i:Int))).2,o ++ [(taintM (l.1.getD i default) (pathP wTaints (i:Int))).1])) [] [0,1,2,3,4,10] ?_ ?_;(focus (exact ⟨by show i+1≤_;omega,hE.out.step (by omega) (by omega) rfl⟩));(focus (show l.1.length - (i+1) < l.1.length - i;omega)))|(refine hN0.run ((i+1,f,o)) [] [0,1,2,3,4,5] ?_ ?_;(focus (exact ⟨by show i+1≤_;omega,hE.out.keep (by omega)⟩));(focus (show l.1.length - (i+1) < l.1.length - i;omega)))|fail)<;>(try refine nm_ ?_))
  all_goals clear ex0 ex1 ex2 ex3 ex4 ex5 ex6 ex7
  all_goals (refine ⟨?_⟩)
  all_goals first|contradiction|(exfalso;omega)|(have e9:=hostC hA.out hF.out hS.out hL.out hE.out (by omega) (by assumption);first|exact hi_no e9.1 e9.2|(exfalso;omega))|(exact hi_no (host_1 hA.out hF.out hS.out hL.out hE.out (by omega)) (by omega))|(exact hi_yes ((host_all hA.out hF.out hS.out hL.out hE.out (by omega) (by omega)).2 (by assumption)))|(have e9:=hostC (o:= []) (i:=0) hA.out hF.out hS.out hL.out (tnI_0 _ _ _) (by omega) (by assumption);first|exact hi_no e9.1 e9.2|(exfalso;omega))|(exact hi_no (host_1 (o:= []) (i:=0) hA.out hF.out hS.out hL.out (tnI_0 _ _ _) (by omega)) (by omega))|(have e8:=(l_nil hce hS.out hL.out).2;rw [← e8] at hce;exfalso;omega)
end Go.Proofs.YtidjjfjhmlndjaaGreatDoor
