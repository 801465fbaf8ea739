/- Ho7 (what is wanted of them). -/
import Derived.Test.YtidjjfjhmlndjaaGreatDoorVHo6
import Derived.Test.YtidjjfjhmlndjaaGreatDoorVNt1
import Derived.Test.YtidjjfjhmlndjaaGreatDoorVMk2
import Derived.Test.YtidjjfjhmlndjaaGreatDoorVCl8
namespace Go.Proofs.YtidjjfjhmlndjaaGreatDoor
open Go.RowKit
set_option linter.unusedVariables false
set_option linter.unusedSimpArgs false
set_option maxRecDepth 100000
set_option maxHeartbeats 40000000
theorem srtTnt_small {o:List TaintD} (h:(srtTnt o).2=true):(srtTnt o).1.length≤4:=by
  unfold srtTnt at h ⊢
  split at h
  · cases h
  · rename_i h1
    split at h
    · rename_i h2
      rw [if_neg h1,if_pos h2]
      unfold taintsB at h2
      rw [Bool.and_eq_true] at h2
      exact of_decide_eq_true h2.1
    · cases h
theorem host_or (t:TreeD):(∃ x:HostD,hostF t=noF∧hostV t=x∧x.labels.length≤6∧x.taints.length≤4)∨∃ f:FaultD,hostF t=f∧¬ f.code=0:=by
  by_cases k:(hostF t).code=0
  · refine .inl ⟨_,flt_zero _ (hostF_ok t) k,rfl,labsF_len _ _,?_⟩
    unfold hostF at k
    iterate 5 (split at k;(exact absurd k (by assumption)))
    split at k
    · rename_i hs
      exact srtTnt_small hs
    · exact absurd k (nzF 16 _)
  · exact .inr ⟨_,rfl,k⟩
theorem SpecH.imp {P:Program}{f:FuncId}{ds:List D}{os:List (Nat × Ob)}{k:Nat}{Q Q':D→List (Nat × Ob)→Nat→Prop} (h:SpecH P f ds os k Q) (hq:∀ d os' nb',Q d os' nb'→Q' d os' nb'):SpecH P f ds os k Q':=
  ⟨h.1,fun E M w args h1 h2 h3=>(h.2 E M w args h1 h2 h3).mono fun _ _ ⟨d,os',nb',E',u,h4,h5⟩=>⟨d,os',nb',E',u,hq _ _ _ h4,h5⟩⟩
theorem impl_HostIn_A (t:TreeD) (hf:TFine t) {x:HostD} (e1:hostF t=noF) (e2:hostV t=x):SpecH Tryz.prog 29 [.agg (treeC t)] [] 0 (fun d os' nb'=>d = .tup [.agg [.sc (.string x.name),.own 0 0 x.labels.length,.sc (.int .i64 x.cpu),.sc (.int .i64 x.mem),.sc (.int .i64 x.slots),.own 1 0 x.taints.length],.agg [.sc (.int .i64 0),.sc (.int .i64 0),.sc (.string ⟨#[]⟩)]]∧os' = [(0,⟨217,2,x.labels.length,labelsD x.labels⟩),(1,⟨118,3,x.taints.length,taintsD x.taints⟩)]∧nb' = 2):=(impl_HostIn_O t hf).sub.imp fun d os' nb' hq=>by
  rcases hq with ⟨_,h1,h2,h3⟩|⟨hc,_⟩
  · subst e2;exact ⟨h1,h2,h3⟩
  · exact absurd (by rw [e1];rfl) hc
theorem impl_HostIn_B (t:TreeD) (hf:TFine t) {f:FaultD} (e1:hostF t=f) (hc:¬ f.code=0):SpecH Tryz.prog 29 [.agg (treeC t)] [] 0 (fun d os' nb'=>d = .tup [.agg [.sc (.string ⟨#[]⟩),.sc (.slice none 0 0),.sc (.int .i64 0),.sc (.int .i64 0),.sc (.int .i64 0),.sc (.slice none 0 0)],.agg [.sc (.int .i64 (f).code),.sc (.int .i64 (f).at_),.sc (.string (f).path)]]∧os' = []∧nb' = 0):=(impl_HostIn_O t hf).sub.imp fun d os' nb' hq=>by
  rcases hq with ⟨h0,_⟩|⟨_,h1,h2,h3⟩
  · exact absurd (by rw [← e1,h0];rfl) hc
  · rw [e1] at h1
    exact ⟨h1,h2,h3⟩
theorem spec_HostIn_A (t:TreeD) (hf:TFine t) {x:HostD} (e1:hostF t=noF) (e2:hostV t=x):Spec Tryz.prog 27 [.agg (treeC t)] (fun d=>d = .tup [.agg [.sc (.string x.name),.sl x.labels.length (labelsD x.labels),.sc (.int .i64 x.cpu),.sc (.int .i64 x.mem),.sc (.int .i64 x.slots),.sl x.taints.length (taintsD x.taints)],.agg [.sc (.int .i64 0),.sc (.int .i64 0),.sc (.string ⟨#[]⟩)]]):=(spec_HostIn_K t hf).mono fun d hq=>by
  unfold HoP hostW at hq
  rw [e1,if_pos noF_code,e2] at hq
  exact hq
theorem spec_HostIn_B (t:TreeD) (hf:TFine t) {f:FaultD} (e1:hostF t=f) (hc:¬ f.code=0):Spec Tryz.prog 27 [.agg (treeC t)] (fun d=>d = .tup [.agg [.sc (.string ⟨#[]⟩),.sl 0 [],.sc (.int .i64 0),.sc (.int .i64 0),.sc (.int .i64 0),.sl 0 []],.agg [.sc (.int .i64 (f).code),.sc (.int .i64 (f).at_),.sc (.string (f).path)]]):=(spec_HostIn_K t hf).mono fun d hq=>by
  unfold HoP hostW at hq
  rw [e1,if_neg hc] at hq
  exact hq
theorem eqHost_h (x:HostD) (hl:x.labels.length≤6) (ht:x.taints.length≤4):Spec Tryz.prog 30 [.agg [.sc (.string x.name),.sl x.labels.length (labelsD x.labels),.sc (.int .i64 x.cpu),.sc (.int .i64 x.mem),.sc (.int .i64 x.slots),.sl x.taints.length (taintsD x.taints)],.agg [.sc (.string x.name),.sl x.labels.length (labelsD x.labels),.sc (.int .i64 x.cpu),.sc (.int .i64 x.mem),.sc (.int .i64 x.slots),.sl x.taints.length (taintsD x.taints)]] (fun d=>d = .sc (.bool true)):=laws_eqHost_D x ⟨by omega,by omega⟩
theorem markHost_K (x:HostD) (hl:x.labels.length≤6) (ht:x.taints.length≤4):SpecH Tryz.prog 33 [.agg [.sc (.string x.name),.own 0 0 x.labels.length,.sc (.int .i64 x.cpu),.sc (.int .i64 x.mem),.sc (.int .i64 x.slots),.own 1 0 x.taints.length],.sc (.int .i64 1)] [(0,⟨217,2,x.labels.length,labelsD x.labels⟩),(1,⟨118,3,x.taints.length,taintsD x.taints⟩)] 2 (fun d os' nb'=>d = .sc (.int .i64 ((1+2*(x.labels.length:Int))+3*(x.taints.length:Int)))∧os' = [(0,⟨217,2,x.labels.length,labelsD (mkL x.labels.length 1)⟩),(1,⟨118,3,x.taints.length,taintsD (mkT x.taints.length (1+2*(x.labels.length:Int)))⟩)]∧nb' = 2):=by
  refine spH_ (rs:= [.tmp 4]) (nt:=14) Tryz.func33 rfl fun X hX=>?_
  refine nm_ ?_
  repeat' ((first|contradiction|(with_reducible exact tt_)|((with_reducible show Wk (AwStepF _ _ _ _ _ _ _));first|(refine awH_ rfl (laws_markLabelS_D x.labels 1 (by decide) (by decide) (by omega)) [0] ?_;rintro _ _ _ ⟨rfl,rfl,rfl⟩ _)|(refine awH_ rfl (laws_markTaintS_D x.taints (1+2*(x.labels.length:Int)) (by omega) (by omega) (by omega)) [1] ?_;rintro _ _ _ ⟨rfl,rfl,rfl⟩ _))|((with_reducible show Wk (AwStep _ _ _ _ _));first|(refine pln_ ?_))|((with_reducible show Wk (boolK _ _ _ _));first|(refine bk_ (fun h h'=>?_) (fun h h'=>?_)))|((with_reducible show Wk (_∧_));first|(refine and_ ?_ ?_))|((with_reducible show Wk (retOkH _ _ _ _ _));first|(refine rh_ [] ?_))|fail)<;>(try refine nm_ ?_))
  all_goals (refine ⟨?_⟩)
  all_goals first|contradiction|exact ⟨rfl,rfl,rfl⟩|exact ⟨rfl,rfl⟩|rfl
theorem heldHost_K (x:HostD) (hl:x.labels.length≤6) (ht:x.taints.length≤4):Spec Tryz.prog 34 [.agg [.sc (.string x.name),.sl x.labels.length (labelsD (mkL x.labels.length 1)),.sc (.int .i64 x.cpu),.sc (.int .i64 x.mem),.sc (.int .i64 x.slots),.sl x.taints.length (taintsD (mkT x.taints.length (1+2*(x.labels.length:Int))))],.sc (.int .i64 1)] (fun d=>d = .sc (.int .i64 ((1+2*(x.labels.length:Int))+3*(x.taints.length:Int)))):=by
  refine sp_ (rs:= [.tmp 4]) (nt:=18) Tryz.func34 rfl fun X hX=>?_
  refine nm_ ?_
  repeat' ((first|contradiction|(with_reducible exact tt_)|((with_reducible show Wk (AwStepF _ _ _ _ _ _ _));first|(refine cl_ rfl _ _ (laws_heldLabelS_D x.labels.length 1 (by decide) (by decide) (by omega)) rfl rfl ?_;rintro _ rfl)|(refine cl_ rfl _ _ (laws_heldTaintS_D x.taints.length (1+2*(x.labels.length:Int)) (by omega) (by omega) (by omega)) rfl rfl ?_;rintro _ rfl))|((with_reducible show Wk (AwStep _ _ _ _ _));first|(refine pln_ ?_))|((with_reducible show Wk (boolK _ _ _ _));first|(refine bk_ (fun h h'=>?_) (fun h h'=>?_)))|((with_reducible show Wk (_∧_));first|(refine and_ ?_ ?_))|fail)<;>(try refine nm_ ?_))
  all_goals (refine ⟨?_⟩)
  all_goals first|contradiction|rfl|(exfalso;omega)
theorem markLabelS_nil :Spec Tryz.prog 86 [.sc (.slice none 0 0),.sc (.int .i64 1)] (fun d=>d = .sc (.int .i64 1)):=by
  refine sp_ (rs:= [.tmp 4]) (nt:=29) Tryz.func86 rfl fun X hX=>?_
  refine nm_ ?_
  repeat' ((first|contradiction|(with_reducible exact tt_)|((with_reducible show Wk (AwStep _ _ _ _ _));first|(refine pln_ ?_))|((with_reducible show Wk (AwCode _ _ _ _ _));first|(refine lpU_ 0x23 (ι:=Nat) (fun k=> [(1,.sc (.int .i64 1)),(5,.sc (.int .i64 (k:Int)))]) (fun k=>k≤0) (fun k=>0 - k) 0 ?_ ?_;(focus (omega));rintro _ hN0 k hinv;(try dsimp only at hinv);have hk:k≤0:=hinv;skip))|((with_reducible show Wk (boolK _ _ _ _));first|(refine bk_ (fun h h'=>?_) (fun h h'=>?_)))|((with_reducible show Wk (_∧_));first|(refine and_ ?_ ?_))|(refine hN0.go (k+1) ?_ ?_;(focus (show k+1≤0;omega));(focus (show 0 - (k+1) < 0 - k;omega)))|fail)<;>(try refine nm_ ?_))
  all_goals (refine ⟨?_⟩)
  all_goals first|contradiction|rfl|(exfalso;omega)
theorem heldLabelS_nil :Spec Tryz.prog 88 [.sc (.slice none 0 0),.sc (.int .i64 1)] (fun d=>d = .sc (.int .i64 1)):=by
  refine sp_ (rs:= [.tmp 4]) (nt:=33) Tryz.func88 rfl fun X hX=>?_
  refine nm_ ?_
  repeat' ((first|contradiction|(with_reducible exact tt_)|((with_reducible show Wk (AwStep _ _ _ _ _));first|(refine pln_ ?_))|((with_reducible show Wk (AwCode _ _ _ _ _));first|(refine wo_ (id:=4) [] [(0,true),(1,true),(2,true),(3,true),(4,true),(5,true),(6,false),(7,true)] ?_)|(refine wo_ (id:=7) [] [(0,true),(1,true),(2,true),(3,true),(4,true),(5,true),(6,false),(7,true)] ?_)|(refine lpU_ 0x23 (ι:=Nat) (fun k=> [(1,.sc (.int .i64 1)),(5,.sc (.int .i64 (k:Int)))]) (fun k=>k≤0) (fun k=>0 - k) 0 ?_ ?_;(focus (omega));rintro _ hN0 k hinv;(try dsimp only at hinv);have hk:k≤0:=hinv;skip))|((with_reducible show Wk (boolK _ _ _ _));first|(refine bk_ (fun h h'=>?_) (fun h h'=>?_)))|((with_reducible show Wk (_∧_));first|(refine and_ ?_ ?_))|(refine hN0.go (k+1) ?_ ?_;(focus (show k+1≤0;omega));(focus (show 0 - (k+1) < 0 - k;omega)))|fail)<;>(try refine nm_ ?_))
  all_goals (refine ⟨?_⟩)
  all_goals first|contradiction|rfl|(exfalso;omega)
theorem markTaintS_nil :Spec Tryz.prog 87 [.sc (.slice none 0 0),.sc (.int .i64 1)] (fun d=>d = .sc (.int .i64 1)):=by
  refine sp_ (rs:= [.tmp 4]) (nt:=36) Tryz.func87 rfl fun X hX=>?_
  refine nm_ ?_
  repeat' ((first|contradiction|(with_reducible exact tt_)|((with_reducible show Wk (AwStep _ _ _ _ _));first|(refine pln_ ?_))|((with_reducible show Wk (AwCode _ _ _ _ _));first|(refine lpU_ 0x23 (ι:=Nat) (fun k=> [(1,.sc (.int .i64 1)),(5,.sc (.int .i64 (k:Int)))]) (fun k=>k≤0) (fun k=>0 - k) 0 ?_ ?_;(focus (omega));rintro _ hN0 k hinv;(try dsimp only at hinv);have hk:k≤0:=hinv;skip))|((with_reducible show Wk (boolK _ _ _ _));first|(refine bk_ (fun h h'=>?_) (fun h h'=>?_)))|((with_reducible show Wk (_∧_));first|(refine and_ ?_ ?_))|(refine hN0.go (k+1) ?_ ?_;(focus (show k+1≤0;omega));(focus (show 0 - (k+1) < 0 - k;omega)))|fail)<;>(try refine nm_ ?_))
  all_goals (refine ⟨?_⟩)
  all_goals first|contradiction|rfl|(exfalso;omega)
theorem heldTaintS_nil :Spec Tryz.prog 89 [.sc (.slice none 0 0),.sc (.int .i64 1)] (fun d=>d = .sc (.int .i64 1)):=by
  refine sp_ (rs:= [.tmp 4]) (nt:=42) Tryz.func89 rfl fun X hX=>?_
  refine nm_ ?_
  repeat' ((first|contradiction|(with_reducible exact tt_)|((with_reducible show Wk (AwStep _ _ _ _ _));first|(refine pln_ ?_))|((with_reducible show Wk (AwCode _ _ _ _ _));first|(refine wo_ (id:=4) [] [(0,true),(1,true),(2,true),(3,true),(4,true),(5,true),(6,false),(7,true)] ?_)|(refine wo_ (id:=7) [] [(0,true),(1,true),(2,true),(3,true),(4,true),(5,true),(6,false),(7,true)] ?_)|(refine lpU_ 0x23 (ι:=Nat) (fun k=> [(1,.sc (.int .i64 1)),(5,.sc (.int .i64 (k:Int)))]) (fun k=>k≤0) (fun k=>0 - k) 0 ?_ ?_;(focus (omega));rintro _ hN0 k hinv;(try dsimp only at hinv);have hk:k≤0:=hinv;skip))|((with_reducible show Wk (boolK _ _ _ _));first|(refine bk_ (fun h h'=>?_) (fun h h'=>?_)))|((with_reducible show Wk (_∧_));first|(refine and_ ?_ ?_))|(refine hN0.go (k+1) ?_ ?_;(focus (show k+1≤0;omega));(focus (show 0 - (k+1) < 0 - k;omega)))|fail)<;>(try refine nm_ ?_))
  all_goals (refine ⟨?_⟩)
  all_goals first|contradiction|rfl|(exfalso;omega)
theorem eqLabelS_nil :Spec Tryz.prog 84 [.sc (.slice none 0 0),.sl 0 []] (fun d=>d = .sc (.bool true)):=by
  have ex0:=@eqB_refl
  refine sp_ (rs:= [.tmp 4]) (nt:=27) Tryz.func84 rfl fun X hX=>?_
  refine nm_ ?_
  repeat' ((first|contradiction|(with_reducible exact tt_)|((with_reducible show Wk (AwStep _ _ _ _ _));first|(refine pln_ ?_))|((with_reducible show Wk (AwCode _ _ _ _ _));first|(refine wo_ (id:=6) [] [(0,true),(1,true),(2,true),(3,true),(4,true),(5,true),(6,true),(7,true),(8,false),(9,true)] ?_)|(refine lpU_ 0x23 (ι:=Nat) (fun k=> [(5,.sc (.int .i64 (k:Int)))]) (fun k=>k≤0) (fun k=>0 - k) 0 ?_ ?_;(focus (omega));rintro _ hN0 k hinv;(try dsimp only at hinv);have hk:k≤0:=hinv;skip))|((with_reducible show Wk (boolK _ _ _ _));first|(refine bk_ (fun h h'=>?_) (fun h h'=>?_)))|((with_reducible show Wk (_∧_));first|(refine and_ ?_ ?_))|(refine hN0.go (k+1) ?_ ?_;(focus (show k+1≤0;omega));(focus (show 0 - (k+1) < 0 - k;omega)))|fail)<;>(try refine nm_ ?_))
  all_goals clear ex0
  all_goals (refine ⟨?_⟩)
  all_goals first|contradiction|rfl|(exfalso;omega)
theorem eqTaintS_nil :Spec Tryz.prog 85 [.sc (.slice none 0 0),.sl 0 []] (fun d=>d = .sc (.bool true)):=by
  have ex0:=@eqB_refl
  refine sp_ (rs:= [.tmp 4]) (nt:=27) Tryz.func85 rfl fun X hX=>?_
  refine nm_ ?_
  repeat' ((first|contradiction|(with_reducible exact tt_)|((with_reducible show Wk (AwStep _ _ _ _ _));first|(refine pln_ ?_))|((with_reducible show Wk (AwCode _ _ _ _ _));first|(refine wo_ (id:=6) [] [(0,true),(1,true),(2,true),(3,true),(4,true),(5,true),(6,true),(7,true),(8,false),(9,true)] ?_)|(refine lpU_ 0x23 (ι:=Nat) (fun k=> [(5,.sc (.int .i64 (k:Int)))]) (fun k=>k≤0) (fun k=>0 - k) 0 ?_ ?_;(focus (omega));rintro _ hN0 k hinv;(try dsimp only at hinv);have hk:k≤0:=hinv;skip))|((with_reducible show Wk (boolK _ _ _ _));first|(refine bk_ (fun h h'=>?_) (fun h h'=>?_)))|((with_reducible show Wk (_∧_));first|(refine and_ ?_ ?_))|(refine hN0.go (k+1) ?_ ?_;(focus (show k+1≤0;omega));(focus (show 0 - (k+1) < 0 - k;omega)))|fail)<;>(try refine nm_ ?_))
  all_goals clear ex0
  all_goals (refine ⟨?_⟩)
  all_goals first|contradiction|rfl|(exfalso;omega)
theorem eqHost_z :Spec Tryz.prog 30 [.agg [.sc (.string ⟨#[]⟩),.sc (.slice none 0 0),.sc (.int .i64 0),.sc (.int .i64 0),.sc (.int .i64 0),.sc (.slice none 0 0)],.agg [.sc (.string ⟨#[]⟩),.sl 0 [],.sc (.int .i64 0),.sc (.int .i64 0),.sc (.int .i64 0),.sl 0 []]] (fun d=>d = .sc (.bool true)):=by
  have ex0:=@eqB_refl
  refine sp_ (rs:= [.tmp 4]) (nt:=37) Tryz.func30 rfl fun X hX=>?_
  refine nm_ ?_
  repeat' ((first|contradiction|(with_reducible exact tt_)|((with_reducible show Wk (AwStepF _ _ _ _ _ _ _));first|(refine cl_ rfl _ _ (eqLabelS_nil) rfl rfl ?_;rintro _ rfl)|(refine cl_ rfl _ _ (eqTaintS_nil) rfl rfl ?_;rintro _ rfl))|((with_reducible show Wk (AwStep _ _ _ _ _));first|(refine pln_ ?_))|((with_reducible show Wk (boolK _ _ _ _));first|(refine bk_ (fun h h'=>?_) (fun h h'=>?_)))|((with_reducible show Wk (_∧_));first|(refine and_ ?_ ?_))|fail)<;>(try refine nm_ ?_))
  all_goals clear ex0
  all_goals (refine ⟨?_⟩)
  all_goals first|contradiction|rfl|(exfalso;omega)
theorem markHost_nil :Spec Tryz.prog 33 [.agg [.sc (.string ⟨#[]⟩),.sc (.slice none 0 0),.sc (.int .i64 0),.sc (.int .i64 0),.sc (.int .i64 0),.sc (.slice none 0 0)],.sc (.int .i64 1)] (fun d=>d = .sc (.int .i64 1)):=by
  refine sp_ (rs:= [.tmp 4]) (nt:=14) Tryz.func33 rfl fun X hX=>?_
  refine nm_ ?_
  repeat' ((first|contradiction|(with_reducible exact tt_)|((with_reducible show Wk (AwStepF _ _ _ _ _ _ _));first|(refine cl_ rfl _ _ (markLabelS_nil) rfl rfl ?_;rintro _ rfl)|(refine cl_ rfl _ _ (markTaintS_nil) rfl rfl ?_;rintro _ rfl))|((with_reducible show Wk (AwStep _ _ _ _ _));first|(refine pln_ ?_))|((with_reducible show Wk (boolK _ _ _ _));first|(refine bk_ (fun h h'=>?_) (fun h h'=>?_)))|((with_reducible show Wk (_∧_));first|(refine and_ ?_ ?_))|fail)<;>(try refine nm_ ?_))
  all_goals (refine ⟨?_⟩)
  all_goals first|contradiction|rfl|(exfalso;omega)
theorem heldHost_nil :Spec Tryz.prog 34 [.agg [.sc (.string ⟨#[]⟩),.sc (.slice none 0 0),.sc (.int .i64 0),.sc (.int .i64 0),.sc (.int .i64 0),.sc (.slice none 0 0)],.sc (.int .i64 1)] (fun d=>d = .sc (.int .i64 1)):=by
  refine sp_ (rs:= [.tmp 4]) (nt:=18) Tryz.func34 rfl fun X hX=>?_
  refine nm_ ?_
  repeat' ((first|contradiction|(with_reducible exact tt_)|((with_reducible show Wk (AwStepF _ _ _ _ _ _ _));first|(refine cl_ rfl _ _ (heldLabelS_nil) rfl rfl ?_;rintro _ rfl)|(refine cl_ rfl _ _ (heldTaintS_nil) rfl rfl ?_;rintro _ rfl))|((with_reducible show Wk (AwStep _ _ _ _ _));first|(refine pln_ ?_))|((with_reducible show Wk (boolK _ _ _ _));first|(refine bk_ (fun h h'=>?_) (fun h h'=>?_)))|((with_reducible show Wk (_∧_));first|(refine and_ ?_ ?_))|fail)<;>(try refine nm_ ?_))
  all_goals (refine ⟨?_⟩)
  all_goals first|contradiction|rfl|(exfalso;omega)
theorem markTree_K (t:TreeD) (hf:TFine t) (hb:(treeN t:Int)≤1048577):SpecH Tryz.prog 32 [.agg [.sc (.int .i64 t.kind),.sc (.bool t.flag),.sc (.int .i64 t.num),.sc (.string t.text),.own 0 0 t.keys.length,.own 1 0 t.kids.length],.sc (.int .i64 1)] [(0,⟨9,1,t.keys.length,strsD t.keys⟩),(1,⟨67,6,t.kids.length,treesT t.kids⟩)] 2 (fun d os' nb'=>∃ (k1:Int) (zs:List ByteArray) (ys:List TreeD),(1≤k1∧zs.length=t.keys.length∧ys.length=t.kids.length)∧d = .sc (.int .i64 k1)∧os' = [(0,⟨9,1,t.keys.length,strsD zs⟩),(1,⟨67,6,t.kids.length,treesT ys⟩)]∧nb' = 2):=by
  have hk:=hf.keys;have hc:=hf.kids;have he:=treeN_eq t
  refine spH_ (rs:= [.tmp 4]) (nt:=14) Tryz.func32 rfl fun X hX=>?_
  refine nm_ ?_
  repeat' ((first|contradiction|(with_reducible exact tt_)|((with_reducible show Wk (AwStepF _ _ _ _ _ _ _));first|(refine awH_ rfl (laws_markStringS_D t.keys 1 (by decide) (by decide) (by omega)) [0] ?_;rintro _ _ _ ⟨rfl,rfl,rfl⟩ _)|(refine awH_ rfl (laws_markTreeS_D t.kids (1+1*(t.keys.length:Int)) (by omega) (by omega) hc (fun x hx=>hf.mem hx)) [1] ?_;rintro _ _ _ ⟨k1,ys,⟨hk1,hk2,hys⟩,rfl,rfl,rfl⟩ _))|((with_reducible show Wk (AwStep _ _ _ _ _));first|(refine pln_ ?_))|((with_reducible show Wk (boolK _ _ _ _));first|(refine bk_ (fun h h'=>?_) (fun h h'=>?_)))|((with_reducible show Wk (_∧_));first|(refine and_ ?_ ?_))|((with_reducible show Wk (retOkH _ _ _ _ _));first|(refine rh_ [] ?_))|fail)<;>(try refine nm_ ?_))
  all_goals (refine ⟨?_⟩)
  all_goals first|contradiction|(exact ⟨_,_,_,⟨by omega,mkW_len _ _,hys⟩,rfl,rfl,rfl⟩)|(exact ⟨_,_,_,⟨by omega,mkW_len _ _,hys⟩,rfl,rfl⟩)
set_option maxHeartbeats 20000000 in
theorem lawHostIn_A (t:TreeD) (hr:TRaw t):Spec Tryz.prog 5 [.agg (treeC t)] (fun d=>d = .sc (.bool true)):=by
  unfold treeC
  have ex0:=@treeC.eq_1
  refine sp_ (rs:= [.tmp 2]) (nt:=99) Tryz.func5 rfl fun X hX=>?_
  refine nm_ ?_
  repeat' ((first|contradiction|(with_reducible exact tt_)|((with_reducible show Wk (AwStepF _ _ _ _ _ _ _));first|(refine cl_ rfl _ _ (eqHost_z) rfl rfl ?_;rintro _ rfl)|(refine cl_ rfl _ _ (markHost_nil) rfl rfl ?_;rintro _ rfl)|(refine cl_ rfl _ _ (heldHost_nil) rfl rfl ?_;rintro _ rfl)|(refine cl_ rfl _ _ (laws_eqFault_D noF) rfl rfl ?_;rintro _ rfl)|(refine cl_ rfl _ _ (laws_eqFault_D f) rfl rfl ?_;rintro _ rfl)|(refine cl_ rfl _ _ (sz_all t hr 1048576 (by decide) (by decide)) rfl rfl ?_;rintro _ ⟨r2,rfl,ha2,hb2,hc2⟩;((by_cases hneg2:r2 < 0;rotate_left;(obtain ⟨hlf,htn⟩:=hc2 (by omega);have hkz:=hlf.keys;have hcz:=hlf.kids;replace hlf:=Lib.hid hlf;(rcases host_or t with ⟨x,hN,hV,hhl,hht⟩|⟨f,hN,hc⟩<;>(replace hN:=Lib.hid hN)<;>(try replace hV:=Lib.hid hV)));rotate_left)))|(refine awH_ rfl (to_all t hlf.out) [] ?_;rintro _ _ _ ⟨rfl,rfl,rfl⟩ _)|(refine awH_ rfl (markTree_K t hlf.out (by omega)) [5,6] ?_;rintro _ _ _ ⟨k1,zs,ys,⟨hk1,hzs,hys⟩,rfl,rfl,rfl⟩ _)|(refine awH_ rfl (markHost_K x hhl hht) [8,9] ?_;rintro _ _ _ ⟨rfl,rfl,rfl⟩ _)|(refine bo_ rfl [.cool 8,.frz 8,.cool 9,.frz 9] (eqHost_h x hhl hht) ?_;rintro _ rfl;refine ⟨rfl,?_⟩)|(refine bo_ rfl [.cool 16,.frz 16,.cool 17,.frz 17] (eqHost_h x hhl hht) ?_;rintro _ rfl;refine ⟨rfl,?_⟩)|(refine bo_ rfl [.cool 5,.frz 5,.cool 6,.frz 6,.cool 12,.frz 12,.cool 13,.frz 13] (eq_all t hlf.out) ?_;rintro _ rfl;refine ⟨rfl,?_⟩)|(refine bo_ rfl [.cool 5,.frz 5,.cool 6,.frz 6,.cool 10,.frz 10,.cool 11,.frz 11] (eq_all t hlf.out) ?_;rintro _ rfl;refine ⟨rfl,?_⟩)|(refine bo_ rfl [.cool 8,.frz 8,.cool 9,.frz 9] (heldHost_K x hhl hht) ?_;rintro _ rfl;refine ⟨rfl,?_⟩)|(refine boH_ rfl [.cool 5,.frz 5,.cool 6,.frz 6] (impl_HostIn_A t hlf.out hN.out hV.out) ?_;rintro _ _ _ ⟨rfl,rfl,rfl⟩;refine ⟨⟨rfl,dryO_⟩,?_⟩)|(refine boH_ rfl [.cool 5,.frz 5,.cool 6,.frz 6] (impl_HostIn_B t hlf.out hN.out hc) ?_;rintro _ _ _ ⟨rfl,rfl,rfl⟩;refine ⟨⟨rfl,dryO_⟩,?_⟩)|(refine boH_ rfl [.cool 14,.frz 14,.cool 15,.frz 15] (impl_HostIn_A t hlf.out hN.out hV.out) ?_;rintro _ _ _ ⟨rfl,rfl,rfl⟩;refine ⟨⟨rfl,dryO_⟩,?_⟩)|(refine boH_ rfl [.cool 12,.frz 12,.cool 13,.frz 13] (impl_HostIn_B t hlf.out hN.out hc) ?_;rintro _ _ _ ⟨rfl,rfl,rfl⟩;refine ⟨⟨rfl,dryO_⟩,?_⟩))|((with_reducible show Wk (AwStep _ _ _ _ _));first|(refine gpp_ [.cool 1,.frz 1,.cool 2,.frz 2] ?_;refine pln_ ?_;refine nm_ ?_;refine cl_ rfl _ _ (spec_HostIn_A t hlf.out hN.out hV.out) rfl rfl ?_;rintro _ rfl)|(refine gpp_ [.cool 1,.frz 1,.cool 2,.frz 2] ?_;refine pln_ ?_;refine nm_ ?_;refine cl_ rfl _ _ (spec_HostIn_B t hlf.out hN.out hc) rfl rfl ?_;rintro _ rfl)|(refine pln_ ?_))|((with_reducible show Wk (AwCode _ _ _ _ _));first|(refine wo_ (id:=10) [] [(0,true),(1,true),(2,false),(3,false),(4,true)] ?_))|((with_reducible show Wk (boolK _ _ _ _));first|(refine bk_ (fun h h'=>?_) (fun h h'=>?_)))|((with_reducible show Wk (_∧_));first|(refine and_ ?_ ?_))|fail)<;>(try refine nm_ ?_))
  all_goals clear ex0
  all_goals (refine ⟨?_⟩)
  all_goals first|contradiction|rfl|(exfalso;omega)
end Go.Proofs.YtidjjfjhmlndjaaGreatDoor
