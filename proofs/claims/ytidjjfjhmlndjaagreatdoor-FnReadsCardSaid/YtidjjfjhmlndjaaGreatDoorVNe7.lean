/- Ne7 (what is wanted of them). -/
import Derived.Test.YtidjjfjhmlndjaaGreatDoorVNe6
namespace Go.Proofs.YtidjjfjhmlndjaaGreatDoor
open Go.RowKit
set_option linter.unusedVariables false
set_option linter.unusedSimpArgs false
set_option maxRecDepth 100000
set_option maxHeartbeats 4000000
theorem ndI {t:TreeD}{p:ByteArray}{f0:FaultD}{a b:ByteArray × FaultD}{c:List TreeD × FaultD} (hA:knownT t p [wKey,wOp,wValues]=f0) (hB:rText t p f0 wKey keyB=a) (hC:rText t p a.2 wOp (fun s=>decide (opW s≠0))=b) (hD:rList t p b.2 wValues=c):needM t p=needI3 t p a.1 (opW b.1) c.1 c.2:=by
  rw [← need_same]
  subst hA;subst hB;subst hC;subst hD
  rfl
section
variable {q:ByteArray}{l:List TreeD}{f R:FaultD}{i:Nat}
theorem vr_1 (h:valsR q f i (l.drop i)=R) (hi:i < l.length) (hk:(l.getD i default).kind=4) (hv:valueB (l.getD i default).text=true):valsR q f (i+1) (l.drop (i+1))=R:=by
  rw [getD_drop l hi,valsR,if_pos hv,if_pos hk] at h
  exact h
theorem vr_2 (h:valsR q f i (l.drop i)=R) (hi:i < l.length) (hk:¬ (l.getD i default).kind=4) (hv:valueB (l.getD i default).text=true):valsR q (rFail f 11 (pathP q (i:Int))) (i+1) (l.drop (i+1))=R:=by
  rw [getD_drop l hi,valsR,if_pos hv,if_neg hk] at h
  exact h
theorem vr_3 (h:valsR q f i (l.drop i)=R) (hi:i < l.length) (hk:(l.getD i default).kind=4) (hv:valueB (l.getD i default).text=false):valsR q (rFail f 14 (pathP q (i:Int))) (i+1) (l.drop (i+1))=R:=by
  rw [getD_drop l hi,valsR,if_neg (by rw [hv];decide),if_pos hk] at h
  exact h
theorem vr_4 (h:valsR q f i (l.drop i)=R) (hi:i < l.length) (hk:¬ (l.getD i default).kind=4) (hv:valueB (l.getD i default).text=false):valsR q (rFail (rFail f 11 (pathP q (i:Int))) 14 (pathP q (i:Int))) (i+1) (l.drop (i+1))=R:=by
  rw [getD_drop l hi,valsR,if_neg (by rw [hv];decide),if_neg hk] at h
  exact h
end
def ndQ (p k:ByteArray) (op:Int) (vs:List ByteArray) (f:FaultD):NeedD × FaultD:=
  let f2:=if decide (0 < vs.length)=(decide (op=1)||decide (op=2)) then f else rFail f 14 (pathK p wValues)
  let f3:=if 4 < vs.length then rFail f2 16 (pathK p wValues) else f2
  if f3.code=0 then (⟨k,op,vs⟩,noF) else (default,f3)
theorem ndI_z {t:TreeD}{p k:ByteArray}{op:Int}{l:List TreeD}{f0 f:FaultD}{o:List ByteArray}{i:Nat} (hi:l.length≤i) (hE:valsR (pathK p wValues) f i (l.drop i)=valsR (pathK p wValues) f0 0 l) (hO:o=textsOf (l.take i)):needI3 t p k op l f0=ndQ p k op (valsF o) f:=by
  rw [List.drop_of_length_le hi,valsR] at hE
  rw [List.take_of_length_le hi] at hO
  unfold needI3 ndQ
  rw [← hE,hO]
def ndR (k:ByteArray) (op:Int) (vs:List ByteArray) (f:FaultD):NeedD × FaultD:=if f.code=0 then (⟨k,op,vs⟩,noF) else (default,f)
section
variable {p k:ByteArray}{op:Int}{vs:List ByteArray}{f:FaultD}
theorem ndQ_a (hm:decide (0 < vs.length)=(decide (op=1)||decide (op=2))) (hl:¬ 4 < vs.length):ndQ p k op vs f=ndR k op vs f:=by unfold ndQ ndR;simp only [if_pos hm,if_neg hl]
theorem ndQ_b (hm:decide (0 < vs.length)=(decide (op=1)||decide (op=2))) (hl:4 < vs.length):ndQ p k op vs f=ndR k op vs (rFail f 16 (pathK p wValues)):=by unfold ndQ ndR;simp only [if_pos hm,if_pos hl]
theorem ndQ_c (hm:¬ decide (0 < vs.length)=(decide (op=1)||decide (op=2))) (hl:¬ 4 < vs.length):ndQ p k op vs f=ndR k op vs (rFail f 14 (pathK p wValues)):=by unfold ndQ ndR;simp only [if_neg hm,if_neg hl]
theorem ndQ_d (hm:¬ decide (0 < vs.length)=(decide (op=1)||decide (op=2))) (hl:4 < vs.length):ndQ p k op vs f=ndR k op vs (rFail (rFail f 14 (pathK p wValues)) 16 (pathK p wValues)):=by unfold ndQ ndR;simp only [if_neg hm,if_pos hl]
theorem castL (n:Nat):decide (0 < (n:Int))=decide (0 < n):=decide_eq_decide.2 (by omega)
theorem mY1 {n:Nat} (h1:op=1) (h:(decide (0 < (n:Int))==true)=true):decide (0 < n)=(decide (op=1)||decide (op=2)):=by
  rw [castL] at h
  rw [decide_eq_true h1,eq_of_beq h]
  rfl
theorem mY2 {n:Nat} (h1:¬ op=1) (h:(decide (0 < (n:Int))==(op==2))=true):decide (0 < n)=(decide (op=1)||decide (op=2)):=by
  rw [castL] at h
  rw [decide_eq_false h1,Bool.false_or,eq_of_beq h]
  rfl
theorem mN1 {n:Nat} (h1:op=1) (h:n=0):¬ decide (0 < n)=(decide (op=1)||decide (op=2)):=by
  subst h
  rw [decide_eq_true h1,Bool.true_or]
  decide
theorem mN2 {n:Nat} (h1:¬ op=1) (h:¬ decide (0 < (n:Int))=(op==2)):¬ decide (0 < n)=(decide (op=1)||decide (op=2)):=by
  rw [castL] at h
  rw [decide_eq_false h1,Bool.false_or]
  exact h
end
def nsP (r:List NeedD × FaultD) (d:D) (os':List (Nat × Ob)) (nb':Nat):Prop:=(r.2=noF∧d = .tup [.own 0 0 r.1.length,.agg [.sc (.int .i64 0),.sc (.int .i64 0),.sc (.string ⟨#[]⟩)]]∧os' = [(0,⟨103,3,r.1.length,needsT r.1⟩)]∧nb' = 1)∨(¬ r.2.code=0∧r.1 = []∧d = .tup [.sc (.slice none 0 0),.agg [.sc (.int .i64 (r.2).code),.sc (.int .i64 (r.2).at_),.sc (.string (r.2).path)]]∧os' = []∧nb' = 0)
theorem nsR_1 {r:List NeedD × FaultD}{f:FaultD} (e:r=([],f)) (hc:¬ f.code=0):nsP r (.tup [.sc (.slice none 0 0),.agg [.sc (.int .i64 (f).code),.sc (.int .i64 (f).at_),.sc (.string (f).path)]]) [] 0:=by
  subst e
  exact .inr ⟨hc,rfl,rfl,rfl,rfl⟩
theorem nsR_2 {r:List NeedD × FaultD}{p:ByteArray} (e:r=([],fltF 16 p)):nsP r (.tup [.sc (.slice none 0 0),.agg [.sc (.int .i64 16),.sc (.int .i64 0),.sc (.string p)]]) [] 0:=nsR_1 (f:=fltF 16 p) e (nzF 16 p)
theorem nsR_3 {r:List NeedD × FaultD}{x:List NeedD} (e:r=(x,noF)):nsP r (.tup [.own 0 0 x.length,.agg [.sc (.int .i64 0),.sc (.int .i64 0),.sc (.string ⟨#[]⟩)]]) [(0,⟨103,3,x.length,needsT x⟩)] 1:=by
  subst e
  exact .inl ⟨rfl,rfl,rfl,rfl⟩
theorem impl_NeedIn_X (t:TreeD) (p:ByteArray) (hf:TFine t) (hp:p.size≤2097152):Spec Tryz.prog 65 [.agg (treeC t),.sc (.string p)] (fun d=>((needM t p).2.code=0∧d = .tup [.agg [.sc (.string ((needM t p).1).key),.sc (.int .i64 ((needM t p).1).op),.sl ((needM t p).1).values.length (strsD ((needM t p).1).values)],.agg [.sc (.int .i64 0),.sc (.int .i64 0),.sc (.string ⟨#[]⟩)]])∨(¬ (needM t p).2.code=0∧d = .tup [.agg [.sc (.string ⟨#[]⟩),.sc (.int .i64 0),.sc (.slice none 0 0)],.agg [.sc (.int .i64 ((needM t p).2).code),.sc (.int .i64 ((needM t p).2).at_),.sc (.string ((needM t p).2).path)]])):=by
  have hps:(pathK p wValues).size≤2097160:=(by have:=path_sz p wValues;have e:wValues.size=6:=rfl;omega);unfold treeC
  refine spG_ (rs:= [.cell 4 103,.cell 5 46]) (nt:=92) Tryz.func65 rfl fun X hX=>?_
  refine nm_ ?_
  repeat' ((first|contradiction|(with_reducible exact tt_)|((with_reducible show Wk (AwStepF _ _ _ _ _ _ _));first|(refine cl_ rfl _ _ (opOf_K b.1) rfl rfl ?_;rintro _ rfl)|(refine cl_ rfl _ _ (impl_PathKey_D p wValues (by omega) (by decide)) rfl rfl ?_;rintro _ rfl)|(refine cl_ rfl _ _ (impl_PathPlace_D (pathK p wValues) i (by omega) (by omega)) rfl rfl ?_;rintro _ rfl)|(refine cl_ rfl _ _ (impl_LabelValueOk_D _) rfl rfl ?_;rintro _ rfl)|(refine app_ rfl ?_)|(refine afz_ [4] ?_;refine nm_ ?_;refine awH_ rfl (r_known_K t p noF hf (by omega) [wKey,wOp,wValues] (by decide)) [3] ?_;rintro _ _ _ ⟨rfl,rfl,rfl⟩ _;(generalize hA:knownT t p [wKey,wOp,wValues]=f0 at *;replace hA:=Lib.hid hA))|(refine awH_ rfl (r_text_K t p f0 hf (by omega) wKey (by decide) 127 [] keyB rfl (fun s _=>impl_LabelKeyOk_D s)) [3] ?_;rintro _ _ _ ⟨rfl,rfl,rfl⟩ _;(generalize hB:rText t p f0 wKey keyB=a at *;replace hB:=Lib.hid hB))|(refine awH_ rfl (r_text_K t p a.2 hf (by omega) wOp (by decide) 128 [] (fun s=>decide (opW s≠0)) rfl (fun s _=>needIn1_K s)) [3] ?_;rintro _ _ _ ⟨rfl,rfl,rfl⟩ _;(generalize hC:rText t p a.2 wOp (fun s=>decide (opW s≠0))=b at *;replace hC:=Lib.hid hC))|(refine awH_ rfl (r_list_K t p b.2 hf (by omega) wValues (by decide)) [3] ?_;rintro _ _ _ ⟨rfl,rfl,rfl⟩ _;(have hll:=rList_len t p b.2 wValues;have hlf:=Lib.hid (fun x=>rList_fine (x:=x) hf p b.2 wValues);generalize hD:rList t p b.2 wValues=c at *;replace hD:=Lib.hid hD))|(refine awH_ rfl (r_fail_K t p f 11 (pathP (pathK p wValues) (i:Int))) [2] ?_;rintro _ _ _ ⟨rfl,rfl,rfl⟩ _)|(refine awH_ rfl (r_fail_K t p f 14 (pathP (pathK p wValues) (i:Int))) [2] ?_;rintro _ _ _ ⟨rfl,rfl,rfl⟩ _)|(refine awH_ rfl (r_fail_K t p (rFail f 11 (pathP (pathK p wValues) (i:Int))) 14 (pathP (pathK p wValues) (i:Int))) [2] ?_;rintro _ _ _ ⟨rfl,rfl,rfl⟩ _)|(refine awH_ rfl (sortStr_H o (by omega)) [4] ?_;rintro _ _ _ ⟨rfl,rfl,rfl⟩ _)|(refine awH_ rfl (cptStr_S o (by omega)) [4] ?_;rintro _ _ _ ⟨rfl,rfl,rfl⟩ _)|(refine awH_ rfl (r_fail_K t p f 14 (pathK p wValues)) [2] ?_;rintro _ _ _ ⟨rfl,rfl,rfl⟩ _)|(refine awH_ rfl (r_fail_K t p f 16 (pathK p wValues)) [2] ?_;rintro _ _ _ ⟨rfl,rfl,rfl⟩ _)|(refine awH_ rfl (r_fail_K t p (rFail f 14 (pathK p wValues)) 16 (pathK p wValues)) [2] ?_;rintro _ _ _ ⟨rfl,rfl,rfl⟩ _))|((with_reducible show Wk (AwStep _ _ _ _ _));first|(refine pln_ ?_))|((with_reducible show Wk (AwCode _ _ _ _ _));first|(refine wo_ (id:=23) [0,1] [(0,true),(1,true),(2,true),(3,false),(4,false)] ?_)|(refine nilC_ 5 2 9 1 (by simp [nilAt,St.ob,cellOb,List.lookup_cons]) ?_;refine nm_ ?_;refine lpK_ (ι:=Nat × FaultD × List ByteArray) [] [1,2,3,5,6] 0x38000f2 (fun ⟨i,f,o⟩=> [(25,.sc (.int .i64 (i:Int)))]) (fun ⟨i,f,o⟩=> [(2,⟨125,10,1, [.sc (.int .i64 t.kind),.sc (.bool t.flag),.sc (.int .i64 t.num),.sc (.string t.text),.sl t.keys.length (strsD t.keys),.sl t.kids.length (treesD t.kids),.sc (.string p),.sc (.int .i64 (f).code),.sc (.int .i64 (f).at_),.sc (.string (f).path)]⟩),(3,⟨103,3,1, [.sc (.string a.1),.sc (.int .i64 (opW b.1)),.own 4 0 o.length]⟩),(4,⟨9,1,(o).length,strsD (o)⟩)]) (fun ⟨i,f,o⟩=>i≤c.1.length∧o=textsOf (c.1.take i)∧valsR (pathK p wValues) f i (c.1.drop i)=valsR (pathK p wValues) c.2 0 c.1) (fun ⟨i,f,o⟩=>c.1.length - i) (0,c.2, []) ?_ ?_;(focus (exact ⟨Nat.zero_le _,rfl,rfl⟩));rintro _ hN0 ⟨i,f,o⟩ hinv;(try dsimp only at hinv);obtain ⟨hi,hO,hE⟩:=hinv;have hol:o.length=i:=(by rw [hO,textsOf,List.length_map,List.length_take];omega);have hol1:o.length≤i:=(by omega);have hol2:i≤o.length:=(by omega);clear hol;replace hO:=Lib.hid hO;replace hE:=Lib.hid hE;have hx:i < c.1.length→TFine (c.1.getD i default):=fun h=>hlf.out _ (getD_mem h);skip))|((with_reducible show Wk (boolK _ _ _ _));first|(refine bk_ (fun h h'=>?_) (fun h h'=>?_)))|((with_reducible show Wk (_∧_));first|(refine and_ ?_ ?_))|((with_reducible show Wk (retOkG _ _ _ _));first|(refine rgg_ [.frz 4] ?_)|(refine rgg_ [] ?_))|(refine hN0.run ((i+1,f,o ++ [(c.1.getD i default).text])) [] [0,1,2,3,7] ?_ ?_;(focus (exact ⟨by show i+1≤_;omega,texts_snoc (by omega) hO.out,vr_1 hE.out (by omega) (by omega) (by assumption)⟩));(focus (show c.1.length - (i+1) < c.1.length - i;omega)))|(refine hN0.run ((i+1,rFail f 11 (pathP (pathK p wValues) (i:Int)),o ++ [(c.1.getD i default).text])) [] [0,1,2,3,7] ?_ ?_;(focus (exact ⟨by show i+1≤_;omega,texts_snoc (by omega) hO.out,vr_2 hE.out (by omega) (by omega) (by assumption)⟩));(focus (show c.1.length - (i+1) < c.1.length - i;omega)))|(refine hN0.run ((i+1,rFail f 14 (pathP (pathK p wValues) (i:Int)),o ++ [(c.1.getD i default).text])) [] [0,1,2,3,7] ?_ ?_;(focus (exact ⟨by show i+1≤_;omega,texts_snoc (by omega) hO.out,vr_3 hE.out (by omega) (by omega) (by assumption)⟩));(focus (show c.1.length - (i+1) < c.1.length - i;omega)))|(refine hN0.run ((i+1,rFail (rFail f 11 (pathP (pathK p wValues) (i:Int))) 14 (pathP (pathK p wValues) (i:Int)),o ++ [(c.1.getD i default).text])) [] [0,1,2,3,7] ?_ ?_;(focus (exact ⟨by show i+1≤_;omega,texts_snoc (by omega) hO.out,vr_4 hE.out (by omega) (by omega) (by assumption)⟩));(focus (show c.1.length - (i+1) < c.1.length - i;omega)))|fail)<;>(try refine nm_ ?_))
  all_goals (refine ⟨?_⟩)
  all_goals first|contradiction|(exfalso;omega)|(have e0:=(ndI hA.out hB.out hC.out hD.out).trans (ndI_z (by omega) hE.out hO.out);first|(have e:=e0.trans (ndQ_a (by first|exact mY1 (by omega) (by assumption)|exact mY2 (by omega) (by assumption)) (by omega));first|exact nd_no (e.trans (if_neg (by omega))) (by omega)|exact nd_ok (e.trans (if_pos (by omega))))|(have e:=e0.trans (ndQ_b (by first|exact mY1 (by omega) (by assumption)|exact mY2 (by omega) (by assumption)) (by omega));first|exact nd_no (e.trans (if_neg (by omega))) (by omega)|exact nd_ok (e.trans (if_pos (by omega))))|(have e:=e0.trans (ndQ_c (by first|exact mN1 (by omega) (by omega)|exact mN2 (by omega) (by assumption)) (by omega));first|exact nd_no (e.trans (if_neg (by omega))) (by omega)|exact nd_ok (e.trans (if_pos (by omega))))|(have e:=e0.trans (ndQ_d (by first|exact mN1 (by omega) (by omega)|exact mN2 (by omega) (by assumption)) (by omega));first|exact nd_no (e.trans (if_neg (by omega))) (by omega)|exact nd_ok (e.trans (if_pos (by omega)))))
theorem impl_NeedsIn_X (l:List TreeD) (p:ByteArray) (hl:l.length≤1048576) (hf:∀ x ∈ l,TFine x) (hp:p.size≤1048576):SpecH Tryz.prog 19 [.sl l.length (treesD l),.sc (.string p)] [] 0 (fun d os' nb'=>nsP (needsR l p) d os' nb'):=by
  have ex0:=@needsD_snoc;have ex1:=@wt3_done;have ex2:=@wt3_early;have ex3:=@wt3_one;have ex4:=@wt3_two;have ex5:=@wt3_three
  refine spH_ (rs:= [.tmp 4,.cell 5 46]) (nt:=48) Tryz.func19 rfl fun X hX=>?_
  refine nm_ ?_
  repeat' ((first|contradiction|(with_reducible exact tt_)|((with_reducible show Wk (AwStepF _ _ _ _ _ _ _));first|(refine cl_ rfl _ _ (impl_PathPlace_D p i (by omega) (by omega)) rfl rfl ?_;rintro _ rfl)|(refine cl_ rfl _ _ (impl_NeedIn_X (l.getD i default) (pathP p (i:Int)) (hx (by omega)) (by omega)) rfl rfl ?_;rintro _ (⟨hc,rfl⟩|⟨hc,rfl⟩))|(refine app_ rfl ?_)|(refine afz_ [1] ?_;refine nm_ ?_;refine awH_ rfl (impl_SortNeeds_K o (by omega) (fun k=>Nat.le_trans (hE.out.vals k) (by omega))) [] ?_;rintro _ _ _ ⟨rfl,rfl,rfl⟩ _))|((with_reducible show Wk (AwStep _ _ _ _ _));first|(refine pln_ ?_))|((with_reducible show Wk (AwCode _ _ _ _ _));first|(refine wtr3_ (id:=5) [] (.early 0 (.early 1 (.early 2 (.three 3 (.three 4 (.early 5 (.early 6 (.early 7 (.two 8 (.one 9 (.one 10 (.one 11 .done))) 9 (.one 8 (.one 10 (.one 11 .done))))))) 8 (.two 4 (.early 5 (.early 6 (.early 7 (.one 9 (.one 10 (.one 11 .done)))))) 9 (.one 4 (.early 5 (.early 6 (.early 7 (.one 10 (.one 11 .done))))))) 9 (.two 4 (.early 5 (.early 6 (.early 7 (.one 8 (.one 10 (.one 11 .done)))))) 8 (.one 4 (.early 5 (.early 6 (.early 7 (.one 10 (.one 11 .done)))))))) 8 (.two 3 (.two 4 (.early 5 (.early 6 (.early 7 (.one 9 (.one 10 (.one 11 .done)))))) 9 (.one 4 (.early 5 (.early 6 (.early 7 (.one 10 (.one 11 .done))))))) 9 (.one 3 (.one 4 (.early 5 (.early 6 (.early 7 (.one 10 (.one 11 .done)))))))) 9 (.two 3 (.two 4 (.early 5 (.early 6 (.early 7 (.one 8 (.one 10 (.one 11 .done)))))) 8 (.one 4 (.early 5 (.early 6 (.early 7 (.one 10 (.one 11 .done))))))) 8 (.one 3 (.one 4 (.early 5 (.early 6 (.early 7 (.one 10 (.one 11 .done)))))))))))) ?_)|(refine wo_ (id:=7) [0] [(0,true),(1,true),(2,false)] ?_)|(refine lpK_ (ι:=Nat × List NeedD) [] [0,1] 0xe062 (fun ⟨i,o⟩=> [(15,.sc (.int .i64 (i:Int))),(6,.own 1 0 o.length)]) (fun ⟨i,o⟩=> [(1,⟨103,3,(o).length,needsD (o)⟩)]) (fun ⟨i,o⟩=>i≤l.length∧NdE p l i o) (fun ⟨i,o⟩=>l.length - i) (0, []) ?_ ?_;(focus (exact ⟨Nat.zero_le _,ndE_0 p l⟩));rintro _ hN0 ⟨i,o⟩ hinv;(try dsimp only at hinv);obtain ⟨hi,hE⟩:=hinv;have hol1:o.length≤i:=Nat.le_of_eq hE.len;have hol2:i≤o.length:=Nat.le_of_eq hE.len.symm;replace hE:=Lib.hid hE;have hx:i < l.length→TFine (l.getD i default):=fun h=>hf _ (getD_mem h);have hqz:=pathP_sz (p:=p) (i:=i) (by omega);skip))|((with_reducible show Wk (boolK _ _ _ _));first|(refine bk_ (fun h h'=>?_) (fun h h'=>?_)))|((with_reducible show Wk (_∧_));first|(refine and_ ?_ ?_))|((with_reducible show Wk (retOkH _ _ _ _ _));first|(refine rh_ [] ?_;refine nm_ ?_;fail_if_success (show Wk False))|(refine rh_ [2] ?_;refine nm_ ?_;fail_if_success (show Wk False)))|(refine hN0.run ((i+1,o ++ [(needM (l.getD i default) (pathP p (i:Int))).1])) [] [0,6] ?_ ?_;(focus (exact ⟨by show i+1≤_;omega,hE.out.go (by omega) hc⟩));(focus (show l.length - (i+1) < l.length - i;omega)))|fail)<;>(try refine nm_ ?_))
  all_goals clear ex0 ex1 ex2 ex3 ex4 ex5
  all_goals (refine ⟨?_⟩)
  all_goals first|contradiction|(exfalso;omega)|(exact nsR_1 (hE.out.flt (by omega) hc) hc)|(exact nsR_2 (hE.out.no (by omega) (by assumption)))|(exact nsR_3 (hE.out.yes (by omega) (by assumption)))
end Go.Proofs.YtidjjfjhmlndjaaGreatDoor
