/- Ne1, Ne2, Ne3 (what is wanted of them). -/
import Derived.Test.YtidjjfjhmlndjaaGreatDoorVTf
import Derived.Test.YtidjjfjhmlndjaaGreatDoorVCl3
import Derived.Test.YtidjjfjhmlndjaaGreatDoorVRal
import Derived.Test.YtidjjfjhmlndjaaGreatDoorVNo
import Derived.Test.YtidjjfjhmlndjaaGreatDoorVDk
namespace Go.Proofs.YtidjjfjhmlndjaaGreatDoor
open Go.RowKit
set_option linter.unusedVariables false
set_option linter.unusedSimpArgs false
set_option maxRecDepth 100000
set_option maxHeartbeats 4000000
/-- A tree whose parts are not too great. -/
inductive TFine:TreeD→Prop
  |mk {t:TreeD} (ht:strOk t.text) (hi:intOk t.num) (hkl:t.keys.length≤1048576) (hk:∀ k,strOk (t.keys.getD k default)) (hcl:t.kids.length≤1048576) (hc:∀ x ∈ t.kids,TFine x):TFine t
theorem TFine.text {t:TreeD} (h:TFine t):t.text.size≤1048576:=by cases h;assumption
theorem TFine.num {t:TreeD} (h:TFine t):intOk t.num:=by cases h;assumption
theorem TFine.keys {t:TreeD} (h:TFine t):t.keys.length≤1048576:=by cases h;assumption
theorem TFine.key {t:TreeD} (h:TFine t) (k:Nat):(t.keys.getD k default).size≤1048576:=by cases h with|mk _ _ _ hk _ _=>exact hk k
theorem TFine.kids {t:TreeD} (h:TFine t):t.kids.length≤1048576:=by cases h;assumption
theorem TFine.mem {t x:TreeD} (h:TFine t) (hx:x ∈ t.kids):TFine x:=by cases h with|mk _ _ _ _ _ hc=>exact hc x hx
theorem getD_mem {α:Type} [Inhabited α] {xs:List α}{k:Nat} (h:k < xs.length):xs.getD k default ∈ xs:=by
  rw [List.getD_eq_getElem?_getD,List.getElem?_eq_getElem h]
  exact List.getElem_mem _
theorem TFine.kid {t:TreeD} (h:TFine t) {k:Nat} (hk:k < t.kids.length):TFine (t.kids.getD k default):=h.mem (getD_mem hk)
theorem TFine.of {t:TreeD} (h:TFine t) {key:ByteArray} (hh:hasT t key=true):TFine (kidT t key):=h.mem (kidT_mem hh)
theorem kid_lt {t:TreeD}{k:Nat} (h:k < t.kids.length):SizeOf.sizeOf (t.kids.getD k default) < SizeOf.sizeOf t:=by
  obtain ⟨a,b,c,d,e,cs⟩:=t
  have h1:=List.sizeOf_lt_of_mem (getD_mem (xs:=cs) h)
  simp only [TreeD.mk.sizeOf_spec]
  show SizeOf.sizeOf (cs.getD k default) < _
  omega
theorem keyAt_rng (t:TreeD) (key:ByteArray):-1≤keyAtT t key∧keyAtT t key < (t.keys.length:Int):=by
  unfold keyAtT
  have h:=firstN_rng t.keys.length fun i=>eqB (t.keys.getD i default) key
  split<;>omega
theorem hasT_yes {t:TreeD}{key:ByteArray} (h:0≤keyAtT t key) (hl:t.keys.length=t.kids.length):hasT t key=true:=by
  unfold hasT
  rw [decide_eq_true h,decide_eq_true hl]
  rfl
theorem hasT_no1 {t:TreeD}{key:ByteArray} (h:keyAtT t key < 0):hasT t key=false:=by
  unfold hasT
  rw [decide_eq_false (by omega)]
  rfl
theorem hasT_no2 {t:TreeD}{key:ByteArray} (hl:¬ t.keys.length=t.kids.length):hasT t key=false:=by
  unfold hasT
  rw [decide_eq_false hl,Bool.and_false]
theorem path_sz (p k:ByteArray):(pathK p k).size≤p.size+1+k.size:=by
  unfold pathK
  split
  · omega
  · rw [ByteArray.size_append,ByteArray.size_append];exact Nat.le_refl _
theorem knownL_go {p:ByteArray}{keys xs:List ByteArray}{i:Nat} (h:i < xs.length) (hh:hasK keys (xs.getD i default)=true) (hR:knownL p keys (xs.drop i)=knownL p keys xs):knownL p keys (xs.drop (i+1))=knownL p keys xs:=by
  rw [← hR,getD_drop xs h,knownL,if_pos hh]
theorem knownL_out {p:ByteArray}{keys xs:List ByteArray}{i:Nat} (h:i < xs.length) (hh:hasK keys (xs.getD i default)=false) (hR:knownL p keys (xs.drop i)=knownL p keys xs):knownL p keys xs=fltF 13 (pathK p (xs.getD i default)):=by
  rw [← hR,getD_drop xs h,knownL,if_neg (by rw [hh];decide)]
theorem knownL_end {p:ByteArray}{keys xs:List ByteArray}{i:Nat} (h:xs.length≤i) (hR:knownL p keys (xs.drop i)=knownL p keys xs):knownL p keys xs=noF:=by
  rw [← hR,List.drop_of_length_le h,knownL]
theorem knownT_no {t:TreeD}{p:ByteArray}{keys:List ByteArray} (h:¬ t.kind=6):knownT t p keys=fltF 11 p:=if_neg h
theorem knownT_in {t:TreeD}{p:ByteArray}{keys:List ByteArray} (h:t.kind=6):knownT t p keys=knownL p keys t.keys:=if_pos h
section
variable {t:TreeD}{p key:ByteArray}
theorem textF_a (h:hasT t key=true) (hk:(kidT t key).kind=4):textF t p key=((kidT t key).text,noF):=by unfold textF;rw [if_pos h,if_pos hk]
theorem textF_b (h:hasT t key=true) (hk:¬ (kidT t key).kind=4):textF t p key=(⟨#[]⟩,fltF 11 (pathK p key)):=by unfold textF;rw [if_pos h,if_neg hk]
theorem textF_c (h:hasT t key=false):textF t p key=(⟨#[]⟩,fltF 12 (pathK p key)):=by unfold textF;rw [if_neg (by rw [h];decide)]
theorem listF_a {m:Int} (h:hasT t key=true) (hk:(kidT t key).kind=5) (hm:¬ m < ((kidT t key).kids.length:Int)):listF t p key m=((kidT t key).kids,noF):=by unfold listF;rw [if_pos h,if_pos hk,if_neg hm]
theorem listF_b {m:Int} (h:hasT t key=true) (hk:(kidT t key).kind=5) (hm:m < ((kidT t key).kids.length:Int)):listF t p key m=([],fltF 16 (pathK p key)):=by unfold listF;rw [if_pos h,if_pos hk,if_pos hm]
theorem listF_c {m:Int} (h:hasT t key=true) (hk:¬ (kidT t key).kind=5):listF t p key m=([],fltF 11 (pathK p key)):=by unfold listF;rw [if_pos h,if_neg hk]
theorem listF_d {m:Int} (h:hasT t key=false):listF t p key m=([],noF):=by unfold listF;rw [if_neg (by rw [h];decide)]
theorem fineF_a {fine:ByteArray→Bool} (h:(textF t p key).2.code=0) (hf:fine (textF t p key).1=false):fineF t p key fine=((textF t p key).1,fltF 14 (pathK p key)):=if_pos ⟨h,hf⟩
theorem fineF_b {fine:ByteArray→Bool} (h:¬ (textF t p key).2.code=0∨fine (textF t p key).1=true):fineF t p key fine=textF t p key:=if_neg fun k=>h.elim (fun n=>n k.1) fun n=>by rw [n] at k;cases k.2
theorem wordI_go {ws:List ByteArray}{s:ByteArray}{i:Nat} (h:i < ws.length) (he:eqB (ws.getD i default) s=false) (hR:wordI ws s (ws.length - i) i=wordN ws s):wordI ws s (ws.length - (i+1)) (i+1)=wordN ws s:=by
  rw [← hR,show ws.length - i=(ws.length - (i+1))+1 by omega,wordI,if_neg (by rw [he];decide)]
theorem wordI_hit {ws:List ByteArray}{s:ByteArray}{i:Nat} (h:i < ws.length) (he:eqB (ws.getD i default) s=true) (hR:wordI ws s (ws.length - i) i=wordN ws s):wordN ws s=(i:Int):=by
  rw [← hR,show ws.length - i=(ws.length - (i+1))+1 by omega,wordI,if_pos he]
theorem wordI_end {ws:List ByteArray}{s:ByteArray}{i:Nat} (h:ws.length≤i) (hR:wordI ws s (ws.length - i) i=wordN ws s):wordN ws s=0:=by
  rw [← hR,show ws.length - i=0 by omega,wordI]
end
def CopP (f:FuncId) (n:Nat):Prop:=∀ t:TreeD,TFine t→SizeOf.sizeOf t < n→Spec Tryz.prog f [.agg (treeC t)] (fun d=>d = .agg (treeC t))
theorem l08Copy_step (n:Nat) (ih:CopP 96 n) (t:TreeD) (hf:TFine t) (hn:SizeOf.sizeOf t=n):Spec Tryz.prog 96 [.agg (treeC t)] (fun d=>d = .agg (treeC t)):=by
  have hkn:=hf.keys;have hcn:=hf.kids;unfold treeC
  refine spG_ (rs:= [.cell 2 67]) (nt:=32) Tryz.func96 rfl fun X hX=>?_
  refine nm_ ?_
  repeat' ((first|contradiction|(with_reducible exact tt_)|((with_reducible show Wk (AwStepF _ _ _ _ _ _ _));first|(refine cl_ rfl _ _ (hx (by omega)) rfl rfl ?_;rintro _ rfl)|(refine app_ rfl ?_))|((with_reducible show Wk (AwStep _ _ _ _ _));first|(refine pln_ ?_))|((with_reducible show Wk (AwCode _ _ _ _ _));first|(refine wtr_ (id:=7) [2,3] (.early 0 (.early 2 (.early 3 (.early 4 (.early 5 (.early 6 (.two 1 (.one 7 (.one 8 (.one 9 (.early 10 (.one 11 .done))))) 7 (.two 1 (.one 8 (.one 9 (.early 10 (.one 11 .done)))) 8 (.one 1 (.one 9 (.early 10 (.one 11 .done)))))))))))) ?_)|(refine lpK_ (ι:=Nat × List TreeD) [.frz 4] [0,1,2,5] 0x1e (fun ⟨i,o⟩=> [(4,.sc (.int .i64 (i:Int)))]) (fun ⟨i,o⟩=> [(0,⟨67,6,1, [.sc (.int .i64 t.kind),.sc (.bool t.flag),.sc (.int .i64 t.num),.sc (.string t.text),.sl t.keys.length (strsD t.keys),.sl t.kids.length (treesD t.kids)]⟩),(1,⟨67,6,1, [.sc (.int .i64 0),.sc (.bool false),.sc (.int .i64 0),.sc (.string ⟨#[]⟩),.sc (.slice none 0 0),.sc (.slice none 0 0)]⟩),(2,⟨67,6,1, [.sc (.int .i64 t.kind),.sc (.bool t.flag),.sc (.int .i64 t.num),.sc (.string t.text),.sl t.keys.length (strsD t.keys),.own 3 0 o.length]⟩),(3,⟨67,6,(o).length,treesD (o)⟩)]) (fun ⟨i,o⟩=>i≤t.kids.length∧o=t.kids.take i) (fun ⟨i,o⟩=>t.kids.length - i) (0, []) ?_ ?_;(focus (exact ⟨Nat.zero_le _,rfl⟩));rintro _ hN0 ⟨i,o⟩ hinv;(try dsimp only at hinv);obtain ⟨hi,hW⟩:=hinv;have hol:o.length=i:=(by rw [hW,List.length_take];omega);replace hW:=Lib.hid hW;have hx:i < t.kids.length→Spec Tryz.prog 96 [.agg (treeC (t.kids.getD i default))] (fun d=>d = .agg (treeC (t.kids.getD i default))):=fun h=>ih _ (hf.kid h) (Nat.lt_of_lt_of_le (kid_lt h) (by omega));skip))|((with_reducible show Wk (boolK _ _ _ _));first|(refine bk_ (fun h h'=>?_) (fun h h'=>?_)))|((with_reducible show Wk (_∧_));first|(refine and_ ?_ ?_))|((with_reducible show Wk (retOkG _ _ _ _));first|(refine rgg_ [.frz 3] ?_))|(refine hN0.run ((i+1,o ++ [(t.kids.getD i default)])) [] [0,1,2,5] ?_ ?_;(focus (exact ⟨by show i+1≤t.kids.length;omega,by rw [hW.out];exact (take_snoc t.kids i (by omega)).symm⟩));(focus (show t.kids.length - (i+1) < t.kids.length - i;omega)))|fail)<;>(try refine nm_ ?_))
  all_goals (refine ⟨?_⟩)
  all_goals first|contradiction|(exfalso;omega)|(have e:=hW.out;rw [List.take_of_length_le (by omega)] at e;have ei:i=t.kids.length:=(by omega);rw [ei,e];done)
theorem l08Copy_all:∀ n,CopP 96 n
  |0=>fun t hf h=>absurd h (Nat.not_lt_zero _)
  |n+1=>fun t hf h=>l08Copy_step (SizeOf.sizeOf t) (fun u hu hl=>l08Copy_all n u hu (by omega)) t hf rfl
theorem l08Copy_X (t:TreeD) (hf:TFine t):Spec Tryz.prog 96 [.agg (treeC t)] (fun d=>d = .agg (treeC t)):=l08Copy_all _ t hf (Nat.lt_succ_self _)
theorem spec_l15Ops_D :Spec Tryz.prog 119 [] (fun d=>d = .sl 5 (strsD opsW)):=by
  refine spG_ (rs:= [.tmp 0]) (nt:=2) Tryz.func119 rfl fun X hX=>?_
  refine nm_ ?_
  repeat' ((first|contradiction|(with_reducible exact tt_)|((with_reducible show Wk (AwStep _ _ _ _ _));first|(refine pln_ ?_))|((with_reducible show Wk (boolK _ _ _ _));first|(refine bk_ (fun h h'=>?_) (fun h h'=>?_)))|((with_reducible show Wk (_∧_));first|(refine and_ ?_ ?_))|((with_reducible show Wk (retOkG _ _ _ _));first|(refine rgg_ [.frz 0] ?_))|fail)<;>(try refine nm_ ?_))
  all_goals (refine ⟨?_⟩)
  all_goals first|contradiction|(exfalso;omega)|rfl
end Go.Proofs.YtidjjfjhmlndjaaGreatDoor
namespace Go.Proofs.YtidjjfjhmlndjaaGreatDoor
open Go.RowKit
set_option linter.unusedVariables false
set_option linter.unusedSimpArgs false
set_option maxRecDepth 100000
set_option maxHeartbeats 4000000
theorem valsF_len (vs:List ByteArray):(valsF vs).length≤vs.length:=by
  have e:valsF vs=foldTo (fun x o=>insVal x o) vs vs.length:=(fold_all _ vs (Nat.le_refl _)).symm
  rw [e]
  exact fold_len (fun x o=>insD_len lessB eqB x o) vs vs.length (Nat.le_refl _)
def nedF (ls:List NeedD):List NeedD:=ls.foldl (fun o x=>insNed x o) []
theorem srtNed_a {ls:List NeedD} (h:40 < ls.length):srtNed ls=(ls,false):=if_pos (.inl h)
theorem srtNed_b {ls:List NeedD}{i:Nat} (h:i < ls.length) (hv:40 < (ls.getD i default).values.length):srtNed ls=(ls,false):=if_pos (.inr (List.any_eq_true.2 ⟨_,getD_mem h,by simpa using hv⟩))
theorem srtNed_any {ls:List NeedD} (h:∀ j,j < ls.length→(ls.getD j default).values.length≤40):(ls.any fun n=>decide (40 < n.values.length))=false:=by
  rw [Bool.eq_false_iff]
  intro k
  obtain ⟨x,hx,hv⟩:=List.any_eq_true.1 k
  obtain ⟨j,hj,rfl⟩:=List.getElem_of_mem hx
  have:=h j hj
  rw [List.getD_eq_getElem?_getD,List.getElem?_eq_getElem hj] at this
  have h2:40 < ls[j].values.length:=by simpa using hv
  have h3:ls[j].values.length≤40:=this
  omega
theorem srtNed_c {ls:List NeedD} (h:ls.length≤40) (hv:∀ j,j < ls.length→(ls.getD j default).values.length≤40) (hb:needsB (nedF ls)=true):srtNed ls=(nedF ls,true):=by
  unfold srtNed
  rw [srtNed_any hv,if_neg (fun k=>k.elim (fun q=>by omega) (fun q=>by cases q))]
  exact if_pos hb
theorem srtNed_d {ls:List NeedD} (h:ls.length≤40) (hv:∀ j,j < ls.length→(ls.getD j default).values.length≤40) (hb:needsB (nedF ls)=false):srtNed ls=(ls,false):=by
  unfold srtNed
  rw [srtNed_any hv,if_neg (fun k=>k.elim (fun q=>by omega) (fun q=>by cases q))]
  exact if_neg (fun k=>by rw [show ls.foldl (fun o x=>insNed x o) []=nedF ls from rfl,hb] at k;cases k)
end Go.Proofs.YtidjjfjhmlndjaaGreatDoor
namespace Go.Proofs.YtidjjfjhmlndjaaGreatDoor
open Go.RowKit
set_option linter.unusedVariables false
set_option linter.unusedSimpArgs false
set_option maxRecDepth 100000
set_option maxHeartbeats 4000000
section
variable {t:TreeD}{p:ByteArray}
theorem listF_len (t:TreeD) (p key:ByteArray):(listF t p key 40).1.length≤40:=by
  unfold listF
  split
  · split
    · split
      · exact Nat.zero_le _
      · show (kidT t key).kids.length≤40
        omega
    · exact Nat.zero_le _
  · exact Nat.zero_le _
theorem listF_fine {t:TreeD} (hf:TFine t) (p key:ByteArray) (m:Int) {x:TreeD} (h:x ∈ (listF t p key m).1):TFine x:=by
  unfold listF at h
  split at h
  · rename_i hh
    split at h
    · split at h
      · cases h
      · exact (hf.of hh).mem h
    · cases h
  · cases h
theorem texts_snoc {l:List TreeD}{o:List ByteArray}{i:Nat} (hi:i < l.length) (h:o=textsOf (l.take i)):o ++ [(l.getD i default).text]=textsOf (l.take (i+1)):=by
  rw [take_snoc l i hi,h]
  simp [textsOf]
end
theorem nd_no {x:NeedD × FaultD}{f:FaultD} (e:x=(default,f)) (hf:¬ f.code=0):(x.2.code=0∧D.tup [.agg [.sc (.string ⟨#[]⟩),.sc (.int .i64 0),.sc (.slice none 0 0)],.agg [.sc (.int .i64 (f).code),.sc (.int .i64 (f).at_),.sc (.string (f).path)]]=D.tup [.agg [.sc (.string (x.1).key),.sc (.int .i64 (x.1).op),.sl (x.1).values.length (strsD (x.1).values)],.agg [.sc (.int .i64 0),.sc (.int .i64 0),.sc (.string ⟨#[]⟩)]])∨(¬ x.2.code=0∧D.tup [.agg [.sc (.string ⟨#[]⟩),.sc (.int .i64 0),.sc (.slice none 0 0)],.agg [.sc (.int .i64 (f).code),.sc (.int .i64 (f).at_),.sc (.string (f).path)]]=D.tup [.agg [.sc (.string ⟨#[]⟩),.sc (.int .i64 0),.sc (.slice none 0 0)],.agg [.sc (.int .i64 (x.2).code),.sc (.int .i64 (x.2).at_),.sc (.string (x.2).path)]]):=by
  subst e
  exact .inr ⟨hf,rfl⟩
theorem nd_ok {x:NeedD × FaultD}{n:NeedD} (e:x=(n,noF)):(x.2.code=0∧D.tup [.agg [.sc (.string (n).key),.sc (.int .i64 (n).op),.sl (n).values.length (strsD (n).values)],.agg [.sc (.int .i64 0),.sc (.int .i64 0),.sc (.string ⟨#[]⟩)]]=D.tup [.agg [.sc (.string (x.1).key),.sc (.int .i64 (x.1).op),.sl (x.1).values.length (strsD (x.1).values)],.agg [.sc (.int .i64 0),.sc (.int .i64 0),.sc (.string ⟨#[]⟩)]])∨(¬ x.2.code=0∧D.tup [.agg [.sc (.string (n).key),.sc (.int .i64 (n).op),.sl (n).values.length (strsD (n).values)],.agg [.sc (.int .i64 0),.sc (.int .i64 0),.sc (.string ⟨#[]⟩)]]=D.tup [.agg [.sc (.string ⟨#[]⟩),.sc (.int .i64 0),.sc (.slice none 0 0)],.agg [.sc (.int .i64 (x.2).code),.sc (.int .i64 (x.2).at_),.sc (.string (x.2).path)]]):=by
  subst e
  exact .inl ⟨rfl,rfl⟩
theorem needM_len (t:TreeD) (p:ByteArray):(needM t p).1.values.length≤4:=by
  unfold needM
  repeat' (split;exact Nat.zero_le _)
  show (valsF _).length≤4
  omega
theorem pathP_sz {p:ByteArray}{i:Nat} (h:i≤1048576):(pathP p (i:Int)).size≤p.size+21:=by
  unfold pathP
  have h2:=itoaN_sz (n:=i) (by omega)
  rw [ByteArray.size_append,ByteArray.size_append,ByteArray.size_append,ba_len]
  show p.size+1+_+1≤_
  omega
structure NdE (p:ByteArray) (l:List TreeD) (i:Nat) (o:List NeedD):Prop where
  r1:o++(needsE p i (l.drop i)).1=(needsE p 0 l).1
  r2:(needsE p i (l.drop i)).2=(needsE p 0 l).2
  len:o.length=i
  vals:∀ k,(o.getD k default).values.length≤4
theorem ndE_0 (p:ByteArray) (l:List TreeD):NdE p l 0 []:=⟨rfl,rfl,rfl,fun k=>Nat.zero_le _⟩
section
variable {p:ByteArray}{l:List TreeD}{i:Nat}{o:List NeedD}
theorem NdE.go (h:NdE p l i o) (hi:i < l.length) (hc:(needM (l.getD i default) (pathP p (i:Int))).2.code=0):NdE p l (i+1) (o ++ [(needM (l.getD i default) (pathP p (i:Int))).1]):=by
  have e1:=h.r1
  have e2:=h.r2
  rw [getD_drop l hi,needsE,if_pos hc] at e1 e2
  refine ⟨by rw [List.append_assoc];exact e1,e2,by rw [List.length_append,h.len];rfl,fun k=>?_⟩
  rw [List.getD_eq_getElem?_getD,List.getElem?_append]
  split
  · rw [← List.getD_eq_getElem?_getD];exact h.vals k
  · cases hk: [(needM (l.getD i default) (pathP p (i:Int))).1][k - o.length]? with
    |none=>exact Nat.zero_le _
    |some x=>
      have:=List.mem_of_getElem? hk
      rw [List.mem_singleton] at this
      subst this
      exact needM_len _ _
theorem NdE.flt (h:NdE p l i o) (hi:i < l.length) (hc:¬ (needM (l.getD i default) (pathP p (i:Int))).2.code=0):needsR l p=([],(needM (l.getD i default) (pathP p (i:Int))).2):=by
  have e2:=h.r2
  rw [getD_drop l hi,needsE,if_neg hc] at e2
  unfold needsR
  rw [← e2,if_neg hc]
theorem NdE.fin (h:NdE p l i o) (hi:l.length≤i):needsR l p=if (srtNed o).2=true then ((srtNed o).1,noF) else ([],fltF 16 p):=by
  have e1:=h.r1
  have e2:=h.r2
  rw [List.drop_of_length_le hi,needsE] at e1 e2
  rw [List.append_nil] at e1
  unfold needsR
  rw [← e2,if_pos noF_code,← e1]
theorem NdE.no (h:NdE p l i o) (hi:l.length≤i) (hs:(srtNed o).2=false):needsR l p=([],fltF 16 p):=by rw [h.fin hi,if_neg (by rw [hs];decide)]
theorem NdE.yes (h:NdE p l i o) (hi:l.length≤i) (hs:(srtNed o).2=true):needsR l p=((srtNed o).1,noF):=by rw [h.fin hi,if_pos hs]
end
end Go.Proofs.YtidjjfjhmlndjaaGreatDoor
