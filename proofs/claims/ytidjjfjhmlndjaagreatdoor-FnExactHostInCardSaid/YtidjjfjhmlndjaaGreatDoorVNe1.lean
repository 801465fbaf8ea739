/- Ne1 (what is wanted of them). -/
import Derived.Test.YtidjjfjhmlndjaaGreatDoorVTf
import Derived.Test.YtidjjfjhmlndjaaGreatDoorVCl2
import Derived.Test.YtidjjfjhmlndjaaGreatDoorVRal
import Derived.Test.YtidjjfjhmlndjaaGreatDoorVCl10
namespace Go.Proofs.YtidjjfjhmlndjaaGreatDoor
open Go.RowKit
set_option linter.unusedVariables false
set_option linter.unusedSimpArgs false
set_option maxRecDepth 100000
set_option maxHeartbeats 4000000
/-- A tree whose parts are not too great. -/
inductive TFine:TreeD→Prop
  |mk {t:TreeD} (ht:strOk t.text) (hi:intOk t.num) (hkl:t.keys.length≤1048576) (hk:∀ k,strOk (t.keys.getD k default)) (hcl:t.kids.length≤1048576) (hc:∀ x ∈ t.kids,TFine x):TFine t
theorem TFine.text {t:TreeD} (h:TFine t):t.text.size≤1048576:=by cases h;assumption
theorem TFine.num {t:TreeD} (h:TFine t):intOk t.num:=by cases h;assumption
theorem TFine.keys {t:TreeD} (h:TFine t):t.keys.length≤1048576:=by cases h;assumption
theorem TFine.key {t:TreeD} (h:TFine t) (k:Nat):(t.keys.getD k default).size≤1048576:=by cases h with|mk _ _ _ hk _ _=>exact hk k
theorem TFine.kids {t:TreeD} (h:TFine t):t.kids.length≤1048576:=by cases h;assumption
theorem TFine.mem {t x:TreeD} (h:TFine t) (hx:x ∈ t.kids):TFine x:=by cases h with|mk _ _ _ _ _ hc=>exact hc x hx
theorem getD_mem {α:Type} [Inhabited α] {xs:List α}{k:Nat} (h:k < xs.length):xs.getD k default ∈ xs:=by
  rw [List.getD_eq_getElem?_getD,List.getElem?_eq_getElem h]
  exact List.getElem_mem _
theorem TFine.kid {t:TreeD} (h:TFine t) {k:Nat} (hk:k < t.kids.length):TFine (t.kids.getD k default):=h.mem (getD_mem hk)
theorem TFine.of {t:TreeD} (h:TFine t) {key:ByteArray} (hh:hasT t key=true):TFine (kidT t key):=h.mem (kidT_mem hh)
theorem kid_lt {t:TreeD}{k:Nat} (h:k < t.kids.length):SizeOf.sizeOf (t.kids.getD k default) < SizeOf.sizeOf t:=by
  obtain ⟨a,b,c,d,e,cs⟩:=t
  have h1:=List.sizeOf_lt_of_mem (getD_mem (xs:=cs) h)
  simp only [TreeD.mk.sizeOf_spec]
  show SizeOf.sizeOf (cs.getD k default) < _
  omega
theorem keyAt_hit {t:TreeD}{key:ByteArray}{k:Nat} (hk:t.kind=6) (h:k < t.keys.length) (he:eqB (t.keys.getD k default) key=true) (hj:∀ j:Nat,j < k→(fun j=>!eqB (t.keys.getD j default) key) j=true):keyAtT t key=(k:Int):=by
  unfold keyAtT
  rw [if_pos hk]
  exact firstN_hit h he hj
theorem keyAt_none {t:TreeD}{key:ByteArray}{k:Nat} (h:¬ t.kind=6∨t.keys.length≤k) (hj:∀ j:Nat,j < k→(fun j=>!eqB (t.keys.getD j default) key) j=true):keyAtT t key=-1:=by
  unfold keyAtT
  split
  · rename_i hk
    exact firstN_none (h.resolve_left fun n=>n hk) hj
  · rfl
theorem keyAt_rng (t:TreeD) (key:ByteArray):-1≤keyAtT t key∧keyAtT t key < (t.keys.length:Int):=by
  unfold keyAtT
  have h:=firstN_rng t.keys.length fun i=>eqB (t.keys.getD i default) key
  split<;>omega
theorem hasT_yes {t:TreeD}{key:ByteArray} (h:0≤keyAtT t key) (hl:t.keys.length=t.kids.length):hasT t key=true:=by
  unfold hasT
  rw [decide_eq_true h,decide_eq_true hl]
  rfl
theorem hasT_no1 {t:TreeD}{key:ByteArray} (h:keyAtT t key < 0):hasT t key=false:=by
  unfold hasT
  rw [decide_eq_false (by omega)]
  rfl
theorem hasT_no2 {t:TreeD}{key:ByteArray} (hl:¬ t.keys.length=t.kids.length):hasT t key=false:=by
  unfold hasT
  rw [decide_eq_false hl,Bool.and_false]
theorem path_sz (p k:ByteArray):(pathK p k).size≤p.size+1+k.size:=by
  unfold pathK
  split
  · omega
  · rw [ByteArray.size_append,ByteArray.size_append];exact Nat.le_refl _
theorem hasK_hit {xs:List ByteArray}{k:ByteArray}{i:Nat} (h:i < xs.length) (he:eqB (xs.getD i default) k=true):hasK xs k=true:=by
  unfold hasK
  rw [show allB xs.length (fun i=>!eqB (xs.getD i default) k)=false from allN_no h (by rw [he];rfl)]
  rfl
theorem hasK_none {xs:List ByteArray}{k:ByteArray}{i:Nat} (h:xs.length≤i) (hj:∀ j:Nat,j < i→(fun j=>!eqB (xs.getD j default) k) j=true):hasK xs k=false:=by
  unfold hasK
  rw [allN_yes h hj]
  rfl
theorem knownL_go {p:ByteArray}{keys xs:List ByteArray}{i:Nat} (h:i < xs.length) (hh:hasK keys (xs.getD i default)=true) (hR:knownL p keys (xs.drop i)=knownL p keys xs):knownL p keys (xs.drop (i+1))=knownL p keys xs:=by
  rw [← hR,getD_drop xs h,knownL,if_pos hh]
theorem knownL_out {p:ByteArray}{keys xs:List ByteArray}{i:Nat} (h:i < xs.length) (hh:hasK keys (xs.getD i default)=false) (hR:knownL p keys (xs.drop i)=knownL p keys xs):knownL p keys xs=fltF 13 (pathK p (xs.getD i default)):=by
  rw [← hR,getD_drop xs h,knownL,if_neg (by rw [hh];decide)]
theorem knownL_end {p:ByteArray}{keys xs:List ByteArray}{i:Nat} (h:xs.length≤i) (hR:knownL p keys (xs.drop i)=knownL p keys xs):knownL p keys xs=noF:=by
  rw [← hR,List.drop_of_length_le h,knownL]
theorem knownT_no {t:TreeD}{p:ByteArray}{keys:List ByteArray} (h:¬ t.kind=6):knownT t p keys=fltF 11 p:=if_neg h
theorem knownT_in {t:TreeD}{p:ByteArray}{keys:List ByteArray} (h:t.kind=6):knownT t p keys=knownL p keys t.keys:=if_pos h
section
variable {t:TreeD}{p key:ByteArray}
theorem textF_a (h:hasT t key=true) (hk:(kidT t key).kind=4):textF t p key=((kidT t key).text,noF):=by unfold textF;rw [if_pos h,if_pos hk]
theorem textF_b (h:hasT t key=true) (hk:¬ (kidT t key).kind=4):textF t p key=(⟨#[]⟩,fltF 11 (pathK p key)):=by unfold textF;rw [if_pos h,if_neg hk]
theorem textF_c (h:hasT t key=false):textF t p key=(⟨#[]⟩,fltF 12 (pathK p key)):=by unfold textF;rw [if_neg (by rw [h];decide)]
theorem listF_a {m:Int} (h:hasT t key=true) (hk:(kidT t key).kind=5) (hm:¬ m < ((kidT t key).kids.length:Int)):listF t p key m=((kidT t key).kids,noF):=by unfold listF;rw [if_pos h,if_pos hk,if_neg hm]
theorem listF_b {m:Int} (h:hasT t key=true) (hk:(kidT t key).kind=5) (hm:m < ((kidT t key).kids.length:Int)):listF t p key m=([],fltF 16 (pathK p key)):=by unfold listF;rw [if_pos h,if_pos hk,if_pos hm]
theorem listF_c {m:Int} (h:hasT t key=true) (hk:¬ (kidT t key).kind=5):listF t p key m=([],fltF 11 (pathK p key)):=by unfold listF;rw [if_pos h,if_neg hk]
theorem listF_d {m:Int} (h:hasT t key=false):listF t p key m=([],noF):=by unfold listF;rw [if_neg (by rw [h];decide)]
theorem fineF_a {fine:ByteArray→Bool} (h:(textF t p key).2.code=0) (hf:fine (textF t p key).1=false):fineF t p key fine=((textF t p key).1,fltF 14 (pathK p key)):=if_pos ⟨h,hf⟩
theorem fineF_b {fine:ByteArray→Bool} (h:¬ (textF t p key).2.code=0∨fine (textF t p key).1=true):fineF t p key fine=textF t p key:=if_neg fun k=>h.elim (fun n=>n k.1) fun n=>by rw [n] at k;cases k.2
theorem oneF_a {ws:List ByteArray} (h:¬ (textF t p key).2.code=0):oneF t p key ws=(0,(textF t p key).2):=if_neg h
theorem oneF_b {ws:List ByteArray}{i:Nat} (h:(textF t p key).2.code=0) (hw:wordN ws (textF t p key).1=(i:Int)) (hi:¬ i=0) (hok:fltOk (textF t p key).2):oneF t p key ws=((i:Int),(textF t p key).2):=by
  unfold oneF
  rw [if_pos h,hw,if_neg (by omega),flt_zero _ hok h]
theorem oneF_c {ws:List ByteArray} (h:(textF t p key).2.code=0) (hw:wordN ws (textF t p key).1=0):oneF t p key ws=(0,fltF 14 (pathK p key)):=by
  unfold oneF
  rw [if_pos h,if_pos hw]
theorem wordI_go {ws:List ByteArray}{s:ByteArray}{i:Nat} (h:i < ws.length) (he:eqB (ws.getD i default) s=false) (hR:wordI ws s (ws.length - i) i=wordN ws s):wordI ws s (ws.length - (i+1)) (i+1)=wordN ws s:=by
  rw [← hR,show ws.length - i=(ws.length - (i+1))+1 by omega,wordI,if_neg (by rw [he];decide)]
theorem wordI_hit {ws:List ByteArray}{s:ByteArray}{i:Nat} (h:i < ws.length) (he:eqB (ws.getD i default) s=true) (hR:wordI ws s (ws.length - i) i=wordN ws s):wordN ws s=(i:Int):=by
  rw [← hR,show ws.length - i=(ws.length - (i+1))+1 by omega,wordI,if_pos he]
theorem wordI_end {ws:List ByteArray}{s:ByteArray}{i:Nat} (h:ws.length≤i) (hR:wordI ws s (ws.length - i) i=wordN ws s):wordN ws s=0:=by
  rw [← hR,show ws.length - i=0 by omega,wordI]
end
theorem spec_KeyAt_D (t:TreeD) (key:ByteArray) (hf:TFine t):Spec Tryz.prog 229 [.agg (treeC t),.sc (.string key)] (fun d=>d = .sc (.int .i64 (keyAtT t key))):=by
  have hkn:=hf.keys;unfold treeC
  refine sp_ (rs:= [.tmp 4]) (nt:=26) Tryz.func229 rfl fun X hX=>?_
  refine nm_ ?_
  repeat' ((first|contradiction|(with_reducible exact tt_)|((with_reducible show Wk (AwStep _ _ _ _ _));first|(refine pln_ ?_))|((with_reducible show Wk (AwCode _ _ _ _ _));first|(refine lpU_ 0x26 (ι:=Nat) (fun k=> [(5,.sc (.int .i64 (k:Int)))]) (fun k=>k≤t.keys.length∧∀ j:Nat,j < k→(fun j=>!eqB (t.keys.getD j default) key) j=true) (fun k=>t.keys.length - k) 0 ?_ ?_;(focus (exact ⟨by omega,allN_zero⟩));rintro _ hN0 k hinv;(try dsimp only at hinv);obtain ⟨hk,hj⟩:=hinv;replace hj:=Lib.hid hj;skip))|((with_reducible show Wk (boolK _ _ _ _));first|(refine bk_ (fun h h'=>?_) (fun h h'=>?_)))|((with_reducible show Wk (_∧_));first|(refine and_ ?_ ?_))|(refine hN0.go (k+1) ?_ ?_;(focus (exact ⟨by show k+1≤t.keys.length;omega,allN_step hj.out (by simp_all)⟩));(focus (show t.keys.length - (k+1) < t.keys.length - k;omega)))|fail)<;>(try refine nm_ ?_))
  all_goals (refine ⟨?_⟩)
  all_goals first|contradiction|(exfalso;omega)|(rw [keyAt_hit (k:=k) (by omega) (by omega) (by simp_all) hj.out];done)|(rw [keyAt_none (k:=k) (by first|exact .inr (by omega)|exact .inl (by omega)|exact .inl (by simp_all)) hj.out];done)
def CopP (f:FuncId) (n:Nat):Prop:=∀ t:TreeD,TFine t→SizeOf.sizeOf t < n→Spec Tryz.prog f [.agg (treeC t)] (fun d=>d = .agg (treeC t))
theorem l08Copy_step (n:Nat) (ih:CopP 96 n) (t:TreeD) (hf:TFine t) (hn:SizeOf.sizeOf t=n):Spec Tryz.prog 96 [.agg (treeC t)] (fun d=>d = .agg (treeC t)):=by
  have hkn:=hf.keys;have hcn:=hf.kids;unfold treeC
  refine spG_ (rs:= [.cell 2 67]) (nt:=32) Tryz.func96 rfl fun X hX=>?_
  refine nm_ ?_
  repeat' ((first|contradiction|(with_reducible exact tt_)|((with_reducible show Wk (AwStepF _ _ _ _ _ _ _));first|(refine cl_ rfl _ _ (hx (by omega)) rfl rfl ?_;rintro _ rfl)|(refine app_ rfl ?_))|((with_reducible show Wk (AwStep _ _ _ _ _));first|(refine pln_ ?_))|((with_reducible show Wk (AwCode _ _ _ _ _));first|(refine wtr_ (id:=7) [2,3] (.early 0 (.early 2 (.early 3 (.early 4 (.early 5 (.early 6 (.two 1 (.one 7 (.one 8 (.one 9 (.early 10 (.one 11 .done))))) 7 (.two 1 (.one 8 (.one 9 (.early 10 (.one 11 .done)))) 8 (.one 1 (.one 9 (.early 10 (.one 11 .done)))))))))))) ?_)|(refine lpK_ (ι:=Nat × List TreeD) [.frz 4] [0,1,2,5] 0x1e (fun ⟨i,o⟩=> [(4,.sc (.int .i64 (i:Int)))]) (fun ⟨i,o⟩=> [(0,⟨67,6,1, [.sc (.int .i64 t.kind),.sc (.bool t.flag),.sc (.int .i64 t.num),.sc (.string t.text),.sl t.keys.length (strsD t.keys),.sl t.kids.length (treesD t.kids)]⟩),(1,⟨67,6,1, [.sc (.int .i64 0),.sc (.bool false),.sc (.int .i64 0),.sc (.string ⟨#[]⟩),.sc (.slice none 0 0),.sc (.slice none 0 0)]⟩),(2,⟨67,6,1, [.sc (.int .i64 t.kind),.sc (.bool t.flag),.sc (.int .i64 t.num),.sc (.string t.text),.sl t.keys.length (strsD t.keys),.own 3 0 o.length]⟩),(3,⟨67,6,(o).length,treesD (o)⟩)]) (fun ⟨i,o⟩=>i≤t.kids.length∧o=t.kids.take i) (fun ⟨i,o⟩=>t.kids.length - i) (0, []) ?_ ?_;(focus (exact ⟨Nat.zero_le _,rfl⟩));rintro _ hN0 ⟨i,o⟩ hinv;(try dsimp only at hinv);obtain ⟨hi,hW⟩:=hinv;have hol:o.length=i:=(by rw [hW,List.length_take];omega);replace hW:=Lib.hid hW;have hx:i < t.kids.length→Spec Tryz.prog 96 [.agg (treeC (t.kids.getD i default))] (fun d=>d = .agg (treeC (t.kids.getD i default))):=fun h=>ih _ (hf.kid h) (Nat.lt_of_lt_of_le (kid_lt h) (by omega));skip))|((with_reducible show Wk (boolK _ _ _ _));first|(refine bk_ (fun h h'=>?_) (fun h h'=>?_)))|((with_reducible show Wk (_∧_));first|(refine and_ ?_ ?_))|((with_reducible show Wk (retOkG _ _ _ _));first|(refine rgg_ [.frz 3] ?_))|(refine hN0.run ((i+1,o ++ [(t.kids.getD i default)])) [] [0,1,2,5] ?_ ?_;(focus (exact ⟨by show i+1≤t.kids.length;omega,by rw [hW.out];exact (take_snoc t.kids i (by omega)).symm⟩));(focus (show t.kids.length - (i+1) < t.kids.length - i;omega)))|fail)<;>(try refine nm_ ?_))
  all_goals (refine ⟨?_⟩)
  all_goals first|contradiction|(exfalso;omega)|(have e:=hW.out;rw [List.take_of_length_le (by omega)] at e;have ei:i=t.kids.length:=(by omega);rw [ei,e];done)
theorem l08Copy_all:∀ n,CopP 96 n
  |0=>fun t hf h=>absurd h (Nat.not_lt_zero _)
  |n+1=>fun t hf h=>l08Copy_step (SizeOf.sizeOf t) (fun u hu hl=>l08Copy_all n u hu (by omega)) t hf rfl
theorem l08Copy_X (t:TreeD) (hf:TFine t):Spec Tryz.prog 96 [.agg (treeC t)] (fun d=>d = .agg (treeC t)):=l08Copy_all _ t hf (Nat.lt_succ_self _)
theorem spec_KidOf_D (t:TreeD) (key:ByteArray) (hf:TFine t):Spec Tryz.prog 148 [.agg (treeC t),.sc (.string key)] (fun d=>(hasT t key=true∧d = .tup [.agg (treeC (kidT t key)),.sc (.bool true)])∨(hasT t key=false∧d = .tup [.agg [.sc (.int .i64 0),.sc (.bool false),.sc (.int .i64 0),.sc (.string ⟨#[]⟩),.sc (.slice none 0 0),.sc (.slice none 0 0)],.sc (.bool false)])):=by
  have hkn:=hf.keys;have hcn:=hf.kids;have hr:=keyAt_rng t key;unfold treeC
  refine sp_ (rs:= [.cell 4 67,.tmp 5]) (nt:=28) Tryz.func148 rfl fun X hX=>?_
  refine nm_ ?_
  repeat' ((first|contradiction|(with_reducible exact tt_)|((with_reducible show Wk (AwStepF _ _ _ _ _ _ _));first|(refine cl_ rfl _ _ (spec_KeyAt_D t key hf) rfl rfl ?_;rintro _ rfl)|(refine cl_ rfl _ _ (l08Copy_X (t.kids.getD (keyAtT t key).toNat default) (hf.kid (by omega))) rfl rfl ?_;rintro _ rfl))|((with_reducible show Wk (AwStep _ _ _ _ _));first|(refine pln_ ?_))|((with_reducible show Wk (boolK _ _ _ _));first|(refine bk_ (fun h h'=>?_) (fun h h'=>?_)))|((with_reducible show Wk (_∧_));first|(refine and_ ?_ ?_))|fail)<;>(try refine nm_ ?_))
  all_goals (refine ⟨?_⟩)
  all_goals first|contradiction|(exfalso;omega)|(exact .inr (hasT_no1 (by omega)))|(exact .inr (hasT_no2 (by omega)))|(exact .inr ⟨hasT_no1 (by omega),rfl⟩)|(exact .inr ⟨hasT_no2 (by omega),rfl⟩)|(exact .inl ⟨hasT_yes (by omega) (by omega),rfl⟩)
theorem spec_PathKey_D (p k:ByteArray) (hp:p.size≤8388608) (hk:k.size≤1048576):Spec Tryz.prog 120 [.sc (.string p),.sc (.string k)] (fun d=>d = .sc (.string (pathK p k))):=by
  have ex0:=@ByteArray.size_append
  refine sp_ (rs:= [.tmp 4]) (nt:=12) Tryz.func120 rfl fun X hX=>?_
  refine nm_ ?_
  repeat' ((first|contradiction|(with_reducible exact tt_)|((with_reducible show Wk (AwStep _ _ _ _ _));first|(refine pln_ ?_))|((with_reducible show Wk (boolK _ _ _ _));first|(refine bk_ (fun h h'=>?_) (fun h h'=>?_)))|((with_reducible show Wk (_∧_));first|(refine and_ ?_ ?_))|fail)<;>(try refine nm_ ?_))
  all_goals clear ex0
  all_goals (refine ⟨?_⟩)
  all_goals first|contradiction|(exfalso;omega)|(unfold pathK;rw [if_pos (by assumption)];done)|(unfold pathK;rw [if_neg (by simp_all)];done)
theorem spec_PathPlace_D (p:ByteArray) (i:Nat) (hp:p.size≤8388608) (hi:i≤1048576):Spec Tryz.prog 62 [.sc (.string p),.sc (.int .i64 (i:Int))] (fun d=>d = .sc (.string (pathP p (i:Int)))):=by
  have ex0:=@ByteArray.size_append
  refine sp_ (rs:= [.tmp 4]) (nt:=11) Tryz.func62 rfl fun X hX=>?_
  refine nm_ ?_
  repeat' ((first|contradiction|(with_reducible exact tt_)|((with_reducible show Wk (AwStepF _ _ _ _ _ _ _));first|(refine cl_ rfl _ _ (dec_u (u:=i) (by omega)) rfl rfl ?_;rintro _ ⟨rfl,hz⟩))|((with_reducible show Wk (AwStep _ _ _ _ _));first|(refine pln_ ?_))|((with_reducible show Wk (boolK _ _ _ _));first|(refine bk_ (fun h h'=>?_) (fun h h'=>?_)))|((with_reducible show Wk (_∧_));first|(refine and_ ?_ ?_))|fail)<;>(try refine nm_ ?_))
  all_goals clear ex0
  all_goals (refine ⟨?_⟩)
  all_goals first|contradiction|(exfalso;omega)|rfl
theorem spec_l18Fault_D (c:Int) (p:ByteArray):Spec Tryz.prog 64 [.sc (.int .i64 c),.sc (.string p)] (fun d=>d = .agg [.sc (.int .i64 c),.sc (.int .i64 0),.sc (.string p)]):=by
  refine sp_ (rs:= [.cell 4 46]) (nt:=8) Tryz.func64 rfl fun X hX=>?_
  refine nm_ ?_
  repeat' ((first|contradiction|(with_reducible exact tt_)|((with_reducible show Wk (AwStep _ _ _ _ _));first|(refine pln_ ?_))|((with_reducible show Wk (boolK _ _ _ _));first|(refine bk_ (fun h h'=>?_) (fun h h'=>?_)))|((with_reducible show Wk (_∧_));first|(refine and_ ?_ ?_))|fail)<;>(try refine nm_ ?_))
  all_goals (refine ⟨?_⟩)
  all_goals first|contradiction|(exfalso;omega)|rfl
theorem l15Has_K (ss:List ByteArray) (s:ByteArray) (hn:ss.length≤1048576):Spec Tryz.prog 142 [.sl ss.length (strsD ss),.sc (.string s)] (fun d=>d = .sc (.bool (hasK ss s))):=by
  refine sp_ (rs:= [.tmp 4]) (nt:=18) Tryz.func142 rfl fun X hX=>?_
  refine nm_ ?_
  repeat' ((first|contradiction|(with_reducible exact tt_)|((with_reducible show Wk (AwStep _ _ _ _ _));first|(refine pln_ ?_))|((with_reducible show Wk (AwCode _ _ _ _ _));first|(refine lpU_ 0x23 (ι:=Nat) (fun k=> [(5,.sc (.int .i64 (k:Int)))]) (fun k=>k≤ss.length∧∀ j:Nat,j < k→(fun j=>!eqB (ss.getD j default) s) j=true) (fun k=>ss.length - k) 0 ?_ ?_;(focus (exact ⟨by omega,allN_zero⟩));rintro _ hN0 k hinv;(try dsimp only at hinv);obtain ⟨hk,hj⟩:=hinv;replace hj:=Lib.hid hj;skip))|((with_reducible show Wk (boolK _ _ _ _));first|(refine bk_ (fun h h'=>?_) (fun h h'=>?_)))|((with_reducible show Wk (_∧_));first|(refine and_ ?_ ?_))|(refine hN0.go (k+1) ?_ ?_;(focus (exact ⟨by show k+1≤ss.length;omega,allN_step hj.out (by simp_all)⟩));(focus (show ss.length - (k+1) < ss.length - k;omega)))|fail)<;>(try refine nm_ ?_))
  all_goals (refine ⟨?_⟩)
  all_goals first|contradiction|(exfalso;omega)|(rw [hasK_hit (i:=k) (by omega) (by simp_all)];done)|(rw [hasK_none (i:=k) (by omega) hj.out];done)
theorem spec_KnownKeys_D (t:TreeD) (p:ByteArray) (keys:List ByteArray) (hf:TFine t) (hp:p.size≤4194304) (hn:keys.length≤1048576):Spec Tryz.prog 70 [.agg (treeC t),.sc (.string p),.sl keys.length (strsD keys)] (fun d=>d = .agg [.sc (.int .i64 (knownT t p keys).code),.sc (.int .i64 (knownT t p keys).at_),.sc (.string (knownT t p keys).path)]):=by
  have hkn:=hf.keys;unfold treeC
  refine sp_ (rs:= [.cell 6 46]) (nt:=37) Tryz.func70 rfl fun X hX=>?_
  refine nm_ ?_
  repeat' ((first|contradiction|(with_reducible exact tt_)|((with_reducible show Wk (AwStepF _ _ _ _ _ _ _));first|(refine cl_ rfl _ _ (spec_l18Fault_D _ _) rfl rfl ?_;rintro _ rfl)|(refine cl_ rfl _ _ (l15Has_K keys (t.keys.getD i default) hn) rfl rfl ?_;rintro _ rfl)|(refine cl_ rfl _ _ (spec_PathKey_D p (t.keys.getD i default) (by omega) (by omega)) rfl rfl ?_;rintro _ rfl))|((with_reducible show Wk (AwStep _ _ _ _ _));first|(refine pln_ ?_))|((with_reducible show Wk (AwCode _ _ _ _ _));first|(refine lpU_ 0xce (ι:=Nat) (fun i=> [(7,.sc (.int .i64 (i:Int)))]) (fun i=>i≤t.keys.length∧knownL p keys (t.keys.drop i)=knownL p keys t.keys) (fun i=>t.keys.length - i) 0 ?_ ?_;(focus (exact ⟨Nat.zero_le _,rfl⟩));rintro _ hN0 i hinv;(try dsimp only at hinv);obtain ⟨hi,hR⟩:=hinv;replace hR:=Lib.hid hR;have hkz:=hf.key i;skip))|((with_reducible show Wk (boolK _ _ _ _));first|(refine bk_ (fun h h'=>?_) (fun h h'=>?_)))|((with_reducible show Wk (_∧_));first|(refine and_ ?_ ?_))|(refine hN0.go (i+1) ?_ ?_;(focus (exact ⟨by show i+1≤t.keys.length;omega,knownL_go (by omega) (by assumption) hR.out⟩));(focus (show t.keys.length - (i+1) < t.keys.length - i;omega)))|fail)<;>(try refine nm_ ?_))
  all_goals (refine ⟨?_⟩)
  all_goals first|contradiction|(exfalso;omega)|(rw [knownT_no (by omega)];rfl)|(rw [knownT_in (by omega),knownL_out (i:=i) (by omega) (by simp_all) hR.out];rfl)|(rw [knownT_in (by omega),knownL_end (i:=i) (by omega) hR.out];rfl)
theorem spec_TextField_D (t:TreeD) (p key:ByteArray) (hf:TFine t) (hp:p.size≤4194304) (hkz:key.size≤1048576):Spec Tryz.prog 143 [.agg (treeC t),.sc (.string p),.sc (.string key)] (fun d=>d = .tup [.sc (.string (textF t p key).1),.agg [.sc (.int .i64 ((textF t p key).2).code),.sc (.int .i64 ((textF t p key).2).at_),.sc (.string ((textF t p key).2).path)]]):=by
  unfold treeC
  refine sp_ (rs:= [.tmp 6,.cell 7 46]) (nt:=32) Tryz.func143 rfl fun X hX=>?_
  refine nm_ ?_
  repeat' ((first|contradiction|(with_reducible exact tt_)|((with_reducible show Wk (AwStepF _ _ _ _ _ _ _));first|(refine cl_ rfl _ _ (spec_KidOf_D t key hf) rfl rfl ?_;rintro _ (⟨hh,rfl⟩|⟨hh,rfl⟩))|(refine cl_ rfl _ _ (spec_PathKey_D p key (by omega) (by omega)) rfl rfl ?_;rintro _ rfl)|(refine cl_ rfl _ _ (spec_l18Fault_D _ _) rfl rfl ?_;rintro _ rfl))|((with_reducible show Wk (AwStep _ _ _ _ _));first|(refine pln_ ?_))|((with_reducible show Wk (boolK _ _ _ _));first|(refine bk_ (fun h h'=>?_) (fun h h'=>?_)))|((with_reducible show Wk (_∧_));first|(refine and_ ?_ ?_))|fail)<;>(try refine nm_ ?_))
  all_goals (refine ⟨?_⟩)
  all_goals first|contradiction|(exfalso;omega)|(rw [textF_a hh (by omega)];rfl)|(rw [textF_b hh (by omega)];rfl)|(rw [textF_c hh];rfl)
theorem spec_ListField_D (t:TreeD) (p key:ByteArray) (hf:TFine t) (hp:p.size≤4194304) (hkz:key.size≤1048576) (m:Int):Spec Tryz.prog 73 [.agg (treeC t),.sc (.string p),.sc (.string key),.sc (.int .i64 m)] (fun d=>d = .tup [.sl (listF t p key m).1.length (treesD (listF t p key m).1),.agg [.sc (.int .i64 ((listF t p key m).2).code),.sc (.int .i64 ((listF t p key m).2).at_),.sc (.string ((listF t p key m).2).path)]]):=by
  unfold treeC
  refine spG_ (rs:= [.tmp 8,.cell 9 46]) (nt:=43) Tryz.func73 rfl fun X hX=>?_
  refine nm_ ?_
  repeat' ((first|contradiction|(with_reducible exact tt_)|((with_reducible show Wk (AwStepF _ _ _ _ _ _ _));first|(refine cl_ rfl _ _ (spec_KidOf_D t key hf) rfl rfl ?_;rintro _ (⟨hh,rfl⟩|⟨hh,rfl⟩))|(refine cl_ rfl _ _ (spec_PathKey_D p key (by omega) (by omega)) rfl rfl ?_;rintro _ rfl)|(refine cl_ rfl _ _ (spec_l18Fault_D _ _) rfl rfl ?_;rintro _ rfl))|((with_reducible show Wk (AwStep _ _ _ _ _));first|(refine pln_ ?_))|((with_reducible show Wk (boolK _ _ _ _));first|(refine bk_ (fun h h'=>?_) (fun h h'=>?_)))|((with_reducible show Wk (_∧_));first|(refine and_ ?_ ?_))|((with_reducible show Wk (retOkG _ _ _ _));first|(refine rgg_ [.frz 3] ?_)|(refine rgg_ [] ?_))|fail)<;>(try refine nm_ ?_))
  all_goals (refine ⟨?_⟩)
  all_goals first|contradiction|(exfalso;omega)|(rw [listF_a hh (by omega) (by omega)];rfl)|(rw [listF_b hh (by omega) (by omega)];rfl)|(rw [listF_c hh (by omega)];rfl)|(rw [listF_d hh];rfl)
theorem spec_l19Key_D (t:TreeD) (p:ByteArray) (hf:TFine t) (hp:p.size≤4194304):Spec Tryz.prog 117 [.agg (treeC t),.sc (.string p)] (fun d=>d = .tup [.sc (.string (fineF t p wKey keyB).1),.agg [.sc (.int .i64 ((fineF t p wKey keyB).2).code),.sc (.int .i64 ((fineF t p wKey keyB).2).at_),.sc (.string ((fineF t p wKey keyB).2).path)]]):=by
  unfold treeC;have hkz:wKey.size≤1048576:=by decide
  refine sp_ (rs:= [.tmp 4,.cell 5 46]) (nt:=27) Tryz.func117 rfl fun X hX=>?_
  refine nm_ ?_
  repeat' ((first|contradiction|(with_reducible exact tt_)|((with_reducible show Wk (AwStepF _ _ _ _ _ _ _));first|(refine cl_ rfl _ _ (spec_TextField_D t p wKey hf hp (by decide)) rfl rfl ?_;rintro _ rfl)|(refine cl_ rfl _ _ (spec_LabelKeyOk_D _) rfl rfl ?_;rintro _ rfl)|(refine cl_ rfl _ _ (spec_PathKey_D p wKey (by omega) (by decide)) rfl rfl ?_;rintro _ rfl)|(refine cl_ rfl _ _ (spec_l18Fault_D _ _) rfl rfl ?_;rintro _ rfl))|((with_reducible show Wk (AwStep _ _ _ _ _));first|(refine pln_ ?_))|((with_reducible show Wk (AwCode _ _ _ _ _));first|(refine wo_ (id:=4) [1] [(0,true),(1,true),(2,true),(3,false)] ?_))|((with_reducible show Wk (boolK _ _ _ _));first|(refine bk_ (fun h h'=>?_) (fun h h'=>?_)))|((with_reducible show Wk (_∧_));first|(refine and_ ?_ ?_))|fail)<;>(try refine nm_ ?_))
  all_goals (refine ⟨?_⟩)
  all_goals first|contradiction|(exfalso;omega)|(rw [fineF_a (by omega) (by simp_all)];rfl)|(rw [fineF_b (by first|exact .inl (by omega)|exact .inr (by simp_all))];done)
theorem spec_l19One_D (t:TreeD) (p key:ByteArray) (hf:TFine t) (hp:p.size≤4194304) (hkz:key.size≤1048576) (ws:List ByteArray) (hw:ws.length≤100):Spec Tryz.prog 118 [.agg (treeC t),.sc (.string p),.sc (.string key),.sl ws.length (strsD ws)] (fun d=>d = .tup [.sc (.int .i64 (oneF t p key ws).1),.agg [.sc (.int .i64 ((oneF t p key ws).2).code),.sc (.int .i64 ((oneF t p key ws).2).at_),.sc (.string ((oneF t p key ws).2).path)]]):=by
  unfold treeC;have hok:=textF_ok t p key
  refine sp_ (rs:= [.tmp 8,.cell 9 46]) (nt:=42) Tryz.func118 rfl fun X hX=>?_
  refine nm_ ?_
  repeat' ((first|contradiction|(with_reducible exact tt_)|((with_reducible show Wk (AwStepF _ _ _ _ _ _ _));first|(refine cl_ rfl _ _ (spec_TextField_D t p key hf hp hkz) rfl rfl ?_;rintro _ rfl)|(refine cl_ rfl _ _ (spec_PathKey_D p key (by omega) (by omega)) rfl rfl ?_;rintro _ rfl)|(refine cl_ rfl _ _ (spec_l18Fault_D _ _) rfl rfl ?_;rintro _ rfl))|((with_reducible show Wk (AwStep _ _ _ _ _));first|(refine pln_ ?_))|((with_reducible show Wk (AwCode _ _ _ _ _));first|(refine wo_ (id:=3) [1] [(0,true),(1,true),(2,false)] ?_)|(refine wo_ (id:=8) [1] [(0,true),(1,true),(2,true),(3,false)] ?_)|(refine lpU_ 0x1e0e (ι:=Nat) (fun i=> [(12,.sc (.int .i64 (i:Int)))]) (fun i=>(1≤i∧(i≤ws.length∨i=1))∧wordI ws (textF t p key).1 (ws.length - i) i=wordN ws (textF t p key).1) (fun i=>ws.length - i) 1 ?_ ?_;(focus (exact ⟨⟨Nat.le_refl _,.inr rfl⟩,rfl⟩));rintro _ hN0 i hinv;(try dsimp only at hinv);obtain ⟨⟨hi1,hi⟩,hR⟩:=hinv;replace hR:=Lib.hid hR;skip))|((with_reducible show Wk (boolK _ _ _ _));first|(refine bk_ (fun h h'=>?_) (fun h h'=>?_)))|((with_reducible show Wk (_∧_));first|(refine and_ ?_ ?_))|(refine hN0.go (i+1) ?_ ?_;(focus (exact ⟨⟨by show 1≤i+1;omega,.inl (by show i+1≤ws.length;omega)⟩,wordI_go (by omega) (by simp_all) hR.out⟩));(focus (show ws.length - (i+1) < ws.length - i;omega)))|fail)<;>(try refine nm_ ?_))
  all_goals (refine ⟨?_⟩)
  all_goals first|contradiction|(exfalso;omega)|(rw [oneF_a (by omega)];done)|(rw [oneF_b (by omega) (wordI_hit (i:=i) (by omega) (by simp_all) hR.out) (by omega) hok];done)|(rw [oneF_c (by omega) (wordI_end (i:=i) (by omega) hR.out)];rfl)
end Go.Proofs.YtidjjfjhmlndjaaGreatDoor
