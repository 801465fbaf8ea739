/- Ne4 (what is wanted of them). -/
import Derived.Test.YtidjjfjhmlndjaaGreatDoorVNe1
import Derived.Test.YtidjjfjhmlndjaaGreatDoorVCl6
import Derived.Test.YtidjjfjhmlndjaaGreatDoorVNo
namespace Go.Proofs.YtidjjfjhmlndjaaGreatDoor
open Go.RowKit
set_option linter.unusedVariables false
set_option linter.unusedSimpArgs false
set_option maxRecDepth 100000
set_option maxHeartbeats 4000000
theorem eqB_comm (a b:ByteArray):eqB a b=eqB b a:=by unfold eqB;exact Bool.eq_iff_iff.2 ⟨fun h=>by rw [beq_iff_eq] at h ⊢;exact h.symm,fun h=>by rw [beq_iff_eq] at h ⊢;exact h.symm⟩
theorem ix_K (ss:List ByteArray) (s:ByteArray):decide (0≤firstN ss.length fun i=>eqB s (ss.getD i default))=hasK ss s:=by
  unfold hasK
  cases hb:allB ss.length (fun i=>!eqB (ss.getD i default) s) with
  |true=>
    have h:=List.all_eq_true.1 hb
    rw [firstN_none (k:=ss.length) (Nat.le_refl _) fun j hj=>by have:=h j (List.mem_range.2 hj);rw [eqB_comm];exact this]
    rfl
  |false=>
    have h2:=(firstN_rng ss.length fun i=>eqB s (ss.getD i default))
    by_cases h0:0≤firstN ss.length fun i=>eqB s (ss.getD i default)
    · rw [decide_eq_true h0];rfl
    · exfalso
      have h3:firstN ss.length (fun i=>eqB s (ss.getD i default))=-1:=by omega
      unfold firstN at h3
      cases hf:(List.range ss.length).find? (fun i=>eqB s (ss.getD i default)) with
      |some k=>rw [hf] at h3;simp only [] at h3;omega
      |none=>
        have h4:allB ss.length (fun i=>!eqB (ss.getD i default) s)=true:=List.all_eq_true.2 fun j hj=>by
          have:=List.find?_eq_none.1 hf j hj
          rw [eqB_comm] at this
          simpa using this
        rw [h4] at hb
        cases hb
theorem firstN_comm (ss:List ByteArray) (s:ByteArray):(firstN ss.length fun i=>eqB s (ss.getD i default))=firstN ss.length fun i=>eqB (ss.getD i default) s:=by
  congr 1
  funext i
  exact eqB_comm _ _
theorem mem_lt {t x:TreeD} (h:x ∈ t.kids):SizeOf.sizeOf x < SizeOf.sizeOf t:=by
  obtain ⟨a,b,c,d,e,cs⟩:=t
  have h1:=List.sizeOf_lt_of_mem (show x ∈ cs from h)
  simp only [TreeD.mk.sizeOf_spec]
  omega
theorem indexS_K (ss:List ByteArray) (s:ByteArray) (hn:ss.length≤1048576):Spec Tryz.prog 297 [.sl ss.length (strsD ss),.sc (.string s)] (fun d=>d = .sc (.int .i64 (firstN ss.length fun i=>eqB s (ss.getD i default)))):=by
  refine sp_ (rs:= [.tmp 4]) (nt:=19) Tryz.func297 rfl fun X hX=>?_
  refine nm_ ?_
  repeat' ((first|contradiction|(with_reducible exact tt_)|((with_reducible show Wk (AwStep _ _ _ _ _));first|(refine pln_ ?_))|((with_reducible show Wk (AwCode _ _ _ _ _));first|(refine lpU_ 0x183 (ι:=Nat) (fun k=> [(8,.sc (.int .i64 (k:Int)))]) (fun k=>k≤ss.length∧∀ j:Nat,j < k→(fun j=>!eqB s (ss.getD j default)) j=true) (fun k=>ss.length - k) 0 ?_ ?_;(focus (exact ⟨by omega,allN_zero⟩));rintro _ hN0 k hinv;(try dsimp only at hinv);obtain ⟨hk,hj⟩:=hinv;replace hj:=Lib.hid hj;skip))|((with_reducible show Wk (boolK _ _ _ _));first|(refine bk_ (fun h h'=>?_) (fun h h'=>?_)))|((with_reducible show Wk (_∧_));first|(refine and_ ?_ ?_))|(refine hN0.go (k+1) ?_ ?_;(focus (exact ⟨by show k+1≤ss.length;omega,allN_step hj.out (by simp_all)⟩));(focus (show ss.length - (k+1) < ss.length - k;omega)))|fail)<;>(try refine nm_ ?_))
  all_goals (refine ⟨?_⟩)
  all_goals first|contradiction|(exfalso;omega)|(rw [firstN_hit (k:=k) (by omega) (by simp_all) hj.out];done)|(rw [firstN_none (k:=k) (by omega) hj.out];done)
theorem contains_K (ss:List ByteArray) (s:ByteArray) (hn:ss.length≤1048576):Spec Tryz.prog 231 [.sl ss.length (strsD ss),.sc (.string s)] (fun d=>d = .sc (.bool (hasK ss s))):=by
  refine sp_ (rs:= [.tmp 4]) (nt:=9) Tryz.func231 rfl fun X hX=>?_
  refine nm_ ?_
  repeat' ((first|contradiction|(with_reducible exact tt_)|((with_reducible show Wk (AwStepF _ _ _ _ _ _ _));first|(refine cl_ rfl _ _ (indexS_K ss s hn) rfl rfl ?_;rintro _ rfl))|((with_reducible show Wk (AwStep _ _ _ _ _));first|(refine pln_ ?_))|((with_reducible show Wk (boolK _ _ _ _));first|(refine bk_ (fun h h'=>?_) (fun h h'=>?_)))|((with_reducible show Wk (_∧_));first|(refine and_ ?_ ?_))|fail)<;>(try refine nm_ ?_))
  all_goals (refine ⟨?_⟩)
  all_goals first|contradiction|(exfalso;omega)|(rw [← ix_K];done)
theorem cloneS_O (xs:List ByteArray) (hn:xs.length≤1048576):Spec Tryz.prog 220 [.sl xs.length (strsD xs)] (fun d=>d = .sl xs.length (strsD xs)∨(d = .sc (.slice none 0 0)∧D.sl 0 [] = .sl xs.length (strsD xs))):=by
  refine spG_ (rs:= [.tmp 2]) (nt:=8) Tryz.func220 rfl fun X hX=>?_
  refine nm_ ?_
  repeat' ((first|contradiction|(with_reducible exact tt_)|((with_reducible show Wk (AwStepF _ _ _ _ _ _ _));first|(refine nnil_ rfl (fun hnil=>?_) ?_)|(refine app_ rfl ?_))|((with_reducible show Wk (AwStep _ _ _ _ _));first|(refine pln_ ?_))|((with_reducible show Wk (boolK _ _ _ _));first|(refine bk_ (fun h h'=>?_) (fun h h'=>?_)))|((with_reducible show Wk (_∧_));first|(refine and_ ?_ ?_))|((with_reducible show Wk (retOkG _ _ _ _));first|(refine rgg_ [] ?_;refine nm_ ?_;fail_if_success (show Wk False))|(refine rgg_ [.frz 1] ?_;refine nm_ ?_;fail_if_success (show Wk False))|(refine rgg_ [.frz 0] ?_;refine nm_ ?_;fail_if_success (show Wk False)))|fail)<;>(try refine nm_ ?_))
  all_goals (refine ⟨?_⟩)
  all_goals first|contradiction|(exfalso;omega)|(exact .inl rfl)|(obtain rfl:=row_none (f:=strsD) (by decide) strs_len1 hnil;exact .inr ⟨rfl,rfl⟩)|(obtain rfl:=row_none (f:=strsD) (by decide) strs_len1 hnil;rfl)|rfl
theorem cloneS_K (xs:List ByteArray) (hn:xs.length≤1048576):Spec Tryz.prog 220 [.sl xs.length (strsD xs)] (fun d=>d = .sl xs.length (strsD xs)):=specNil (cloneS_O xs hn)
theorem impl_KeyAt_D (t:TreeD) (key:ByteArray) (hf:TFine t):Spec Tryz.prog 298 [.agg (treeC t),.sc (.string key)] (fun d=>d = .sc (.int .i64 (keyAtT t key))):=by
  have hkn:=hf.keys;unfold treeC
  refine sp_ (rs:= [.tmp 4]) (nt:=12) Tryz.func298 rfl fun X hX=>?_
  refine nm_ ?_
  repeat' ((first|contradiction|(with_reducible exact tt_)|((with_reducible show Wk (AwStepF _ _ _ _ _ _ _));first|(refine cl_ rfl _ _ (indexS_K t.keys key hkn) rfl rfl ?_;rintro _ rfl))|((with_reducible show Wk (AwStep _ _ _ _ _));first|(refine pln_ ?_))|((with_reducible show Wk (boolK _ _ _ _));first|(refine bk_ (fun h h'=>?_) (fun h h'=>?_)))|((with_reducible show Wk (_∧_));first|(refine and_ ?_ ?_))|fail)<;>(try refine nm_ ?_))
  all_goals (refine ⟨?_⟩)
  all_goals first|contradiction|(exfalso;omega)|(unfold keyAtT;rw [if_neg (by omega)];done)|(unfold keyAtT;rw [if_pos (by omega),firstN_comm];done)
def CopI (f:FuncId) (n:Nat):Prop:=∀ t:TreeD,TFine t→SizeOf.sizeOf t < n→Spec Tryz.prog f [.agg (treeC t)] (fun d=>d = .agg (treeC t))
def CopL (f:FuncId) (n:Nat):Prop:=∀ l:List TreeD,l.length≤1048576→(∀ x ∈ l,TFine x)→(∀ x ∈ l,SizeOf.sizeOf x < n)→Spec Tryz.prog f [.sl l.length (treesD l)] (fun d=>d = .sl l.length (treesD l))
theorem copyTrees_step (n:Nat) (ih:CopI 299 n) (l:List TreeD) (hl:l.length≤1048576) (hf:∀ x ∈ l,TFine x) (hs:∀ x ∈ l,SizeOf.sizeOf x < n):Spec Tryz.prog 347 [.sl l.length (treesD l)] (fun d=>d = .sl l.length (treesD l)):=by
  refine spG_ (rs:= [.tmp 2]) (nt:=19) Tryz.func347 rfl fun X hX=>?_
  refine nm_ ?_
  repeat' ((first|contradiction|(with_reducible exact tt_)|((with_reducible show Wk (AwStepF _ _ _ _ _ _ _));first|(refine cl_ rfl _ _ (hx (by omega)) rfl rfl ?_;rintro _ rfl)|(refine app_ rfl ?_))|((with_reducible show Wk (AwStep _ _ _ _ _));first|(refine pln_ ?_))|((with_reducible show Wk (AwCode _ _ _ _ _));first|(refine nilS_ 3 67 6 ?_;refine nm_ ?_;refine lpK_ (ι:=Nat × List TreeD) [] [0] 0x1c8 (fun ⟨i,o⟩=> [(8,.sc (.int .i64 (i:Int))),(3,.own 0 0 o.length)]) (fun ⟨i,o⟩=> [(0,⟨67,6,(o).length,treesD (o)⟩)]) (fun ⟨i,o⟩=>i≤l.length∧o=l.take i) (fun ⟨i,o⟩=>l.length - i) (0, []) ?_ ?_;(focus (exact ⟨Nat.zero_le _,rfl⟩));rintro _ hN0 ⟨i,o⟩ hinv;(try dsimp only at hinv);obtain ⟨hi,hW⟩:=hinv;have hol:o.length=i:=(by rw [hW,List.length_take];omega);replace hW:=Lib.hid hW;have hx:i < l.length→Spec Tryz.prog 299 [.agg (treeC (l.getD i default))] (fun d=>d = .agg (treeC (l.getD i default))):=fun h=>ih _ (hf _ (getD_mem h)) (hs _ (getD_mem h));skip))|((with_reducible show Wk (boolK _ _ _ _));first|(refine bk_ (fun h h'=>?_) (fun h h'=>?_)))|((with_reducible show Wk (_∧_));first|(refine and_ ?_ ?_))|((with_reducible show Wk (retOkG _ _ _ _));first|(refine rgg_ [.frz 0] ?_))|(refine hN0.run ((i+1,o ++ [(l.getD i default)])) [] [3] ?_ ?_;(focus (exact ⟨by show i+1≤l.length;omega,by rw [hW.out];exact (take_snoc l i (by omega)).symm⟩));(focus (show l.length - (i+1) < l.length - i;omega)))|fail)<;>(try refine nm_ ?_))
  all_goals (refine ⟨?_⟩)
  all_goals first|contradiction|(exfalso;omega)|(have e:=hW.out;rw [List.take_of_length_le (by omega)] at e;have ei:i=l.length:=(by omega);rw [ei,e];done)
theorem copyTree_step (n:Nat) (ih:CopL 347 n) (t:TreeD) (hf:TFine t) (hn:SizeOf.sizeOf t=n):Spec Tryz.prog 299 [.agg (treeC t)] (fun d=>d = .agg (treeC t)):=by
  have hkn:=hf.keys;have hcn:=hf.kids;unfold treeC
  refine sp_ (rs:= [.cell 2 67]) (nt:=12) Tryz.func299 rfl fun X hX=>?_
  refine nm_ ?_
  repeat' ((first|contradiction|(with_reducible exact tt_)|((with_reducible show Wk (AwStepF _ _ _ _ _ _ _));first|(refine cl_ rfl _ _ (cloneS_K t.keys hkn) rfl rfl ?_;rintro _ rfl)|(refine cl_ rfl _ _ (ih t.kids hcn (fun x hx=>hf.mem hx) (fun x hx=>hn ▸ mem_lt hx)) rfl rfl ?_;rintro _ rfl))|((with_reducible show Wk (AwStep _ _ _ _ _));first|(refine pln_ ?_))|((with_reducible show Wk (boolK _ _ _ _));first|(refine bk_ (fun h h'=>?_) (fun h h'=>?_)))|((with_reducible show Wk (_∧_));first|(refine and_ ?_ ?_))|fail)<;>(try refine nm_ ?_))
  all_goals (refine ⟨?_⟩)
  all_goals first|contradiction|(exfalso;omega)|rfl
theorem copyTree_all:∀ n,CopI 299 n
  |0=>fun t hf h=>absurd h (Nat.not_lt_zero _)
  |n+1=>fun t hf h=>copyTree_step (SizeOf.sizeOf t) (fun l hl hf2 hs=>copyTrees_step (SizeOf.sizeOf t) (fun u hu hlt=>copyTree_all n u hu (by omega)) l hl hf2 hs) t hf rfl
theorem copyTree_K (t:TreeD) (hf:TFine t):Spec Tryz.prog 299 [.agg (treeC t)] (fun d=>d = .agg (treeC t)):=copyTree_all _ t hf (Nat.lt_succ_self _)
theorem impl_KidOf_D (t:TreeD) (key:ByteArray) (hf:TFine t):Spec Tryz.prog 234 [.agg (treeC t),.sc (.string key)] (fun d=>(hasT t key=true∧d = .tup [.agg (treeC (kidT t key)),.sc (.bool true)])∨(hasT t key=false∧d = .tup [.agg [.sc (.int .i64 0),.sc (.bool false),.sc (.int .i64 0),.sc (.string ⟨#[]⟩),.sc (.slice none 0 0),.sc (.slice none 0 0)],.sc (.bool false)])):=by
  have hkn:=hf.keys;have hcn:=hf.kids;have hr:=keyAt_rng t key;unfold treeC
  refine sp_ (rs:= [.cell 4 67,.tmp 5]) (nt:=28) Tryz.func234 rfl fun X hX=>?_
  refine nm_ ?_
  repeat' ((first|contradiction|(with_reducible exact tt_)|((with_reducible show Wk (AwStepF _ _ _ _ _ _ _));first|(refine cl_ rfl _ _ (impl_KeyAt_D t key hf) rfl rfl ?_;rintro _ rfl)|(refine cl_ rfl _ _ (copyTree_K (t.kids.getD (keyAtT t key).toNat default) (hf.kid (by omega))) rfl rfl ?_;rintro _ rfl))|((with_reducible show Wk (AwStep _ _ _ _ _));first|(refine pln_ ?_))|((with_reducible show Wk (boolK _ _ _ _));first|(refine bk_ (fun h h'=>?_) (fun h h'=>?_)))|((with_reducible show Wk (_∧_));first|(refine and_ ?_ ?_))|fail)<;>(try refine nm_ ?_))
  all_goals (refine ⟨?_⟩)
  all_goals first|contradiction|(exfalso;omega)|(exact .inr (hasT_no1 (by omega)))|(exact .inr (hasT_no2 (by omega)))|(exact .inr ⟨hasT_no1 (by omega),rfl⟩)|(exact .inr ⟨hasT_no2 (by omega),rfl⟩)|(exact .inl ⟨hasT_yes (by omega) (by omega),rfl⟩)
theorem impl_PathKey_D (p k:ByteArray) (hp:p.size≤8388608) (hk:k.size≤1048576):Spec Tryz.prog 130 [.sc (.string p),.sc (.string k)] (fun d=>d = .sc (.string (pathK p k))):=by
  have ex0:=@ByteArray.size_append
  refine sp_ (rs:= [.tmp 4]) (nt:=12) Tryz.func130 rfl fun X hX=>?_
  refine nm_ ?_
  repeat' ((first|contradiction|(with_reducible exact tt_)|((with_reducible show Wk (AwStep _ _ _ _ _));first|(refine pln_ ?_))|((with_reducible show Wk (boolK _ _ _ _));first|(refine bk_ (fun h h'=>?_) (fun h h'=>?_)))|((with_reducible show Wk (_∧_));first|(refine and_ ?_ ?_))|fail)<;>(try refine nm_ ?_))
  all_goals clear ex0
  all_goals (refine ⟨?_⟩)
  all_goals first|contradiction|(exfalso;omega)|(unfold pathK;rw [if_pos (by assumption)];done)|(unfold pathK;rw [if_neg (by simp_all)];done)
theorem impl_PathPlace_D (p:ByteArray) (i:Nat) (hp:p.size≤8388608) (hi:i≤1048576):Spec Tryz.prog 66 [.sc (.string p),.sc (.int .i64 (i:Int))] (fun d=>d = .sc (.string (pathP p (i:Int)))):=by
  have ex0:=@ByteArray.size_append
  refine sp_ (rs:= [.tmp 4]) (nt:=11) Tryz.func66 rfl fun X hX=>?_
  refine nm_ ?_
  repeat' ((first|contradiction|(with_reducible exact tt_)|((with_reducible show Wk (AwStepF _ _ _ _ _ _ _));first|(refine cl_ rfl _ _ (decI_u (u:=i) (by omega)) rfl rfl ?_;rintro _ ⟨rfl,hz⟩))|((with_reducible show Wk (AwStep _ _ _ _ _));first|(refine pln_ ?_))|((with_reducible show Wk (boolK _ _ _ _));first|(refine bk_ (fun h h'=>?_) (fun h h'=>?_)))|((with_reducible show Wk (_∧_));first|(refine and_ ?_ ?_))|fail)<;>(try refine nm_ ?_))
  all_goals clear ex0
  all_goals (refine ⟨?_⟩)
  all_goals first|contradiction|(exfalso;omega)|rfl
theorem impl_KnownKeys_D (t:TreeD) (p:ByteArray) (keys:List ByteArray) (hf:TFine t) (hp:p.size≤4194304) (hn:keys.length≤1048576):Spec Tryz.prog 154 [.agg (treeC t),.sc (.string p),.sl keys.length (strsD keys)] (fun d=>d = .agg [.sc (.int .i64 (knownT t p keys).code),.sc (.int .i64 (knownT t p keys).at_),.sc (.string (knownT t p keys).path)]):=by
  have hkn:=hf.keys;unfold treeC
  refine sp_ (rs:= [.cell 6 46]) (nt:=31) Tryz.func154 rfl fun X hX=>?_
  refine nm_ ?_
  repeat' ((first|contradiction|(with_reducible exact tt_)|((with_reducible show Wk (AwStepF _ _ _ _ _ _ _));first|(refine cl_ rfl _ _ (contains_K keys (t.keys.getD i default) hn) rfl rfl ?_;rintro _ rfl)|(refine cl_ rfl _ _ (impl_PathKey_D p (t.keys.getD i default) (by omega) (by omega)) rfl rfl ?_;rintro _ rfl))|((with_reducible show Wk (AwStep _ _ _ _ _));first|(refine pln_ ?_))|((with_reducible show Wk (AwCode _ _ _ _ _));first|(refine lpU_ 0x38046 (ι:=Nat) (fun i=> [(17,.sc (.int .i64 (i:Int)))]) (fun i=>i≤t.keys.length∧knownL p keys (t.keys.drop i)=knownL p keys t.keys) (fun i=>t.keys.length - i) 0 ?_ ?_;(focus (exact ⟨Nat.zero_le _,rfl⟩));rintro _ hN0 i hinv;(try dsimp only at hinv);obtain ⟨hi,hR⟩:=hinv;replace hR:=Lib.hid hR;have hkz:=hf.key i;skip))|((with_reducible show Wk (boolK _ _ _ _));first|(refine bk_ (fun h h'=>?_) (fun h h'=>?_)))|((with_reducible show Wk (_∧_));first|(refine and_ ?_ ?_))|(refine hN0.go (i+1) ?_ ?_;(focus (exact ⟨by show i+1≤t.keys.length;omega,knownL_go (by omega) (by assumption) hR.out⟩));(focus (show t.keys.length - (i+1) < t.keys.length - i;omega)))|fail)<;>(try refine nm_ ?_))
  all_goals (refine ⟨?_⟩)
  all_goals first|contradiction|(exfalso;omega)|(rw [knownT_no (by omega)];rfl)|(rw [knownT_in (by omega),knownL_out (i:=i) (by omega) (by simp_all) hR.out];rfl)|(rw [knownT_in (by omega),knownL_end (i:=i) (by omega) hR.out];rfl)
theorem impl_TextField_D (t:TreeD) (p key:ByteArray) (hf:TFine t) (hp:p.size≤4194304) (hkz:key.size≤1048576):Spec Tryz.prog 212 [.agg (treeC t),.sc (.string p),.sc (.string key)] (fun d=>d = .tup [.sc (.string (textF t p key).1),.agg [.sc (.int .i64 ((textF t p key).2).code),.sc (.int .i64 ((textF t p key).2).at_),.sc (.string ((textF t p key).2).path)]]):=by
  unfold treeC
  refine sp_ (rs:= [.tmp 6,.cell 7 46]) (nt:=32) Tryz.func212 rfl fun X hX=>?_
  refine nm_ ?_
  repeat' ((first|contradiction|(with_reducible exact tt_)|((with_reducible show Wk (AwStepF _ _ _ _ _ _ _));first|(refine cl_ rfl _ _ (impl_KidOf_D t key hf) rfl rfl ?_;rintro _ (⟨hh,rfl⟩|⟨hh,rfl⟩))|(refine cl_ rfl _ _ (impl_PathKey_D p key (by omega) (by omega)) rfl rfl ?_;rintro _ rfl))|((with_reducible show Wk (AwStep _ _ _ _ _));first|(refine pln_ ?_))|((with_reducible show Wk (boolK _ _ _ _));first|(refine bk_ (fun h h'=>?_) (fun h h'=>?_)))|((with_reducible show Wk (_∧_));first|(refine and_ ?_ ?_))|fail)<;>(try refine nm_ ?_))
  all_goals (refine ⟨?_⟩)
  all_goals first|contradiction|(exfalso;omega)|(rw [textF_a hh (by omega)];rfl)|(rw [textF_b hh (by omega)];rfl)|(rw [textF_c hh];rfl)
theorem impl_ListField_O (t:TreeD) (p key:ByteArray) (hf:TFine t) (hp:p.size≤4194304) (hkz:key.size≤1048576) (m:Int):Spec Tryz.prog 161 [.agg (treeC t),.sc (.string p),.sc (.string key),.sc (.int .i64 m)] (fun d=>∃ d',SubT d d'∧d' = .tup [.sl (listF t p key m).1.length (treesD (listF t p key m).1),.agg [.sc (.int .i64 ((listF t p key m).2).code),.sc (.int .i64 ((listF t p key m).2).at_),.sc (.string ((listF t p key m).2).path)]]):=by
  unfold treeC
  refine spG_ (rs:= [.tmp 8,.cell 9 46]) (nt:=43) Tryz.func161 rfl fun X hX=>?_
  refine nm_ ?_
  repeat' ((first|contradiction|(with_reducible exact tt_)|((with_reducible show Wk (AwStepF _ _ _ _ _ _ _));first|(refine cl_ rfl _ _ (impl_KidOf_D t key hf) rfl rfl ?_;rintro _ (⟨hh,rfl⟩|⟨hh,rfl⟩))|(refine cl_ rfl _ _ (impl_PathKey_D p key (by omega) (by omega)) rfl rfl ?_;rintro _ rfl))|((with_reducible show Wk (AwStep _ _ _ _ _));first|(refine pln_ ?_))|((with_reducible show Wk (boolK _ _ _ _));first|(refine bk_ (fun h h'=>?_) (fun h h'=>?_)))|((with_reducible show Wk (_∧_));first|(refine and_ ?_ ?_))|((with_reducible show Wk (retOkG _ _ _ _));first|(refine rgg_ [] ?_))|fail)<;>(try refine nm_ ?_))
  all_goals (refine ⟨?_⟩)
  all_goals (try refine ⟨_,?_,rfl⟩)
  all_goals first|(rw [listF_a hh (by omega) (by omega)];exact .same _)|(rw [listF_b hh (by omega) (by omega)];exact .tup ⟨.nil,.same _,trivial⟩)|(rw [listF_c hh (by omega)];exact .tup ⟨.nil,.same _,trivial⟩)|(rw [listF_d hh];exact .tup ⟨.nil,.same _,trivial⟩)
theorem impl_ListField_K (t:TreeD) (p key:ByteArray) (hf:TFine t) (hp:p.size≤4194304) (hkz:key.size≤1048576) (m:Int):Spec Tryz.prog 161 [.agg (treeC t),.sc (.string p),.sc (.string key),.sc (.int .i64 m)] (fun d=>d = .tup [.sl (listF t p key m).1.length (treesD (listF t p key m).1),.agg [.sc (.int .i64 ((listF t p key m).2).code),.sc (.int .i64 ((listF t p key m).2).at_),.sc (.string ((listF t p key m).2).path)]]):=(impl_ListField_O t p key hf hp hkz m).sub
end Go.Proofs.YtidjjfjhmlndjaaGreatDoor
