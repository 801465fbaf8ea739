/- Cl5 (what is wanted of them). -/
import Derived.Test.YtidjjfjhmlndjaaGreatDoorVCl1
import Derived.Test.YtidjjfjhmlndjaaGreatDoorVAwb
namespace Go.Proofs.YtidjjfjhmlndjaaGreatDoor
open Go.RowKit
set_option linter.unusedVariables false
set_option linter.unusedSimpArgs false
set_option maxRecDepth 100000
set_option maxHeartbeats 1000000
def cmpB (a b:ByteArray):Int:=Lib.compareBytes a.data.toList b.data.toList
theorem cmpL_rng:∀ a b:List UInt8,Lib.compareBytes a b=-1∨Lib.compareBytes a b=0∨Lib.compareBytes a b=1
  | [], []=>.inr (.inl rfl)
  | [],_::_=>.inl rfl
  |_::_, []=>.inr (.inr rfl)
  |x::a,y::b=>by
    unfold Lib.compareBytes
    split
    · exact .inl rfl
    · split
      · exact .inr (.inr rfl)
      · exact cmpL_rng a b
theorem cmpL_lt:∀ a b:List UInt8,decide (Lib.compareBytes a b < 0)=Op.bytesLess a b
  | [], []=>rfl
  | [],_::_=>rfl
  |_::_, []=>rfl
  |x::a,y::b=>by
    unfold Lib.compareBytes Op.bytesLess
    by_cases h:x < y
    · simp [h]
    · by_cases h2:y < x
      · have:x≠y:=fun e=>by subst e;exact UInt8.lt_irrefl _ h2
        simp [h,h2,this]
      · have:x=y:=UInt8.le_antisymm (UInt8.not_lt.1 h2) (UInt8.not_lt.1 h)
        subst this
        simp only [h,if_false]
        rw [cmpL_lt a b]
        simp
theorem cmpL_eq0:∀ a b:List UInt8,(Lib.compareBytes a b==0)=(a==b)
  | [], []=>rfl
  | [],_::_=>rfl
  |_::_, []=>rfl
  |x::a,y::b=>by
    unfold Lib.compareBytes
    by_cases h:x < y
    · have:x≠y:=fun e=>by subst e;exact UInt8.lt_irrefl _ h
      simp [h,this]
    · by_cases h2:y < x
      · have:x≠y:=fun e=>by subst e;exact UInt8.lt_irrefl _ h2
        simp [h,h2,this]
      · have:x=y:=UInt8.le_antisymm (UInt8.not_lt.1 h2) (UInt8.not_lt.1 h)
        subst this
        simp only [h,if_false]
        rw [cmpL_eq0 a b]
        simp
theorem cmpB_lt (a b:ByteArray):decide (cmpB a b < 0)=lessB a b:=by unfold cmpB lessB;rw [cmpL_lt,Lib.toList_data,Lib.toList_data]
theorem cmpB_eq (a b:ByteArray):(cmpB a b==0)=eqB a b:=by unfold cmpB eqB;rw [cmpL_eq0,Lib.toList_data,Lib.toList_data]
theorem cmpB_rng (a b:ByteArray):cmpB a b=-1∨cmpB a b=0∨cmpB a b=1:=cmpL_rng _ _
theorem ext_cmp (a b:ByteArray) (w:World):(callFunc 345 #[.string a,.string b]).run Tryz.prog w = .ok (.value (.int .i64 (cmpB a b))) w:=by
  rw [run_callFunc_extern Tryz.func345 (by kernel_rfl) (by kernel_rfl) (by kernel_rfl) (e:=Extern.BytealgCompare.compare) (by kernel_rfl),Lib.run_compareString]
  rfl
/-- The first place of a byte. -/
def byteAt (s:ByteArray) (c:Int):Int:=Lib.indexByte s.data.toList c.toNat.toUInt8
theorem ext_idx (s:ByteArray) (c:Int) (w:World):(callFunc 363 #[.string s,.int .u8 c]).run Tryz.prog w = .ok (.value (.int .i64 (byteAt s c))) w:=by
  rw [run_callFunc_extern Tryz.func363 (by kernel_rfl) (by kernel_rfl) (by kernel_rfl) (e:=Extern.BytealgIndexByte.indexByte) (by kernel_rfl),Lib.run_indexByteString]
  rfl
theorem internal_bytealg_CompareString_D (a b:ByteArray):Spec Tryz.prog 292 [.sc (.string a),.sc (.string b)] (fun d=>d = .sc (.int .i64 (cmpB a b))):=by
  refine sp_ (rs:= [.tmp 4]) (nt:=8) Tryz.func292 rfl fun X hX=>?_
  refine nm_ ?_
  repeat' ((first|contradiction|(with_reducible exact tt_)|((with_reducible show Wk (AwStep _ _ _ _ _));first|(refine xt_ rfl [.string _,.string _] _ rfl (ext_cmp _ _) rfl ?_)|(refine pln_ ?_))|((with_reducible show Wk (boolK _ _ _ _));first|(refine bk_ (fun h h'=>?_) (fun h h'=>?_)))|((with_reducible show Wk (_∧_));first|(refine and_ ?_ ?_))|fail)<;>(try refine nm_ ?_))
theorem strings_Compare_D (a b:ByteArray):Spec Tryz.prog 222 [.sc (.string a),.sc (.string b)] (fun d=>d = .sc (.int .i64 (cmpB a b))):=by
  refine sp_ (rs:= [.tmp 4]) (nt:=8) Tryz.func222 rfl fun X hX=>?_
  refine nm_ ?_
  repeat' ((first|contradiction|(with_reducible exact tt_)|((with_reducible show Wk (AwStepF _ _ _ _ _ _ _));first|(refine cl_ rfl _ _ (internal_bytealg_CompareString_D _ _) rfl rfl ?_;rintro _ rfl))|((with_reducible show Wk (AwStep _ _ _ _ _));first|(refine pln_ ?_))|((with_reducible show Wk (boolK _ _ _ _));first|(refine bk_ (fun h h'=>?_) (fun h h'=>?_)))|((with_reducible show Wk (_∧_));first|(refine and_ ?_ ?_))|fail)<;>(try refine nm_ ?_))
theorem internal_stringslite_IndexByte_D (s:ByteArray) (c:Int):Spec Tryz.prog 335 [.sc (.string s),.sc (.int .u8 c)] (fun d=>d = .sc (.int .i64 (byteAt s c))):=by
  refine sp_ (rs:= [.tmp 4]) (nt:=8) Tryz.func335 rfl fun X hX=>?_
  refine nm_ ?_
  repeat' ((first|contradiction|(with_reducible exact tt_)|((with_reducible show Wk (AwStep _ _ _ _ _));first|(refine xt_ rfl [.string _,.int .u8 _] _ rfl (ext_idx _ _) rfl ?_)|(refine pln_ ?_))|((with_reducible show Wk (boolK _ _ _ _));first|(refine bk_ (fun h h'=>?_) (fun h h'=>?_)))|((with_reducible show Wk (_∧_));first|(refine and_ ?_ ?_))|fail)<;>(try refine nm_ ?_))
theorem strings_IndexByte_D (s:ByteArray) (c:Int):Spec Tryz.prog 272 [.sc (.string s),.sc (.int .u8 c)] (fun d=>d = .sc (.int .i64 (byteAt s c))):=by
  refine sp_ (rs:= [.tmp 4]) (nt:=8) Tryz.func272 rfl fun X hX=>?_
  refine nm_ ?_
  repeat' ((first|contradiction|(with_reducible exact tt_)|((with_reducible show Wk (AwStepF _ _ _ _ _ _ _));first|(refine cl_ rfl _ _ (internal_stringslite_IndexByte_D _ _) rfl rfl ?_;rintro _ rfl))|((with_reducible show Wk (AwStep _ _ _ _ _));first|(refine pln_ ?_))|((with_reducible show Wk (boolK _ _ _ _));first|(refine bk_ (fun h h'=>?_) (fun h h'=>?_)))|((with_reducible show Wk (_∧_));first|(refine and_ ?_ ?_))|fail)<;>(try refine nm_ ?_))
theorem cmp_isNaN_int_D (a:Int):Spec Tryz.prog 207 [.sc (.int .i64 a)] (fun d=>d = .sc (.bool false)):=by
  refine sp_ (rs:= [.tmp 2]) (nt:=6) Tryz.func207 rfl fun X hX=>?_
  refine nm_ ?_
  repeat' ((first|contradiction|(with_reducible exact tt_)|((with_reducible show Wk (AwStep _ _ _ _ _));first|(refine pln_ ?_))|((with_reducible show Wk (boolK _ _ _ _));first|(refine bk_ (fun h h'=>?_) (fun h h'=>?_)))|((with_reducible show Wk (_∧_));first|(refine and_ ?_ ?_))|fail)<;>(try refine nm_ ?_))
  all_goals (refine ⟨?_⟩)
  all_goals first|contradiction|rfl|(simp_all [inB]<;>omega)|(simp [inB, *]<;>omega)
theorem cmp_isNaN_string_D (a:ByteArray):Spec Tryz.prog 341 [.sc (.string a)] (fun d=>d = .sc (.bool false)):=by
  refine sp_ (rs:= [.tmp 2]) (nt:=6) Tryz.func341 rfl fun X hX=>?_
  refine nm_ ?_
  repeat' ((first|contradiction|(with_reducible exact tt_)|((with_reducible show Wk (AwStep _ _ _ _ _));first|(refine pln_ ?_))|((with_reducible show Wk (boolK _ _ _ _));first|(refine bk_ (fun h h'=>?_) (fun h h'=>?_)))|((with_reducible show Wk (_∧_));first|(refine and_ ?_ ?_))|fail)<;>(try refine nm_ ?_))
  all_goals (refine ⟨?_⟩)
  all_goals first|contradiction|rfl|(simp_all [eqB]<;>omega)|(simp [eqB, *]<;>omega)
def cmpI (a b:Int):Int:=if a < b then -1 else if b < a then 1 else 0
theorem cmpI_lt (a b:Int):decide (cmpI a b < 0)=decide (a < b):=by unfold cmpI;split<;>simp_all;split<;>simp_all
theorem cmpI_eq (a b:Int):(cmpI a b==0)=(a==b):=by unfold cmpI;split<;>(try split)<;>simp_all<;>omega
theorem less_eq (a b:ByteArray):(lessB a b||eqB a b)=!lessB b a:=by
  rw [← cmpB_lt,← cmpB_lt,← cmpB_eq]
  have key:∀ x y:List UInt8,Lib.compareBytes x y=- Lib.compareBytes y x:=by
    intro x
    induction x with
    |nil=>intro y;cases y<;>simp [Lib.compareBytes]
    |cons u x ih=>
      intro y
      cases y with
      |nil=>simp [Lib.compareBytes]
      |cons v y=>
        unfold Lib.compareBytes
        by_cases h:u < v
        · have h2:¬ v < u:=UInt8.not_lt.2 (UInt8.le_of_lt h)
          simp [h,h2]
        · by_cases h2:v < u
          · simp [h,h2]
          · simp [h,h2,ih y]
  have:=key a.data.toList b.data.toList
  unfold cmpB
  rw [this]
  rcases cmpL_rng b.data.toList a.data.toList with h|h|h<;>rw [h]<;>decide
theorem cmpB_if (a b:ByteArray):cmpB a b=if lessB a b then -1 else if lessB b a then 1 else 0:=by
  have h1:=cmpB_lt a b
  have h2:=cmpB_eq a b
  have h3:=less_eq a b
  rcases cmpB_rng a b with h|h|h<;>rw [h] at h1 h2 ⊢<;>simp_all
theorem cmp_Compare_int_D (a b:Int):Spec Tryz.prog 114 [.sc (.int .i64 a),.sc (.int .i64 b)] (fun d=>d = .sc (.int .i64 (cmpI a b))):=by
  refine sp_ (rs:= [.tmp 4]) (nt:=20) Tryz.func114 rfl fun X hX=>?_
  refine nm_ ?_
  repeat' ((first|contradiction|(with_reducible exact tt_)|((with_reducible show Wk (AwStepF _ _ _ _ _ _ _));first|(refine cl_ rfl _ _ (cmp_isNaN_int_D _) rfl rfl ?_;rintro _ rfl))|((with_reducible show Wk (AwStep _ _ _ _ _));first|(refine pln_ ?_))|((with_reducible show Wk (boolK _ _ _ _));first|(refine bk_ (fun h h'=>?_) (fun h h'=>?_)))|((with_reducible show Wk (_∧_));first|(refine and_ ?_ ?_))|fail)<;>(try refine nm_ ?_))
  all_goals (refine ⟨?_⟩)
  all_goals first|(unfold cmpI;simp_all;done)|(unfold cmpI;rw [if_neg (by omega),if_pos (by omega)];done)|(unfold cmpI;rw [if_neg (by omega),if_neg (by omega)];done)
theorem cmp_Compare_string_D (a b:ByteArray):Spec Tryz.prog 293 [.sc (.string a),.sc (.string b)] (fun d=>d = .sc (.int .i64 (cmpB a b))):=by
  refine sp_ (rs:= [.tmp 4]) (nt:=20) Tryz.func293 rfl fun X hX=>?_
  refine nm_ ?_
  repeat' ((first|contradiction|(with_reducible exact tt_)|((with_reducible show Wk (AwStepF _ _ _ _ _ _ _));first|(refine cl_ rfl _ _ (cmp_isNaN_string_D _) rfl rfl ?_;rintro _ rfl))|((with_reducible show Wk (AwStep _ _ _ _ _));first|(refine pln_ ?_))|((with_reducible show Wk (boolK _ _ _ _));first|(refine bk_ (fun h h'=>?_) (fun h h'=>?_)))|((with_reducible show Wk (_∧_));first|(refine and_ ?_ ?_))|fail)<;>(try refine nm_ ?_))
  all_goals (refine ⟨?_⟩)
  all_goals first|(have e:=less_eq a b;rw [cmpB_if];simp_all;done)
def orN (f:Nat→Int):Nat→Int
  |0=>0
  |n+1=>if f 0==0 then orN (fun k=>f (k+1)) n else f 0
theorem orN_hit:∀ {n k:Nat}{f:Nat→Int},k < n→(!(f k==0))=true→(∀ j:Nat,j < k→(f j==0)=true)→orN f n=f k
  |0,k,f,h,_,_=>by omega
  |n+1,0,f,_,h,_=>by simp at h;simp [orN,h]
  |n+1,k+1,f,h,hk,hj=>by
    have h0:=hj 0 (by omega)
    simp only [orN,h0,if_true]
    exact orN_hit (f:=fun k=>f (k+1)) (by omega) hk fun j h=>hj (j+1) (by omega)
theorem orN_none:∀ {n k:Nat}{f:Nat→Int},n≤k→(∀ j:Nat,j < k→(f j==0)=true)→orN f n=0
  |0,k,f,_,_=>rfl
  |n+1,k,f,h,hj=>by
    have h0:=hj 0 (by omega)
    simp only [orN,h0,if_true]
    exact orN_none (k:=k - 1) (f:=fun k=>f (k+1)) (by omega) fun j h=>hj (j+1) (by omega)
theorem cmp_Or_int_D (ns:List Int) (hn:ns.length≤1048576):Spec Tryz.prog 113 [.sl ns.length (intsD ns)] (fun d=>d = .sc (.int .i64 (orN (fun k=>ns.getD k default) ns.length))):=by
  refine sp_ (rs:= [.tmp 2]) (nt:=18) Tryz.func113 rfl fun X hX=>?_
  refine nm_ ?_
  repeat' ((first|contradiction|(with_reducible exact tt_)|((with_reducible show Wk (AwStep _ _ _ _ _));first|(refine pln_ ?_))|((with_reducible show Wk (AwCode _ _ _ _ _));first|(refine lpU_ 0x1c8 (ι:=Nat) (fun k=> [(8,.sc (.int .i64 (k:Int)))]) (fun k=>k≤ns.length∧∀ j:Nat,j < k→(fun j=>ns.getD j default==0) j=true) (fun k=>ns.length - k) 0 ?_ ?_;(focus (exact ⟨by omega,allN_zero⟩));rintro _ hN0 k hinv;(try dsimp only at hinv);obtain ⟨hk,hj⟩:=hinv;replace hj:=Lib.hid hj;skip))|((with_reducible show Wk (boolK _ _ _ _));first|(refine bk_ (fun h h'=>?_) (fun h h'=>?_)))|((with_reducible show Wk (_∧_));first|(refine and_ ?_ ?_))|(refine hN0.go (k+1) ?_ ?_;(focus (exact ⟨by show k+1≤ns.length;omega,allN_step hj.out (by simp_all)⟩));(focus (show ns.length - (k+1) < ns.length - k;omega)))|fail)<;>(try refine nm_ ?_))
  all_goals (refine ⟨?_⟩)
  all_goals first|contradiction|(rw [orN_hit (k:=k) (by omega) (by simp_all) hj.out];done)|(rw [orN_none (k:=k) (by omega) hj.out];done)
def cmpVals:List ByteArray→List ByteArray→Int
  | [], []=>0
  | [],_::_=>-1
  |_::_, []=>1
  |x::r,y::q=>if cmpB x y==0 then cmpVals r q else cmpB x y
theorem cmpVals_at {a b:List ByteArray}{k:Nat} (ha:k < a.length) (hb:k < b.length):cmpVals (a.drop k) (b.drop k)=if cmpB (a.getD k default) (b.getD k default)==0 then cmpVals (a.drop (k+1)) (b.drop (k+1)) else cmpB (a.getD k default) (b.getD k default):=by
  rw [List.drop_eq_getElem_cons ha,List.drop_eq_getElem_cons hb]
  simp [cmpVals,ha,hb]
theorem cmpVals_one {a b:List ByteArray}{k:Nat} (ha:k < a.length) (hb:b.length≤k):cmpVals (a.drop k) (b.drop k)=1:=by
  rw [List.drop_eq_getElem_cons ha,List.drop_of_length_le hb]
  rfl
theorem cmpVals_end {a b:List ByteArray}{k:Nat} (ha:a.length≤k) (hk:k≤a.length):cmpVals (a.drop k) (b.drop k)=if a.length < b.length then -1 else 0:=by
  rw [List.drop_of_length_le ha]
  rcases Nat.lt_or_ge k b.length with h2|h2
  · rw [List.drop_eq_getElem_cons h2,if_pos (by omega)];rfl
  · rw [List.drop_of_length_le h2,if_neg (by omega)];rfl
theorem cmpVals_lt:∀ a b:List ByteArray,decide (cmpVals a b < 0)=valsLess a b
  | [], []=>rfl
  | [],_::_=>rfl
  |_::_, []=>rfl
  |x::r,y::q=>by
    unfold cmpVals valsLess
    rw [cmpB_eq]
    split
    · exact cmpVals_lt r q
    · exact cmpB_lt x y
theorem slices_Compare_string_string_D (a b:List ByteArray) (hn:a.length≤1048576):Spec Tryz.prog 223 [.sl a.length (strsD a),.sl b.length (strsD b)] (fun d=>d = .sc (.int .i64 (cmpVals a b))):=by
  refine sp_ (rs:= [.tmp 4]) (nt:=36) Tryz.func223 rfl fun X hX=>?_
  refine nm_ ?_
  repeat' ((first|contradiction|(with_reducible exact tt_)|((with_reducible show Wk (AwStepF _ _ _ _ _ _ _));first|(refine cl_ rfl _ _ (cmp_Compare_string_D _ _) rfl rfl ?_;rintro _ rfl))|((with_reducible show Wk (AwStep _ _ _ _ _));first|(refine pln_ ?_))|((with_reducible show Wk (AwCode _ _ _ _ _));first|(refine lpU_ 0xe03 (ι:=Nat) (fun k=> [(11,.sc (.int .i64 (k:Int)))]) (fun k=>k≤a.length∧k≤b.length∧cmpVals (a.drop k) (b.drop k)=cmpVals a b) (fun k=>a.length - k) 0 ?_ ?_;(focus (exact ⟨by omega,by omega,rfl⟩));rintro _ hN0 k hinv;(try dsimp only at hinv);obtain ⟨hk,hk2,hj⟩:=hinv;replace hj:=Lib.hid hj;skip))|((with_reducible show Wk (boolK _ _ _ _));first|(refine bk_ (fun h h'=>?_) (fun h h'=>?_)))|((with_reducible show Wk (_∧_));first|(refine and_ ?_ ?_))|(refine hN0.go (k+1) ?_ ?_;(focus (refine ⟨by show k+1≤_;omega,by show k+1≤_;omega,?_⟩;have e:=hj.out;rw [cmpVals_at (by omega) (by omega),if_pos (by simp_all)] at e;exact e));(focus (show a.length - (k+1) < a.length - k;omega)))|fail)<;>(try refine nm_ ?_))
  all_goals (refine ⟨?_⟩)
  all_goals first|contradiction|(have e:=hj.out;rw [cmpVals_at (by omega) (by omega),if_neg (by simp_all)] at e;rw [← e];done)|(have e:=hj.out;rw [cmpVals_one (by omega) (by omega)] at e;rw [← e];done)|(have e:=hj.out;rw [cmpVals_end (by omega) (by omega),if_neg (by omega)] at e;rw [← e];done)|(have e:=hj.out;rw [cmpVals_end (by omega) (by omega),if_pos (by omega)] at e;rw [← e];done)
end Go.Proofs.YtidjjfjhmlndjaaGreatDoor
