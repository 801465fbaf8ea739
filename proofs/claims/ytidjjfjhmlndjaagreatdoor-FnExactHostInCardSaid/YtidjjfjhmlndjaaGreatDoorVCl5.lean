/- Cl5 (what is wanted of them). -/
import Derived.Test.YtidjjfjhmlndjaaGreatDoorVCl1
import Derived.Test.YtidjjfjhmlndjaaGreatDoorVAwb
namespace Go.Proofs.YtidjjfjhmlndjaaGreatDoor
open Go.RowKit
set_option linter.unusedVariables false
set_option linter.unusedSimpArgs false
set_option maxRecDepth 100000
set_option maxHeartbeats 1000000
def cmpB (a b:ByteArray):Int:=Lib.compareBytes a.data.toList b.data.toList
theorem cmpL_lt:∀ a b:List UInt8,decide (Lib.compareBytes a b < 0)=Op.bytesLess a b
  | [], []=>rfl
  | [],_::_=>rfl
  |_::_, []=>rfl
  |x::a,y::b=>by
    unfold Lib.compareBytes Op.bytesLess
    by_cases h:x < y
    · simp [h]
    · by_cases h2:y < x
      · have:x≠y:=fun e=>by subst e;exact UInt8.lt_irrefl _ h2
        simp [h,h2,this]
      · have:x=y:=UInt8.le_antisymm (UInt8.not_lt.1 h2) (UInt8.not_lt.1 h)
        subst this
        simp only [h,if_false]
        rw [cmpL_lt a b]
        simp
theorem cmpL_eq0:∀ a b:List UInt8,(Lib.compareBytes a b==0)=(a==b)
  | [], []=>rfl
  | [],_::_=>rfl
  |_::_, []=>rfl
  |x::a,y::b=>by
    unfold Lib.compareBytes
    by_cases h:x < y
    · have:x≠y:=fun e=>by subst e;exact UInt8.lt_irrefl _ h
      simp [h,this]
    · by_cases h2:y < x
      · have:x≠y:=fun e=>by subst e;exact UInt8.lt_irrefl _ h2
        simp [h,h2,this]
      · have:x=y:=UInt8.le_antisymm (UInt8.not_lt.1 h2) (UInt8.not_lt.1 h)
        subst this
        simp only [h,if_false]
        rw [cmpL_eq0 a b]
        simp
theorem cmpB_lt (a b:ByteArray):decide (cmpB a b < 0)=lessB a b:=by unfold cmpB lessB;rw [cmpL_lt,Lib.toList_data,Lib.toList_data]
theorem cmpB_eq (a b:ByteArray):(cmpB a b==0)=eqB a b:=by unfold cmpB eqB;rw [cmpL_eq0,Lib.toList_data,Lib.toList_data]
theorem ext_cmp (a b:ByteArray) (w:World):(callFunc 345 #[.string a,.string b]).run Tryz.prog w = .ok (.value (.int .i64 (cmpB a b))) w:=by
  rw [run_callFunc_extern Tryz.func345 (by kernel_rfl) (by kernel_rfl) (by kernel_rfl) (e:=Extern.BytealgCompare.compare) (by kernel_rfl),Lib.run_compareString]
  rfl
/-- The first place of a byte. -/
def byteAt (s:ByteArray) (c:Int):Int:=Lib.indexByte s.data.toList c.toNat.toUInt8
theorem ext_idx (s:ByteArray) (c:Int) (w:World):(callFunc 363 #[.string s,.int .u8 c]).run Tryz.prog w = .ok (.value (.int .i64 (byteAt s c))) w:=by
  rw [run_callFunc_extern Tryz.func363 (by kernel_rfl) (by kernel_rfl) (by kernel_rfl) (e:=Extern.BytealgIndexByte.indexByte) (by kernel_rfl),Lib.run_indexByteString]
  rfl
theorem internal_bytealg_CompareString_D (a b:ByteArray):Spec Tryz.prog 292 [.sc (.string a),.sc (.string b)] (fun d=>d = .sc (.int .i64 (cmpB a b))):=by
  refine sp_ (rs:= [.tmp 4]) (nt:=8) Tryz.func292 rfl fun X hX=>?_
  refine nm_ ?_
  repeat' ((first|contradiction|(with_reducible exact tt_)|((with_reducible show Wk (AwStep _ _ _ _ _));first|(refine xt_ rfl [.string _,.string _] _ rfl (ext_cmp _ _) rfl ?_)|(refine pln_ ?_))|((with_reducible show Wk (boolK _ _ _ _));first|(refine bk_ (fun h h'=>?_) (fun h h'=>?_)))|((with_reducible show Wk (_∧_));first|(refine and_ ?_ ?_))|fail)<;>(try refine nm_ ?_))
theorem strings_Compare_D (a b:ByteArray):Spec Tryz.prog 222 [.sc (.string a),.sc (.string b)] (fun d=>d = .sc (.int .i64 (cmpB a b))):=by
  refine sp_ (rs:= [.tmp 4]) (nt:=8) Tryz.func222 rfl fun X hX=>?_
  refine nm_ ?_
  repeat' ((first|contradiction|(with_reducible exact tt_)|((with_reducible show Wk (AwStepF _ _ _ _ _ _ _));first|(refine cl_ rfl _ _ (internal_bytealg_CompareString_D _ _) rfl rfl ?_;rintro _ rfl))|((with_reducible show Wk (AwStep _ _ _ _ _));first|(refine pln_ ?_))|((with_reducible show Wk (boolK _ _ _ _));first|(refine bk_ (fun h h'=>?_) (fun h h'=>?_)))|((with_reducible show Wk (_∧_));first|(refine and_ ?_ ?_))|fail)<;>(try refine nm_ ?_))
theorem internal_stringslite_IndexByte_D (s:ByteArray) (c:Int):Spec Tryz.prog 335 [.sc (.string s),.sc (.int .u8 c)] (fun d=>d = .sc (.int .i64 (byteAt s c))):=by
  refine sp_ (rs:= [.tmp 4]) (nt:=8) Tryz.func335 rfl fun X hX=>?_
  refine nm_ ?_
  repeat' ((first|contradiction|(with_reducible exact tt_)|((with_reducible show Wk (AwStep _ _ _ _ _));first|(refine xt_ rfl [.string _,.int .u8 _] _ rfl (ext_idx _ _) rfl ?_)|(refine pln_ ?_))|((with_reducible show Wk (boolK _ _ _ _));first|(refine bk_ (fun h h'=>?_) (fun h h'=>?_)))|((with_reducible show Wk (_∧_));first|(refine and_ ?_ ?_))|fail)<;>(try refine nm_ ?_))
theorem strings_IndexByte_D (s:ByteArray) (c:Int):Spec Tryz.prog 272 [.sc (.string s),.sc (.int .u8 c)] (fun d=>d = .sc (.int .i64 (byteAt s c))):=by
  refine sp_ (rs:= [.tmp 4]) (nt:=8) Tryz.func272 rfl fun X hX=>?_
  refine nm_ ?_
  repeat' ((first|contradiction|(with_reducible exact tt_)|((with_reducible show Wk (AwStepF _ _ _ _ _ _ _));first|(refine cl_ rfl _ _ (internal_stringslite_IndexByte_D _ _) rfl rfl ?_;rintro _ rfl))|((with_reducible show Wk (AwStep _ _ _ _ _));first|(refine pln_ ?_))|((with_reducible show Wk (boolK _ _ _ _));first|(refine bk_ (fun h h'=>?_) (fun h h'=>?_)))|((with_reducible show Wk (_∧_));first|(refine and_ ?_ ?_))|fail)<;>(try refine nm_ ?_))
theorem cmp_isNaN_int_D (a:Int):Spec Tryz.prog 207 [.sc (.int .i64 a)] (fun d=>d = .sc (.bool false)):=by
  refine sp_ (rs:= [.tmp 2]) (nt:=6) Tryz.func207 rfl fun X hX=>?_
  refine nm_ ?_
  repeat' ((first|contradiction|(with_reducible exact tt_)|((with_reducible show Wk (AwStep _ _ _ _ _));first|(refine pln_ ?_))|((with_reducible show Wk (boolK _ _ _ _));first|(refine bk_ (fun h h'=>?_) (fun h h'=>?_)))|((with_reducible show Wk (_∧_));first|(refine and_ ?_ ?_))|fail)<;>(try refine nm_ ?_))
  all_goals (refine ⟨?_⟩)
  all_goals first|contradiction|rfl|(simp_all [inB]<;>omega)|(simp [inB, *]<;>omega)
def cmpI (a b:Int):Int:=if a < b then -1 else if b < a then 1 else 0
theorem cmpI_lt (a b:Int):decide (cmpI a b < 0)=decide (a < b):=by unfold cmpI;split<;>simp_all;split<;>simp_all
theorem cmp_Compare_int_D (a b:Int):Spec Tryz.prog 114 [.sc (.int .i64 a),.sc (.int .i64 b)] (fun d=>d = .sc (.int .i64 (cmpI a b))):=by
  refine sp_ (rs:= [.tmp 4]) (nt:=20) Tryz.func114 rfl fun X hX=>?_
  refine nm_ ?_
  repeat' ((first|contradiction|(with_reducible exact tt_)|((with_reducible show Wk (AwStepF _ _ _ _ _ _ _));first|(refine cl_ rfl _ _ (cmp_isNaN_int_D _) rfl rfl ?_;rintro _ rfl))|((with_reducible show Wk (AwStep _ _ _ _ _));first|(refine pln_ ?_))|((with_reducible show Wk (boolK _ _ _ _));first|(refine bk_ (fun h h'=>?_) (fun h h'=>?_)))|((with_reducible show Wk (_∧_));first|(refine and_ ?_ ?_))|fail)<;>(try refine nm_ ?_))
  all_goals (refine ⟨?_⟩)
  all_goals first|(unfold cmpI;simp_all;done)|(unfold cmpI;rw [if_neg (by omega),if_pos (by omega)];done)|(unfold cmpI;rw [if_neg (by omega),if_neg (by omega)];done)
def orN (f:Nat→Int):Nat→Int
  |0=>0
  |n+1=>if f 0==0 then orN (fun k=>f (k+1)) n else f 0
theorem orN_hit:∀ {n k:Nat}{f:Nat→Int},k < n→(!(f k==0))=true→(∀ j:Nat,j < k→(f j==0)=true)→orN f n=f k
  |0,k,f,h,_,_=>by omega
  |n+1,0,f,_,h,_=>by simp at h;simp [orN,h]
  |n+1,k+1,f,h,hk,hj=>by
    have h0:=hj 0 (by omega)
    simp only [orN,h0,if_true]
    exact orN_hit (f:=fun k=>f (k+1)) (by omega) hk fun j h=>hj (j+1) (by omega)
theorem orN_none:∀ {n k:Nat}{f:Nat→Int},n≤k→(∀ j:Nat,j < k→(f j==0)=true)→orN f n=0
  |0,k,f,_,_=>rfl
  |n+1,k,f,h,hj=>by
    have h0:=hj 0 (by omega)
    simp only [orN,h0,if_true]
    exact orN_none (k:=k - 1) (f:=fun k=>f (k+1)) (by omega) fun j h=>hj (j+1) (by omega)
theorem cmp_Or_int_D (ns:List Int) (hn:ns.length≤1048576):Spec Tryz.prog 113 [.sl ns.length (intsD ns)] (fun d=>d = .sc (.int .i64 (orN (fun k=>ns.getD k default) ns.length))):=by
  refine sp_ (rs:= [.tmp 2]) (nt:=18) Tryz.func113 rfl fun X hX=>?_
  refine nm_ ?_
  repeat' ((first|contradiction|(with_reducible exact tt_)|((with_reducible show Wk (AwStep _ _ _ _ _));first|(refine pln_ ?_))|((with_reducible show Wk (AwCode _ _ _ _ _));first|(refine lpU_ 0x1c8 (ι:=Nat) (fun k=> [(8,.sc (.int .i64 (k:Int)))]) (fun k=>k≤ns.length∧∀ j:Nat,j < k→(fun j=>ns.getD j default==0) j=true) (fun k=>ns.length - k) 0 ?_ ?_;(focus (exact ⟨by omega,allN_zero⟩));rintro _ hN0 k hinv;(try dsimp only at hinv);obtain ⟨hk,hj⟩:=hinv;replace hj:=Lib.hid hj;skip))|((with_reducible show Wk (boolK _ _ _ _));first|(refine bk_ (fun h h'=>?_) (fun h h'=>?_)))|((with_reducible show Wk (_∧_));first|(refine and_ ?_ ?_))|(refine hN0.go (k+1) ?_ ?_;(focus (exact ⟨by show k+1≤ns.length;omega,allN_step hj.out (by simp_all)⟩));(focus (show ns.length - (k+1) < ns.length - k;omega)))|fail)<;>(try refine nm_ ?_))
  all_goals (refine ⟨?_⟩)
  all_goals first|contradiction|(rw [orN_hit (k:=k) (by omega) (by simp_all) hj.out];done)|(rw [orN_none (k:=k) (by omega) hj.out];done)
end Go.Proofs.YtidjjfjhmlndjaaGreatDoor
