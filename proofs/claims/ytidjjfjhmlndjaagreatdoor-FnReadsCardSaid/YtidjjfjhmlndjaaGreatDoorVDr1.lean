/- Dr1 (what is wanted of them). -/
import Derived.Test.YtidjjfjhmlndjaaGreatDoorVNo
import Derived.Test.YtidjjfjhmlndjaaGreatDoorVCl1
namespace Go.Proofs.YtidjjfjhmlndjaaGreatDoor
open Go.RowKit
set_option linter.unusedVariables false
set_option linter.unusedSimpArgs false
set_option maxRecDepth 100000
set_option maxHeartbeats 4000000
/-- A cursor's bytes and place. -/
structure CurOk (bs:List Int) (i:Int):Prop where
  len:bs.length≤1048576
  lo:0≤i
  hi:i≤bs.length
theorem and_lo (a m:Int) (h0:0≤m) (h1:m≤9223372036854775807):0≤bitI .and .i64 a m∧bitI .and .i64 a m≤m:=by
  have hm:(BitVec.ofInt IntKind.i64.bits m).toNat=m.toNat:=by
    rw [BitVec.toNat_ofInt]
    show (m % ((2 ^ 64:Nat):Int)).toNat=m.toNat
    rw [Int.emod_eq_of_lt h0 (by omega)]
  have h2:(BitVec.ofInt IntKind.i64.bits a &&& BitVec.ofInt IntKind.i64.bits m).toNat≤m.toNat:=by
    rw [BitVec.toNat_and,hm]
    exact Nat.and_le_right
  rw [bitI_and,wrap_nat _ (by omega)]
  omega
theorem u8D_atB (ns:List Int) (k:Nat) (h:k < ns.length):(u8D ns)[k]? = some (.sc (.int .u8 (ns.getD k 0))):=by simp [u8D,h]
/-- A number below n; 0 where n is not above 0. -/
structure BelowN (n x:Int):Prop where
  lo:0≤x
  hi:0 < n→x < n
theorem below_0 {n:Int}:BelowN n 0:=⟨Int.le_refl 0,fun h=>h⟩
theorem below_mod {n x:Int} (h:0≤x) (hn:0 < n):BelowN n (x.tmod n):=⟨Int.tmod_nonneg _ h,fun _=>Int.tmod_lt_of_pos _ hn⟩
theorem cur_at {bs:List Int}{i:Int} (h:CurOk bs i):0≤i∧i≤bs.length∧bs.length≤1048576:=⟨h.lo,h.hi,h.len⟩
theorem spec_l01Byte_D (bs:List Int) (i g:Int) (hc:CurOk bs i):SpecH Tryz.prog 310 [.ptr 0 0] [(0,⟨223,3,1, [.sl bs.length (u8D bs),.sc (.int .i64 i),.sc (.int .i64 g)]⟩)] 1 (fun d os' nb'=>∃ i' g':Int,∃ x:Int,CurOk bs i'∧(0≤x∧x≤255)∧d = .sc (.int .i64 x)∧os' = [(0,⟨223,3,1, [.sl bs.length (u8D bs),.sc (.int .i64 i'),.sc (.int .i64 g')]⟩)]∧nb' = 1):=by
  have hcc:=cur_at hc;skip
  have ex0:=@u8D_atB;have ex1:=@u8D_len
  refine spH_ (rs:= [.tmp 2]) (nt:=58) Tryz.func310 rfl fun X hX=>?_
  refine nmW_ ?_
  repeat' ((first|contradiction|(with_reducible exact tt_)|((with_reducible show Wk (AwStep _ _ _ _ _));first|(refine pln_ ?_))|((with_reducible show Wk (AwCode _ _ _ _ _));first|(refine wo_ (id:=2) [] [(0,true),(1,true),(2,true),(3,true),(4,true),(5,true),(6,true),(7,true),(8,true),(9,true),(10,true),(11,true),(12,true)] ?_)|(refine wo_ (id:=3) [] [(0,true),(1,true),(2,true),(3,true),(4,true),(5,true),(6,true),(7,true),(8,true),(9,true)] ?_)|(refine wo_ (id:=4) [] [(0,true),(1,true),(2,true),(3,true),(4,true),(5,true),(6,true),(7,true),(8,true),(9,true),(10,true),(11,true),(12,true),(13,true),(14,true)] ?_))|((with_reducible show Wk (boolK _ _ _ _));first|(refine bk_ (fun h h'=>?_) (fun h h'=>?_)))|((with_reducible show Wk (_∧_));first|(refine and_ ?_ ?_))|((with_reducible show Wk (retOkH _ _ _ _ _));first|(refine rh_ [] ?_))|fail)<;>(try refine nmW_ ?_))
  all_goals clear ex0 ex1
  all_goals (refine ⟨?_⟩)
  all_goals first|contradiction|(exact ⟨_,_,_,⟨hcc.2.2,(by rw [wrap_in (i+1) (by omega)];omega),(by rw [wrap_in (i+1) (by omega)];omega)⟩,and_lo _ 255 (by omega) (by omega),rfl,rfl,rfl⟩)|(exact ⟨_,_,_,⟨hcc.2.2,(by rw [wrap_in (i+1) (by omega)];omega),(by rw [wrap_in (i+1) (by omega)];omega)⟩,and_lo _ 255 (by omega) (by omega),rfl,rfl⟩)|(exact ⟨_,_,_,hc,and_lo _ 255 (by omega) (by omega),rfl,rfl⟩)
theorem spec_l01Below_D (bs:List Int) (i g:Int) (hc:CurOk bs i) (n:Int) (hn:n≤9223372036854775807):SpecH Tryz.prog 238 [.ptr 0 0,.sc (.int .i64 n)] [(0,⟨223,3,1, [.sl bs.length (u8D bs),.sc (.int .i64 i),.sc (.int .i64 g)]⟩)] 1 (fun d os' nb'=>∃ i' g':Int,∃ x:Int,CurOk bs i'∧(BelowN n x)∧d = .sc (.int .i64 x)∧os' = [(0,⟨223,3,1, [.sl bs.length (u8D bs),.sc (.int .i64 i'),.sc (.int .i64 g')]⟩)]∧nb' = 1):=by
  refine spH_ (rs:= [.tmp 4]) (nt:=37) Tryz.func238 rfl fun X hX=>?_
  refine nm_ ?_
  repeat' ((first|contradiction|(with_reducible exact tt_)|((with_reducible show Wk (AwStepF _ _ _ _ _ _ _));first|(refine awH_ rfl (spec_l01Byte_D bs _ _ (by assumption)) [0] ?_;rintro _ _ _ ⟨i1,g1,x,hc1,hx,rfl,rfl,rfl⟩ _))|((with_reducible show Wk (AwStep _ _ _ _ _));first|(refine pln_ ?_))|((with_reducible show Wk (boolK _ _ _ _));first|(refine bk_ (fun h h'=>?_) (fun h h'=>?_)))|((with_reducible show Wk (_∧_));first|(refine and_ ?_ ?_))|((with_reducible show Wk (retOkH _ _ _ _ _));first|(refine rh_ [] ?_))|fail)<;>(try refine nm_ ?_))
  all_goals (refine ⟨?_⟩)
  all_goals first|contradiction|(exact ⟨i,g,0,hc,below_0,rfl,rfl,rfl⟩)|(exact ⟨i,g,0,hc,below_0,rfl,rfl⟩)|(exfalso;omega)|(exact ⟨_,_,_,(by assumption),rfl,rfl⟩)|(exact ⟨_,_,_,(by assumption),rfl,rfl,rfl⟩)|(exact ⟨_,_,_,(by assumption),below_mod (by omega) (by omega),rfl,rfl,rfl⟩)|(exact ⟨_,_,_,(by assumption),below_mod (by omega) (by omega),rfl,rfl⟩)
theorem spec_l01Once_D (bs:List Int) (i g:Int) (hc:CurOk bs i) (n:Int) (hn:n≤9223372036854775807):SpecH Tryz.prog 172 [.ptr 0 0,.sc (.int .i64 n)] [(0,⟨223,3,1, [.sl bs.length (u8D bs),.sc (.int .i64 i),.sc (.int .i64 g)]⟩)] 1 (fun d os' nb'=>∃ i' g':Int,∃ b:Bool,CurOk bs i'∧(True)∧d = .sc (.bool b)∧os' = [(0,⟨223,3,1, [.sl bs.length (u8D bs),.sc (.int .i64 i'),.sc (.int .i64 g')]⟩)]∧nb' = 1):=by
  refine spH_ (rs:= [.tmp 4]) (nt:=9) Tryz.func172 rfl fun X hX=>?_
  refine nm_ ?_
  repeat' ((first|contradiction|(with_reducible exact tt_)|((with_reducible show Wk (AwStepF _ _ _ _ _ _ _));first|(refine awH_ rfl (spec_l01Below_D bs _ _ (by assumption) n hn) [0] ?_;rintro _ _ _ ⟨i1,g1,x,hc1,hx,rfl,rfl,rfl⟩ _))|((with_reducible show Wk (AwStep _ _ _ _ _));first|(refine pln_ ?_))|((with_reducible show Wk (boolK _ _ _ _));first|(refine bk_ (fun h h'=>?_) (fun h h'=>?_)))|((with_reducible show Wk (_∧_));first|(refine and_ ?_ ?_))|((with_reducible show Wk (retOkH _ _ _ _ _));first|(refine rh_ [] ?_))|fail)<;>(try refine nm_ ?_))
  all_goals (refine ⟨?_⟩)
  all_goals first|contradiction|(exfalso;omega)|(exact ⟨_,_,_,(by assumption),rfl,rfl⟩)|(exact ⟨_,_,_,(by assumption),rfl,rfl,rfl⟩)|(exact ⟨_,_,_,(by assumption),trivial,rfl,rfl,rfl⟩)|(exact ⟨_,_,_,(by assumption),trivial,rfl,rfl⟩)
/-- x is one of the list. -/
structure InL {α:Type} (ss:List α) (x:α):Prop where
  mem:x ∈ ss
theorem inL_at {α:Type} [Inhabited α] {ss:List α}{k:Nat} (h:k < ss.length):InL ss (ss.getD k default):=⟨by rw [List.getD_eq_getElem?_getD,List.getElem?_eq_getElem h];exact List.getElem_mem h⟩
structure SmallS (x:ByteArray):Prop where
  sz:x.size≤100
theorem small_in {ss:List ByteArray}{x:ByteArray} (h:InL ss x) (hs:(ss.all fun s=>decide (s.size≤100))=true):SmallS x:=⟨by have:=List.all_eq_true.1 hs x h.mem;simpa using this⟩
theorem spec_l01Pick_D (bs:List Int) (i g:Int) (hc:CurOk bs i) (ss:List ByteArray) (hs:0 < ss.length) (hl:ss.length≤1000):SpecH Tryz.prog 244 [.ptr 0 0,.sl ss.length (strsD ss)] [(0,⟨223,3,1, [.sl bs.length (u8D bs),.sc (.int .i64 i),.sc (.int .i64 g)]⟩)] 1 (fun d os' nb'=>∃ i' g':Int,∃ x:ByteArray,CurOk bs i'∧(InL ss x)∧d = .sc (.string x)∧os' = [(0,⟨223,3,1, [.sl bs.length (u8D bs),.sc (.int .i64 i'),.sc (.int .i64 g')]⟩)]∧nb' = 1):=by
  refine spH_ (rs:= [.tmp 4]) (nt:=12) Tryz.func244 rfl fun X hX=>?_
  refine nm_ ?_
  repeat' ((first|contradiction|(with_reducible exact tt_)|((with_reducible show Wk (AwStepF _ _ _ _ _ _ _));first|(refine awH_ rfl (spec_l01Below_D bs _ _ (by assumption) (ss.length:Int) (by omega)) [0] ?_;rintro _ _ _ ⟨i1,g1,x,hc1,hx,rfl,rfl,rfl⟩ _;(have hx0:=hx.lo;have hx1:=hx.hi (by omega))))|((with_reducible show Wk (AwStep _ _ _ _ _));first|(refine pln_ ?_))|((with_reducible show Wk (boolK _ _ _ _));first|(refine bk_ (fun h h'=>?_) (fun h h'=>?_)))|((with_reducible show Wk (_∧_));first|(refine and_ ?_ ?_))|((with_reducible show Wk (retOkH _ _ _ _ _));first|(refine rh_ [] ?_))|fail)<;>(try refine nm_ ?_))
  all_goals (refine ⟨?_⟩)
  all_goals first|contradiction|(exfalso;omega)|(exact ⟨_,_,_,(by assumption),rfl,rfl⟩)|(exact ⟨_,_,_,(by assumption),rfl,rfl,rfl⟩)|(exact ⟨_,_,_,(by assumption),inL_at (by omega),rfl,rfl,rfl⟩)|(exact ⟨_,_,_,(by assumption),inL_at (by omega),rfl,rfl⟩)
theorem spec_l01PickInt_D (bs:List Int) (i g:Int) (hc:CurOk bs i) (ss:List Int) (hs:0 < ss.length) (hl:ss.length≤1000):SpecH Tryz.prog 241 [.ptr 0 0,.sl ss.length (intsD ss)] [(0,⟨223,3,1, [.sl bs.length (u8D bs),.sc (.int .i64 i),.sc (.int .i64 g)]⟩)] 1 (fun d os' nb'=>∃ i' g':Int,∃ x:Int,CurOk bs i'∧(InL ss x)∧d = .sc (.int .i64 x)∧os' = [(0,⟨223,3,1, [.sl bs.length (u8D bs),.sc (.int .i64 i'),.sc (.int .i64 g')]⟩)]∧nb' = 1):=by
  refine spH_ (rs:= [.tmp 4]) (nt:=12) Tryz.func241 rfl fun X hX=>?_
  refine nm_ ?_
  repeat' ((first|contradiction|(with_reducible exact tt_)|((with_reducible show Wk (AwStepF _ _ _ _ _ _ _));first|(refine awH_ rfl (spec_l01Below_D bs _ _ (by assumption) (ss.length:Int) (by omega)) [0] ?_;rintro _ _ _ ⟨i1,g1,x,hc1,hx,rfl,rfl,rfl⟩ _;(have hx0:=hx.lo;have hx1:=hx.hi (by omega))))|((with_reducible show Wk (AwStep _ _ _ _ _));first|(refine pln_ ?_))|((with_reducible show Wk (boolK _ _ _ _));first|(refine bk_ (fun h h'=>?_) (fun h h'=>?_)))|((with_reducible show Wk (_∧_));first|(refine and_ ?_ ?_))|((with_reducible show Wk (retOkH _ _ _ _ _));first|(refine rh_ [] ?_))|fail)<;>(try refine nm_ ?_))
  all_goals (refine ⟨?_⟩)
  all_goals first|contradiction|(exfalso;omega)|(exact ⟨_,_,_,(by assumption),rfl,rfl⟩)|(exact ⟨_,_,_,(by assumption),rfl,rfl,rfl⟩)|(exact ⟨_,_,_,(by assumption),inL_at (by omega),rfl,rfl,rfl⟩)|(exact ⟨_,_,_,(by assumption),inL_at (by omega),rfl,rfl⟩)
def keyNames:List ByteArray:= [⟨#[122,111,110,101]⟩,⟨#[100,105,115,107]⟩,⟨#[97,112,112]⟩,⟨#[116,105,101,114]⟩,⟨#[97,46,98,47,99]⟩,⟨#[90,111,110,101]⟩]
theorem spec_l14Key_D (bs:List Int) (i g:Int) (hc:CurOk bs i):SpecH Tryz.prog 312 [.ptr 0 0] [(0,⟨223,3,1, [.sl bs.length (u8D bs),.sc (.int .i64 i),.sc (.int .i64 g)]⟩)] 1 (fun d os' nb'=>∃ i' g':Int,∃ x:ByteArray,CurOk bs i'∧(SmallS x)∧d = .sc (.string x)∧os' = [(0,⟨223,3,1, [.sl bs.length (u8D bs),.sc (.int .i64 i'),.sc (.int .i64 g')]⟩)]∧nb' = 1):=by
  refine spH_ (rs:= [.tmp 2]) (nt:=6) Tryz.func312 rfl fun X hX=>?_
  refine nm_ ?_
  repeat' ((first|contradiction|(with_reducible exact tt_)|((with_reducible show Wk (AwStepF _ _ _ _ _ _ _));first|(refine afz_ [1] ?_;refine nm_ ?_;refine awH_ rfl (spec_l01Pick_D bs _ _ (by assumption) keyNames (by decide) (by decide)) [0] ?_;rintro _ _ _ ⟨i1,g1,x,hc1,hx,rfl,rfl,rfl⟩ _))|((with_reducible show Wk (AwStep _ _ _ _ _));first|(refine pln_ ?_))|((with_reducible show Wk (boolK _ _ _ _));first|(refine bk_ (fun h h'=>?_) (fun h h'=>?_)))|((with_reducible show Wk (_∧_));first|(refine and_ ?_ ?_))|((with_reducible show Wk (retOkH _ _ _ _ _));first|(refine rh_ [] ?_))|fail)<;>(try refine nm_ ?_))
  all_goals (refine ⟨?_⟩)
  all_goals first|contradiction|(exfalso;omega)|(exact ⟨_,_,_,(by assumption),rfl,rfl⟩)|(exact ⟨_,_,_,(by assumption),rfl,rfl,rfl⟩)|(exact ⟨_,_,_,(by assumption),small_in hx (by decide),rfl,rfl,rfl⟩)|(exact ⟨_,_,_,(by assumption),small_in hx (by decide),rfl,rfl⟩)
def valNames:List ByteArray:= [⟨#[97]⟩,⟨#[98]⟩,⟨#[99]⟩,⟨#[]⟩,⟨#[115,115,100]⟩,⟨#[118,49,46,50]⟩]
theorem spec_l14Value_D (bs:List Int) (i g:Int) (hc:CurOk bs i):SpecH Tryz.prog 313 [.ptr 0 0] [(0,⟨223,3,1, [.sl bs.length (u8D bs),.sc (.int .i64 i),.sc (.int .i64 g)]⟩)] 1 (fun d os' nb'=>∃ i' g':Int,∃ x:ByteArray,CurOk bs i'∧(SmallS x)∧d = .sc (.string x)∧os' = [(0,⟨223,3,1, [.sl bs.length (u8D bs),.sc (.int .i64 i'),.sc (.int .i64 g')]⟩)]∧nb' = 1):=by
  refine spH_ (rs:= [.tmp 2]) (nt:=6) Tryz.func313 rfl fun X hX=>?_
  refine nm_ ?_
  repeat' ((first|contradiction|(with_reducible exact tt_)|((with_reducible show Wk (AwStepF _ _ _ _ _ _ _));first|(refine afz_ [1] ?_;refine nm_ ?_;refine awH_ rfl (spec_l01Pick_D bs _ _ (by assumption) valNames (by decide) (by decide)) [0] ?_;rintro _ _ _ ⟨i1,g1,x,hc1,hx,rfl,rfl,rfl⟩ _))|((with_reducible show Wk (AwStep _ _ _ _ _));first|(refine pln_ ?_))|((with_reducible show Wk (boolK _ _ _ _));first|(refine bk_ (fun h h'=>?_) (fun h h'=>?_)))|((with_reducible show Wk (_∧_));first|(refine and_ ?_ ?_))|((with_reducible show Wk (retOkH _ _ _ _ _));first|(refine rh_ [] ?_))|fail)<;>(try refine nm_ ?_))
  all_goals (refine ⟨?_⟩)
  all_goals first|contradiction|(exfalso;omega)|(exact ⟨_,_,_,(by assumption),rfl,rfl⟩)|(exact ⟨_,_,_,(by assumption),rfl,rfl,rfl⟩)|(exact ⟨_,_,_,(by assumption),small_in hx (by decide),rfl,rfl,rfl⟩)|(exact ⟨_,_,_,(by assumption),small_in hx (by decide),rfl,rfl⟩)
def namNames:List ByteArray:= [⟨#[97]⟩,⟨#[98]⟩,⟨#[99]⟩,⟨#[100]⟩,⟨#[119,101,98]⟩,⟨#[100,98,45,49]⟩,⟨#[120,57]⟩]
def amountNums:List Int:= [0,100,500,1000,1500,2000,4000,1024000,250]
end Go.Proofs.YtidjjfjhmlndjaaGreatDoor
