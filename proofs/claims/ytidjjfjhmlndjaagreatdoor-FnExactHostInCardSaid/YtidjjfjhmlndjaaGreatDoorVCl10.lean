/- No, Cl10, To (what is wanted of them). -/
import Derived.Test.YtidjjfjhmlndjaaGreatDoorVNn
import Derived.Test.YtidjjfjhmlndjaaGreatDoorVAwc
import Derived.Test.YtidjjfjhmlndjaaGreatDoorVCl1
import Derived.Test.YtidjjfjhmlndjaaGreatDoorVAwb
import Derived.Test.YtidjjfjhmlndjaaGreatDoorVCl9
import Derived.Test.YtidjjfjhmlndjaaGreatDoorVMk1
namespace Go.Proofs.YtidjjfjhmlndjaaGreatDoor
open Go.RowKit
set_option maxRecDepth 100000
theorem ite_ {c:Prop} [Decidable c] {f:D→St}{x y:Option D}{k:St→Prop}{e:Prop} (h1:c→Wk (stepK (Option.map f x) k e)) (h2:¬ c→Wk (stepK (Option.map f y) k e)):Wk (stepK (Option.map f (if c then x else y)) k e):=by
  split
  · rename_i h
    exact h1 h
  · rename_i h
    exact h2 h
theorem gpos2 {c:Prop} [Decidable c] {α:Type}{a b:α} (h:c):(if c then some a else some b)=some a:=if_pos h
theorem gneg2 {c:Prop} [Decidable c] {α:Type}{a b:α} (h:¬ c):(if c then some a else some b)=some b:=if_neg h
theorem bleT_ {n m:Nat} (h:n≤m):Nat.ble n m=true:=Nat.ble_eq_true_of_le h
theorem bleF_ {n m:Nat} (h:m < n):Nat.ble n m=false:=by
  cases e:Nat.ble n m with
  |false=>rfl
  |true=>have:=Nat.le_of_ble_eq_true e;omega
attribute [push_cast] gpos2 gneg2 bleT_ bleF_
theorem tps_dry {cs:List D} (h:cs.all D.tp=true):cs.all D.dryC=true:=all_to h fun d h=>by cases d<;>first|rfl|cases h
theorem dryO_ {os:List (Nat × Ob)} (h:dryO os=true:=by first|rfl|(simp [dryO,tps_dry (strsD_tp _),tps_dry (intsD_tp _),tps_dry (u8D_tp _),tps_dry (treesT_tp _),tps_dry (labelsD_tp _),tps_dry (filesD_tp _),tps_dry (taintsD_tp _),tps_dry (tolersD_tp _),tps_dry (needsT_tp _),tps_dry (hostsT_tp _),tps_dry (placedsT_tp _),D.dryC]<;>fail)):dryO os=true:=h
theorem boH_ {X:Ctx}{P:Program}{o:Oper}{s:St}{wr:List Nat}{nb:Nat}{f:FuncId}{xs:Array Operand}{ats:Array TypeId}{K:St→Prop} (ho:o.op = .call { callee:=.value (.func f),args:=xs,argTypes:=ats }) (gs:List Gop) {ds:List D}{Q:D→List (Nat × Ob)→Nat→Prop} (hs:SpecH P f ds [] 0 Q)
    (hk:∀ d os' nb',Q d os' nb'→(d.dryT=true∧dryO os' = true)∧Wk (K ((s.back [] os' nb').put o.dst (d.ren (tau [] s.nb))))) (hds:xs.toList.map (gops s gs).ev=ds:=by first|exact nme_ rfl|exact rfl) (hok:gopsOk s gs=true:=by first|rfl|exact cal2_ rfl|exact gok2_) (hno:ds.all D.noid=true:=by rfl):Wk (AwStepF X P o s wr nb K):=⟨awborHF gs hok ho ds Q hs hds hno fun d os' nb' h=>⟨(hk d os' nb' h).1,(hk d os' nb' h).2.out⟩⟩
end Go.Proofs.YtidjjfjhmlndjaaGreatDoor
namespace Go.Proofs.YtidjjfjhmlndjaaGreatDoor
open Go.RowKit
set_option linter.unusedVariables false
set_option linter.unusedSimpArgs false
set_option maxRecDepth 100000
set_option maxHeartbeats 1000000
abbrev strRaw (s:ByteArray):Prop:=s.size≤9223372036854775807
def rowRaw {α:Type} [Inhabited α] (P:α→Prop) (xs:List α):Prop:=xs.length≤9223372036854775807∧∀ k,P (xs.getD k default)
def LabelD.fine (x:LabelD):Prop:=strOk x.key∧strOk x.value
structure PlacedD.fine (x:PlacedD):Prop where
  pod:x.pod.fine
  on:strOk x.on
  seq:intOk x.seq
def rowFine {α:Type} [Inhabited α] (P:α→Prop) (xs:List α):Prop:=xs.length≤1048576∧∀ k,P (xs.getD k default)
theorem row_all {α:Type} [Inhabited α] {P:α→Prop}{xs:List α}{k:Nat} (hd:P default) (hk:xs.length≤k) (h:∀ j,j < k→P (xs.getD j default)):∀ j,P (xs.getD j default):=by
  intro j
  by_cases hj:j < k
  · exact h j hj
  · rw [List.getD_eq_getElem?_getD,List.getElem?_eq_none (by omega)];exact hd
theorem row_step {α:Type} [Inhabited α] {P:α→Prop}{xs:List α}{k:Nat} (h:∀ j,j < k→P (xs.getD j default)) (hk:P (xs.getD k default)):∀ j,j < k+1→P (xs.getD j default):=by
  intro j hj
  by_cases e:j=k
  · subst e;exact hk
  · exact h j (by omega)
theorem str_d:strOk default:=by decide
theorem laws_szStringS_D (xs:List ByteArray) (n:Int) (hn0:0≤n) (hn1:n≤1048576) (hr:rowRaw strRaw xs):Spec Tryz.prog 69 [.sl xs.length (strsD xs),.sc (.int .i64 n)] (fun d=>∃ r:Int,d = .sc (.int .i64 r)∧-1≤r∧r≤n∧(0≤r→rowFine strOk xs)):=by
  have hl:=hr.1
  refine sp_ (rs:= [.tmp 4]) (nt:=28) Tryz.func69 rfl fun X hX=>?_
  refine nm_ ?_
  repeat' ((first|contradiction|(with_reducible exact tt_)|((with_reducible show Wk (AwStep _ _ _ _ _));first|(refine pln_ ?_))|((with_reducible show Wk (AwCode _ _ _ _ _));first|(refine lpU_ 0x23 (ι:=Nat × Int) (fun ⟨k,m⟩=> [(1,.sc (.int .i64 m)),(5,.sc (.int .i64 (k:Int)))]) (fun ⟨k,m⟩=>k≤xs.length∧(0≤m∧m≤n - xs.length)∧∀ j,j < k→strOk (xs.getD j default)) (fun ⟨k,m⟩=>xs.length - k) (0,n - xs.length) ?_ ?_;(focus (exact ⟨by omega,by omega,fun j h=>by omega⟩));rintro _ hN0 ⟨k,m⟩ hinv;(try dsimp only at hinv);obtain ⟨hk,hm,hj⟩:=hinv;have hrk:=hr.2 k;skip))|((with_reducible show Wk (boolK _ _ _ _));first|(refine bk_ (fun h h'=>?_) (fun h h'=>?_)))|((with_reducible show Wk (_∧_));first|(refine and_ ?_ ?_))|(refine hN0.go ((k+1,_)) ?_ ?_;(focus (exact ⟨by show k+1≤xs.length;omega,by show 0≤_∧_≤n - (xs.length:Int);omega,row_step hj (by show (xs.getD k default).size≤1048576;omega)⟩));(focus (show xs.length - (k+1) < xs.length - k;omega)))|fail)<;>(try refine nm_ ?_))
  all_goals (refine ⟨?_⟩)
  all_goals first|contradiction|(exact ⟨-1,rfl,by omega,by omega,fun h=>absurd h (by decide)⟩)|(refine ⟨_,rfl,by omega,by omega,fun _=>⟨by omega,row_all str_d (by omega) hj⟩⟩)
end Go.Proofs.YtidjjfjhmlndjaaGreatDoor
namespace Go.Proofs.YtidjjfjhmlndjaaGreatDoor
open Go.RowKit
set_option linter.unusedVariables false
set_option linter.unusedSimpArgs false
set_option maxRecDepth 100000
set_option maxHeartbeats 4000000
theorem snoc_take {α:Type} [Inhabited α] {xs a:List α}{m:Nat} (h:a=xs.take a.length) (hl:a.length+(m+1)=xs.length):a ++ [xs.getD a.length default]=xs.take (a ++ [xs.getD a.length default]).length:=by
  have hk:a.length < xs.length:=by omega
  rw [List.length_append]
  show _=xs.take (a.length+1)
  rw [List.take_add_one,List.getElem?_eq_getElem hk,List.getD_eq_getElem?_getD,List.getElem?_eq_getElem hk,← h]
  rfl
theorem take_whole {α:Type}{xs a:List α} (h:a=xs.take a.length) (hl:a.length+0=xs.length):a=xs:=by
  rw [h,List.take_of_length_le (by omega)]
theorem toStringS_H (xs:List ByteArray) (hn:xs.length≤1048576):SpecH Tryz.prog 76 [.sl xs.length (strsD xs)] [] 0 (fun d os' nb'=>d = .own 0 0 xs.length∧os' = [(0,⟨9,1,xs.length,strsD xs⟩)]∧nb' = 1):=by
  have ex0:=@strsMix_zero;have ex1:=@strsMix_set;have ex2:=@strsMix_all;have ex3:=@strsMix_len;have ex4:=@strsMix_rp;have ex5:=@strsMix_frz;have ex6:=@strsMix_in;have ex7:=@strsMix_ren;have ex8:=@strsMix_lt
  refine spH_ (rs:= [.tmp 2]) (nt:=22) Tryz.func76 rfl fun X hX=>?_
  refine nm_ ?_
  repeat' ((first|contradiction|(with_reducible exact tt_)|((with_reducible show Wk (AwStepF _ _ _ _ _ _ _));first|(refine mk0_ rfl ?_)|(refine mk_ rfl ?_))|((with_reducible show Wk (AwStep _ _ _ _ _));first|(refine pln_ ?_))|((with_reducible show Wk (AwCode _ _ _ _ _));first|(refine lpV_ (ι:=Nat) [] [0] 0x19 (fun k=> [(4,.sc (.int .i64 (k:Int)))]) (fun k=> [(0,⟨9,1,xs.length,strsMix xs k⟩)]) (fun k=>k≤xs.length) (fun k=>xs.length - k) 0 ?_ ?_;(focus (omega));rintro _ hN0 k hinv;(try dsimp only at hinv);have hk:k≤xs.length:=hinv;skip))|((with_reducible show Wk (boolK _ _ _ _));first|(refine bk_ (fun h h'=>?_) (fun h h'=>?_)))|((with_reducible show Wk (_∧_));first|(refine and_ ?_ ?_))|((with_reducible show Wk (retOkH _ _ _ _ _));first|(refine rh_ [0] ?_))|(refine hN0.go (k+1) [] [0] ?_ ?_;(focus (show k+1≤xs.length;omega));(focus (show xs.length - (k+1) < xs.length - k;omega)))|fail)<;>(try refine nm_ ?_))
  all_goals clear ex0 ex1 ex2 ex3 ex4 ex5 ex6 ex7 ex8
  all_goals (refine ⟨?_⟩)
  all_goals first|contradiction|(exfalso;omega)|exact ⟨rfl,rfl,rfl⟩
end Go.Proofs.YtidjjfjhmlndjaaGreatDoor
