/- Cl1, Rap, Ra1 (what is wanted of them). -/
import Derived.Test.YtidjjfjhmlndjaaGreatDoorVNm
import Derived.Test.YtidjjfjhmlndjaaGreatDoorVClx
import Derived.Lib.Fields
import Derived.Lib.ItoaNum
import Derived.Lib.ItoaMem
import Derived.Test.YtidjjfjhmlndjaaGreatDoorVNo
namespace Go.Proofs.YtidjjfjhmlndjaaGreatDoor
open Go.RowKit
set_option linter.unusedVariables false
set_option linter.unusedSimpArgs false
set_option maxRecDepth 100000
set_option maxHeartbeats 1000000
theorem l14Letter_D (x:Int):Spec Tryz.prog 226 [.sc (.int .u8 x)] (fun d=>d = .sc (.bool (letterB x))):=by
  refine sp_ (rs:= [.tmp 2]) (nt:=25) Tryz.func226 rfl fun X hX=>?_
  refine nm_ ?_
  repeat' ((first|contradiction|(with_reducible exact tt_)|((with_reducible show Wk (AwStep _ _ _ _ _));first|(refine pln_ ?_))|((with_reducible show Wk (boolK _ _ _ _));first|(refine bk_ (fun h h'=>?_) (fun h h'=>?_)))|((with_reducible show Wk (_∧_));first|(refine and_ ?_ ?_))|fail)<;>(try refine nm_ ?_))
  all_goals (refine ⟨?_⟩)
  all_goals first|rfl|(unfold letterB;(try simp_all)<;>(try omega))
theorem l01In_D (a b c:Int):Spec Tryz.prog 149 [.sc (.int .i64 a),.sc (.int .i64 b),.sc (.int .i64 c)] (fun d=>d = .sc (.bool (inB a b c))):=by
  refine sp_ (rs:= [.tmp 6]) (nt:=15) Tryz.func149 rfl fun X hX=>?_
  refine nm_ ?_
  repeat' ((first|contradiction|(with_reducible exact tt_)|((with_reducible show Wk (AwStep _ _ _ _ _));first|(refine pln_ ?_))|((with_reducible show Wk (boolK _ _ _ _));first|(refine bk_ (fun h h'=>?_) (fun h h'=>?_)))|((with_reducible show Wk (_∧_));first|(refine and_ ?_ ?_))|fail)<;>(try refine nm_ ?_))
  all_goals (refine ⟨?_⟩)
  all_goals first|rfl|(unfold inB;(try simp_all)<;>(try omega))
theorem within_D (a b c:Int):Spec Tryz.prog 213 [.sc (.int .i64 a),.sc (.int .i64 b),.sc (.int .i64 c)] (fun d=>d = .sc (.bool (inB a b c))):=by
  refine sp_ (rs:= [.tmp 6]) (nt:=15) Tryz.func213 rfl fun X hX=>?_
  refine nm_ ?_
  repeat' ((first|contradiction|(with_reducible exact tt_)|((with_reducible show Wk (AwStep _ _ _ _ _));first|(refine pln_ ?_))|((with_reducible show Wk (boolK _ _ _ _));first|(refine bk_ (fun h h'=>?_) (fun h h'=>?_)))|((with_reducible show Wk (_∧_));first|(refine and_ ?_ ?_))|fail)<;>(try refine nm_ ?_))
  all_goals (refine ⟨?_⟩)
  all_goals first|rfl|(unfold inB;(try simp_all)<;>(try omega))
theorem isLower_D (x:Int):Spec Tryz.prog 232 [.sc (.int .u8 x)] (fun d=>d = .sc (.bool (decide (97≤x)&&decide (x≤122)))):=by
  refine sp_ (rs:= [.tmp 2]) (nt:=9) Tryz.func232 rfl fun X hX=>?_
  refine nm_ ?_
  repeat' ((first|contradiction|(with_reducible exact tt_)|((with_reducible show Wk (AwStep _ _ _ _ _));first|(refine pln_ ?_))|((with_reducible show Wk (boolK _ _ _ _));first|(refine bk_ (fun h h'=>?_) (fun h h'=>?_)))|((with_reducible show Wk (_∧_));first|(refine and_ ?_ ?_))|fail)<;>(try refine nm_ ?_))
  all_goals (refine ⟨?_⟩)
  all_goals first|rfl|simp_all
theorem isDigit_D (x:Int):Spec Tryz.prog 233 [.sc (.int .u8 x)] (fun d=>d = .sc (.bool (decide (48≤x)&&decide (x≤57)))):=by
  refine sp_ (rs:= [.tmp 2]) (nt:=9) Tryz.func233 rfl fun X hX=>?_
  refine nm_ ?_
  repeat' ((first|contradiction|(with_reducible exact tt_)|((with_reducible show Wk (AwStep _ _ _ _ _));first|(refine pln_ ?_))|((with_reducible show Wk (boolK _ _ _ _));first|(refine bk_ (fun h h'=>?_) (fun h h'=>?_)))|((with_reducible show Wk (_∧_));first|(refine and_ ?_ ?_))|fail)<;>(try refine nm_ ?_))
  all_goals (refine ⟨?_⟩)
  all_goals first|rfl|simp_all
theorem isLetter_D (x:Int):Spec Tryz.prog 271 [.sc (.int .u8 x)] (fun d=>d = .sc (.bool ((decide (97≤x)&&decide (x≤122))||(decide (65≤x)&&decide (x≤90))))):=by
  refine sp_ (rs:= [.tmp 2]) (nt:=13) Tryz.func271 rfl fun X hX=>?_
  refine nm_ ?_
  repeat' ((first|contradiction|(with_reducible exact tt_)|((with_reducible show Wk (AwStepF _ _ _ _ _ _ _));first|(refine cl_ rfl _ _ (isLower_D x) rfl rfl ?_;rintro _ rfl))|((with_reducible show Wk (AwStep _ _ _ _ _));first|(refine pln_ ?_))|((with_reducible show Wk (boolK _ _ _ _));first|(refine bk_ (fun h h'=>?_) (fun h h'=>?_)))|((with_reducible show Wk (_∧_));first|(refine and_ ?_ ?_))|fail)<;>(try refine nm_ ?_))
  all_goals (refine ⟨?_⟩)
  all_goals first|rfl|simp_all
theorem plain_D (x:Int):Spec Tryz.prog 270 [.sc (.int .u8 x)] (fun d=>d = .sc (.bool (letterB x))):=by
  refine sp_ (rs:= [.tmp 2]) (nt:=9) Tryz.func270 rfl fun X hX=>?_
  refine nm_ ?_
  repeat' ((first|contradiction|(with_reducible exact tt_)|((with_reducible show Wk (AwStepF _ _ _ _ _ _ _));first|(refine cl_ rfl _ _ (isLetter_D x) rfl rfl ?_;rintro _ rfl)|(refine cl_ rfl _ _ (isDigit_D x) rfl rfl ?_;rintro _ rfl))|((with_reducible show Wk (AwStep _ _ _ _ _));first|(refine pln_ ?_))|((with_reducible show Wk (boolK _ _ _ _));first|(refine bk_ (fun h h'=>?_) (fun h h'=>?_)))|((with_reducible show Wk (_∧_));first|(refine and_ ?_ ?_))|fail)<;>(try refine nm_ ?_))
  all_goals (refine ⟨?_⟩)
  all_goals first|rfl|(unfold letterB;(try simp_all)<;>(try omega))
def nmAt (s:ByteArray) (k:Nat):Bool:=(letterB (bytB s k)&&!(decide (65≤bytB s k)&&decide (bytB s k≤90)))||decide (bytB s k=45)
theorem nmB_eq (s:ByteArray):nmB s=(inB s.size 1 20&&(decide (bytB s 0≠45)&&(decide (bytB s (s.size - 1)≠45)&&allB s.size (nmAt s)))):=rfl
theorem specName_F (s:ByteArray) (hb:inB s.size 1 20=false):Spec Tryz.prog 144 [.sc (.string s)] (fun d=>d = .sc (.bool false)):=by
  refine sp_ (rs:= [.tmp 2]) (nt:=51) Tryz.func144 rfl fun X hX=>?_
  refine nm_ ?_
  repeat' ((first|contradiction|(with_reducible exact tt_)|((with_reducible show Wk (AwStepF _ _ _ _ _ _ _));first|(refine cl_ rfl _ _ (l01In_D _ _ _) rfl rfl ?_;rintro _ rfl)|(refine cl_ rfl _ _ (l14Letter_D _) rfl rfl ?_;rintro _ rfl))|((with_reducible show Wk (AwStep _ _ _ _ _));first|(refine pln_ ?_))|((with_reducible show Wk (boolK _ _ _ _));first|(refine bk_ (fun h h'=>?_) (fun h h'=>?_)))|((with_reducible show Wk (_∧_));first|(refine and_ ?_ ?_))|fail)<;>(try refine nm_ ?_))
theorem specName_T (s:ByteArray) (hb:inB s.size 1 20=true) (hz:1≤s.size∧s.size≤20):Spec Tryz.prog 144 [.sc (.string s)] (fun d=>d = .sc (.bool (nmB s))):=by
  refine sp_ (rs:= [.tmp 2]) (nt:=51) Tryz.func144 rfl fun X hX=>?_
  refine nm_ ?_
  repeat' ((first|contradiction|(with_reducible exact tt_)|((with_reducible show Wk (AwStepF _ _ _ _ _ _ _));first|(refine cl_ rfl _ _ (l01In_D _ _ _) rfl rfl ?_;rintro _ rfl)|(refine cl_ rfl _ _ (l14Letter_D _) rfl rfl ?_;rintro _ rfl))|((with_reducible show Wk (AwStep _ _ _ _ _));first|(refine pln_ ?_))|((with_reducible show Wk (AwCode _ _ _ _ _));first|(refine lpU_ 0x9 (ι:=Int) (fun i=> [(3,.sc (.int .i64 i))]) (fun i=>(0≤i∧i≤s.size)∧∀ k:Nat,(k:Int) < i→nmAt s k=true) (fun i=>((s.size:Int) - i).toNat) 0 ?_ ?_;(focus (exact ⟨by omega,allB_zero⟩));rintro _ hN0 i hinv;(try dsimp only at hinv);obtain ⟨hi,hj⟩:=hinv;replace hj:=Lib.hid hj;skip))|((with_reducible show Wk (boolK _ _ _ _));first|(refine bk_ (fun h h'=>?_) (fun h h'=>?_)))|((with_reducible show Wk (_∧_));first|(refine and_ ?_ ?_))|(refine hN0.go (i+1) ?_ ?_;(focus (exact ⟨by show 0≤i+1∧i+1≤(s.size:Int);omega,allB_step hi.1 hj.out (by unfold nmAt;(try simp_all))⟩));(focus (show ((s.size:Int) - (i+1)).toNat < ((s.size:Int) - i).toNat;omega)))|fail)<;>(try refine nm_ ?_))
  all_goals (refine ⟨?_⟩)
  all_goals first|contradiction|(rw [nmB_eq,hb];(try simp_all);done)|(rw [nmB_eq,hb,allB_no hi.1 (by omega) (by unfold nmAt;(try simp_all))];(try simp_all);done)|(rw [nmB_eq,hb,allB_yes (by omega) hj.out];(try simp_all);done)
theorem inB_rng {n:Nat}{a b:Nat} (h:inB n a b=true):a≤n∧n≤b:=by
  simp [inB] at h
  omega
theorem specName_D (s:ByteArray):Spec Tryz.prog 144 [.sc (.string s)] (fun d=>d = .sc (.bool (nmB s))):=by
  cases hb:inB s.size 1 20 with
  |false=>
    have e:nmB s=false:=by rw [nmB_eq,hb];rfl
    rw [e]
    exact specName_F s hb
  |true=>exact specName_T s hb (inB_rng (a:=1) (b:=20) hb)
end Go.Proofs.YtidjjfjhmlndjaaGreatDoor
namespace Go.Proofs.YtidjjfjhmlndjaaGreatDoor
open Go.RowKit
set_option linter.unusedVariables false
abbrev By:=List UInt8
def bl (s:ByteArray):By:=s.data.toList
def ba (l:By):ByteArray:=⟨l.toArray⟩
/-- What a reader of a number makes of a word. -/
structure NumR (t:By) (n:Int) (ok:Bool):Prop where
  yes:ok=true→t=Lib.itoa n∧0≤n∧n≤1000000000
  no:ok=false→n=0∧∀ m:Int,0≤m→m≤1000000000→t≠Lib.itoa m
def decVal (l:By):Nat:=l.foldl (fun n b=>10*n+(b.toNat - 48)) 0
theorem decVal_snoc (l:By) (b:UInt8):decVal (l ++ [b])=10*decVal l+(b.toNat - 48):=by simp [decVal]
theorem decVal_dec:∀ (k u:Nat),u < 10 ^ (k+1)→decVal (Lib.decDigits u)=u
  |0,u,h=>by
    rw [Lib.decDigits_one (by omega)]
    show 10*0+((UInt8.ofNat (48+u)).toNat - 48)=u
    have:(UInt8.ofNat (48+u)).toNat=48+u:=by rw [UInt8.toNat_ofNat'];omega
    omega
  |k+1,u,h=>by
    by_cases h10:u < 10
    · exact decVal_dec 0 u (by omega)
    · rw [Lib.decDigits,dif_neg h10,decVal_snoc,decVal_dec k (u / 10) (by rw [Nat.div_lt_iff_lt_mul (by decide),← Nat.pow_succ];exact h)]
      have:(UInt8.ofNat (48+u % 10)).toNat=48+u % 10:=by rw [UInt8.toNat_ofNat'];omega
      omega
theorem itoa_inj {n m:Int} (hn:0≤n∧n≤1000000000) (hm:0≤m∧m≤1000000000) (h:Lib.itoa n=Lib.itoa m):n=m:=by
  obtain ⟨a,rfl⟩:=Int.eq_ofNat_of_zero_le hn.1
  obtain ⟨b,rfl⟩:=Int.eq_ofNat_of_zero_le hm.1
  rw [Lib.itoa_nonneg,Lib.itoa_nonneg] at h
  have e:=congrArg decVal h
  rw [decVal_dec 10 a (by omega),decVal_dec 10 b (by omega)] at e
  rw [e]
theorem NumR.same {t:By}{n m:Int}{ok ok2:Bool} (h:NumR t n ok) (g:NumR t m ok2):n=m∧ok=ok2:=by
  cases ok<;>cases ok2
  · exact ⟨(h.no rfl).1.trans (g.no rfl).1.symm,rfl⟩
  · obtain ⟨e,g0,g1⟩:=g.yes rfl
    exact absurd e ((h.no rfl).2 m g0 g1)
  · obtain ⟨e,h0,h1⟩:=h.yes rfl
    exact absurd e ((g.no rfl).2 n h0 h1)
  · obtain ⟨e,h0,h1⟩:=h.yes rfl
    obtain ⟨e2,g0,g1⟩:=g.yes rfl
    exact ⟨itoa_inj ⟨h0,h1⟩ ⟨g0,g1⟩ (e.symm.trans e2),rfl⟩
theorem numR_itoa {n:Int} (h0:0≤n) (h1:n≤1000000000):NumR (Lib.itoa n) n true:=⟨fun _=>⟨rfl,h0,h1⟩,fun h=>by cases h⟩
theorem numR_ex (t:By):∃ n ok,NumR t n ok:=by
  by_cases h:∃ n:Int,0≤n∧n≤1000000000∧t=Lib.itoa n
  · obtain ⟨n,h0,h1,rfl⟩:=h
    exact ⟨n,true,numR_itoa h0 h1⟩
  · exact ⟨0,false,fun e=>(by cases e),fun _=>⟨rfl,fun m h0 h1 e=>h ⟨m,h0,h1,e⟩⟩⟩
noncomputable def numV (t:By):Int:=(numR_ex t).choose
noncomputable def numO (t:By):Bool:=(numR_ex t).choose_spec.choose
theorem num_r (t:By):NumR t (numV t) (numO t):=(numR_ex t).choose_spec.choose_spec
theorem NumR.eq {t:By}{n:Int}{ok:Bool} (h:NumR t n ok):n=numV t∧ok=numO t:=h.same (num_r t)
theorem dec_dig:∀ (k u:Nat),u < 10 ^ (k+1)→Lib.decDigits u≠ []∧∀ b ∈ Lib.decDigits u,48≤b.toNat∧b.toNat≤57
  |0,u,h=>by
    rw [Lib.decDigits_one (by omega)]
    refine ⟨by simp,fun b hb=>?_⟩
    rw [List.mem_singleton.1 hb,UInt8.toNat_ofNat']
    omega
  |k+1,u,h=>by
    by_cases h10:u < 10
    · exact dec_dig 0 u (by omega)
    · have ih:=dec_dig k (u / 10) (by rw [Nat.div_lt_iff_lt_mul (by decide),← Nat.pow_succ];exact h)
      rw [Lib.decDigits,dif_neg h10]
      refine ⟨by simp,fun b hb=>?_⟩
      rcases List.mem_append.1 hb with hb|hb
      · exact ih.2 b hb
      · rw [List.mem_singleton.1 hb,UInt8.toNat_ofNat']
        omega
def valB (b:UInt8):Option Nat:=if 48≤b.toNat∧b.toNat≤57 then some (b.toNat - 48) else if 97≤b.toNat∧b.toNat≤102 then some (b.toNat - 87) else none
def unhexG:By→Option By
  | []=>some []
  | [_]=>none
  |x::y::r=>match valB x,valB y,unhexG r with
    |some h,some l,some t=>some (UInt8.ofNat (16*h+l)::t)
    |_,_,_=>none
end Go.Proofs.YtidjjfjhmlndjaaGreatDoor
namespace Go.Proofs.YtidjjfjhmlndjaaGreatDoor
open Go.RowKit
set_option linter.unusedVariables false
set_option linter.unusedSimpArgs false
set_option maxRecDepth 100000
set_option maxHeartbeats 1000000
theorem ba_bl (s:ByteArray):ba (bl s)=s:=by unfold ba bl;rw [Array.toArray_toList]
theorem bl_ba (l:By):bl (ba l)=l:=rfl
theorem bl_len (s:ByteArray):(bl s).length=s.size:=by unfold bl;rw [Array.length_toList];rfl
theorem ba_len (l:By):(ba l).size=l.length:=by unfold ba;rw [ByteArray.size,List.size_toArray]
def nsB (l:By):List Int:=l.map fun b=>(b.toNat:Int)
theorem nsB_len (l:By):(nsB l).length=l.length:=by simp [nsB]
theorem strGo (l:By):∀ r:ByteArray,((nsB l).foldl (fun r n=>r.push (UInt8.ofNat n.toNat)) r).data.toList=r.data.toList++l:=by
  induction l with
  |nil=>intro r;simp [nsB]
  |cons b t ih=>
    intro r
    show ((nsB t).foldl _ (r.push (UInt8.ofNat ((b.toNat:Int).toNat)))).data.toList=_
    rw [ih,Int.toNat_natCast,UInt8.ofNat_toNat]
    show (r.data.push b).toList++t=_
    rw [Array.toList_push,List.append_assoc];rfl
theorem strOf_ns (l:By):strOf (nsB l)=ba l:=by
  have h:=strGo l ByteArray.empty
  have e:(strOf (nsB l)).data.toList=l:=h
  rw [← ba_bl (strOf (nsB l))]
  unfold bl
  rw [e]
theorem bytB_bl {s:ByteArray}{k:Nat} (h:k < s.size):∃ b,(bl s)[k]? = some b∧bytB s k=(b.toNat:Int):=by
  have h2:k < s.data.size:=h
  refine ⟨s.data[k],?_,?_⟩
  · unfold bl;rw [Array.getElem?_toList,Array.getElem?_eq_getElem h2]
  · unfold bytB;rw [Array.getD_eq_getD_getElem?, Array.getElem?_eq_getElem h2];rfl
theorem bytB_rng (s:ByteArray) (k:Nat):0≤bytB s k∧bytB s k≤255:=by
  unfold bytB
  have:=(s.data.getD k 0).toNat_lt
  omega
theorem u8E {a b:Int} (h:IntKind.u8.wrap a=b):D.sc (.int .u8 (IntKind.u8.wrap a))=D.sc (.int .u8 b):=by rw [h]
theorem wr8q {x:Int} (h:0≤x∧x < 256):IntKind.u8.wrap x=x:=by show x % 256=x;omega
theorem i64E {a b:Int} (h:a=b):D.sc (.int .i64 a)=D.sc (.int .i64 b):=by rw [h]
def figI (x:Int):Int:=if x < 10 then 48+x else 87+x
def digs (u:Nat):By:=if u=0 then [] else Lib.decDigits u
theorem digs_step (u:Nat) (h:u≠0):digs u=digs (u / 10) ++ [UInt8.ofNat (48+u % 10)]:=by
  unfold digs
  rw [if_neg h]
  by_cases h10:u < 10
  · have h1:u / 10=0:=by omega
    have h2:u % 10=u:=by omega
    rw [Lib.decDigits_one h10,if_pos h1,h2]
    rfl
  · rw [if_neg (by omega:¬ u / 10=0)]
    rw [Lib.decDigits,dif_neg h10]
theorem figure_A (x:Int) (hx:0≤x∧x < 16):Spec Tryz.prog 199 [.sc (.int .i64 x)] (fun d=>d = .sc (.int .u8 (figI x))):=by
  refine sp_ (rs:= [.tmp 2]) (nt:=12) Tryz.func199 rfl fun X hX=>?_
  refine nm_ ?_
  repeat' ((first|contradiction|(with_reducible exact tt_)|((with_reducible show Wk (AwStep _ _ _ _ _));first|(refine pln_ ?_))|((with_reducible show Wk (boolK _ _ _ _));first|(refine bk_ (fun h h'=>?_) (fun h h'=>?_)))|((with_reducible show Wk (_∧_));first|(refine and_ ?_ ?_))|fail)<;>(try refine nm_ ?_))
  all_goals (refine ⟨?_⟩)
  all_goals first|contradiction|(exfalso;omega)|(refine u8E ?_;show _ % 256=_;unfold figI;split<;>omega)
/-- What is read of the first i figures. -/
structure UnG (s:ByteArray) (i:Nat) (ns:List Int):Prop where
  ex:∃ u,unhexG ((bl s).take i)=some u∧ns=nsB u∧2*u.length=i
theorem UnG.len {s:ByteArray}{i:Nat}{ns:List Int} (h:UnG s i ns):2*ns.length=i:=by
  obtain ⟨u,_,rfl,h3⟩:=h.ex
  rw [nsB_len];exact h3
theorem dec_len:∀ (k u:Nat),u < 10 ^ (k+1)→(Lib.decDigits u).length≤k+1
  |0,u,h=>by rw [Lib.decDigits_one (by omega)];exact Nat.le_refl _
  |k+1,u,h=>by
    by_cases h10:u < 10
    · rw [Lib.decDigits_one h10];simp
    · have ih:=dec_len k (u / 10) (by rw [Nat.div_lt_iff_lt_mul (by decide),← Nat.pow_succ];exact h)
      rw [Lib.decDigits,dif_neg h10,List.length_append]
      show _+1≤_
      omega
theorem digs_len {u:Nat} (h:u≤9223372036854775807):(digs u).length≤20:=by
  unfold digs
  split
  · simp
  · have:=dec_len 18 u (by omega);omega
/-- What is told of the number, and what is still to tell. -/
structure DecG (n u:Nat) (r:ByteArray):Prop where
  eq:digs n=digs u++bl r
theorem DecG.size {n u:Nat}{r:ByteArray} (h:DecG n u r) (hn:n≤9223372036854775807):r.size≤20:=by
  have:=congrArg List.length h.eq
  rw [List.length_append,bl_len] at this
  have:=digs_len hn
  omega
theorem decG_go {n u:Nat}{r:ByteArray} (h:DecG n u r) (hu:u≠0):DecG n (u / 10) (strOf [figI ((u % 10:Nat):Int)]++r):=by
  refine ⟨?_⟩
  rw [h.eq,digs_step u hu,List.append_assoc]
  congr 1
  have e:strOf [figI ((u % 10:Nat):Int)]=ba [UInt8.ofNat (48+u % 10)]:=by
    rw [← strOf_ns]
    congr 1
    show _ = [((UInt8.ofNat (48+u % 10)).toNat:Int)]
    rw [UInt8.toNat_ofNat',Nat.mod_eq_of_lt (show 48+u % 10 < 256 by omega)]
    unfold figI
    rw [if_pos (by omega)]
    push_cast<;>rfl
  rw [e]
  unfold bl ba
  rw [ByteArray.data_append,Array.toList_append]
theorem decG_end {n:Nat}{r:ByteArray} (h:DecG n 0 r) (hn:n≠0):r=ba (Lib.decDigits n):=by
  have e:=h.eq
  unfold digs at e
  rw [if_neg hn,if_pos rfl,List.nil_append] at e
  rw [e,ba_bl]
theorem t10 (u:Nat):((u:Int)).tmod 10=((u % 10:Nat):Int)∧((u:Int)).tdiv 10=((u / 10:Nat):Int):=by
  rw [Int.tmod_eq_emod_of_nonneg (by omega),Int.tdiv_eq_ediv_of_nonneg (by omega)]
  push_cast<;>exact ⟨rfl,rfl⟩
theorem t10m (u:Nat):((u:Int)).tmod 10=((u % 10:Nat):Int):=(t10 u).1
theorem t10d (u:Nat):((u:Int)).tdiv 10=((u / 10:Nat):Int):=(t10 u).2
theorem str1A (x:Int):(strOf [x]).size=1:=by rw [strOf_size];rfl
theorem spec_Decimal_A (n:Nat) (hn:n≤9223372036854775807):Spec Tryz.prog 103 [.sc (.int .i64 (n:Int))] (fun d=>d = .sc (.string (ba (Lib.decDigits n)))):=by
  have ex0:=@t10m;have ex1:=@t10d;have ex2:=@str1A
  refine sp_ (rs:= [.tmp 2]) (nt:=30) Tryz.func103 rfl fun X hX=>?_
  refine nm_ ?_
  repeat' ((first|contradiction|(with_reducible exact tt_)|((with_reducible show Wk (AwStepF _ _ _ _ _ _ _));first|(refine cl_ rfl _ _ (figure_A ((u % 10:Nat):Int) (by omega)) rfl rfl ?_;rintro _ rfl)|(refine byt_ rfl ?_))|((with_reducible show Wk (AwStep _ _ _ _ _));first|(refine pln_ ?_))|((with_reducible show Wk (AwCode _ _ _ _ _));first|(refine lpK_ (ι:=Nat × ByteArray) [] [] 0x19 (fun ⟨u,r⟩=> [(0,.sc (.int .i64 (u:Int))),(3,.sc (.bool false)),(4,.sc (.string r))]) (fun ⟨u,r⟩=> []) (fun ⟨u,r⟩=>u≤n∧DecG n u r) (fun ⟨u,r⟩=>u) (n,⟨#[]⟩) ?_ ?_;(focus (exact ⟨Nat.le_refl _,⟨(List.append_nil _).symm⟩⟩));rintro _ hN0 ⟨u,r⟩ hinv;(try dsimp only at hinv);obtain ⟨hu,hD⟩:=hinv;have hrz:=hD.size hn;have hm:u % 10 < 10:=(Nat.mod_lt _ (by decide));have hd:u / 10≤u:=(Nat.div_le_self _ _);replace hD:=Lib.hid hD;skip))|((with_reducible show Wk (boolK _ _ _ _));first|(refine bk_ (fun h h'=>?_) (fun h h'=>?_)))|((with_reducible show Wk (_∧_));first|(refine and_ ?_ ?_))|(refine hN0.run ((u / 10,strOf [figI ((u % 10:Nat):Int)]++r)) [] [] ?_ ?_;(focus (exact ⟨by show u / 10≤n;omega,decG_go hD.out (by omega)⟩));(focus (show u / 10 < u;omega)))|fail)<;>(try refine nm_ ?_))
  all_goals clear ex0 ex1 ex2
  all_goals (refine ⟨?_⟩)
  all_goals first|contradiction|(exfalso;omega)|(have e9:n=0:=(by omega);subst e9;rw [Lib.decDigits_one (by decide)];rfl)|(have e9:u=0:=(by omega);subst e9;rw [decG_end hD.out (by omega)])
theorem eqS_rfl (a:ByteArray):eqB a a=true:=by unfold eqB;exact beq_self_eq_true _
theorem eqS_eq {a b:ByteArray} (h:eqB a b=true):a=b:=by
  unfold eqB at h
  have e:=beq_iff_eq.1 h
  rw [ByteArray.toList_eq,ByteArray.toList_eq] at e
  exact ByteArray.ext (Array.toList_inj.1 e)
/-- The figures of the first i bytes. -/
structure RdG (s:ByteArray) (i:Nat) (n:Int):Prop where
  val:n=(decVal ((bl s).take i):Int)
  dig:∀ b ∈ (bl s).take i,48≤b.toNat∧b.toNat≤57
theorem decVal_lt:∀ (k:Nat) (l:By),l.length≤k→(∀ b ∈ l,48≤b.toNat∧b.toNat≤57)→decVal l < 10 ^ k:=by
  intro k
  induction k with
  |zero=>intro l h _;obtain rfl:l = []:=List.eq_nil_of_length_eq_zero (by omega);decide
  |succ k ih=>
    intro l h hd
    rcases List.eq_nil_or_concat l with rfl|⟨m,b,rfl⟩
    · exact Nat.pow_pos (by decide)
    · rw [List.concat_eq_append] at h hd ⊢
      rw [List.length_append] at h
      have h1:=ih m (by simp at h;omega) fun x hx=>hd x (List.mem_append_left _ hx)
      have h2:=hd b (by simp)
      rw [decVal_snoc,Nat.pow_succ]
      omega
theorem RdG.rng {s:ByteArray}{i:Nat}{n:Int} (h:RdG s i n) (hi:i≤10):0≤n∧n < 10000000000:=by
  have:=decVal_lt 10 ((bl s).take i) (by rw [List.length_take];omega) h.dig
  rw [h.val]
  omega
end Go.Proofs.YtidjjfjhmlndjaaGreatDoor
