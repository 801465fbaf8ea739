/- Ra1 (what is wanted of them). -/
import Derived.Test.YtidjjfjhmlndjaaGreatDoorVCl1
import Derived.Test.YtidjjfjhmlndjaaGreatDoorVRap
import Derived.Test.YtidjjfjhmlndjaaGreatDoorVCl10
namespace Go.Proofs.YtidjjfjhmlndjaaGreatDoor
open Go.RowKit
set_option linter.unusedVariables false
set_option linter.unusedSimpArgs false
set_option maxRecDepth 100000
set_option maxHeartbeats 1000000
theorem ba_bl (s:ByteArray):ba (bl s)=s:=by unfold ba bl;rw [Array.toArray_toList]
theorem bl_ba (l:By):bl (ba l)=l:=rfl
theorem bl_len (s:ByteArray):(bl s).length=s.size:=by unfold bl;rw [Array.length_toList];rfl
theorem ba_len (l:By):(ba l).size=l.length:=by unfold ba;rw [ByteArray.size,List.size_toArray]
def nsB (l:By):List Int:=l.map fun b=>(b.toNat:Int)
theorem nsB_len (l:By):(nsB l).length=l.length:=by simp [nsB]
theorem strGo (l:By):∀ r:ByteArray,((nsB l).foldl (fun r n=>r.push (UInt8.ofNat n.toNat)) r).data.toList=r.data.toList++l:=by
  induction l with
  |nil=>intro r;simp [nsB]
  |cons b t ih=>
    intro r
    show ((nsB t).foldl _ (r.push (UInt8.ofNat ((b.toNat:Int).toNat)))).data.toList=_
    rw [ih,Int.toNat_natCast,UInt8.ofNat_toNat]
    show (r.data.push b).toList++t=_
    rw [Array.toList_push,List.append_assoc];rfl
theorem strOf_ns (l:By):strOf (nsB l)=ba l:=by
  have h:=strGo l ByteArray.empty
  have e:(strOf (nsB l)).data.toList=l:=h
  rw [← ba_bl (strOf (nsB l))]
  unfold bl
  rw [e]
theorem bytB_bl {s:ByteArray}{k:Nat} (h:k < s.size):∃ b,(bl s)[k]? = some b∧bytB s k=(b.toNat:Int):=by
  have h2:k < s.data.size:=h
  refine ⟨s.data[k],?_,?_⟩
  · unfold bl;rw [Array.getElem?_toList,Array.getElem?_eq_getElem h2]
  · unfold bytB;rw [Array.getD_eq_getD_getElem?, Array.getElem?_eq_getElem h2];rfl
theorem bytB_rng (s:ByteArray) (k:Nat):0≤bytB s k∧bytB s k≤255:=by
  unfold bytB
  have:=(s.data.getD k 0).toNat_lt
  omega
theorem u8E {a b:Int} (h:IntKind.u8.wrap a=b):D.sc (.int .u8 (IntKind.u8.wrap a))=D.sc (.int .u8 b):=by rw [h]
def figI (x:Int):Int:=if x < 10 then 48+x else 87+x
def digs (u:Nat):By:=if u=0 then [] else Lib.decDigits u
theorem digs_step (u:Nat) (h:u≠0):digs u=digs (u / 10) ++ [UInt8.ofNat (48+u % 10)]:=by
  unfold digs
  rw [if_neg h]
  by_cases h10:u < 10
  · have h1:u / 10=0:=by omega
    have h2:u % 10=u:=by omega
    rw [Lib.decDigits_one h10,if_pos h1,h2]
    rfl
  · rw [if_neg (by omega:¬ u / 10=0)]
    rw [Lib.decDigits,dif_neg h10]
theorem figure_A (x:Int) (hx:0≤x∧x < 16):Spec Tryz.prog 199 [.sc (.int .i64 x)] (fun d=>d = .sc (.int .u8 (figI x))):=by
  refine sp_ (rs:= [.tmp 2]) (nt:=12) Tryz.func199 rfl fun X hX=>?_
  refine nm_ ?_
  repeat' ((first|contradiction|(with_reducible exact tt_)|((with_reducible show Wk (AwStep _ _ _ _ _));first|(refine pln_ ?_))|((with_reducible show Wk (boolK _ _ _ _));first|(refine bk_ (fun h h'=>?_) (fun h h'=>?_)))|((with_reducible show Wk (_∧_));first|(refine and_ ?_ ?_))|fail)<;>(try refine nm_ ?_))
  all_goals (refine ⟨?_⟩)
  all_goals first|contradiction|(exfalso;omega)|(refine u8E ?_;show _ % 256=_;unfold figI;split<;>omega)
/-- What is read of the first i figures. -/
structure UnG (s:ByteArray) (i:Nat) (ns:List Int):Prop where
  ex:∃ u,unhexG ((bl s).take i)=some u∧ns=nsB u∧2*u.length=i
theorem UnG.len {s:ByteArray}{i:Nat}{ns:List Int} (h:UnG s i ns):2*ns.length=i:=by
  obtain ⟨u,_,rfl,h3⟩:=h.ex
  rw [nsB_len];exact h3
theorem dec_len:∀ (k u:Nat),u < 10 ^ (k+1)→(Lib.decDigits u).length≤k+1
  |0,u,h=>by rw [Lib.decDigits_one (by omega)];exact Nat.le_refl _
  |k+1,u,h=>by
    by_cases h10:u < 10
    · rw [Lib.decDigits_one h10];simp
    · have ih:=dec_len k (u / 10) (by rw [Nat.div_lt_iff_lt_mul (by decide),← Nat.pow_succ];exact h)
      rw [Lib.decDigits,dif_neg h10,List.length_append]
      show _+1≤_
      omega
theorem digs_len {u:Nat} (h:u≤9223372036854775807):(digs u).length≤20:=by
  unfold digs
  split
  · simp
  · have:=dec_len 18 u (by omega);omega
/-- What is told of the number, and what is still to tell. -/
structure DecG (n u:Nat) (r:ByteArray):Prop where
  eq:digs n=digs u++bl r
theorem DecG.size {n u:Nat}{r:ByteArray} (h:DecG n u r) (hn:n≤9223372036854775807):r.size≤20:=by
  have:=congrArg List.length h.eq
  rw [List.length_append,bl_len] at this
  have:=digs_len hn
  omega
theorem decG_go {n u:Nat}{r:ByteArray} (h:DecG n u r) (hu:u≠0):DecG n (u / 10) (strOf [figI ((u % 10:Nat):Int)]++r):=by
  refine ⟨?_⟩
  rw [h.eq,digs_step u hu,List.append_assoc]
  congr 1
  have e:strOf [figI ((u % 10:Nat):Int)]=ba [UInt8.ofNat (48+u % 10)]:=by
    rw [← strOf_ns]
    congr 1
    show _ = [((UInt8.ofNat (48+u % 10)).toNat:Int)]
    rw [UInt8.toNat_ofNat',Nat.mod_eq_of_lt (show 48+u % 10 < 256 by omega)]
    unfold figI
    rw [if_pos (by omega)]
    push_cast<;>rfl
  rw [e]
  unfold bl ba
  rw [ByteArray.data_append,Array.toList_append]
theorem decG_end {n:Nat}{r:ByteArray} (h:DecG n 0 r) (hn:n≠0):r=ba (Lib.decDigits n):=by
  have e:=h.eq
  unfold digs at e
  rw [if_neg hn,if_pos rfl,List.nil_append] at e
  rw [e,ba_bl]
theorem t10 (u:Nat):((u:Int)).tmod 10=((u % 10:Nat):Int)∧((u:Int)).tdiv 10=((u / 10:Nat):Int):=by
  rw [Int.tmod_eq_emod_of_nonneg (by omega),Int.tdiv_eq_ediv_of_nonneg (by omega)]
  push_cast<;>exact ⟨rfl,rfl⟩
theorem t10m (u:Nat):((u:Int)).tmod 10=((u % 10:Nat):Int):=(t10 u).1
theorem t10d (u:Nat):((u:Int)).tdiv 10=((u / 10:Nat):Int):=(t10 u).2
theorem str1A (x:Int):(strOf [x]).size=1:=by rw [strOf_size];rfl
theorem spec_Decimal_A (n:Nat) (hn:n≤9223372036854775807):Spec Tryz.prog 103 [.sc (.int .i64 (n:Int))] (fun d=>d = .sc (.string (ba (Lib.decDigits n)))):=by
  have ex0:=@t10m;have ex1:=@t10d;have ex2:=@str1A
  refine sp_ (rs:= [.tmp 2]) (nt:=30) Tryz.func103 rfl fun X hX=>?_
  refine nm_ ?_
  repeat' ((first|contradiction|(with_reducible exact tt_)|((with_reducible show Wk (AwStepF _ _ _ _ _ _ _));first|(refine cl_ rfl _ _ (figure_A ((u % 10:Nat):Int) (by omega)) rfl rfl ?_;rintro _ rfl)|(refine byt_ rfl ?_))|((with_reducible show Wk (AwStep _ _ _ _ _));first|(refine pln_ ?_))|((with_reducible show Wk (AwCode _ _ _ _ _));first|(refine lpK_ (ι:=Nat × ByteArray) [] [] 0x19 (fun ⟨u,r⟩=> [(0,.sc (.int .i64 (u:Int))),(3,.sc (.bool false)),(4,.sc (.string r))]) (fun ⟨u,r⟩=> []) (fun ⟨u,r⟩=>u≤n∧DecG n u r) (fun ⟨u,r⟩=>u) (n,⟨#[]⟩) ?_ ?_;(focus (exact ⟨Nat.le_refl _,⟨(List.append_nil _).symm⟩⟩));rintro _ hN0 ⟨u,r⟩ hinv;(try dsimp only at hinv);obtain ⟨hu,hD⟩:=hinv;have hrz:=hD.size hn;have hm:u % 10 < 10:=(Nat.mod_lt _ (by decide));have hd:u / 10≤u:=(Nat.div_le_self _ _);replace hD:=Lib.hid hD;skip))|((with_reducible show Wk (boolK _ _ _ _));first|(refine bk_ (fun h h'=>?_) (fun h h'=>?_)))|((with_reducible show Wk (_∧_));first|(refine and_ ?_ ?_))|(refine hN0.run ((u / 10,strOf [figI ((u % 10:Nat):Int)]++r)) [] [] ?_ ?_;(focus (exact ⟨by show u / 10≤n;omega,decG_go hD.out (by omega)⟩));(focus (show u / 10 < u;omega)))|fail)<;>(try refine nm_ ?_))
  all_goals clear ex0 ex1 ex2
  all_goals (refine ⟨?_⟩)
  all_goals first|contradiction|(exfalso;omega)|(have e9:n=0:=(by omega);subst e9;rw [Lib.decDigits_one (by decide)];rfl)|(have e9:u=0:=(by omega);subst e9;rw [decG_end hD.out (by omega)])
theorem eqS_rfl (a:ByteArray):eqB a a=true:=by unfold eqB;exact beq_self_eq_true _
theorem eqS_eq {a b:ByteArray} (h:eqB a b=true):a=b:=by
  unfold eqB at h
  have e:=beq_iff_eq.1 h
  rw [ByteArray.toList_eq,ByteArray.toList_eq] at e
  exact ByteArray.ext (Array.toList_inj.1 e)
/-- The figures of the first i bytes. -/
structure RdG (s:ByteArray) (i:Nat) (n:Int):Prop where
  val:n=(decVal ((bl s).take i):Int)
  dig:∀ b ∈ (bl s).take i,48≤b.toNat∧b.toNat≤57
theorem decVal_lt:∀ (k:Nat) (l:By),l.length≤k→(∀ b ∈ l,48≤b.toNat∧b.toNat≤57)→decVal l < 10 ^ k:=by
  intro k
  induction k with
  |zero=>intro l h _;obtain rfl:l = []:=List.eq_nil_of_length_eq_zero (by omega);decide
  |succ k ih=>
    intro l h hd
    rcases List.eq_nil_or_concat l with rfl|⟨m,b,rfl⟩
    · exact Nat.pow_pos (by decide)
    · rw [List.concat_eq_append] at h hd ⊢
      rw [List.length_append] at h
      have h1:=ih m (by simp at h;omega) fun x hx=>hd x (List.mem_append_left _ hx)
      have h2:=hd b (by simp)
      rw [decVal_snoc,Nat.pow_succ]
      omega
theorem rdG_0 (s:ByteArray):RdG s 0 0:=⟨rfl,fun b h=>by cases h⟩
theorem RdG.rng {s:ByteArray}{i:Nat}{n:Int} (h:RdG s i n) (hi:i≤10):0≤n∧n < 10000000000:=by
  have:=decVal_lt 10 ((bl s).take i) (by rw [List.length_take];omega) h.dig
  rw [h.val]
  omega
theorem rdG_go {s:ByteArray}{i:Nat}{n:Int} (h:RdG s i n) (hi:i < s.size) (hb:48≤bytB s i∧bytB s i≤57):RdG s (i+1) (10*n+bytB s i - 48):=by
  obtain ⟨b,h1,h2⟩:=bytB_bl hi
  obtain ⟨h3,h4⟩:=List.getElem?_eq_some_iff.1 h1
  rw [h2] at hb
  have e:(bl s).take (i+1)=(bl s).take i ++ [b]:=by rw [List.take_succ_eq_append_getElem h3,h4]
  refine ⟨?_,fun x hx=>?_⟩
  · rw [e,decVal_snoc,h.val,h2];omega
  · rw [e] at hx
    rcases List.mem_append.1 hx with hx|hx
    · exact h.dig x hx
    · rw [List.mem_singleton.1 hx];omega
theorem dec_of {n:Int} (h:0≤n∧n≤9223372036854775807):Spec Tryz.prog 103 [.sc (.int .i64 n)] (fun d=>d = .sc (.string (ba (Lib.decDigits n.toNat)))):=by
  have:=spec_Decimal_A n.toNat (by omega)
  rwa [Int.toNat_of_nonneg h.1] at this
end Go.Proofs.YtidjjfjhmlndjaaGreatDoor
