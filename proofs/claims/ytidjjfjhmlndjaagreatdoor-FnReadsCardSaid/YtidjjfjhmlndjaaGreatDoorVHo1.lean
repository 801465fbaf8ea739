/- Ho1 (what is wanted of them). -/
import Derived.Test.YtidjjfjhmlndjaaGreatDoorVRal
import Derived.Test.YtidjjfjhmlndjaaGreatDoorVHo0
import Derived.Test.YtidjjfjhmlndjaaGreatDoorVNe4
namespace Go.Proofs.YtidjjfjhmlndjaaGreatDoor
open Go.RowKit
set_option linter.unusedVariables false
set_option linter.unusedSimpArgs false
set_option maxRecDepth 100000
set_option maxHeartbeats 4000000
/-- What a reader of a whole number makes of a word. -/
structure IntR (t:By) (n:Int) (ok:Bool):Prop where
  yes:ok=true→t=Lib.itoa n∧0≤n∧n≤9223372036854775807
  no:ok=false→n=0∧∀ m:Int,0≤m→m≤9223372036854775807→t≠Lib.itoa m
def dvG (acc:Nat) (l:By):Nat:=l.foldl (fun n b=>10*n+(b.toNat - 48)) acc
theorem dvG_ge:∀ (l:By) (acc:Nat),acc≤dvG acc l
  | [],acc=>Nat.le_refl _
  |b::l,acc=>Nat.le_trans (by omega) (dvG_ge l (10*acc+(b.toNat - 48)))
theorem pu_go:∀ (l:By) (acc:Nat),(∀ b ∈ l,48≤b.toNat∧b.toNat≤57)→dvG acc l≤9223372036854775807→Lib.parseUint10 acc l = .ok (dvG acc l)
  | [],acc,_,_=>rfl
  |c::r,acc,hd,hl=>by
    have hc:=hd c (List.mem_cons_self ..)
    have h1:10*acc+(c.toNat - 48)≤dvG acc (c::r):=dvG_ge r (10*acc+(c.toNat - 48))
    have ih:=pu_go r (10*acc+(c.toNat - 48)) (fun b hb=>hd b (List.mem_cons_of_mem _ hb)) hl
    unfold Lib.parseUint10
    rw [if_pos hc,if_neg (by omega),if_neg (by omega),Nat.mul_comm acc 10,ih]
    rfl
theorem atoi_it {m:Int} (h0:0≤m) (h1:m≤9223372036854775807):Lib.atoiAll (Lib.itoa m) = .ok m:=by
  obtain ⟨a,rfl⟩:=Int.eq_ofNat_of_zero_le h0
  rw [Lib.itoa_nonneg]
  have e:=decVal_dec 18 a (by omega)
  have hd:=dec_dig 18 a (by omega)
  generalize Lib.decDigits a=l at e hd
  match l,e,hd with
  | [],e,hd=>exact absurd rfl hd.1
  |c::r,e,hd=>
    have hc:=hd.2 c (List.mem_cons_self ..)
    rw [Lib.atoiAll_plain c r (by omega) (by omega)]
    unfold Lib.parseMag
    rw [if_neg (by simp),pu_go (c::r) 0 hd.2 (by show decVal (c::r)≤_;omega)]
    show Lib.signless (.ok (decVal (c::r)))=_
    rw [e]
    unfold Lib.signless
    simp only
    rw [if_neg (by omega)]
theorem itoa_sz {m:Int} (h0:0≤m) (h1:m≤9223372036854775807):(Lib.itoa m).length≤19:=by
  obtain ⟨a,rfl⟩:=Int.eq_ofNat_of_zero_le h0
  rw [Lib.itoa_nonneg]
  exact dec_len 18 a (by omega)
theorem intR_big {s : ByteArray} (h : 20 < s.size) : IntR (bl s) 0 false := ⟨fun e => (by cases e), fun _ => ⟨rfl, fun m h0 h1 e => by
  have:=itoa_sz h0 h1
  rw [← e,bl_len] at this
  omega⟩⟩
theorem intR_no {s : ByteArray} {n : Int} {e : Value} (h : AtR s n e) (hn : e ≠ .nilIface ∨ n < 0 ∨ (eqB (ba (Lib.itoa n)) s = false)) : IntR (bl s) 0 false := ⟨fun e => (by cases e), fun _ => ⟨rfl, fun m h0 h1 em => by
  have:=h.it m (by show Lib.atoiAll (bl s)=_;rw [em];exact atoi_it h0 h1)
  rcases hn with hn|hn|hn
  · exact hn this.2
  · omega
  · rw [this.1, ← em, ba_bl, eqS_rfl] at hn; cases hn⟩⟩
theorem intR_yes {s:ByteArray}{n:Int} (h0:0≤n) (h1:n≤9223372036854775807) (he:eqB (ba (Lib.itoa n)) s=true):IntR (bl s) n true:=⟨fun _=>⟨by rw [← eqS_eq he,bl_ba],h0,h1⟩,fun e=>by cases e⟩
theorem IntR.rng {t:By}{n:Int}{ok:Bool} (h:IntR t n ok):0≤n∧n≤9223372036854775807:=by
  cases ok with
  |true=>exact (h.yes rfl).2
  |false=>rw [(h.no rfl).1];decide
theorem undI:Tryz.prog.underlying 173=some (.interface (Tryz.prog.methodsAt 173)):=by kernel_rfl
theorem nil_one:Value.nilIface.oneCell' = true:=rfl
theorem ifc_ne {t:TypeId}{p:Value}:Value.iface t p≠.nilIface:=fun e=>by cases e
theorem IntR.same {t:By}{n m:Int}{ok ok2:Bool} (h:IntR t n ok) (g:IntR t m ok2):n=m∧ok=ok2:=by
  cases ok with
  |true=>
    obtain ⟨h1,h2,h3⟩:=h.yes rfl
    cases ok2 with
    |true=>
      obtain ⟨g1,g2,g3⟩:=g.yes rfl
      rw [h1] at g1
      have:=(atoi_it h2 h3).symm.trans ((congrArg Lib.atoiAll g1).trans (atoi_it g2 g3))
      injection this with e
      exact ⟨e,rfl⟩
    |false=>exact absurd h1 ((g.no rfl).2 n h2 h3)
  |false=>
    cases ok2 with
    |true=>
      obtain ⟨g1,g2,g3⟩:=g.yes rfl
      exact absurd g1 ((h.no rfl).2 m g2 g3)
    |false=>exact ⟨(h.no rfl).1.trans (g.no rfl).1.symm,rfl⟩
theorem intR_ex (t:By):∃ n ok,IntR t n ok:=by
  by_cases h:∃ n:Int,t=Lib.itoa n∧0≤n∧n≤9223372036854775807
  · obtain ⟨n,h⟩:=h
    exact ⟨n,true,fun _=>h,fun e=>by cases e⟩
  · exact ⟨0,false,fun e=>(by cases e),fun _=>⟨rfl,fun m h0 h1 e=>h ⟨m,e,h0,h1⟩⟩⟩
noncomputable def intV (t:By):Int:=(intR_ex t).choose
noncomputable def intO (t:By):Bool:=(intR_ex t).choose_spec.choose
theorem int_r (t:By):IntR t (intV t) (intO t):=(intR_ex t).choose_spec.choose_spec
theorem IntR.eq {t:By}{n:Int}{ok:Bool} (h:IntR t n ok):n=intV t∧ok=intO t:=h.same (int_r t)
theorem intV_rng (t:By):0≤intV t∧intV t≤9223372036854775807:=(int_r t).rng
theorem int_d {t:By}{n:Int}{ok:Bool} (h:IntR t n ok):D.tup [.sc (.int .i64 n),.sc (.bool ok)] = .tup [.sc (.int .i64 (intV t)),.sc (.bool (intO t))]:=by rw [h.eq.1,h.eq.2]
theorem itoa_dig {m:Int} (h0:0≤m) (h1:m≤9223372036854775807):(∀ b ∈ Lib.itoa m,48≤b.toNat∧b.toNat≤57)∧decVal (Lib.itoa m)=m.toNat∧Lib.itoa m=Lib.decDigits m.toNat:=by
  obtain ⟨a,rfl⟩:=Int.eq_ofNat_of_zero_le h0
  rw [Lib.itoa_nonneg]
  exact ⟨(dec_dig 18 a (by omega)).2,decVal_dec 18 a (by omega),rfl⟩
theorem mul_le {a b:Int} (_h0:0≤a) (hb:0 < b):a*b≤9223372036854775807↔a≤Int.tdiv 9223372036854775807 b:=by
  rw [Int.tdiv_eq_ediv_of_nonneg (by decide)]
  exact (Int.le_ediv_iff_mul_le hb).symm
theorem mul_f (a b:Int):(0≤a→0 < b→a≤Int.tdiv 9223372036854775807 b→0≤a*b∧a*b≤9223372036854775807)∧(0 < b→0≤Int.tdiv 9223372036854775807 b∧Int.tdiv 9223372036854775807 b≤9223372036854775807):=by
  refine ⟨fun h0 hb h=>⟨Int.mul_nonneg h0 (by omega),(mul_le h0 hb).2 h⟩,fun h=>?_⟩
  rw [Int.tdiv_eq_ediv_of_nonneg (by decide)]
  exact ⟨Int.ediv_nonneg (by decide) (by omega),Int.ediv_le_self _ (by decide)⟩
theorem mulI_z {a b:Int} (h0:0≤a) (hb:b=0):mulI a b=(0,true):=by
  subst hb
  unfold mulI
  rw [Int.mul_zero]
  exact if_pos ⟨h0,Int.le_refl _,by decide⟩
theorem mulI_yes {a b:Int} (h0:0≤a) (h1:0≤b) (h:a*b≤9223372036854775807):mulI a b=(a*b,true):=if_pos ⟨h0,h1,h⟩
theorem mulI_no {a b:Int} (h:a < 0∨b < 0∨(0≤a∧0 < b∧Int.tdiv 9223372036854775807 b < a)):mulI a b=(0,false):=if_neg fun k=>by
  rcases h with h|h|⟨h0,hb,h⟩
  · omega
  · omega
  · have:=(mul_le h0 hb).1 k.2.2
    omega
noncomputable def readA (s:ByteArray):Int × Int:=
  if 40 < s.size∨emptyB (s.extract 0 (digN s))=true∨(1 < (s.extract 0 (digN s)).size∧bytB (s.extract 0 (digN s)) 0=48)∨(unitF (s.extract (digN s) s.size)).2=false then (0,1)
  else if intO (bl (s.extract 0 (digN s)))=false∨(mulI (intV (bl (s.extract 0 (digN s)))) (unitF (s.extract (digN s) s.size)).1).2=false then (0,2)
  else ((mulI (intV (bl (s.extract 0 (digN s)))) (unitF (s.extract (digN s) s.size)).1).1,0)
section
variable {s f u:ByteArray}{v m:Int}{ok:Bool}
theorem readA_1 (hf:s.extract 0 (digN s)=f) (hu:s.extract (digN s) s.size=u) (h:40 < s.size∨emptyB f=true∨(1 < f.size∧bytB f 0=48)∨(unitF u).2=false):readA s=(0,1):=by
  subst hf;subst hu
  exact if_pos h
theorem readA_2 (hf:s.extract 0 (digN s)=f) (hu:s.extract (digN s) s.size=u) (h:¬ (40 < s.size∨emptyB f=true∨(1 < f.size∧bytB f 0=48)∨(unitF u).2=false)) (h2:intO (bl f)=false∨(mulI (intV (bl f)) (unitF u).1).2=false):readA s=(0,2):=by
  subst hf;subst hu
  exact (if_neg h).trans (if_pos h2)
theorem readA_3 (hf:s.extract 0 (digN s)=f) (hu:s.extract (digN s) s.size=u) (h:¬ (40 < s.size∨emptyB f=true∨(1 < f.size∧bytB f 0=48)∨(unitF u).2=false)) (h2:¬ (intO (bl f)=false∨(mulI (intV (bl f)) (unitF u).1).2=false)):readA s=((mulI (intV (bl f)) (unitF u).1).1,0):=by
  subst hf;subst hu
  exact (if_neg h).trans (if_neg h2)
end
theorem readA_0 {s:ByteArray} (h:40 < s.size):readA s=(0,1):=if_pos (.inl h)
theorem readA_rng (s:ByteArray):(0≤(readA s).1∧(readA s).1≤9223372036854775807)∧0≤(readA s).2∧(readA s).2≤2:=by
  unfold readA
  split
  · exact ⟨⟨Int.le_refl _,by decide⟩,by decide,by decide⟩
  · split
    · exact ⟨⟨Int.le_refl _,by decide⟩,by decide,by decide⟩
    · exact ⟨mulI_rng _ _,Int.le_refl _,by show (0:Int)≤2;decide⟩
theorem dig_sz {s f u:ByteArray} (hf:s.extract 0 (digN s)=f) (hu:s.extract (digN s) s.size=u):f.size≤s.size∧u.size≤s.size:=by
  have:=digN_le s
  subst hf;subst hu
  rw [ByteArray.size_extract,ByteArray.size_extract]
  omega
def pwI (b:Int):Nat→Int
  |0=>1
  |n+1=>pwI b n*b
def powM (k:Int):Int:=if k=2 then 1000000 else if k=3 then 1000000000 else if k=4 then 1000000000000 else 1000000000000000
def powB (k:Int):Int:=if k=1 then 1024 else if k=2 then 1048576 else if k=3 then 1073741824 else 1099511627776
theorem powB_rng (k:Int):0≤powB k∧powB k≤1099511627776:=by unfold powB;split<;>(try split)<;>(try split)<;>decide
theorem unitK_rng (s:ByteArray):-1≤unitK s∧unitK s < 10:=by
  have h:=firstN_rng 10 fun i=>eqB (sufW.getD i default) s
  unfold unitK
  omega
theorem unitF_no {s:ByteArray} (h:unitK s < 0):unitF s=(0,false):=if_pos h
theorem unitF_at {s:ByteArray}{k:Nat} (h:unitK s=(k:Int)):unitF s=(unitsW.getD k 0,true):=by
  unfold unitF
  rw [h,if_neg (by omega)]
  rfl
theorem unitF_v {s:ByteArray}{v:Int} (h:¬ unitK s < 0) (hv:∀ k:Nat,unitK s=(k:Int)→unitsW.getD k 0=v):unitF s=(v,true):=by
  have e:=unitF_at (s:=s) (k:=(unitK s).toNat) (by omega)
  rw [e,hv _ (by omega)]
theorem unit_0 {s:ByteArray} (h:unitK s=0):unitF s=(1000,true):=unitF_v (by omega) fun k hk=>by
  obtain rfl:k=0:=by omega
  rfl
theorem unit_1 {s:ByteArray} (h:unitK s=1):unitF s=(1,true):=unitF_v (by omega) fun k hk=>by
  obtain rfl:k=1:=by omega
  rfl
theorem unit_M {s:ByteArray} (h:2≤unitK s∧unitK s≤5):unitF s=(powM (unitK s),true):=unitF_v (by omega) fun k hk=>by
  have e:k=2∨k=3∨k=4∨k=5:=by omega
  rw [hk]
  rcases e with rfl|rfl|rfl|rfl<;>rfl
theorem unit_B {s:ByteArray} (h:6≤unitK s∧unitK s≤9):unitF s=(1000*powB (unitK s - 5),true):=unitF_v (by omega) fun k hk=>by
  have e:k=6∨k=7∨k=8∨k=9:=by omega
  rw [hk]
  rcases e with rfl|rfl|rfl|rfl<;>rfl
theorem impl_ReadInt_A (t:ByteArray) (ht:t.size≤1048576):Spec Tryz.prog 350 [.sc (.string t)] (fun d=>d = .tup [.sc (.int .i64 (intV (bl t))),.sc (.bool (intO (bl t)))]):=by
  have ex0:=@niG_n;have ex1:=@niG_i;have ex2:=@nil_one
  refine sp_ (rs:= [.tmp 2,.tmp 3]) (nt:=27) Tryz.func350 rfl fun X hX=>?_
  refine nm_ ?_
  repeat' ((first|contradiction|(with_reducible exact tt_)|((with_reducible show Wk (AwStepF _ _ _ _ _ _ _));first|(refine niF_ rfl undI ?_)|(refine cl_ rfl _ _ (atoi_D t (by omega)) rfl rfl ?_;rintro _ ⟨n,e,hA,rfl⟩;(have hr0:=hA.rng.1;have hr1:=hA.rng.2;(rcases hA.er with he|⟨te,pe,he⟩<;>(subst he;replace hA:=Lib.hid hA))))|(refine cl_ rfl _ _ (impl_Decimal_A n (by omega) (by omega)) rfl rfl ?_;rintro _ rfl))|((with_reducible show Wk (AwStep _ _ _ _ _));first|(refine pln_ ?_))|((with_reducible show Wk (boolK _ _ _ _));first|(refine bk_ (fun h h'=>?_) (fun h h'=>?_)))|((with_reducible show Wk (_∧_));first|(refine and_ ?_ ?_))|fail)<;>(try refine nm_ ?_))
  all_goals clear ex0 ex1 ex2
  all_goals (refine ⟨?_⟩)
  all_goals first|contradiction|(exfalso;omega)|(exact int_d (intR_big (by omega)))|(exact int_d (intR_no hA.out (.inl ifc_ne)))|(exact int_d (intR_no hA.out (.inr (.inl (by omega)))))|(exact int_d (intR_no hA.out (.inr (.inr (by first|assumption|simp_all)))))|(exact int_d (intR_yes (by omega) (by omega) (by first|assumption|simp_all)))
theorem impl_MulInt_D (a b:Int) (ha:intOk a) (hb:intOk b):Spec Tryz.prog 301 [.sc (.int .i64 a),.sc (.int .i64 b)] (fun d=>d = .tup [.sc (.int .i64 (mulI a b).1),.sc (.bool (mulI a b).2)]):=by
  obtain ⟨ha0,ha1⟩:=ha;obtain ⟨hb0,hb1⟩:=hb;obtain ⟨hm,hz⟩:=mul_f a b
  refine sp_ (rs:= [.tmp 4,.tmp 5]) (nt:=25) Tryz.func301 rfl fun X hX=>?_
  refine nm_ ?_
  repeat' ((first|contradiction|(with_reducible exact tt_)|((with_reducible show Wk (AwStep _ _ _ _ _));first|(refine pln_ ?_))|((with_reducible show Wk (boolK _ _ _ _));first|(refine bk_ (fun h h'=>?_) (fun h h'=>?_)))|((with_reducible show Wk (_∧_));first|(refine and_ ?_ ?_))|fail)<;>(try refine nm_ ?_))
  all_goals (refine ⟨?_⟩)
  all_goals first|contradiction|(exfalso;omega)|(rw [mulI_no (by omega)];done)|(rw [mulI_z (by omega) (by omega)];first|done|(rw [show b=0 by omega,Int.mul_zero];rfl))|(rw [mulI_yes (by omega) (by omega) (by omega)];done)
theorem mulP {a b c:Int} (h:mulI a b=(a*b,true)) (ha:0≤a∧a≤9223372036854775807) (hb:0≤b∧b≤1048576) (hs:c=a*b):Spec Tryz.prog 301 [.sc (.int .i64 a),.sc (.int .i64 b)] (fun d=>d = .tup [.sc (.int .i64 c),.sc (.bool true)]):=by
  have:=impl_MulInt_D a b ⟨by omega,by omega⟩ ⟨by omega,by omega⟩
  rw [h] at this
  rw [hs]
  exact this
theorem impl_PowInt_A (b:Int) (n:Nat) (hb0:0≤b) (hb1:b≤1048576) (hn:n≤100) (hp:∀ k,k≤n→0≤pwI b k∧pwI b k≤9223372036854775807):Spec Tryz.prog 367 [.sc (.int .i64 b),.sc (.int .i64 (n:Int))] (fun d=>d = .tup [.sc (.int .i64 (pwI b n)),.sc (.bool true)]):=by
  refine sp_ (rs:= [.tmp 4,.tmp 5]) (nt:=33) Tryz.func367 rfl fun X hX=>?_
  refine nm_ ?_
  repeat' ((first|contradiction|(with_reducible exact tt_)|((with_reducible show Wk (AwStepF _ _ _ _ _ _ _));first|(refine cl_ rfl _ _ (mulP (hmy (by omega)) (by omega) (by omega) hs) rfl rfl ?_;rintro _ rfl))|((with_reducible show Wk (AwStep _ _ _ _ _));first|(refine pln_ ?_))|((with_reducible show Wk (AwCode _ _ _ _ _));first|(refine lpU_ 0x180041 (ι:=Nat) (fun i=> [(6,.sc (.int .i64 (pwI b i))),(20,.sc (.int .i64 (i:Int)))]) (fun i=>i≤n) (fun i=>n - i) 0 ?_ ?_;(focus (exact Nat.zero_le _));rintro _ hN0 i hinv;(try dsimp only at hinv);have hi:i≤n:=hinv;have hp1:=hp i hi;have hp2:=fun h:i < n=>hp (i+1) h;have hs:pwI b (i+1)=pwI b i*b:=rfl;have hmy:=fun h:i < n=>mulI_yes (a:=pwI b i) (b:=b) (by omega) (by omega) (by have:=(hp2 h).2;omega);skip))|((with_reducible show Wk (boolK _ _ _ _));first|(refine bk_ (fun h h'=>?_) (fun h h'=>?_)))|((with_reducible show Wk (_∧_));first|(refine and_ ?_ ?_))|(refine hN0.go (i+1) ?_ ?_;(focus (show i+1≤n;omega));(focus (show n - (i+1) < n - i;omega)))|fail)<;>(try refine nm_ ?_))
  all_goals (refine ⟨?_⟩)
  all_goals first|contradiction|(exfalso;omega)|(have e:i=n:=(by omega);rw [e];done)
theorem powK {b:Int} (hb0:0≤b) (hb1:b≤1048576) (n:Nat) (hn:n≤5) {k c:Int} (hk:k=(n:Int)) (hc:pwI b n=c) (hp:∀ k,k≤n→0≤pwI b k∧pwI b k≤9223372036854775807):Spec Tryz.prog 367 [.sc (.int .i64 b),.sc (.int .i64 k)] (fun d=>d = .tup [.sc (.int .i64 c),.sc (.bool true)]):=by
  subst hk;subst hc
  exact impl_PowInt_A b n hb0 hb1 (by omega) hp
theorem pow_M {k:Int} (h:2≤k∧k≤5):Spec Tryz.prog 367 [.sc (.int .i64 1000),.sc (.int .i64 k)] (fun d=>d = .tup [.sc (.int .i64 (powM k)),.sc (.bool true)]):=by
  have e:k=2∨k=3∨k=4∨k=5:=by omega
  rcases e with rfl|rfl|rfl|rfl
  · exact powK (by decide) (by decide) 2 (by decide) rfl (by decide) (by decide)
  · exact powK (by decide) (by decide) 3 (by decide) rfl (by decide) (by decide)
  · exact powK (by decide) (by decide) 4 (by decide) rfl (by decide) (by decide)
  · exact powK (by decide) (by decide) 5 (by decide) rfl (by decide) (by decide)
theorem pow_B {k:Int} (h:1≤k∧k≤4):Spec Tryz.prog 367 [.sc (.int .i64 1024),.sc (.int .i64 k)] (fun d=>d = .tup [.sc (.int .i64 (powB k)),.sc (.bool true)]):=by
  have e:k=1∨k=2∨k=3∨k=4:=by omega
  rcases e with rfl|rfl|rfl|rfl
  · exact powK (by decide) (by decide) 1 (by decide) rfl (by decide) (by decide)
  · exact powK (by decide) (by decide) 2 (by decide) rfl (by decide) (by decide)
  · exact powK (by decide) (by decide) 3 (by decide) rfl (by decide) (by decide)
  · exact powK (by decide) (by decide) 4 (by decide) rfl (by decide) (by decide)
theorem indexS_U (s:ByteArray):Spec Tryz.prog 297 [.sl 10 (strsD sufW),.sc (.string s)] (fun d=>d = .sc (.int .i64 (unitK s))):=by
  have h:=indexS_K sufW s (by decide)
  have e:(firstN sufW.length fun i=>eqB s (sufW.getD i default))=unitK s:=by rw [firstN_comm];rfl
  first|exact h|(rw [e] at h;exact h)
theorem impl_Suffixes_D :Spec Tryz.prog 366 [] (fun d=>d = .sl 10 (strsD sufW)):=by
  refine spG_ (rs:= [.tmp 0]) (nt:=2) Tryz.func366 rfl fun X hX=>?_
  refine nm_ ?_
  repeat' ((first|contradiction|(with_reducible exact tt_)|((with_reducible show Wk (AwStep _ _ _ _ _));first|(refine pln_ ?_))|((with_reducible show Wk (boolK _ _ _ _));first|(refine bk_ (fun h h'=>?_) (fun h h'=>?_)))|((with_reducible show Wk (_∧_));first|(refine and_ ?_ ?_))|((with_reducible show Wk (retOkG _ _ _ _));first|(refine rgg_ [.frz 0] ?_))|fail)<;>(try refine nm_ ?_))
  all_goals (refine ⟨?_⟩)
  all_goals first|contradiction|(exfalso;omega)|rfl
theorem impl_UnitOf_D (s:ByteArray):Spec Tryz.prog 349 [.sc (.string s)] (fun d=>d = .tup [.sc (.int .i64 (unitF s).1),.sc (.bool (unitF s).2)]):=by
  have hr:=unitK_rng s;have hpb:=powB_rng (unitK s - 5)
  refine sp_ (rs:= [.tmp 2,.tmp 3]) (nt:=38) Tryz.func349 rfl fun X hX=>?_
  refine nm_ ?_
  repeat' ((first|contradiction|(with_reducible exact tt_)|((with_reducible show Wk (AwStepF _ _ _ _ _ _ _));first|(refine cl_ rfl _ _ (impl_Suffixes_D) rfl rfl ?_;rintro _ rfl)|(refine cl_ rfl _ _ (indexS_U s) rfl rfl ?_;rintro _ rfl)|(refine cl_ rfl _ _ (pow_M (k:=unitK s) (by omega)) rfl rfl ?_;rintro _ rfl)|(refine cl_ rfl _ _ (pow_B (k:=unitK s - 5) (by omega)) rfl rfl ?_;rintro _ rfl))|((with_reducible show Wk (AwStep _ _ _ _ _));first|(refine pln_ ?_))|((with_reducible show Wk (boolK _ _ _ _));first|(refine bk_ (fun h h'=>?_) (fun h h'=>?_)))|((with_reducible show Wk (_∧_));first|(refine and_ ?_ ?_))|fail)<;>(try refine nm_ ?_))
  all_goals (refine ⟨?_⟩)
  all_goals first|contradiction|(exfalso;omega)|(rw [unitF_no (by omega)];done)|(rw [unit_0 (by omega)];done)|(rw [unit_1 (by omega)];done)|(rw [unit_M (by omega)];done)|(rw [unit_B (by omega)];done)
theorem impl_SplitAmount_D (s:ByteArray) (hs:s.size≤1048576):Spec Tryz.prog 348 [.sc (.string s)] (fun d=>d = .tup [.sc (.string (s.extract 0 (digN s))),.sc (.string (s.extract (digN s) s.size))]):=by
  refine sp_ (rs:= [.tmp 2,.tmp 3]) (nt:=23) Tryz.func348 rfl fun X hX=>?_
  refine nm_ ?_
  repeat' ((first|contradiction|(with_reducible exact tt_)|((with_reducible show Wk (AwStepF _ _ _ _ _ _ _));first|(refine cl_ rfl _ _ (isDigit_D _) rfl rfl ?_;rintro _ rfl))|((with_reducible show Wk (AwStep _ _ _ _ _));first|(refine pln_ ?_))|((with_reducible show Wk (AwCode _ _ _ _ _));first|(refine wo_ (id:=4) [] [(0,true),(1,true),(2,true),(3,true),(4,true),(5,true),(6,true),(7,true)] ?_)|(refine lpU_ 0x11 (ι:=Nat) (fun i=> [(4,.sc (.int .i64 (i:Int)))]) (fun i=>i≤s.size∧digI s (s.size - i) i=digN s) (fun i=>s.size - i) 0 ?_ ?_;(focus (exact ⟨Nat.zero_le _,rfl⟩));rintro _ hN0 i hinv;(try dsimp only at hinv);obtain ⟨hi,hR⟩:=hinv;replace hR:=Lib.hid hR;have hbr:=bytB_rng s i;skip))|((with_reducible show Wk (boolK _ _ _ _));first|(refine bk_ (fun h h'=>?_) (fun h h'=>?_)))|((with_reducible show Wk (_∧_));first|(refine and_ ?_ ?_))|((with_reducible show Wk (stepK _ _ _));first|(refine ite_ (fun hs=>?_) (fun hs=>?_)))|(refine hN0.go (i+1) ?_ ?_;(focus (exact ⟨by show i+1≤s.size;omega,digI_go (by omega) (by first|omega|simp_all) hR.out⟩));(focus (show s.size - (i+1) < s.size - i;omega)))|fail)<;>(try refine nm_ ?_))
  all_goals (refine ⟨?_⟩)
  all_goals first|contradiction|(exfalso;omega)|(rw [digI_end (by omega) hR.out];done)|(rw [digI_out (by omega) (by first|omega|(simp_all;omega)) hR.out];done)
theorem impl_ReadAmount_D (s:ByteArray) (hs:s.size≤1048576):Spec Tryz.prog 300 [.sc (.string s)] (fun d=>d = .tup [.sc (.int .i64 (readA s).1),.sc (.int .i64 (readA s).2)]):=by
  refine sp_ (rs:= [.tmp 2,.tmp 3]) (nt:=61) Tryz.func300 rfl fun X hX=>?_
  refine nm_ ?_
  repeat' ((first|contradiction|(with_reducible exact tt_)|((with_reducible show Wk (AwStepF _ _ _ _ _ _ _));first|(refine cl_ rfl _ _ (impl_SplitAmount_D s hs) rfl rfl ?_;rintro _ rfl;(generalize hf:(s.extract 0 (digN s))=f at *;generalize hu:(s.extract (digN s) s.size)=u at *;have hfu:=dig_sz hf hu;replace hf:=Lib.hid hf;replace hu:=Lib.hid hu))|(refine cl_ rfl _ _ (impl_UnitOf_D u) rfl rfl ?_;rintro _ rfl;(have hur:=unitF_rng u))|(refine cl_ rfl _ _ (impl_ReadInt_A f (by omega)) rfl rfl ?_;rintro _ rfl;(have hir:=intV_rng (bl f)))|(refine cl_ rfl _ _ (impl_MulInt_D (intV (bl f)) (unitF u).1 ⟨by omega,by omega⟩ ⟨by omega,by omega⟩) rfl rfl ?_;rintro _ rfl))|((with_reducible show Wk (AwStep _ _ _ _ _));first|(refine pln_ ?_))|((with_reducible show Wk (boolK _ _ _ _));first|(refine bk_ (fun h h'=>?_) (fun h h'=>?_)))|((with_reducible show Wk (_∧_));first|(refine and_ ?_ ?_))|fail)<;>(try refine nm_ ?_))
  all_goals (refine ⟨?_⟩)
  all_goals first|contradiction|(exfalso;omega)|(rw [readA_0 (by omega)];done)|(have e:=readA_1 hf.out hu.out (by first|(refine .inl ?_;omega)|(refine .inr (.inl ?_);assumption)|(refine .inr (.inr (.inl ⟨?_,?_⟩))<;>omega)|(refine .inr (.inr (.inr ?_));assumption));rw [e];done)|(have e:=readA_2 hf.out hu.out (by rintro (k|k|k|k)<;>first|omega|simp_all) (by first|(refine .inl ?_;assumption)|(refine .inr ?_;assumption));rw [e];done)|(have e:=readA_3 hf.out hu.out (by rintro (k|k|k|k)<;>first|omega|simp_all) (by rintro (k|k)<;>simp_all);rw [e];done)
end Go.Proofs.YtidjjfjhmlndjaaGreatDoor
