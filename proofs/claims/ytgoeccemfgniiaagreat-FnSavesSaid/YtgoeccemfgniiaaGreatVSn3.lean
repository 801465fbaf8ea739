/- Sn3 (what is wanted of them). -/
import Derived.Test.YtgoeccemfgniiaaGreatVSn1
namespace Go.Proofs.YtgoeccemfgniiaaGreat
open Go.RowKit
set_option linter.unusedVariables false
set_option linter.unusedSimpArgs false
set_option maxRecDepth 100000
set_option maxHeartbeats 1000000
theorem bytB_rng2 (s:ByteArray) (k:Nat):0≤bytB s k∧bytB s k≤255:=by
  unfold bytB
  have:=(s.data.getD k 0).toNat_lt
  omega
/-- Four bytes of a number, the low ones first; those below k, the others zero. -/
def fixL (n:Int) (k:Nat):List Int:= [if 0 < k then n % 256 else 0,if 1 < k then n / 256 % 256 else 0,if 2 < k then n / 65536 % 256 else 0,if 3 < k then n / 16777216 % 256 else 0]
def fixB (n:Int):ByteArray:=if n < 0∨4294967296≤n then ⟨#[]⟩ else strOf (fixL n 4)
theorem u8D_setL (ns:List Int) (k:Nat) (x:Int):setL (u8D ns) k [.sc (.int .u8 x)]=u8D (ns.set k x):=by
  show (u8D ns).set k _=_
  simp [u8D,List.map_set]
theorem fixL_len (n:Int) (k:Nat):(fixL n k).length=4:=rfl
theorem fixD0 (n:Int):u8D (fixL n 0) = [.sc (.int .u8 0),.sc (.int .u8 0),.sc (.int .u8 0),.sc (.int .u8 0)]:=rfl
theorem fixL_step (n:Int) (k:Nat) (h:k < 4):(fixL n k).set k (n / 256 ^ k % 256)=fixL n (k+1):=by
  have:k=0∨k=1∨k=2∨k=3:=by omega
  rcases this with rfl|rfl|rfl|rfl<;>simp [fixL]
/-- One round of the sum. -/
def sumStep (x:Int):Int:=if x % 2=1 then bitI .xor .i64 (x / 2) 3988292384 else x / 2
def sumBits:Nat→Int→Int
  |0,x=>x
  |n+1,x=>sumBits n (sumStep x)
def sumByte (x b:Int):Int:=sumBits 8 (bitI .xor .i64 x b)
def sumFrom (s:ByteArray) (n:Nat) (x:Int):Nat→Int
  |0=>x
  |k+1=>sumByte (sumFrom s n x k) (bytB s k)
def sumB (s:ByteArray):Int:=bitI .xor .i64 (sumFrom s 0 4294967295 s.size) 4294967295
theorem xor_rng (a b:Int) (ha:0≤a∧a≤4294967295) (hb:0≤b∧b≤4294967295):0≤bitI .xor .i64 a b∧bitI .xor .i64 a b≤4294967295:=by
  obtain ⟨m,rfl⟩:=Int.eq_ofNat_of_zero_le ha.1
  obtain ⟨n,rfl⟩:=Int.eq_ofNat_of_zero_le hb.1
  have h1:m < 2 ^ 32:=by omega
  have h2:n < 2 ^ 32:=by omega
  have h3:m ^^^ n < 2 ^ 32:=Nat.xor_lt_two_pow h1 h2
  delta bitI
  show 0≤IntKind.i64.wrap (((BitVec.ofInt 64 (m:Int) ^^^ BitVec.ofInt 64 (n:Int)).toNat:Nat):Int)∧IntKind.i64.wrap (((BitVec.ofInt 64 (m:Int) ^^^ BitVec.ofInt 64 (n:Int)).toNat:Nat):Int)≤_
  rw [BitVec.ofInt_natCast,BitVec.ofInt_natCast,BitVec.toNat_xor,BitVec.toNat_ofNat,BitVec.toNat_ofNat,Nat.mod_eq_of_lt (by omega),Nat.mod_eq_of_lt (by omega),wrap_in _ (by omega)]
  omega
theorem sumStep_rng {x:Int} (h:0≤x∧x≤4294967295):0≤sumStep x∧sumStep x≤4294967295:=by
  unfold sumStep
  split
  · exact xor_rng _ _ (by omega) (by decide)
  · omega
theorem sumBits_rng:∀ (n:Nat) {x:Int},(0≤x∧x≤4294967295)→0≤sumBits n x∧sumBits n x≤4294967295
  |0,_,h=>h
  |n+1,_,h=>sumBits_rng n (sumStep_rng h)
theorem sumByte_rng {x b:Int} (h:0≤x∧x≤4294967295) (hb:0≤b∧b≤255):0≤sumByte x b∧sumByte x b≤4294967295:=sumBits_rng 8 (xor_rng x b h (by omega))
theorem sumFrom_rng (s:ByteArray) (x:Int) (h:0≤x∧x≤4294967295):∀ k,0≤sumFrom s 0 x k∧sumFrom s 0 x k≤4294967295
  |0=>h
  |k+1=>sumByte_rng (sumFrom_rng s x h k) (bytB_rng2 s k)
theorem sumB_rng (s:ByteArray):0≤sumB s∧sumB s≤4294967295:=xor_rng _ _ (sumFrom_rng s _ (by decide) _) (by decide)
theorem and1 (x:Int) (h:0≤x∧x≤4294967295):bitI .and .i64 x 1=x % 2:=by
  obtain ⟨m,rfl⟩:=Int.eq_ofNat_of_zero_le h.1
  delta bitI
  show IntKind.i64.wrap (((BitVec.ofInt 64 (m:Int) &&& BitVec.ofInt 64 (1:Int)).toNat:Nat):Int)=_
  rw [BitVec.ofInt_natCast,show (1:Int)=((1:Nat):Int) from rfl,BitVec.ofInt_natCast,BitVec.toNat_and,BitVec.toNat_ofNat,BitVec.toNat_ofNat,Nat.mod_eq_of_lt (by omega),Nat.mod_eq_of_lt (by decide),Nat.and_one_is_mod,wrap_in _ (by omega)]
  omega
theorem shr1 (x:Int):bitI .shr .i64 x 1=x / 2:=by
  delta bitI
  show x.fdiv (2 ^ (min (1:Int).toNat 64))=x / 2
  rw [show (2:Int) ^ (min (1:Int).toNat 64)=2 by decide]
  exact Int.fdiv_eq_ediv_of_nonneg x (by decide)
theorem shr8k (x:Int) (k:Nat) (h:k≤3):bitI .shr .i64 x (8*(k:Int))=x / 256 ^ k:=by
  delta bitI
  show x.fdiv (2 ^ (min (8*(k:Int)).toNat 64))=x / 256 ^ k
  have:k=0∨k=1∨k=2∨k=3:=by omega
  rcases this with rfl|rfl|rfl|rfl<;>exact Int.fdiv_eq_ediv_of_nonneg x (by decide)
theorem tdiv2 (m:Int) (h:0≤m):m.tdiv 2=m / 2:=Int.tdiv_eq_ediv_of_nonneg h
theorem tmod2 (m:Int) (h:0≤m):m.tmod 2=m % 2:=Int.tmod_eq_emod_of_nonneg h
theorem tdiv256 (m:Int) (h:0≤m):m.tdiv 256=m / 256:=Int.tdiv_eq_ediv_of_nonneg h
theorem tmod256 (m:Int) (h:0≤m):m.tmod 256=m % 256:=Int.tmod_eq_emod_of_nonneg h
theorem fix_take (n:Int) (i:Nat) (h:i < 4):(fixL n 4).take i ++ [n / 256 ^ i % 256]=(fixL n 4).take (i+1):=by
  have:i=0∨i=1∨i=2∨i=3:=by omega
  rcases this with rfl|rfl|rfl|rfl<;>simp [fixL]
theorem ediv_pow (n:Int) (i:Nat) (h:i < 4):n / 256 ^ i / 256=n / 256 ^ (i+1):=by
  have:i=0∨i=1∨i=2∨i=3:=by omega
  rcases this with rfl|rfl|rfl|rfl<;>simp<;>omega
theorem fix_len (n:Int) (i:Nat) (h:i≤4):((fixL n 4).take i).length=i:=by rw [List.length_take,fixL_len];omega
theorem fix_all (n:Int):(fixL n 4).take 4=fixL n 4:=rfl
theorem pow_nonneg (n:Int) (i:Nat) (h:0≤n):0≤n / 256 ^ i:=Int.ediv_nonneg h (Int.pow_nonneg (by decide))
theorem fixB_size (n:Int):(fixB n).size≤4:=by
  unfold fixB;split
  · exact Nat.zero_le _
  · rw [strOf_size];exact Nat.le_refl _
theorem fix_big {n m:Int}{i:Nat} (e:m=n / 256 ^ i) (hi:i≤4) (h4:4≤(i:Int)) (h:0 < m):(⟨#[]⟩:ByteArray)=fixB n:=by
  obtain rfl:i=4:=by omega
  simp only [Int.reducePow] at e
  rw [fixB,if_pos (by omega)]
theorem fix_fin {n m:Int}{i:Nat}{out:List Int} (e:m=n / 256 ^ i) (ho:out=(fixL n 4).take i) (h0:0≤n) (hi:i≤4) (h4:4≤(i:Int)) (h:m≤0):strOf out=fixB n:=by
  obtain rfl:i=4:=by omega
  simp only [Int.reducePow] at e
  rw [fixB,if_neg (by omega),ho,fix_all]
theorem fix_neg {n:Int} (h:n < 0):(⟨#[]⟩:ByteArray)=fixB n:=by rw [fixB,if_pos (.inl h)]
theorem shl84:bitI .shl .i64 1 (8*4)=4294967296:=by delta bitI;decide
theorem sum_step1 {j:Nat}{y:Int} (hj:j < 8) (h:y % 2=1):sumBits (8 - (j+1)) (bitI .xor .i64 (y / 2) 3988292384)=sumBits (8 - j) y:=by
  rw [show 8 - j=(8 - (j+1))+1 by omega,sumBits,sumStep,if_pos h]
theorem sum_step0 {j:Nat}{y:Int} (hj:j < 8) (h:¬ y % 2=1):sumBits (8 - (j+1)) (y / 2)=sumBits (8 - j) y:=by
  rw [show 8 - j=(8 - (j+1))+1 by omega,sumBits,sumStep,if_neg h]
theorem sum_ini (x b:Int):sumBits (8 - 0) (bitI .xor .i64 x b)=sumByte x b:=rfl
theorem sum_next {s:ByteArray}{v x y:Int}{k j:Nat} (hx:x=sumFrom s 0 v k) (hj:j≤8) (h8:8≤(j:Int)) (hy:sumBits (8 - j) y=sumByte x (bytB s k)):y=sumFrom s 0 v (k+1):=by
  obtain rfl:j=8:=by omega
  subst hx
  rw [Nat.sub_self,sumBits] at hy
  rw [sumFrom,hy]
theorem xor_c {y:Int} (h:0≤y∧y≤4294967295):0≤bitI .xor .i64 (y / 2) 3988292384∧bitI .xor .i64 (y / 2) 3988292384≤4294967295:=xor_rng (y / 2) 3988292384 (by omega) (by decide)
theorem fix_ge {n:Int} (h:4294967296≤n):(⟨#[]⟩:ByteArray)=fixB n:=by rw [fixB,if_pos (.inr h)]
theorem fix_end {n:Int}{k:Nat} (hk:k≤4) (h4:4≤(k:Int)) (h0:0≤n) (h:n < 4294967296):D.sc (.string (strOf (fixL n k)))=D.sc (.string (fixB n)):=by
  obtain rfl:k=4:=by omega
  rw [fixB,if_neg (by omega)]
/-- The text of a frame. -/
def headB (v:Int) (t:ByteArray):ByteArray:=(⟨#[66,69,82,84,72]⟩:ByteArray)++(strOf [v % 256]++(fixB t.size++t))
def frameOkB (v:Int) (t:ByteArray):Bool:=inB v 1 9&&decide ((t.size:Int)≤19980)
def frameB (v:Int) (t:ByteArray):ByteArray:=if frameOkB v t then headB v t++fixB (sumB (headB v t)) else ⟨#[]⟩
theorem berth_size:(⟨#[66,69,82,84,72]⟩:ByteArray).size=5:=rfl
theorem frame_bad {v:Int}{t:ByteArray} (h:(!(inB v 1 9&&decide ((t.size:Int)≤19980)))=true):(⟨#[]⟩:ByteArray)=frameB v t:=by
  rw [frameB,if_neg]
  intro e;unfold frameOkB at e;rw [e] at h;cases h
theorem frame_ok {v:Int}{t:ByteArray} (h:(!(inB v 1 9&&decide ((t.size:Int)≤19980)))=false) {x:ByteArray} (e:x=headB v t):x++fixB (sumB x)=frameB v t:=by
  rw [frameB,if_pos,e]
  unfold frameOkB;revert h;generalize (inB v 1 9&&decide ((t.size:Int)≤19980))=b;cases b<;>simp
theorem frameB_size (v:Int) (t:ByteArray):(frameB v t).size≤20000:=by
  unfold frameB;split
  · rename_i h;unfold frameOkB at h;simp only [Bool.and_eq_true,decide_eq_true_eq] at h
    have a:=fixB_size (sumB (headB v t));have b:=fixB_size t.size
    unfold headB at *
    simp only [ByteArray.size_append,strOf_size,List.length_cons,List.length_nil,berth_size] at *
    omega
  · exact Nat.zero_le _
theorem spec_FixedText_D (n:Int) (hn:n≤9223372036854775807):Spec Tryz.prog 241 [.sc (.int .i64 n),.sc (.int .i64 4)] (fun d=>d = .sc (.string (fixB n))∧(fixB n).size≤4):=by
  have ex0:=@tdiv256;have ex1:=@tmod256;have ex2:=@wrapU;have ex3:=@u8D_takeN
  refine sp_ (rs:= [.tmp 4]) (nt:=32) Tryz.func241 rfl fun X hX=>?_
  refine nm_ ?_
  repeat' ((first|contradiction|(with_reducible exact tt_)|(refine bk_ (fun h h'=>?_) (fun h h'=>?_))|(refine and_ ?_ ?_)|(refine pln_ ?_)|(refine cl_ rfl _ _ (l01In_D _ _ _) rfl rfl ?_;rintro _ rfl)|(refine app_ rfl ?_)|(refine byt_ rfl ?_)|(refine lpV_ (ι:=Nat × Int × List Int) [] [0] 0x63 (fun ⟨i,m,out⟩=> [(0,.sc (.int .i64 m)),(5,.own 0 0 out.length),(6,.sc (.int .i64 (i:Int)))]) (fun ⟨i,m,out⟩=> [(0,⟨5,1,out.length,u8D out⟩)]) (fun ⟨i,m,out⟩=>i≤4∧m=n / 256 ^ i∧out=(fixL n 4).take i) (fun ⟨i,m,out⟩=>4 - i) (0,n, []) ?_ ?_;(focus (exact ⟨by omega,by simp,rfl⟩));rintro _ hN0 ⟨i,m,out⟩ hinv;(try dsimp only at hinv);obtain ⟨hi,hm,ho⟩:=hinv;have h0:0≤n:=(by omega);have hm0:0≤m:=(by rw [hm];exact pow_nonneg n i h0);have hmn:m≤n:=(by rw [hm];exact Int.ediv_le_self _ h0);have hL:out.length=i:=(by rw [ho];exact fix_len n i hi);replace hm:=Lib.hid hm;replace ho:=Lib.hid ho;replace hL:=Lib.hid hL;have hL2:out.length≤4:=(by have:=hL.out;omega);skip)|(refine hN0.go ((i+1,m / 256,out ++ [m % 256])) [] [2] ?_ ?_;(focus (refine ⟨by show i+1≤4;omega,?_,?_⟩;(focus (show m / 256=_;rw [hm.out];exact ediv_pow n i (by omega)));show out ++ [m % 256]=_;rw [ho.out,hm.out];exact fix_take n i (by omega)));(focus (show 4 - (i+1) < 4 - i;omega)))|fail)<;>(try refine nm_ ?_))
  all_goals clear ex0 ex1 ex2 ex3
  all_goals (refine ⟨?_⟩)
  all_goals first|contradiction|(exact fixB_size _)|(rw [← fix_neg (by assumption)])|(rw [← fix_big hm.out hi (by assumption) (by assumption)])|(rw [fix_fin hm.out ho.out h0 hi (by assumption) (by assumption)])
theorem impl_FixedText_D (n:Int) (hn:n≤9223372036854775807):Spec Tryz.prog 198 [.sc (.int .i64 n),.sc (.int .i64 4)] (fun d=>d = .sc (.string (fixB n))∧(fixB n).size≤4):=by
  have _hn:=hn
  have ex0:=@wrapU_m;have ex1:=@u8D_takeN;have ex2:=@u8D_setL;have ex3:=@fixL_len;have ex4:=@shl84;have ex5:=@shr8k;have ex6:=@fixD0;have ex7:=@fixL_step
  refine sp_ (rs:= [.tmp 4]) (nt:=43) Tryz.func198 rfl fun X hX=>?_
  refine nm_ ?_
  repeat' ((first|contradiction|(with_reducible exact tt_)|(refine bk_ (fun h h'=>?_) (fun h h'=>?_))|(refine and_ ?_ ?_)|(refine pln_ ?_)|(refine cl_ rfl _ _ (within_D _ _ _) rfl rfl ?_;rintro _ rfl)|(refine mk0_ rfl ?_)|(refine mk_ rfl ?_)|(refine byt_ rfl ?_)|(refine lpV_ (ι:=Nat) [] [0] 0x30000021 (fun k=> [(29,.sc (.int .i64 (k:Int)))]) (fun k=> [(0,⟨5,1,4,u8D (fixL n k)⟩)]) (fun k=>k≤4) (fun k=>4 - k) 0 ?_ ?_;(focus (exact Nat.zero_le _));rintro _ hN0 k hinv;(try dsimp only at hinv);have hk:=hinv;have h0:0≤n:=(by assumption);have hp:0≤n / 256 ^ k:=pow_nonneg n k h0;skip)|(refine hN0.go (k+1) [] [0] ?_ ?_;(focus (show k+1≤4;omega));(focus (show 4 - (k+1) < 4 - k;omega)))|fail)<;>(try refine nm_ ?_))
  all_goals clear ex0 ex1 ex2 ex3 ex4 ex5 ex6 ex7
  all_goals (refine ⟨?_⟩)
  all_goals first|contradiction|(exact fixB_size _)|(rw [← fix_neg (by assumption)])|(exact fix_end hk (by omega) (by omega) (by omega))|(rw [← fix_ge (by assumption)])
theorem spec_SumMore_D (v:Int) (s:ByteArray) (hv:0≤v∧v≤4294967295) (hs:s.size≤20000):Spec Tryz.prog 362 [.sc (.int .i64 v),.sc (.string s)] (fun d=>d = .sc (.int .i64 (sumFrom s 0 v s.size))):=by
  obtain ⟨xc,hxc⟩:∃ f:Int→Int,∀ y,bitI .xor .i64 (y / 2) 3988292384=f y:=⟨_,fun _=>rfl⟩
  have ex0:=@tdiv2;have ex1:=@tmod2
  refine sp_ (rs:= [.tmp 4]) (nt:=36) Tryz.func362 rfl fun X hX=>?_
  refine nm_ ?_
  repeat' ((first|contradiction|(with_reducible exact tt_)|(refine bk_ (fun h h'=>?_) (fun h h'=>?_))|(refine and_ ?_ ?_)|(refine pln_ ?_)|(refine cl_ rfl _ _ (l01In_D _ _ _) rfl rfl ?_;rintro _ rfl)|(refine lpU_ 0x23 (ι:=Nat × Int) (fun ⟨k,x⟩=> [(0,.sc (.int .i64 x)),(5,.sc (.int .i64 (k:Int)))]) (fun ⟨k,x⟩=>k≤s.size∧x=sumFrom s 0 v k) (fun ⟨k,x⟩=>s.size - k) (0,v) ?_ ?_;(focus (exact ⟨Nat.zero_le _,rfl⟩));rintro _ hN0 ⟨k,x⟩ hinv;(try dsimp only at hinv);obtain ⟨hk,hx⟩:=hinv;have hr:0≤x∧x≤4294967295:=(by rw [hx];exact sumFrom_rng s v hv k);have hb:=bytB_rng2 s k;have hr2:0≤bitI .xor .i64 x (bytB s k)∧bitI .xor .i64 x (bytB s k)≤4294967295:=xor_rng x (bytB s k) hr (by omega);replace hx:=Lib.hid hx;skip)|(refine hN0.go (k+1,_) ?_ ?_;(focus (exact ⟨by show k+1≤_;omega,sum_next hx.out hj (by omega) hy.out⟩));(focus (show s.size - (k+1) < s.size - k;omega)))|(refine lpU_ 0x63 (ι:=Nat × Int) (fun ⟨j,y⟩=> [(0,.sc (.int .i64 y)),(6,.sc (.int .i64 (j:Int)))]) (fun ⟨j,y⟩=>j≤8∧(0≤y∧y≤4294967295)∧sumBits (8 - j) y=sumByte x (bytB s k)) (fun ⟨j,y⟩=>8 - j) (0,_) ?_ ?_;(focus (exact ⟨Nat.zero_le _,hr2,sum_ini _ _⟩));rintro _ hN1 ⟨j,y⟩ hinv;(try dsimp only at hinv);obtain ⟨hj,hyr,hy⟩:=hinv;replace hy:=Lib.hid hy;have hq:0≤xc y∧xc y≤4294967295:=(by rw [← hxc];exact xor_c hyr);skip)|(refine hN1.go (j+1,_) ?_ ?_;(focus (first|(refine ⟨by show j+1≤8;omega,hq,?_⟩;show _=_;rw [← hy.out,← hxc];exact sum_step1 (by omega) (by omega))|(refine ⟨by show j+1≤8;omega,by show 0≤y / 2∧y / 2≤4294967295;omega,?_⟩;show _=_;rw [← hy.out];exact sum_step0 (by omega) (by omega))));(focus (show 8 - (j+1) < 8 - j;omega)))|fail)<;>(try refine nm_ ?_))
  all_goals clear ex0 ex1
  all_goals (refine ⟨?_⟩)
  all_goals first|contradiction|(exfalso;omega)|(obtain rfl:k=s.size:=(by omega);rw [hx.out])
theorem impl_SumMore_D (v:Int) (s:ByteArray) (hv:0≤v∧v≤4294967295) (hs:s.size≤20000):Spec Tryz.prog 285 [.sc (.int .i64 v),.sc (.string s)] (fun d=>d = .sc (.int .i64 (sumFrom s 0 v s.size))):=by
  obtain ⟨xc,hxc⟩:∃ f:Int→Int,∀ y,bitI .xor .i64 (y / 2) 3988292384=f y:=⟨_,fun _=>rfl⟩
  have ex0:=@and1;have ex1:=@shr1
  refine sp_ (rs:= [.tmp 4]) (nt:=34) Tryz.func285 rfl fun X hX=>?_
  refine nm_ ?_
  repeat' ((first|contradiction|(with_reducible exact tt_)|(refine bk_ (fun h h'=>?_) (fun h h'=>?_))|(refine and_ ?_ ?_)|(refine pln_ ?_)|(refine cl_ rfl _ _ (within_D _ _ _) rfl rfl ?_;rintro _ rfl)|(refine lpU_ 0x1803 (ι:=Nat × Int) (fun ⟨k,x⟩=> [(0,.sc (.int .i64 x)),(12,.sc (.int .i64 (k:Int)))]) (fun ⟨k,x⟩=>k≤s.size∧x=sumFrom s 0 v k) (fun ⟨k,x⟩=>s.size - k) (0,v) ?_ ?_;(focus (exact ⟨Nat.zero_le _,rfl⟩));rintro _ hN0 ⟨k,x⟩ hinv;(try dsimp only at hinv);obtain ⟨hk,hx⟩:=hinv;have hr:0≤x∧x≤4294967295:=(by rw [hx];exact sumFrom_rng s v hv k);have hb:=bytB_rng2 s k;have hr2:0≤bitI .xor .i64 x (bytB s k)∧bitI .xor .i64 x (bytB s k)≤4294967295:=xor_rng x (bytB s k) hr (by omega);replace hx:=Lib.hid hx;skip)|(refine hN0.go (k+1,_) ?_ ?_;(focus (exact ⟨by show k+1≤_;omega,sum_next hx.out hj (by omega) hy.out⟩));(focus (show s.size - (k+1) < s.size - k;omega)))|(refine lpU_ 0x201803 (ι:=Nat × Int) (fun ⟨j,y⟩=> [(0,.sc (.int .i64 y)),(21,.sc (.int .i64 (j:Int)))]) (fun ⟨j,y⟩=>j≤8∧(0≤y∧y≤4294967295)∧sumBits (8 - j) y=sumByte x (bytB s k)) (fun ⟨j,y⟩=>8 - j) (0,_) ?_ ?_;(focus (exact ⟨Nat.zero_le _,hr2,sum_ini _ _⟩));rintro _ hN1 ⟨j,y⟩ hinv;(try dsimp only at hinv);obtain ⟨hj,hyr,hy⟩:=hinv;replace hy:=Lib.hid hy;have hq:0≤xc y∧xc y≤4294967295:=(by rw [← hxc];exact xor_c hyr);skip)|(refine hN1.go (j+1,_) ?_ ?_;(focus (first|(refine ⟨by show j+1≤8;omega,hq,?_⟩;show _=_;rw [← hy.out,← hxc];exact sum_step1 (by omega) (by omega))|(refine ⟨by show j+1≤8;omega,by show 0≤y / 2∧y / 2≤4294967295;omega,?_⟩;show _=_;rw [← hy.out];exact sum_step0 (by omega) (by omega))));(focus (show 8 - (j+1) < 8 - j;omega)))|fail)<;>(try refine nm_ ?_))
  all_goals clear ex0 ex1
  all_goals (refine ⟨?_⟩)
  all_goals first|contradiction|(exfalso;omega)|(obtain rfl:k=s.size:=(by omega);rw [hx.out])
theorem spec_SumOf_D (s:ByteArray) (hs:s.size≤20000):Spec Tryz.prog 287 [.sc (.string s)] (fun d=>d = .sc (.int .i64 (sumB s))∧sumB s≤4294967295):=by
  refine sp_ (rs:= [.tmp 2]) (nt:=6) Tryz.func287 rfl fun X hX=>?_
  refine nm_ ?_
  repeat' ((first|contradiction|(with_reducible exact tt_)|(refine bk_ (fun h h'=>?_) (fun h h'=>?_))|(refine and_ ?_ ?_)|(refine pln_ ?_)|(refine cl_ rfl _ _ (spec_SumMore_D 4294967295 s (by decide) hs) rfl rfl ?_;rintro _ rfl)|fail)<;>(try refine nm_ ?_))
  all_goals (refine ⟨?_⟩)
  all_goals first|rfl|(exact (sumB_rng s).2)
theorem impl_SumOf_D (s:ByteArray) (hs:s.size≤20000):Spec Tryz.prog 199 [.sc (.string s)] (fun d=>d = .sc (.int .i64 (sumB s))∧sumB s≤4294967295):=by
  refine sp_ (rs:= [.tmp 2]) (nt:=6) Tryz.func199 rfl fun X hX=>?_
  refine nm_ ?_
  repeat' ((first|contradiction|(with_reducible exact tt_)|(refine bk_ (fun h h'=>?_) (fun h h'=>?_))|(refine and_ ?_ ?_)|(refine pln_ ?_)|(refine cl_ rfl _ _ (impl_SumMore_D 4294967295 s (by decide) hs) rfl rfl ?_;rintro _ rfl)|fail)<;>(try refine nm_ ?_))
  all_goals (refine ⟨?_⟩)
  all_goals first|rfl|(exact (sumB_rng s).2)
theorem spec_FrameOk_D (v:Int) (t:ByteArray):Spec Tryz.prog 240 [.agg [.sc (.int .i64 v),.sc (.string t)]] (fun d=>d = .sc (.bool (inB v 1 9&&decide ((t.size:Int)≤19980)))):=by
  refine sp_ (rs:= [.tmp 2]) (nt:=12) Tryz.func240 rfl fun X hX=>?_
  refine nm_ ?_
  repeat' ((first|contradiction|(with_reducible exact tt_)|(refine bk_ (fun h h'=>?_) (fun h h'=>?_))|(refine and_ ?_ ?_)|(refine pln_ ?_)|(refine cl_ rfl _ _ (l01In_D _ _ _) rfl rfl ?_;rintro _ rfl)|fail)<;>(try refine nm_ ?_))
  all_goals (refine ⟨?_⟩)
  all_goals first|rfl|(simp only [*];rfl)
theorem impl_FrameOk_D (v:Int) (t:ByteArray):Spec Tryz.prog 197 [.agg [.sc (.int .i64 v),.sc (.string t)]] (fun d=>d = .sc (.bool (inB v 1 9&&decide ((t.size:Int)≤19980)))):=by
  refine sp_ (rs:= [.tmp 2]) (nt:=12) Tryz.func197 rfl fun X hX=>?_
  refine nm_ ?_
  repeat' ((first|contradiction|(with_reducible exact tt_)|(refine bk_ (fun h h'=>?_) (fun h h'=>?_))|(refine and_ ?_ ?_)|(refine pln_ ?_)|(refine cl_ rfl _ _ (within_D _ _ _) rfl rfl ?_;rintro _ rfl)|fail)<;>(try refine nm_ ?_))
  all_goals (refine ⟨?_⟩)
  all_goals first|rfl|(simp only [*];rfl)
theorem impl_FrameText_D (v:Int) (t:ByteArray):Spec Tryz.prog 112 [.agg [.sc (.int .i64 v),.sc (.string t)]] (fun d=>d = .sc (.string (frameB v t))∧(frameB v t).size≤20000):=by
  have ex0:=@wrapU_m;have ex1:=@ByteArray.size_append;have ex2:=@strOf_size;have ex3:=@berth_size
  refine sp_ (rs:= [.tmp 2]) (nt:=26) Tryz.func112 rfl fun X hX=>?_
  refine nm_ ?_
  repeat' ((first|contradiction|(with_reducible exact tt_)|(refine bk_ (fun h h'=>?_) (fun h h'=>?_))|(refine and_ ?_ ?_)|(refine pln_ ?_)|(refine cl_ rfl _ _ (impl_FrameOk_D _ _) rfl rfl ?_;rintro _ rfl)|(refine cl_ rfl _ _ (impl_FixedText_D _ (by first|assumption|omega)) rfl rfl ?_;rintro _ ⟨rfl,hz⟩)|(refine cl_ rfl _ _ (impl_SumOf_D _ (by (try simp only [ByteArray.size_append,strOf_size,List.length_cons,List.length_nil,berth_size]);omega)) rfl rfl ?_;rintro _ ⟨rfl,hz⟩)|(refine byt_ rfl ?_)|(refine wtr_ (id:=3) [] (.early 0 (.early 1 (.early 2 (.early 6 (.early 7 (.early 8 (.early 11 (.early 12 (.two 3 (.two 4 (.early 5 (.one 9 (.early 10 (.early 13 (.early 14 .done))))) 9 (.one 4 (.early 5 (.early 10 (.early 13 (.early 14 .done)))))) 9 (.one 3 (.one 4 (.early 5 (.early 10 (.early 13 (.early 14 .done))))))))))))))) ?_)|fail)<;>(try refine nm_ ?_))
  all_goals clear ex0 ex1 ex2 ex3
  all_goals (refine ⟨?_⟩)
  all_goals first|contradiction|(exact frameB_size v t)|(rw [← frame_bad (by assumption)])|(rw [← frame_ok (by assumption) rfl];unfold headB;(try simp only [baAssoc]))
theorem spec_Sealed_D (x:ByteArray) (hx:x.size≤20000):Spec Tryz.prog 242 [.sc (.string x)] (fun d=>d = .tup [.sc (.string (x++fixB (sumB x))),.sc (.bool true)]):=by
  refine sp_ (rs:= [.tmp 2,.tmp 3]) (nt:=12) Tryz.func242 rfl fun X hX=>?_
  refine nm_ ?_
  repeat' ((first|contradiction|(with_reducible exact tt_)|(refine bk_ (fun h h'=>?_) (fun h h'=>?_))|(refine and_ ?_ ?_)|(refine pln_ ?_)|(refine cl_ rfl _ _ (spec_SumOf_D _ (by first|assumption|omega)) rfl rfl ?_;rintro _ ⟨rfl,hz⟩)|(refine cl_ rfl _ _ (spec_FixedText_D _ (by first|assumption|omega)) rfl rfl ?_;rintro _ ⟨rfl,hz⟩)|fail)<;>(try refine nm_ ?_))
  all_goals (refine ⟨?_⟩)
  all_goals first|contradiction|(exfalso;omega)|rfl
theorem spec_FrameText_D (v:Int) (t:ByteArray):Spec Tryz.prog 139 [.agg [.sc (.int .i64 v),.sc (.string t)]] (fun d=>d = .sc (.string (frameB v t))∧(frameB v t).size≤20000):=by
  have ex0:=@wrapU_m;have ex1:=@ByteArray.size_append;have ex2:=@strOf_size;have ex3:=@berth_size
  refine sp_ (rs:= [.tmp 2]) (nt:=29) Tryz.func139 rfl fun X hX=>?_
  refine nm_ ?_
  repeat' ((first|contradiction|(with_reducible exact tt_)|(refine bk_ (fun h h'=>?_) (fun h h'=>?_))|(refine and_ ?_ ?_)|(refine pln_ ?_)|(refine cl_ rfl _ _ (spec_FrameOk_D _ _) rfl rfl ?_;rintro _ rfl)|(refine cl_ rfl _ _ (spec_FixedText_D _ (by first|assumption|omega)) rfl rfl ?_;rintro _ ⟨rfl,hz⟩)|(refine cl_ rfl _ _ (spec_Sealed_D _ (by (try simp only [ByteArray.size_append,strOf_size,List.length_cons,List.length_nil,berth_size]);omega)) rfl rfl ?_;rintro _ rfl)|(refine byt_ rfl ?_)|(refine wtr_ (id:=3) [] (.early 0 (.early 1 (.early 2 (.early 6 (.early 7 (.early 8 (.early 11 (.early 12 (.two 3 (.two 4 (.early 5 (.one 9 (.early 10 (.early 13 (.early 14 .done))))) 9 (.one 4 (.early 5 (.early 10 (.early 13 (.early 14 .done)))))) 9 (.one 3 (.one 4 (.early 5 (.early 10 (.early 13 (.early 14 .done))))))))))))))) ?_)|fail)<;>(try refine nm_ ?_))
  all_goals clear ex0 ex1 ex2 ex3
  all_goals (refine ⟨?_⟩)
  all_goals first|contradiction|(exact frameB_size v t)|(rw [← frame_bad (by assumption)])|(rw [← frame_ok (by assumption) rfl];unfold headB;(try simp only [baAssoc]))
end Go.Proofs.YtgoeccemfgniiaaGreat
