/- Rdf, Rd11 (what is wanted of them). -/
import Derived.Test.YtgoeccemfgniiaaGreatVRds
import Derived.Test.YtgoeccemfgniiaaGreatVSn3
import Derived.Test.YtgoeccemfgniiaaGreatVSn4
namespace Go.Proofs.YtgoeccemfgniiaaGreat
open Go.RowKit
set_option maxRecDepth 100000
def berth:ByteArray:=⟨#[66,69,82,84,72]⟩
/-- Four bytes as a number. -/
def le4 (s:ByteArray) (p:Nat):Int:=bytB s p+256*bytB s (p+1)+65536*bytB s (p+2)+16777216*bytB s (p+3)
theorem le4_rng (s:ByteArray) (p:Nat):0≤le4 s p∧le4 s p≤4294967295:=by
  have h0:=bytB_rng s p
  have h1:=bytB_rng s (p+1)
  have h2:=bytB_rng s (p+2)
  have h3:=bytB_rng s (p+3)
  unfold le4
  omega
/-- The low k of them. -/
def leN (s:ByteArray) (p:Nat):Nat→Int
  |0=>0
  |k+1=>leN s p k+bytB s (p+k)*256 ^ k
theorem leN_rng (s:ByteArray) (p:Nat):∀ k,0≤leN s p k∧leN s p k < 256 ^ k
  |0=>⟨Int.le_refl 0,(by decide:(0:Int) < 256 ^ 0)⟩
  |k+1=>by
    have h:=leN_rng s p k
    have hb:=bytB_rng s (p+k)
    have h5:(0:Int)≤256 ^ k:=Int.pow_nonneg (by decide)
    have h6:bytB s (p+k)*256 ^ k≤255*256 ^ k:=Int.mul_le_mul_of_nonneg_right hb.2 h5
    have h7:=Int.mul_nonneg hb.1 h5
    have h8:(256:Int) ^ (k+1)=256*256 ^ k:=by rw [Int.pow_succ,Int.mul_comm]
    rw [leN]
    omega
theorem leN_4 (s:ByteArray) (p:Nat):leN s p 4=le4 s p:=by
  simp only [leN,le4,Nat.add_zero]
  omega
theorem shl8 (x:Int) (k:Nat) (hx:0≤x) (h2:x≤255) (hk:k≤3):bitI .shl .i64 x (8*(k:Int))=x*256 ^ k:=by
  delta bitI
  show IntKind.i64.wrap (x*2 ^ (min (8*(k:Int)).toNat IntKind.i64.bits))=_
  have:k=0∨k=1∨k=2∨k=3:=by omega
  rcases this with rfl|rfl|rfl|rfl
  · rw [show (2:Int) ^ (min (8*((0:Nat):Int)).toNat IntKind.i64.bits)=256 ^ 0 by decide];exact wrap_in _ (by omega)
  · rw [show (2:Int) ^ (min (8*((1:Nat):Int)).toNat IntKind.i64.bits)=256 ^ 1 by decide];exact wrap_in _ (by omega)
  · rw [show (2:Int) ^ (min (8*((2:Nat):Int)).toNat IntKind.i64.bits)=256 ^ 2 by decide];exact wrap_in _ (by omega)
  · rw [show (2:Int) ^ (min (8*((3:Nat):Int)).toNat IntKind.i64.bits)=256 ^ 3 by decide];exact wrap_in _ (by omega)
theorem orF8 (n m:Int) (k:Nat) (hn:0≤n) (hn2:n < 256 ^ k) (hm:0≤m) (hm2:m≤255) (hk:k≤3):bitI .or .i64 n (m*256 ^ k)=n+m*256 ^ k:=by
  obtain ⟨a,rfl⟩:=Int.eq_ofNat_of_zero_le hn
  obtain ⟨b,rfl⟩:=Int.eq_ofNat_of_zero_le hm
  have e:((b:Int)*256 ^ k)=((b*256 ^ k:Nat):Int):=by rw [Int.natCast_mul,Int.natCast_pow];rfl
  have h1:a < 256 ^ k:=by exact_mod_cast hn2
  have h2:b≤255:=by omega
  have h3:b*256 ^ k≤255*256 ^ k:=Nat.mul_le_mul_right _ h2
  have h4:256 ^ k≤256 ^ 3:=Nat.pow_le_pow_right (by decide) hk
  have h5:(256:Nat) ^ 3=16777216:=by decide
  have h6:(256:Nat) ^ k=2 ^ (8*k):=by rw [Nat.pow_mul]
  have h7:a|||(b*256 ^ k)=b*256 ^ k+a:=by
    rw [h6,← Nat.shiftLeft_eq,Nat.shiftLeft_add_eq_or_of_lt (by rw [← h6];exact h1),Nat.or_comm]
  rw [e]
  delta bitI
  show IntKind.i64.wrap (((BitVec.ofInt 64 (a:Int)|||BitVec.ofInt 64 ((b*256 ^ k:Nat):Int)).toNat:Nat):Int)=_
  rw [BitVec.ofInt_natCast,BitVec.ofInt_natCast,BitVec.toNat_or,BitVec.toNat_ofNat,BitVec.toNat_ofNat,Nat.mod_eq_of_lt (by omega),Nat.mod_eq_of_lt (by omega),h7]
  rw [wrap_in _ (by omega)]
  push_cast
  omega
/-- A frame: its version and its payload; or why there is none. -/
def frR (s:ByteArray):(Int × ByteArray) × Int:=
  if s.size < 14 then ((0,⟨#[]⟩),1)
  else if eqB (s.extract 0 5) berth=false then ((0,⟨#[]⟩),2)
  else if inB (bytB s 5) 1 9=false then ((0,⟨#[]⟩),3)
  else if ¬ (le4 s 6=(s.size:Int) - 14∧(s.size:Int) - 14≤19980) then ((0,⟨#[]⟩),4)
  else if ¬ le4 s (s.size - 4)=sumB (s.extract 0 (s.size - 4)) then ((0,⟨#[]⟩),5)
  else ((bytB s 5,s.extract 10 (s.size - 4)),0)
structure Frm (s:ByteArray) (v:Int) (t:ByteArray) (code:Int):Prop where
  eq:frR s=((v,t),code)
theorem Frm.same {s t t':ByteArray}{v v' c c':Int} (h:Frm s v t c) (h':Frm s v' t' c'):v' = v∧t' = t∧c' = c:=by
  have:=h.eq.symm.trans h'.eq
  injection this with e1 e2
  injection e1 with e3 e4
  exact ⟨e3.symm,e4.symm,e2.symm⟩
theorem fr1 {s:ByteArray} (h:s.size < 14):Frm s 0 ⟨#[]⟩ 1:=⟨by rw [frR,if_pos h]⟩
theorem fr2 {s:ByteArray} (h:14≤s.size) (h2:eqB (s.extract 0 5) berth=false):Frm s 0 ⟨#[]⟩ 2:=⟨by rw [frR,if_neg (by omega),if_pos h2]⟩
theorem fr3 {s:ByteArray} (h:14≤s.size) (h2:eqB (s.extract 0 5) berth=true) (h3:inB (bytB s 5) 1 9=false):Frm s 0 ⟨#[]⟩ 3:=⟨by rw [frR,if_neg (by omega),if_neg (by rw [h2];decide),if_pos h3]⟩
theorem fr4 {s:ByteArray} (h:14≤s.size) (h2:eqB (s.extract 0 5) berth=true) (h3:inB (bytB s 5) 1 9=true) (h4:¬ (le4 s 6=(s.size:Int) - 14∧(s.size:Int) - 14≤19980)):Frm s 0 ⟨#[]⟩ 4:=⟨by rw [frR,if_neg (by omega),if_neg (by rw [h2];decide),if_neg (by rw [h3];decide),if_pos h4]⟩
theorem fr5 {s:ByteArray} (h:14≤s.size) (h2:eqB (s.extract 0 5) berth=true) (h3:inB (bytB s 5) 1 9=true) (h4:le4 s 6=(s.size:Int) - 14∧(s.size:Int) - 14≤19980) (h5:¬ le4 s (s.size - 4)=sumB (s.extract 0 (s.size - 4))):Frm s 0 ⟨#[]⟩ 5:=⟨by rw [frR,if_neg (by omega),if_neg (by rw [h2];decide),if_neg (by rw [h3];decide),if_neg (fun h=>h h4),if_pos h5]⟩
theorem fr0 {s:ByteArray} (h:14≤s.size) (h2:eqB (s.extract 0 5) berth=true) (h3:inB (bytB s 5) 1 9=true) (h4:le4 s 6=(s.size:Int) - 14∧(s.size:Int) - 14≤19980) (h5:le4 s (s.size - 4)=sumB (s.extract 0 (s.size - 4))):Frm s (bytB s 5) (s.extract 10 (s.size - 4)) 0:=⟨by rw [frR,if_neg (by omega),if_neg (by rw [h2];decide),if_neg (by rw [h3];decide),if_neg (fun h=>h h4),if_neg (fun h=>h h5)]⟩
end Go.Proofs.YtgoeccemfgniiaaGreat
namespace Go.Proofs.YtgoeccemfgniiaaGreat
open Go.RowKit
def at2 (s:ByteArray):ClusterD × Bool:=cond (up23 s).2 (rdC (up23 s).1) (zeroC,false)
def at1 (s:ByteArray):ClusterD × Bool:=cond (up12 s).2 (at2 (up12 s).1) (zeroC,false)
def rdAt (s:ByteArray) (k:Int):ClusterD × Bool:=if k=1 then at1 s else if k=2 then at2 s else if k=3 then rdC s else (zeroC,false)
theorem at_no {s:ByteArray}{k:Int} (h:¬ (1≤k∧k≤3)):Fin (rdAt s k) zeroC false:=⟨by rw [rdAt,if_neg (by omega),if_neg (by omega),if_neg (by omega)]⟩
theorem at_3 {s:ByteArray}{k:Int}{c:ClusterD}{ok:Bool} (hk:k=3) (h:Fin (rdC s) c ok):Fin (rdAt s k) c ok:=⟨by rw [rdAt,if_neg (by omega),if_neg (by omega),if_pos hk,h.eq]⟩
theorem at2_n {s t:ByteArray}{ok:Bool} (h:Txt (up23 s) t ok) (hk:ok=false):at2 s=(zeroC,false):=by rw [at2,h.eq,hk];rfl
theorem at2_y {s t:ByteArray}{ok:Bool} (h:Txt (up23 s) t ok) (hk:ok=true):at2 s=rdC t:=by rw [at2,h.eq,hk];rfl
theorem at1_n {s t:ByteArray}{ok:Bool} (h:Txt (up12 s) t ok) (hk:ok=false):at1 s=(zeroC,false):=by rw [at1,h.eq,hk];rfl
theorem at1_y {s t:ByteArray}{ok:Bool} (h:Txt (up12 s) t ok) (hk:ok=true):at1 s=at2 t:=by rw [at1,h.eq,hk];rfl
theorem at_1 {s:ByteArray}{k:Int} (hk:k=1):rdAt s k=at1 s:=by rw [rdAt,if_pos hk]
theorem at_2 {s:ByteArray}{k:Int} (hk:k=2):rdAt s k=at2 s:=by rw [rdAt,if_neg (by omega),if_pos hk]
theorem at2_no {s t:ByteArray}{k:Int}{ok:Bool} (hk:k=2) (h:Txt (up23 s) t ok) (ho:ok=false):Fin (rdAt s k) zeroC false:=⟨by rw [at_2 hk,at2_n h ho]⟩
theorem at2_yes {s t:ByteArray}{k:Int}{ok b:Bool}{c:ClusterD} (hk:k=2) (h:Txt (up23 s) t ok) (ho:ok=true) (hf:Fin (rdC t) c b):Fin (rdAt s k) c b:=⟨by rw [at_2 hk,at2_y h ho,hf.eq]⟩
theorem at1_no {s t:ByteArray}{k:Int}{ok:Bool} (hk:k=1) (h:Txt (up12 s) t ok) (ho:ok=false):Fin (rdAt s k) zeroC false:=⟨by rw [at_1 hk,at1_n h ho]⟩
theorem at1_no2 {s t u:ByteArray}{k:Int}{ok ok2:Bool} (hk:k=1) (h:Txt (up12 s) t ok) (ho:ok=true) (h2:Txt (up23 t) u ok2) (ho2:ok2=false):Fin (rdAt s k) zeroC false:=⟨by rw [at_1 hk,at1_y h ho,at2_n h2 ho2]⟩
theorem at1_yes {s t u:ByteArray}{k:Int}{ok ok2 b:Bool}{c:ClusterD} (hk:k=1) (h:Txt (up12 s) t ok) (ho:ok=true) (h2:Txt (up23 t) u ok2) (ho2:ok2=true) (hf:Fin (rdC u) c b):Fin (rdAt s k) c b:=⟨by rw [at_1 hk,at1_y h ho,at2_y h2 ho2,hf.eq]⟩
def rdSt (s:ByteArray):ClusterD × Int:=
  if ¬ (frR s).2=0 then (zeroC,(frR s).2)
  else if 3 < (frR s).1.1 then (zeroC,6)
  else cond (rdAt (frR s).1.2 (frR s).1.1).2 ((rdAt (frR s).1.2 (frR s).1.1).1,0) (zeroC,7)
structure St8 (s:ByteArray) (c:ClusterD) (code:Int):Prop where
  eq:rdSt s=(c,code)
theorem St8.same {s:ByteArray}{c c':ClusterD}{k k':Int} (h:St8 s c k) (h':St8 s c' k'):c' = c∧k' = k:=by
  have:=h.eq.symm.trans h'.eq
  injection this with e1 e2
  exact ⟨e1.symm,e2.symm⟩
theorem st_frame {s t:ByteArray}{v c:Int} (h:Frm s v t c) (hc:¬ c=0):St8 s zeroC c:=⟨by rw [rdSt,h.eq,if_pos hc]⟩
theorem st_version {s t:ByteArray}{v c:Int} (h:Frm s v t c) (hc:c=0) (hv:3 < v):St8 s zeroC 6:=⟨by rw [rdSt,h.eq,if_neg (fun h=>h hc),if_pos hv]⟩
theorem st_no {s t:ByteArray}{v c:Int}{x:ClusterD}{ok:Bool} (h:Frm s v t c) (hc:c=0) (hv:v≤3) (hf:Fin (rdAt t v) x ok) (ho:ok=false):St8 s zeroC 7:=⟨by rw [rdSt,h.eq,if_neg (fun h=>h hc),if_neg (by show ¬ 3 < v;omega)];show cond (rdAt t v).2 _ _=_;rw [hf.eq,ho];rfl⟩
theorem st_yes {s t:ByteArray}{v c:Int}{x:ClusterD}{ok:Bool} (h:Frm s v t c) (hc:c=0) (hv:v≤3) (hf:Fin (rdAt t v) x ok) (ho:ok=true):St8 s x 0:=⟨by rw [rdSt,h.eq,if_neg (fun h=>h hc),if_neg (by show ¬ 3 < v;omega)];show cond (rdAt t v).2 ((rdAt t v).1,0) _=_;rw [hf.eq,ho];rfl⟩
end Go.Proofs.YtgoeccemfgniiaaGreat
namespace Go.Proofs.YtgoeccemfgniiaaGreat
open Go.RowKit
set_option linter.unusedVariables false
set_option linter.unusedSimpArgs false
set_option maxRecDepth 100000
set_option maxHeartbeats 4000000
theorem impl_ReadFixed_D (s:ByteArray) (p:Int) (hs:s.size≤4611686018427387904) (hp:0≤p) (h4:p+4≤s.size):Spec Tryz.prog 201 [.sc (.string s),.sc (.int .i64 p),.sc (.int .i64 4)] (fun d=>d = .tup [.sc (.int .i64 (le4 s p.toNat)),.sc (.bool true)]):=by
  have ex0:=@shl8;have ex1:=@orF8
  refine sp_ (rs:= [.tmp 6,.tmp 7]) (nt:=53) Tryz.func201 rfl fun X hX=>?_
  refine nm_ ?_
  repeat' ((first|contradiction|(with_reducible exact tt_)|(refine bk_ (fun h h'=>?_) (fun h h'=>?_))|(refine and_ ?_ ?_)|(refine pln_ ?_)|(refine cl_ rfl _ _ (within_D _ _ _) rfl rfl ?_;rintro _ rfl)|(refine lpU_ 0x3000000103 (ι:=Nat × Int) (fun ⟨k,n⟩=> [(8,.sc (.int .i64 n)),(37,.sc (.int .i64 (k:Int)))]) (fun ⟨k,n⟩=>k≤4∧n=leN s p.toNat k) (fun ⟨k,n⟩=>4 - k) (0,0) ?_ ?_;(focus (exact ⟨Nat.zero_le _,rfl⟩));rintro _ hN0 ⟨k,n⟩ hinv;(try dsimp only at hinv);obtain ⟨hk,hn⟩:=hinv;have hr:=leN_rng s p.toNat k;rw [← hn] at hr;replace hn:=Lib.hid hn;have hb:=bytB_rng s (p.toNat+k);have hq:(p+(k:Int)).toNat=p.toNat+k:=(by omega);skip)|(refine hN0.go ((k+1,_)) ?_ ?_;(focus (refine ⟨by show k+1≤4;omega,?_⟩;show _=leN s p.toNat (k+1);rw [leN,← hn.out]));(focus (show 4 - (k+1) < 4 - k;omega)))|fail)<;>(try refine nm_ ?_))
  all_goals clear ex0 ex1
  all_goals (refine ⟨?_⟩)
  all_goals first|contradiction|(exfalso;omega)|(obtain rfl:k=4:=(by omega);rw [hn.out,leN_4])
theorem internal_stringslite_HasPrefix_D (s t:ByteArray) (_hs:s.size≤4611686018427387904) (ht:t.size≤4611686018427387904):Spec Tryz.prog 286 [.sc (.string s),.sc (.string t)] (fun d=>d = .sc (.bool (decide (t.size≤s.size)&&eqB (s.extract 0 t.size) t))):=by
  refine sp_ (rs:= [.tmp 4]) (nt:=18) Tryz.func286 rfl fun X hX=>?_
  refine nm_ ?_
  repeat' ((first|contradiction|(with_reducible exact tt_)|(refine bk_ (fun h h'=>?_) (fun h h'=>?_))|(refine and_ ?_ ?_)|(refine pln_ ?_)|fail)<;>(try refine nm_ ?_))
  all_goals (refine ⟨?_⟩)
  all_goals first|contradiction|(exfalso;omega)|rfl|(simp_all;done)|(rw [decide_eq_true (by omega)];rfl)|(rw [decide_eq_false (by omega)];rfl)
theorem strings_HasPrefix_D (s t:ByteArray) (hs:s.size≤4611686018427387904) (ht:t.size≤4611686018427387904):Spec Tryz.prog 200 [.sc (.string s),.sc (.string t)] (fun d=>d = .sc (.bool (decide (t.size≤s.size)&&eqB (s.extract 0 t.size) t))):=by
  refine sp_ (rs:= [.tmp 4]) (nt:=8) Tryz.func200 rfl fun X hX=>?_
  refine nm_ ?_
  repeat' ((first|contradiction|(with_reducible exact tt_)|(refine bk_ (fun h h'=>?_) (fun h h'=>?_))|(refine and_ ?_ ?_)|(refine pln_ ?_)|(refine cl_ rfl _ _ (internal_stringslite_HasPrefix_D s t hs ht) rfl rfl ?_;rintro _ rfl)|fail)<;>(try refine nm_ ?_))
  all_goals (refine ⟨?_⟩)
  all_goals first|contradiction|(exfalso;omega)|rfl
theorem pre_berth (s:ByteArray) (hs:s.size≤4611686018427387904):Spec Tryz.prog 200 [.sc (.string s),.sc (.string ⟨#[66,69,82,84,72]⟩)] (fun d=>d = .sc (.bool (decide (5≤s.size)&&eqB (s.extract 0 5) berth))):=strings_HasPrefix_D s berth hs (by decide)
theorem impl_ReadFrame_D (s:ByteArray) (hs:s.size≤4611686018427387904):Spec Tryz.prog 113 [.sc (.string s)] (fun d=>∃ v t c,Frm s v t c∧(t.size≤19980∧(c=0→inB v 1 9=true))∧d = .tup [.agg [.sc (.int .i64 v),.sc (.string t)],.sc (.int .i64 c)]):=by
  have e1:14≤s.size∧le4 s 6=(s.size:Int) - 14→(10+le4 s 6).toNat=s.size - 4:=(by omega);have e2:Int.toNat 6=6:=rfl;have hb5:=bytB_rng s 5;have hl6:=le4_rng s 6;have hle:=le4_rng s (s.size - 4)
  refine sp_ (rs:= [.cell 2 134,.tmp 3]) (nt:=60) Tryz.func113 rfl fun X hX=>?_
  refine nm_ ?_
  repeat' ((first|contradiction|(with_reducible exact tt_)|(refine bk_ (fun h h'=>?_) (fun h h'=>?_))|(refine and_ ?_ ?_)|(refine pln_ ?_)|(refine cl_ rfl _ _ (pre_berth s hs) rfl rfl ?_;rintro _ rfl)|(refine cl_ rfl _ _ (within_D _ _ _) rfl rfl ?_;rintro _ rfl)|(refine cl_ rfl _ _ (impl_ReadFixed_D s 6 hs (by decide) (by omega)) rfl rfl ?_;rintro _ rfl)|(refine cl_ rfl _ _ (impl_ReadFixed_D s (10+le4 s 6) hs (by omega) (by omega)) rfl rfl ?_;rintro _ rfl)|(refine cl_ rfl _ _ (impl_SumOf_D (s.extract 0 (s.size - 4)) (by rw [ByteArray.size_extract];omega)) rfl rfl ?_;rintro _ ⟨rfl,hz⟩)|fail)<;>(try refine nm_ ?_))
  all_goals (refine ⟨?_⟩)
  all_goals first|contradiction|(exfalso;omega)|(exact ⟨_,_,_,fr1 (by omega),⟨by decide,by decide⟩,rfl⟩)|(exact ⟨_,_,_,fr2 (by omega) (by first|assumption|exact h'.resolve_left (by omega)),⟨by decide,by decide⟩,rfl⟩)|(exact ⟨_,_,_,fr3 (by omega) (by first|assumption|exact (by assumption:_∧eqB (s.extract 0 5) berth=true).2) (by unfold inB;rw [Bool.and_eq_false_iff];simp only [decide_eq_false_iff_not];omega),⟨by decide,by decide⟩,rfl⟩)|(exact ⟨_,_,_,fr4 (by omega) (by first|assumption|exact (by assumption:_∧eqB (s.extract 0 5) berth=true).2) (by unfold inB;simp only [Bool.and_eq_true,decide_eq_true_eq];omega) (by omega),⟨by decide,by decide⟩,rfl⟩)|(exact ⟨_,_,_,fr5 (by omega) (by first|assumption|exact (by assumption:_∧eqB (s.extract 0 5) berth=true).2) (by unfold inB;simp only [Bool.and_eq_true,decide_eq_true_eq];omega) (by omega) (by first|omega|(intro e;rw [hsl.2 e] at h';cases h')),⟨by decide,by decide⟩,rfl⟩)|(exact ⟨_,_,_,fr0 (by omega) (by first|assumption|exact (by assumption:_∧eqB (s.extract 0 5) berth=true).2) (by unfold inB;simp only [Bool.and_eq_true,decide_eq_true_eq];omega) (by omega) (by first|omega|exact hsl.1 (by assumption)),⟨(by rw [ByteArray.size_extract];omega),fun _=>(by unfold inB;simp only [Bool.and_eq_true,decide_eq_true_eq];omega)⟩,rfl⟩)
end Go.Proofs.YtgoeccemfgniiaaGreat
