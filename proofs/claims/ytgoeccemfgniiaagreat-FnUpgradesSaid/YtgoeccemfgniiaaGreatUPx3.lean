/- Px3 (what is wanted of them). -/
import Derived.Test.YtgoeccemfgniiaaGreatUPx1
import Derived.Test.YtgoeccemfgniiaaGreatUCl7
namespace Go.Proofs.YtgoeccemfgniiaaGreat
open Go.RowKit
set_option linter.unusedVariables false
set_option linter.unusedSimpArgs false
set_option maxRecDepth 100000
set_option maxHeartbeats 4000000
theorem eqB_comm (a b:ByteArray):eqB a b=eqB b a:=by
  cases h:eqB a b with
  |true=>rw [eqB_eq h];exact (eqB_rfl b).symm
  |false=>
    cases h2:eqB b a with
    |false=>rfl
    |true=>rw [eqB_eq h2,eqB_rfl] at h;cases h
theorem firstN_pos {n k:Nat}{p:Nat→Bool} (hk:k < n) (hp:p k=true):0≤firstN n p:=by
  unfold firstN
  cases h:(List.range n).find? p with
  |none=>have:=List.find?_range_eq_none.1 h k hk;rw [hp] at this;cases this
  |some j=>exact Int.natCast_nonneg j
theorem has_ix {ss:List ByteArray}{s:ByteArray}:decide (0≤firstN ss.length fun i=>eqB s (ss.getD i default))=hasB ss s:=by
  unfold hasB
  cases e:allB ss.length fun i=>!eqB (ss.getD i default) s with
  |true=>
    rw [show (firstN ss.length fun i=>eqB s (ss.getD i default))=-1 from firstN_none (Nat.le_refl _) fun j hj=>by rw [eqB_comm];exact allB_iff.1 e j hj];rfl
  |false=>
    rw [Bool.not_false,decide_eq_true_iff]
    rcases Int.lt_or_le (firstN ss.length fun i=>eqB s (ss.getD i default)) 0 with h|h
    · exfalso
      have:allB ss.length (fun i=>!eqB (ss.getD i default) s)=true:=allB_iff.2 fun k hk=>by
        cases hq:eqB (ss.getD k default) s with
        |false=>rfl
        |true=>exact absurd (firstN_pos (p:=fun i=>eqB s (ss.getD i default)) hk (by show eqB s _=true;rw [eqB_comm];exact hq)) (by omega)
      rw [e] at this;cases this
    · exact h
theorem some_ix {tl:List TolerD}{x:TaintD}:decide (0≤firstN tl.length fun i=>tolOnB (tl.getD i default) x)=someB tl x tl.length:=by
  unfold someB
  cases e:allB tl.length fun i=>!tolOnB (tl.getD i default) x with
  |true=>rw [show (firstN tl.length fun i=>tolOnB (tl.getD i default) x)=-1 from firstN_none (Nat.le_refl _) fun j hj=>allB_iff.1 e j hj];rfl
  |false=>
    rw [Bool.not_false,decide_eq_true_iff]
    rcases Int.lt_or_le (firstN tl.length fun i=>tolOnB (tl.getD i default) x) 0 with h|h
    · exfalso
      have:allB tl.length (fun i=>!tolOnB (tl.getD i default) x)=true:=allB_iff.2 fun k hk=>by
        cases hq:tolOnB (tl.getD k default) x with
        |false=>rfl
        |true=>exact absurd (firstN_pos (p:=fun i=>tolOnB (tl.getD i default) x) hk hq) (by omega)
      rw [e] at this;cases this
    · exact h
theorem w64 {x:Int} (h:0≤x∧x < 18446744073709551616):IntKind.u64.wrap x=x:=by
  show x % _=x
  exact Int.emod_eq_of_lt h.1 h.2
theorem and32 {x:Int} (h:0≤x∧x < 18446744073709551616):bitI .and .u64 x 4294967295=x % 4294967296:=by
  rw [bitI_and]
  have e1:(BitVec.ofInt IntKind.u64.bits x).toNat=x.toNat:=by
    rw [BitVec.toNat_ofInt];show (x % ((2 ^ 64:Nat):Int)).toNat=_;rw [Int.emod_eq_of_lt h.1 (by omega)]
  have e2:(BitVec.ofInt IntKind.u64.bits 4294967295).toNat=2 ^ 32 - 1:=by decide
  rw [BitVec.toNat_and,e1,e2,Nat.and_two_pow_sub_one_eq_mod]
  rw [w64 (by omega)]
  omega
theorem shr32 (x:Int):bitI .shr .u64 x 32=x / 4294967296:=by
  unfold bitI
  show x.fdiv (2 ^ (min (32:Int).toNat IntKind.u64.bits))=_
  rw [show min (32:Int).toNat IntKind.u64.bits=32 by decide,Int.fdiv_eq_ediv_of_nonneg _ (by decide)]
  rfl
structure Nrm (N y Y U L:Int):Prop where
  y0:9223372036854775808≤Y
  y1:Y < 18446744073709551616
  u0:0≤U
  u1:U≤3200
  l0:0≤L
  l1:L < 18446744073709551616
  eq:∃ p:Int,0 < p∧Y=y*p∧U*18446744073709551616+L=N*p
  lt:U*18446744073709551616+L < 100*Y
/-- A first guess of a digit, and what it leaves. -/
structure Tri (N y Y U L q r:Int):Prop where
  n:Nrm N y Y U L
  q0:0≤q
  q1:q≤200
  r0:0≤r
  r1:r < 8589934592
  eq:q*(Y / 4294967296)+r=U*4294967296+L / 4294967296
  le:N / y≤q
theorem tri_lt {N y Y U L q:Int} (n:Nrm N y Y U L) (h:U*18446744073709551616+L < q*Y):N / y < q:=by
  obtain ⟨p,hp,e1,e2⟩:=n.eq
  have hy:0 < y:=by
    rcases Int.lt_or_le 0 y with h|h
    · exact h
    · have:=Int.mul_nonpos_of_nonpos_of_nonneg h (Int.le_of_lt hp);have:=n.y0;omega
  rw [Int.ediv_lt_iff_lt_mul hy]
  rw [e2,e1,← Int.mul_assoc] at h
  exact Int.lt_of_mul_lt_mul_right h (Int.le_of_lt hp)
theorem tri_ge {N y Y U L q:Int} (n:Nrm N y Y U L) (h:q*Y≤U*18446744073709551616+L):q≤N / y:=by
  obtain ⟨p,hp,e1,e2⟩:=n.eq
  have hy:0 < y:=by
    rcases Int.lt_or_le 0 y with h|h
    · exact h
    · have:=Int.mul_nonpos_of_nonpos_of_nonneg h (Int.le_of_lt hp);have:=n.y0;omega
  rw [Int.le_ediv_iff_mul_le hy]
  rw [e2,e1,← Int.mul_assoc] at h
  exact Int.le_of_mul_le_mul_right h hp
theorem y_split (Y:Int) (q:Int):q*Y=q*(Y / 4294967296)*4294967296+q*(Y % 4294967296):=by
  conv=>lhs;rw [← Int.mul_ediv_add_emod Y 4294967296]
  rw [Int.mul_add,← Int.mul_assoc,Int.mul_comm q 4294967296,Int.mul_assoc,Int.mul_comm 4294967296]
theorem Tri.go {N y Y U L q r:Int} (h:Tri N y Y U L q r) (hr:r < 4294967296) (hg:4294967296*r+L % 4294967296 < q*(Y % 4294967296)):Tri N y Y U L (q - 1) (r+Y / 4294967296):=by
  have hs:=y_split Y q
  have hq:N / y < q:=tri_lt h.n (by have:=h.eq;have:=h.n.l0;omega)
  have he:(q - 1)*(Y / 4294967296)+(r+Y / 4294967296)=U*4294967296+L / 4294967296:=by rw [Int.sub_mul];have:=h.eq;omega
  have hq1:1≤q:=by
    rcases Int.lt_or_le q 1 with h2|h2
    · have h3:q=0:=by have:=h.q0;omega
      subst h3
      rw [Int.zero_mul] at hg
      have:=h.n.l0;have:=h.r0;omega
    · exact h2
  exact ⟨h.n,by omega,by have:=h.q1;omega,by have:=h.r0;have:=h.n.y0;omega,by have:=h.n.y1;omega,he,by omega⟩
theorem Tri.done {N y Y U L q r:Int} (h:Tri N y Y U L q r) (hg:q*(Y % 4294967296)≤4294967296*r+L % 4294967296):q=N / y:=by
  have hs:=y_split Y q
  have:=tri_ge (q:=q) h.n (by have:=h.eq;have:=h.n.l0;omega)
  have:=h.le
  omega
theorem Tri.z {N y Y U L q r:Int} (h:Tri N y Y U L q r):0≤q*(Y % 4294967296)∧q*(Y % 4294967296)≤858993459200∧(q*(Y % 4294967296)≤0∨1≤q):=by
  have h0:0≤Y % 4294967296:=by omega
  have h1:Y % 4294967296≤4294967296:=by omega
  refine ⟨Int.mul_nonneg h.q0 h0,?_,?_⟩
  · exact Int.mul_le_mul h.q1 h1 h0 (by decide)
  · rcases Int.lt_or_le q 1 with h2|h2
    · have h3:q=0:=by have:=h.q0;omega
      subst h3
      exact .inl (by rw [Int.zero_mul];exact Int.le_refl _)
    · exact .inr h2
theorem Tri.brk {N y Y U L q r:Int} (h:Tri N y Y U L q r) (hr:4294967296≤r):q=N / y:=by
  have:=h.z
  exact h.done (by have:=h.n.l0;omega)
theorem tri_new {N y Y U L:Int} (n:Nrm N y Y U L):∃ q m r:Int,(U*4294967296+L / 4294967296).tdiv (Y / 4294967296)=q∧q*(Y / 4294967296)=m∧m+r=U*4294967296+L / 4294967296∧0≤m∧r < 4294967296∧Tri N y Y U L q r:=by
  have hY:2147483648≤Y / 4294967296:=by have:=n.y0;omega
  have hA:0≤U*4294967296+L / 4294967296:=by have:=n.u0;have:=n.l0;omega
  have e:=Int.mul_ediv_add_emod (U*4294967296+L / 4294967296) (Y / 4294967296)
  have hr0:=Int.emod_nonneg (U*4294967296+L / 4294967296) (b:=Y / 4294967296) (by omega)
  have hr1:=Int.emod_lt_of_pos (U*4294967296+L / 4294967296) (b:=Y / 4294967296) (by omega)
  have hq0:0≤(U*4294967296+L / 4294967296) / (Y / 4294967296):=Int.ediv_nonneg hA (by omega)
  have hq1:(U*4294967296+L / 4294967296) / (Y / 4294967296) < 200:=by
    rw [Int.ediv_lt_iff_lt_mul (by omega)]
    have:=n.lt;have:=n.l1;have:=n.l0
    omega
  rw [Int.mul_comm] at e
  refine ⟨_,_,_,Int.tdiv_eq_ediv_of_nonneg hA,rfl,e,Int.mul_nonneg hq0 (by omega),by have:=n.y1;omega,n,hq0,by omega,hr0,by have:=n.y1;omega,e,?_⟩
  have hs:=y_split Y ((U*4294967296+L / 4294967296) / (Y / 4294967296)+1)
  have hlt : N / y < (U * 4294967296 + L / 4294967296) / (Y / 4294967296) + 1 := tri_lt n (by
    have h4:0≤((U*4294967296+L / 4294967296) / (Y / 4294967296)+1)*(Y % 4294967296):=Int.mul_nonneg (by omega) (by omega)
    rw [Int.add_mul (_:Int) 1 (Y / 4294967296)] at hs
    have:=n.l0
    omega)
  omega
theorem wr64 (x:Int):IntKind.u64.wrap x=x % 18446744073709551616:=rfl
theorem shl_k (x:Int) (k:Nat) (hk:k≤64):bitI .shl .u64 x (k:Int)=(x*2 ^ k) % 18446744073709551616:=by
  unfold bitI
  show IntKind.u64.wrap (x*2 ^ (min (k:Int).toNat 64))=_
  rw [Int.toNat_natCast,Nat.min_eq_left hk,wr64]
theorem shr_k (x:Int) (k:Nat) (hk:k≤64):bitI .shr .u64 x (k:Int)=x / 2 ^ k:=by
  unfold bitI
  show x.fdiv (2 ^ (min (k:Int).toNat 64))=_
  rw [Int.toNat_natCast,Nat.min_eq_left hk,Int.fdiv_eq_ediv_of_nonneg _ (by exact Int.le_of_lt (Int.pow_pos (by decide)))]
theorem or_k {a b:Int}{k:Nat} (ha:0≤a) (hb:0≤b∧b < 2 ^ k) (hs:a*2 ^ k+b < 18446744073709551616):bitI .or .u64 (a*2 ^ k) b=a*2 ^ k+b:=by
  obtain ⟨n,rfl⟩:=Int.eq_ofNat_of_zero_le ha
  obtain ⟨m,rfl⟩:=Int.eq_ofNat_of_zero_le hb.1
  have e:((n:Int)*2 ^ k)=((n*2 ^ k:Nat):Int):=by push_cast<;>rfl
  have hm:m < 2 ^ k:=by have:=hb.2;exact_mod_cast this
  rw [e] at hs ⊢
  delta bitI
  show IntKind.u64.wrap (((BitVec.ofInt 64 ((n*2 ^ k:Nat):Int)|||BitVec.ofInt 64 (m:Int)).toNat:Nat):Int)=_
  rw [BitVec.ofInt_natCast,BitVec.ofInt_natCast,BitVec.toNat_or,BitVec.toNat_ofNat,BitVec.toNat_ofNat,Nat.mod_eq_of_lt (by omega),Nat.mod_eq_of_lt (by omega),← Nat.shiftLeft_eq,← Nat.shiftLeft_add_eq_or_of_lt hm,Nat.shiftLeft_eq,wr64]
  omega
theorem div_norm {h l y:Int}{k:Nat} (hk:1≤k∧k≤6) (hY:9223372036854775808≤y*2 ^ k∧y*2 ^ k < 18446744073709551616) (hh:0≤h∧h≤49) (hl:0≤l∧l < 18446744073709551616) (hlt:h*18446744073709551616+l < 100*y):Nrm (h*18446744073709551616+l) y (bitI .shl .u64 y k) (bitI .or .u64 (bitI .shl .u64 h k) (bitI .shr .u64 l (64 - k))) (bitI .shl .u64 l k):=by
  have e1:(64:Int) - (k:Int)=((64 - k:Nat):Int):=by omega
  rw [e1,shl_k _ _ (by omega),shl_k _ _ (by omega),shl_k _ _ (by omega),shr_k _ _ (by omega)]
  have e2:h*2 ^ k % 18446744073709551616=h*2 ^ k:=by
    have:k=1∨k=2∨k=3∨k=4∨k=5∨k=6:=by omega
    rcases this with rfl|rfl|rfl|rfl|rfl|rfl<;>omega
  rw [e2]
  have:k=1∨k=2∨k=3∨k=4∨k=5∨k=6:=by omega
  rcases this with rfl|rfl|rfl|rfl|rfl|rfl
  all_goals
    rw [or_k hh.1 (by simp;omega) (by simp;omega)]
    simp only [Nat.reduceSub,Int.reducePow] at hY ⊢
    refine ⟨by omega,by omega,by omega,by omega,by omega,by omega,?_,by omega⟩
  · exact ⟨2,by decide,by omega,by omega⟩
  · exact ⟨4,by decide,by omega,by omega⟩
  · exact ⟨8,by decide,by omega,by omega⟩
  · exact ⟨16,by decide,by omega,by omega⟩
  · exact ⟨32,by decide,by omega,by omega⟩
  · exact ⟨64,by decide,by omega,by omega⟩
/-- How many digits the numbers to 255 have. -/
def tab8 (s:ByteArray):Bool:=s.size==256&&(List.range 128).all fun n=>n < 2||bytB s n==((n.log2+1:Nat):Int)
theorem len8_k {y:Int} (hy:144115188075855872≤y∧y≤9223372036854775807):∃ k:Nat,1≤k∧k≤6∧9223372036854775808≤y*2 ^ k∧y*2 ^ k < 18446744073709551616∧∀ s,tab8 s=true→s.size=256∧bytB s (IntKind.u8.wrap (y / 4294967296 / 65536 / 256)).toNat=8 - (k:Int):=by
  have e:(IntKind.u8.wrap (y / 4294967296 / 65536 / 256)).toNat=(y / 72057594037927936).toNat:=by
    show ((y / 4294967296 / 65536 / 256) % 256).toNat=_
    omega
  rw [e]
  have hx:2≤(y / 72057594037927936).toNat∧(y / 72057594037927936).toNat≤127:=by omega
  have key:∀ k:Nat,1≤k→k≤6→2 ^ (7 - k)≤(y / 72057594037927936).toNat→(y / 72057594037927936).toNat < 2 ^ (8 - k)→∀ s,tab8 s=true→s.size=256∧bytB s (y / 72057594037927936).toNat=8 - (k:Int):=by
    intro k h1 h2 h3 h4 s hs
    unfold tab8 at hs
    rw [Bool.and_eq_true,List.all_eq_true] at hs
    refine ⟨by simpa using hs.1,?_⟩
    have h5:=hs.2 (y / 72057594037927936).toNat (List.mem_range.2 (by omega))
    rw [Bool.or_eq_true] at h5
    rcases h5 with h5|h5
    · have:=of_decide_eq_true h5;omega
    rw [beq_iff_eq.1 h5,(Nat.log2_eq_iff (by omega)).2 ⟨h3,by rwa [show 7 - k+1=8 - k by omega]⟩]
    omega
  have:(2≤(y / 72057594037927936).toNat∧(y / 72057594037927936).toNat < 4)∨(4≤(y / 72057594037927936).toNat∧(y / 72057594037927936).toNat < 8)∨(8≤(y / 72057594037927936).toNat∧(y / 72057594037927936).toNat < 16)∨(16≤(y / 72057594037927936).toNat∧(y / 72057594037927936).toNat < 32)∨(32≤(y / 72057594037927936).toNat∧(y / 72057594037927936).toNat < 64)∨(64≤(y / 72057594037927936).toNat∧(y / 72057594037927936).toNat < 128):=by omega
  rcases this with h|h|h|h|h|h
  · exact ⟨6,by decide,by decide,by omega,by omega,key 6 (by decide) (by decide) h.1 h.2⟩
  · exact ⟨5,by decide,by decide,by omega,by omega,key 5 (by decide) (by decide) h.1 h.2⟩
  · exact ⟨4,by decide,by decide,by omega,by omega,key 4 (by decide) (by decide) h.1 h.2⟩
  · exact ⟨3,by decide,by decide,by omega,by omega,key 3 (by decide) (by decide) h.1 h.2⟩
  · exact ⟨2,by decide,by decide,by omega,by omega,key 2 (by decide) (by decide) h.1 h.2⟩
  · exact ⟨1,by decide,by decide,by omega,by omega,key 1 (by decide) (by decide) h.1 h.2⟩
theorem div_exi {h l y:Int}{k:Nat} (hk:1≤k∧k≤6) (hY:9223372036854775808≤y*2 ^ k∧y*2 ^ k < 18446744073709551616) (hh:0≤h∧h≤49) (hl:0≤l∧l < 18446744073709551616) (hlt:h*18446744073709551616+l < 100*y):∃ Y U L,bitI .shl .u64 y k=Y∧bitI .or .u64 (bitI .shl .u64 h k) (bitI .shr .u64 l (64 - k))=U∧bitI .shl .u64 l k=L∧Nrm (h*18446744073709551616+l) y Y U L:=⟨_,_,_,rfl,rfl,rfl,div_norm hk hY hh hl hlt⟩
theorem Nrm.q {N y Y U L:Int} (n:Nrm N y Y U L):U.tdiv (Y / 4294967296)=0:=by
  have h0:=n.y0
  have h1:=n.u1
  exact Int.tdiv_eq_zero_of_lt n.u0 (by omega)
theorem ixs_ {s:ByteArray}{i v:Int}{n:Nat}{f:D→St}{Y:Prop}{K:St→Prop} (hv:∀ s,tab8 s=true→s.size=256∧bytB s i.toNat=v) (hs:tab8 s=true) (hn:n=256) (hi:0≤i∧i < 256) (h:Wk (K (f (.sc (.int .u8 v))))):Wk (stepK (Option.map f (if _h:0≤i∧i < (n:Int) then some (.sc (.int .u8 (bytB s i.toNat))) else none)) K Y):=by
  rw [dif_pos (by rw [hn];exact hi),(hv s hs).2]
  exact ⟨h.1⟩
theorem wr8 (x:Int):0≤IntKind.u8.wrap x∧IntKind.u8.wrap x < 256:=by
  show 0≤x % 256∧x % 256 < 256
  omega
theorem scE {a b:Int} (h:a=b):D.sc (.int .i64 a)=D.sc (.int .i64 b):=by rw [h]
theorem shr16 (x:Int):bitI .shr .u64 x 16=x / 65536:=shr_k x 16 (by decide)
theorem shr8 (x:Int):bitI .shr .u64 x 8=x / 256:=shr_k x 8 (by decide)
theorem w64p {x:Int} (h:0≤x∧x < 18446744073709551616):IntKind.u64.wrap x=x:=w64 h
theorem sh_q {a b:Int} (h:¬ (b≤0∨a < 0)) (h2:¬ b≤a):(100*a).tdiv b=shareN a b∧(a*100).tdiv b=shareN a b:=by
  rw [sh_part h h2,Int.mul_comm 100 a,Int.tdiv_eq_ediv_of_nonneg (by omega)]
  exact ⟨rfl,rfl⟩
theorem unt_y {tl:List TolerD}{tn:List TaintD}{e m:Int}{i:Nat} (he:(tn.getD i default).effect≤e∧e≤(tn.getD i default).effect) (h:someB tl (tn.getD i default) tl.length=false) (hm:m=untN tl tn e i):m+1=untN tl tn e (i+1):=by
  rw [unt_go (by unfold untC;rw [h,beq_iff_eq.2 (by omega)];rfl),hm]
theorem unt_n1 {tl:List TolerD}{tn:List TaintD}{e m:Int}{i:Nat} (he:¬ (tn.getD i default).effect=e) (hm:m=untN tl tn e i):m=untN tl tn e (i+1):=by
  rw [unt_no (by unfold untC;rw [beq_false_of_ne he];rfl),hm]
theorem unt_n2 {tl:List TolerD}{tn:List TaintD}{e m:Int}{i:Nat} (h:someB tl (tn.getD i default) tl.length=true) (hm:m=untN tl tn e i):m=untN tl tn e (i+1):=by
  rw [unt_no (by unfold untC;rw [h];cases ((tn.getD i default).effect==e)<;>rfl),hm]
theorem tdU {x y:Int} (hx:0≤x):x / y=x.tdiv y:=(Int.tdiv_eq_ediv_of_nonneg hx).symm
theorem tupE {a b c:Int} (h:a=b):D.tup [.sc (.int .u64 a),.sc (.int .u64 c)]=D.tup [.sc (.int .u64 b),.sc (.int .u64 c)]:=by rw [h]
theorem tdiv_le {x b:Int} (h:0≤x) (hb:0 < b):0≤x.tdiv b∧x.tdiv b≤x:=by
  rw [Int.tdiv_eq_ediv_of_nonneg h]
  exact ⟨Int.ediv_nonneg h (by omega),Int.ediv_le_self _ h⟩
theorem tmod_le {x y:Int} (h:0≤x) (hy:0 < y):0≤x.tmod y∧x.tmod y < y:=⟨Int.tmod_nonneg _ h,Int.tmod_lt_of_pos _ hy⟩
theorem or_lt (x y:Int):decide (orN (fun k=> [x,y].getD k default) 2 < 0)=(decide (x < 0)||((x==0)&&decide (y < 0))):=by
  show decide ((if x==0 then (if y==0 then 0 else y) else x) < 0)=_
  by_cases h:x=0
  · subst h
    by_cases h2:y=0
    · subst h2;rfl
    · rw [if_pos (show ((0:Int)==0)=true from rfl),if_neg (by simpa using h2)];simp
  · rw [if_neg (by simpa using h)]
    rw [beq_false_of_ne h];simp
theorem rk_cmp {c:ClusterD}{p:PodD}{a b:ByteArray}:decide (orN (fun k=> [cmpI (markN c b p) (markN c a p),cmpB a b].getD k default) 2 < 0)=rkLt c p a b:=by
  rw [or_lt,cmpI_lt,cmpI_eq,cmpB_lt]
  unfold rkLt
  rw [show (markN c b p==markN c a p)=(markN c a p==markN c b p) from Bool.beq_comm]
theorem wt_cmp {a b:PlacedD}:decide (orN (fun k=> [cmpI b.pod.rank a.pod.rank,cmpI a.seq b.seq].getD k default) 2 < 0)=wtLt a b:=by
  rw [or_lt,cmpI_lt,cmpI_eq,cmpI_lt]
  unfold wtLt
  rw [show (b.pod.rank==a.pod.rank)=(a.pod.rank==b.pod.rank) from Bool.beq_comm]
theorem len_setS (xs:List ByteArray) (k:Nat) (v:ByteArray):(xs.set k v).length=xs.length:=List.length_set
theorem len_setP (xs:List PlacedD) (k:Nat) (v:PlacedD):(xs.set k v).length=xs.length:=List.length_set
theorem strs_set1 (xs:List ByteArray) (k:Nat) (v:ByteArray):(strsD xs).set k (.sc (.string v))=strsD (xs.set k v):=by simp [strsD,List.map_set]
theorem placeds_set9 (xs:List PlacedD) (k:Nat) (x:PlacedD):(((((((((placedsD xs).set (k*9) (.sc (.string x.pod.name))).set (k*9+1) (.sl x.pod.labels.length (labelsD x.pod.labels))).set (k*9+2) (.sc (.int .i64 x.pod.cpu))).set (k*9+3) (.sc (.int .i64 x.pod.mem))).set (k*9+4) (.sc (.int .i64 x.pod.rank))).set (k*9+5) (.sl x.pod.needs.length (needsD x.pod.needs))).set (k*9+6) (.sl x.pod.tolers.length (tolersD x.pod.tolers))).set (k*9+7) (.sc (.string x.on))).set (k*9+8) (.sc (.int .i64 x.seq))=placedsD (xs.set k x):=by
  rcases Nat.lt_or_ge k xs.length with h|h
  rotate_left
  · have hl:(placedsD xs).length≤k*9:=by rw [placedsD_len];omega
    have h0:∀ d,(placedsD xs).set (k*9) d=placedsD xs:=fun d=>List.set_eq_of_length_le hl
    have hn:∀ (j:Nat) (d:D),(placedsD xs).set (k*9+j) d=placedsD xs:=fun j d=>List.set_eq_of_length_le (by omega)
    rw [h0,hn,hn,hn,hn,hn,hn,hn,hn,List.set_eq_of_length_le h]
  have e:placedsD xs=placedsD (xs.take k)++(placedCells (xs.getD k default)++placedsD (xs.drop (k+1))):=by
    conv=>lhs;rw [← List.take_append_drop k xs,getD_drop xs h]
    simp [placedsD,flatD]
  have e2:xs.set k x=xs.take k++(x::xs.drop (k+1)):=by rw [List.set_eq_take_append_cons_drop,if_pos h]
  have hl:(placedsD (xs.take k)).length=k*9:=by rw [placedsD_len,List.length_take,Nat.min_eq_left (by omega)]
  have st:∀ (B:List D) (j:Nat) (d:D),(placedsD (xs.take k)++B).set (k*9+j) d=placedsD (xs.take k)++B.set j d:=fun B j d=>by
    rw [List.set_append_right _ _ (by omega),hl,Nat.add_sub_cancel_left]
  have st0:∀ (B:List D) (d:D),(placedsD (xs.take k)++B).set (k*9) d=placedsD (xs.take k)++B.set 0 d:=fun B d=>st B 0 d
  rw [e,e2,st0,st,st,st,st,st,st,st,st]
  simp [placedsD,flatD,placedCells]
theorem InsI.at_ {α:Type}{lt:α→α→Bool}{ws L:List α}{i j:Nat} (h:InsI lt ws L i j) (hi:i < ws.length):j≤i∧L.length=ws.length∧j < L.length:=by
  obtain ⟨h1,h2,h3⟩:=h.lt
  exact ⟨h1,h3,by omega⟩
theorem indexS_X (ss:List ByteArray) (s:ByteArray) (hn:ss.length≤1048576):Spec Tryz.prog 450 [.sl ss.length (strsD ss),.sc (.string s)] (fun d=>d = .sc (.int .i64 (firstN ss.length fun i=>eqB s (ss.getD i default)))):=by
  refine sp_ (rs:= [.tmp 4]) (nt:=19) Tryz.func450 rfl fun X hX=>?_
  refine nm_ ?_
  repeat' ((first|contradiction|(with_reducible exact tt_)|((with_reducible show Wk (AwStep _ _ _ _ _));first|(refine pln_ ?_))|((with_reducible show Wk (AwCode _ _ _ _ _));first|(refine lpU_ 0x183 (ι:=Nat) (fun k=> [(8,.sc (.int .i64 (k:Int)))]) (fun k=>k≤ss.length∧∀ j:Nat,j < k→(fun j=>!eqB s (ss.getD j default)) j=true) (fun k=>ss.length - k) 0 ?_ ?_;(focus (exact ⟨by omega,allN_zero⟩));rintro _ hN0 k hinv;(try dsimp only at hinv);obtain ⟨hk,hj⟩:=hinv;replace hj:=Lib.hid hj;skip))|((with_reducible show Wk (boolK _ _ _ _));first|(refine bk_ (fun h h'=>?_) (fun h h'=>?_)))|((with_reducible show Wk (_∧_));first|(refine and_ ?_ ?_))|(refine hN0.go (k+1) ?_ ?_;(focus (exact ⟨by show k+1≤ss.length;omega,allN_step hj.out (by simp_all)⟩));(focus (show ss.length - (k+1) < ss.length - k;omega)))|fail)<;>(try refine nm_ ?_))
  all_goals (refine ⟨?_⟩)
  all_goals first|contradiction|(exfalso;omega)|(rw [firstN_hit (k:=k) (by omega) (by simp_all) hj.out];done)|(rw [firstN_none (k:=k) (by omega) hj.out];done)
theorem contains_X (ss:List ByteArray) (s:ByteArray) (hn:ss.length≤1048576):Spec Tryz.prog 446 [.sl ss.length (strsD ss),.sc (.string s)] (fun d=>d = .sc (.bool (hasB ss s))):=by
  refine sp_ (rs:= [.tmp 4]) (nt:=9) Tryz.func446 rfl fun X hX=>?_
  refine nm_ ?_
  repeat' ((first|contradiction|(with_reducible exact tt_)|((with_reducible show Wk (AwStepF _ _ _ _ _ _ _));first|(refine cl_ rfl _ _ (indexS_X ss s hn) rfl rfl ?_;rintro _ rfl))|((with_reducible show Wk (AwStep _ _ _ _ _));first|(refine pln_ ?_))|((with_reducible show Wk (boolK _ _ _ _));first|(refine bk_ (fun h h'=>?_) (fun h h'=>?_)))|((with_reducible show Wk (_∧_));first|(refine and_ ?_ ?_))|fail)<;>(try refine nm_ ?_))
  all_goals (refine ⟨?_⟩)
  all_goals first|contradiction|(exfalso;omega)|(rw [← has_ix];done)
theorem impl_LabelAt_X (ls:List LabelD) (s:ByteArray) (hn:ls.length≤1048576):Spec Tryz.prog 445 [.sl ls.length (labelsD ls),.sc (.string s)] (fun d=>d = .tup [.sc (.string (labV ls s)),.sc (.bool (decide (0≤labIx ls s)))]):=by
  refine sp_ (rs:= [.tmp 4,.tmp 5]) (nt:=21) Tryz.func445 rfl fun X hX=>?_
  refine nm_ ?_
  repeat' ((first|contradiction|(with_reducible exact tt_)|((with_reducible show Wk (AwStep _ _ _ _ _));first|(refine pln_ ?_))|((with_reducible show Wk (AwCode _ _ _ _ _));first|(refine lpU_ 0x702 (ι:=Nat) (fun k=> [(10,.sc (.int .i64 (k:Int)))]) (fun k=>k≤ls.length∧∀ j:Nat,j < k→(fun j=>!eqB (ls.getD j default).key s) j=true) (fun k=>ls.length - k) 0 ?_ ?_;(focus (exact ⟨by omega,allN_zero⟩));rintro _ hN0 k hinv;(try dsimp only at hinv);obtain ⟨hk,hj⟩:=hinv;replace hj:=Lib.hid hj;skip))|((with_reducible show Wk (boolK _ _ _ _));first|(refine bk_ (fun h h'=>?_) (fun h h'=>?_)))|((with_reducible show Wk (_∧_));first|(refine and_ ?_ ?_))|(refine hN0.go (k+1) ?_ ?_;(focus (exact ⟨by show k+1≤ls.length;omega,allN_step hj.out (by simp_all)⟩));(focus (show ls.length - (k+1) < ls.length - k;omega)))|fail)<;>(try refine nm_ ?_))
  all_goals (refine ⟨?_⟩)
  all_goals first|contradiction|(exfalso;omega)|(exact lab_hit (k:=k) (by omega) (by simp_all) hj.out)|(exact lab_none (k:=k) (by omega) hj.out)
theorem impl_NeedMet_X (ls:List LabelD) (x:NeedD) (hn:ls.length≤1048576) (hv:x.values.length≤1048576):Spec Tryz.prog 440 [.sl ls.length (labelsD ls),.agg (needCells x)] (fun d=>d = .sc (.bool (needMetB ls x))):=by
  unfold needCells
  refine sp_ (rs:= [.tmp 4]) (nt:=44) Tryz.func440 rfl fun X hX=>?_
  refine nm_ ?_
  repeat' ((first|contradiction|(with_reducible exact tt_)|((with_reducible show Wk (AwStepF _ _ _ _ _ _ _));first|(refine cl_ rfl _ _ (impl_NeedOk_D x hv) rfl rfl ?_;rintro _ rfl)|(refine cl_ rfl _ _ (impl_LabelAt_X ls x.key hn) rfl rfl ?_;rintro _ rfl)|(refine cl_ rfl _ _ (contains_X x.values (labV ls x.key) hv) rfl rfl ?_;rintro _ rfl))|((with_reducible show Wk (AwStep _ _ _ _ _));first|(refine pln_ ?_))|((with_reducible show Wk (boolK _ _ _ _));first|(refine bk_ (fun h h'=>?_) (fun h h'=>?_)))|((with_reducible show Wk (_∧_));first|(refine and_ ?_ ?_))|fail)<;>(try refine nm_ ?_))
  all_goals (refine ⟨?_⟩)
  all_goals first|contradiction|(exfalso;omega)|(unfold needMetB;first|(simp_all;done)|(simp_all;omega)|(simp (disch:=omega) only [*,if_pos,if_neg];done))
theorem impl_Selects_X (ns:List NeedD) (ls:List LabelD) (hns:ns.length≤1048576) (hv:∀ k,(ns.getD k default).values.length≤1048576) (hn:ls.length≤1048576):Spec Tryz.prog 430 [.sl ns.length (needsD ns),.sl ls.length (labelsD ls)] (fun d=>d = .sc (.bool (selB ns ls))):=by
  refine sp_ (rs:= [.tmp 4]) (nt:=18) Tryz.func430 rfl fun X hX=>?_
  refine nm_ ?_
  repeat' ((first|contradiction|(with_reducible exact tt_)|((with_reducible show Wk (AwStepF _ _ _ _ _ _ _));first|(refine cl_ rfl _ _ (impl_NeedMet_X ls (ns.getD k default) hn (hv k)) rfl rfl ?_;rintro _ rfl))|((with_reducible show Wk (AwStep _ _ _ _ _));first|(refine pln_ ?_))|((with_reducible show Wk (AwCode _ _ _ _ _));first|(refine lpU_ 0x382 (ι:=Nat) (fun k=> [(9,.sc (.int .i64 (k:Int)))]) (fun k=>k≤ns.length∧∀ j:Nat,j < k→(fun j=>needMetB ls (ns.getD j default)) j=true) (fun k=>ns.length - k) 0 ?_ ?_;(focus (exact ⟨by omega,allN_zero⟩));rintro _ hN0 k hinv;(try dsimp only at hinv);obtain ⟨hk,hj⟩:=hinv;replace hj:=Lib.hid hj;skip))|((with_reducible show Wk (boolK _ _ _ _));first|(refine bk_ (fun h h'=>?_) (fun h h'=>?_)))|((with_reducible show Wk (_∧_));first|(refine and_ ?_ ?_))|(refine hN0.go (k+1) ?_ ?_;(focus (exact ⟨by show k+1≤ns.length;omega,allN_step hj.out (by simp_all)⟩));(focus (show ns.length - (k+1) < ns.length - k;omega)))|fail)<;>(try refine nm_ ?_))
  all_goals (refine ⟨?_⟩)
  all_goals first|contradiction|(exfalso;omega)|(rw [show selB ns ls=false from allN_no (k:=k) (by omega) (by simp_all)];done)|(rw [show selB ns ls=true from allN_yes (k:=k) (by omega) hj.out];done)
theorem impl_Tolerates_X (t:TolerD) (x:TaintD):Spec Tryz.prog 437 [.agg (tolerCells t),.agg (taintCells x)] (fun d=>d = .sc (.bool (tolOnB t x))):=by
  unfold tolerCells taintCells
  refine sp_ (rs:= [.tmp 4]) (nt:=47) Tryz.func437 rfl fun X hX=>?_
  refine nm_ ?_
  repeat' ((first|contradiction|(with_reducible exact tt_)|((with_reducible show Wk (AwStepF _ _ _ _ _ _ _));first|(refine cl_ rfl _ _ (impl_ToleranceOk_D t) rfl rfl ?_;rintro _ rfl)|(refine cl_ rfl _ _ (impl_TaintOk_D x) rfl rfl ?_;rintro _ rfl))|((with_reducible show Wk (AwStep _ _ _ _ _));first|(refine pln_ ?_))|((with_reducible show Wk (boolK _ _ _ _));first|(refine bk_ (fun h h'=>?_) (fun h h'=>?_)))|((with_reducible show Wk (_∧_));first|(refine and_ ?_ ?_))|fail)<;>(try refine nm_ ?_))
  all_goals (refine ⟨?_⟩)
  all_goals first|contradiction|(exfalso;omega)|(unfold tolOnB emptyB;first|rfl|(simp_all;done)|(simp_all;omega))
theorem unt1_X (t:TolerD) (x:TaintD):Spec Tryz.prog 436 [.agg (tolerCells t),.cptr (taintCells x) 0] (fun d=>d = .sc (.bool (tolOnB t x))):=by
  unfold tolerCells taintCells
  refine sp_ (rs:= [.tmp 3]) (nt:=7) Tryz.func436 rfl fun X hX=>?_
  refine nm_ ?_
  repeat' ((first|contradiction|(with_reducible exact tt_)|((with_reducible show Wk (AwStepF _ _ _ _ _ _ _));first|(refine cl_ rfl _ _ (impl_Tolerates_X t x) rfl rfl ?_;rintro _ rfl))|((with_reducible show Wk (AwStep _ _ _ _ _));first|(refine pln_ ?_))|((with_reducible show Wk (boolK _ _ _ _));first|(refine bk_ (fun h h'=>?_) (fun h h'=>?_)))|((with_reducible show Wk (_∧_));first|(refine and_ ?_ ?_))|fail)<;>(try refine nm_ ?_))
  all_goals (refine ⟨?_⟩)
  all_goals first|contradiction|(exfalso;omega)|rfl
theorem indexTol_X (tl:List TolerD) (x:TaintD) (hn:tl.length≤1048576):Spec Tryz.prog 443 [.sl tl.length (tolersD tl),.fn 436 [.cptr (taintCells x) 0]] (fun d=>d = .sc (.int .i64 (firstN tl.length fun i=>tolOnB (tl.getD i default) x))):=by
  refine sp_ (rs:= [.tmp 4]) (nt:=19) Tryz.func443 rfl fun X hX=>?_
  refine nm_ ?_
  repeat' ((first|contradiction|(with_reducible exact tt_)|((with_reducible show Wk (AwStepF _ _ _ _ _ _ _));first|(refine clC_ rfl rfl _ _ (unt1_X (tl.getD k default) x) rfl rfl rfl ?_;rintro _ rfl))|((with_reducible show Wk (AwStep _ _ _ _ _));first|(refine pln_ ?_))|((with_reducible show Wk (AwCode _ _ _ _ _));first|(refine lpU_ 0x183 (ι:=Nat) (fun k=> [(8,.sc (.int .i64 (k:Int)))]) (fun k=>k≤tl.length∧∀ j:Nat,j < k→(fun j=>!tolOnB (tl.getD j default) x) j=true) (fun k=>tl.length - k) 0 ?_ ?_;(focus (exact ⟨by omega,allN_zero⟩));rintro _ hN0 k hinv;(try dsimp only at hinv);obtain ⟨hk,hj⟩:=hinv;replace hj:=Lib.hid hj;skip))|((with_reducible show Wk (boolK _ _ _ _));first|(refine bk_ (fun h h'=>?_) (fun h h'=>?_)))|((with_reducible show Wk (_∧_));first|(refine and_ ?_ ?_))|(refine hN0.go (k+1) ?_ ?_;(focus (exact ⟨by show k+1≤tl.length;omega,allN_step hj.out (by simp_all)⟩));(focus (show tl.length - (k+1) < tl.length - k;omega)))|fail)<;>(try refine nm_ ?_))
  all_goals (refine ⟨?_⟩)
  all_goals first|contradiction|(exfalso;omega)|(rw [firstN_hit (k:=k) (by omega) (by simp_all) hj.out];done)|(rw [firstN_none (k:=k) (by omega) hj.out];done)
theorem containsTol_X (tl:List TolerD) (x:TaintD) (hn:tl.length≤1048576):Spec Tryz.prog 435 [.sl tl.length (tolersD tl),.fn 436 [.cptr (taintCells x) 0]] (fun d=>d = .sc (.bool (someB tl x tl.length))):=by
  refine sp_ (rs:= [.tmp 4]) (nt:=9) Tryz.func435 rfl fun X hX=>?_
  refine nm_ ?_
  repeat' ((first|contradiction|(with_reducible exact tt_)|((with_reducible show Wk (AwStepF _ _ _ _ _ _ _));first|(refine cl_ rfl _ _ (indexTol_X tl x hn) rfl rfl ?_;rintro _ rfl))|((with_reducible show Wk (AwStep _ _ _ _ _));first|(refine pln_ ?_))|((with_reducible show Wk (boolK _ _ _ _));first|(refine bk_ (fun h h'=>?_) (fun h h'=>?_)))|((with_reducible show Wk (_∧_));first|(refine and_ ?_ ?_))|fail)<;>(try refine nm_ ?_))
  all_goals (refine ⟨?_⟩)
  all_goals first|contradiction|(exfalso;omega)|(rw [← some_ix];done)
theorem impl_Untolerated_X (tl:List TolerD) (tn:List TaintD) (e:Int) (h1:tl.length≤1048576) (h2:tn.length≤1048576):Spec Tryz.prog 424 [.sl tl.length (tolersD tl),.sl tn.length (taintsD tn),.sc (.int .i64 e)] (fun d=>d = .sc (.int .i64 (untN tl tn e tn.length))):=by
  have ex0:=@taintCells.eq_1
  refine sp_ (rs:= [.tmp 6]) (nt:=30) Tryz.func424 rfl fun X hX=>?_
  refine nm_ ?_
  repeat' ((first|contradiction|(with_reducible exact tt_)|((with_reducible show Wk (AwStepF _ _ _ _ _ _ _));first|(refine cl_ rfl _ _ (containsTol_X tl (tn.getD i default) h1) rfl rfl ?_;rintro _ rfl)|(refine afz_ [0] ?_;refine nm_ ?_;refine fn_ rfl rfl ?_))|((with_reducible show Wk (AwStep _ _ _ _ _));first|(refine pln_ ?_))|((with_reducible show Wk (AwCode _ _ _ _ _));first|(refine lpU_ 0x1c85 (ι:=Nat × Int) (fun ⟨i,m⟩=> [(7,.sc (.int .i64 m)),(12,.sc (.int .i64 (i:Int)))]) (fun ⟨i,m⟩=>i≤tn.length∧m=untN tl tn e i) (fun ⟨i,m⟩=>tn.length - i) (0,0) ?_ ?_;(focus (exact ⟨Nat.zero_le _,rfl⟩));rintro _ hN0 ⟨i,m⟩ hinv;(try dsimp only at hinv);obtain ⟨hi,hm⟩:=hinv;have hur:=untN_rng tl tn e i;have hmr:0≤m∧m≤i:=(by omega);clear hur;replace hm:=Lib.hid hm;skip))|((with_reducible show Wk (boolK _ _ _ _));first|(refine bk_ (fun h h'=>?_) (fun h h'=>?_)))|((with_reducible show Wk (_∧_));first|(refine and_ ?_ ?_))|(refine hN0.go ((i+1,m+1)) ?_ ?_;(focus (first|exact ⟨by show i+1≤tn.length;omega,unt_y (by omega) (by assumption) hm.out⟩|exact ⟨by show i+1≤tn.length;omega,unt_n1 (by omega) hm.out⟩|exact ⟨by show i+1≤tn.length;omega,unt_n2 (by assumption) hm.out⟩));(focus (show tn.length - (i+1) < tn.length - i;omega)))|(refine hN0.go ((i+1,m)) ?_ ?_;(focus (first|exact ⟨by show i+1≤tn.length;omega,unt_y (by omega) (by assumption) hm.out⟩|exact ⟨by show i+1≤tn.length;omega,unt_n1 (by omega) hm.out⟩|exact ⟨by show i+1≤tn.length;omega,unt_n2 (by assumption) hm.out⟩));(focus (show tn.length - (i+1) < tn.length - i;omega)))|fail)<;>(try refine nm_ ?_))
  all_goals clear ex0
  all_goals (refine ⟨?_⟩)
  all_goals first|contradiction|(exfalso;omega)|(have e9:=hm.out;have e8:i=tn.length:=(by omega);subst e8;rw [e9];done)|rfl
theorem mul64_X (x:Int) (hx:0≤x∧x≤9223372036854775807):Spec Tryz.prog 433 [.sc (.int .u64 x),.sc (.int .u64 100)] (fun d=>d = .tup [.sc (.int .u64 (x*100 / 18446744073709551616)),.sc (.int .u64 (x*100 % 18446744073709551616))]):=by
  have ex0:=@and32;have ex1:=@shr32;have ex2:=@w64p
  refine sp_ (rs:= [.tmp 4,.tmp 5]) (nt:=51) Tryz.func433 rfl fun X hX=>?_
  refine nm_ ?_
  repeat' ((first|contradiction|(with_reducible exact tt_)|((with_reducible show Wk (AwStep _ _ _ _ _));first|(refine pln_ ?_))|((with_reducible show Wk (boolK _ _ _ _));first|(refine bk_ (fun h h'=>?_) (fun h h'=>?_)))|((with_reducible show Wk (_∧_));first|(refine and_ ?_ ?_))|fail)<;>(try refine nm_ ?_))
  all_goals clear ex0 ex1 ex2
  all_goals (refine ⟨?_⟩)
  all_goals first|contradiction|(exfalso;omega)|(rw [wr64];exact tupE (by omega))
theorem len64_X (y:Int) (hy:144115188075855872≤y∧y≤9223372036854775807):Spec Tryz.prog 447 [.sc (.int .u64 y)] (fun d=>∃ k:Nat,1≤k∧k≤6∧9223372036854775808≤y*2 ^ k∧y*2 ^ k < 18446744073709551616∧d = .sc (.int .i64 (64 - (k:Int)))):=by
  obtain ⟨k,hk1,hk2,hk3,hk4,hv⟩:=len8_k hy
  have ex0:=@shr32;have ex1:=@shr16;have ex2:=@shr8;have ex3:=@w64p
  refine sp_ (rs:= [.tmp 2]) (nt:=25) Tryz.func447 rfl fun X hX=>?_
  refine nm_ ?_
  repeat' ((first|contradiction|(with_reducible exact tt_)|((with_reducible show Wk (AwStep _ _ _ _ _));first|(refine pln_ ?_))|((with_reducible show Wk (boolK _ _ _ _));first|(refine bk_ (fun h h'=>?_) (fun h h'=>?_)))|((with_reducible show Wk (_∧_));first|(refine and_ ?_ ?_))|((with_reducible show Wk (stepK _ _ _));first|(refine ixs_ hv (by decide +kernel) (by decide +kernel) (wr8 _) ?_))|fail)<;>(try refine nm_ ?_))
  all_goals clear ex0 ex1 ex2 ex3
  all_goals (refine ⟨?_⟩)
  all_goals first|contradiction|(exfalso;omega)|(exact ⟨k,hk1,hk2,hk3,hk4,scE (by omega)⟩)
theorem lead64_X (y:Int) (hy:144115188075855872≤y∧y≤9223372036854775807):Spec Tryz.prog 442 [.sc (.int .u64 y)] (fun d=>∃ k:Nat,1≤k∧k≤6∧9223372036854775808≤y*2 ^ k∧y*2 ^ k < 18446744073709551616∧d = .sc (.int .i64 (k:Int))):=by
  refine sp_ (rs:= [.tmp 2]) (nt:=6) Tryz.func442 rfl fun X hX=>?_
  refine nm_ ?_
  repeat' ((first|contradiction|(with_reducible exact tt_)|((with_reducible show Wk (AwStepF _ _ _ _ _ _ _));first|(refine cl_ rfl _ _ (len64_X y hy) rfl rfl ?_;rintro _ ⟨k,hk1,hk2,hk3,hk4,rfl⟩))|((with_reducible show Wk (AwStep _ _ _ _ _));first|(refine pln_ ?_))|((with_reducible show Wk (boolK _ _ _ _));first|(refine bk_ (fun h h'=>?_) (fun h h'=>?_)))|((with_reducible show Wk (_∧_));first|(refine and_ ?_ ?_))|fail)<;>(try refine nm_ ?_))
  all_goals (refine ⟨?_⟩)
  all_goals first|contradiction|(exfalso;omega)|(exact ⟨k,hk1,hk2,hk3,hk4,scE (by omega)⟩)
theorem div64_X (x y:Int) (hx:0≤x∧x < 18446744073709551616) (hy:0 < y∧y≤9223372036854775807):Spec Tryz.prog 434 [.sc (.int .u64 0),.sc (.int .u64 x),.sc (.int .u64 y)] (fun d=>d = .tup [.sc (.int .u64 (x.tdiv y)),.sc (.int .u64 (x.tmod y))]):=by
  have hq:=tdiv_le hx.1 hy.1;have hr:=tmod_le hx.1 hy.1
  have ex0:=@w64p
  refine sp_ (rs:= [.tmp 6,.tmp 7]) (nt:=135) Tryz.func434 rfl fun X hX=>?_
  refine nm_ ?_
  repeat' ((first|contradiction|(with_reducible exact tt_)|((with_reducible show Wk (AwStep _ _ _ _ _));first|(refine pln_ ?_))|((with_reducible show Wk (AwCode _ _ _ _ _));first|(refine wo_ (id:=6) [] [(0,true),(1,true),(2,true),(3,true),(4,true),(5,true),(6,true),(7,true)] ?_))|((with_reducible show Wk (boolK _ _ _ _));first|(refine bk_ (fun h h'=>?_) (fun h h'=>?_)))|((with_reducible show Wk (_∧_));first|(refine and_ ?_ ?_))|fail)<;>(try refine nm_ ?_))
  all_goals clear ex0
  all_goals (refine ⟨?_⟩)
  all_goals first|contradiction|(exfalso;omega)|rfl
theorem div64_W (u l y:Int) (hh:1≤u∧u≤49) (hl:0≤l∧l < 18446744073709551616) (hy:0 < y∧y≤9223372036854775807) (hlt:u*18446744073709551616+l < 100*y):Spec Tryz.prog 434 [.sc (.int .u64 u),.sc (.int .u64 l),.sc (.int .u64 y)] (fun d=>∃ r,d = .tup [.sc (.int .u64 ((u*18446744073709551616+l) / y)),.sc (.int .u64 r)]):=by
  have i135:intK Tryz.prog 135=some .u64:=rfl
  have ex0:=@w64p;have ex1:=@shr32;have ex2:=@and32;have ex3:=@Int.zero_mul;have ex4:=@Int.sub_zero
  refine sp_ (rs:= [.tmp 6,.tmp 7]) (nt:=135) Tryz.func434 rfl fun X hX=>?_
  refine nm_ ?_
  repeat' ((first|contradiction|(with_reducible exact tt_)|((with_reducible show Wk (AwStepF _ _ _ _ _ _ _));first|(refine cl_ rfl _ _ (lead64_X y (by omega)) rfl rfl ?_;rintro _ ⟨k,hk1,hk2,hk3,hk4,rfl⟩;(obtain ⟨Y,U,L,hYe,hUe,hLe,hN⟩:=div_exi ⟨hk1,hk2⟩ ⟨hk3,hk4⟩ ⟨by omega,hh.2⟩ hl hlt;have hy0:=hN.y0;have hy1:=hN.y1;have hu0:=hN.u0;have hu1:=hN.u1;have hl0:=hN.l0;have hl1:=hN.l1;have hq0:=hN.q;obtain ⟨q0,m0,r0,hqe,hme,hmr,hm0,hr0,hT⟩:=tri_new hN;clear hk3 hk4;have hg0:=hT.q0;have hg1:=hT.q1;have hg2:=hT.r0;have hre:U*4294967296+L / 4294967296 - m0=r0:=(by omega);clear hmr)))|((with_reducible show Wk (AwStep _ _ _ _ _));first|(refine pln_ ?_))|((with_reducible show Wk (AwCode _ _ _ _ _));first|(refine wo_ (id:=6) [] [(0,true),(1,true),(2,true),(3,true),(4,true),(5,true),(6,true),(7,true)] ?_)|((with_reducible show Wk (AwCode _ _ (.loop (.seq (.seq (.region 24 _ _) _) _)) _ _));refine lpU_ 0x7c704 (ι:=Int × Int) (fun ⟨q,r⟩=> [(18,.sc (.int .u64 q)),(16,.sc (.int .u64 r))]) (fun ⟨q,r⟩=>Tri (u*18446744073709551616+l) y Y U L q r∧r < 4294967296) (fun ⟨q,r⟩=>q.toNat) (q0,r0) ?_ ?_;(focus (exact ⟨hT,hr0⟩));rintro _ hN1 ⟨q,r⟩ hinv;(try dsimp only at hinv);obtain ⟨hT2,hr2⟩:=hinv;have hz:=hT2.z;have hq1:=hT2.q1;have hq2:=hT2.q0;have hr3:=hT2.r0;skip)|((with_reducible show Wk (AwCode _ _ (.loop (.seq (.seq (.region 17 _ _) _) _)) _ _));refine lpK_ (ι:=Unit) [] [0] 0x1ef04 (fun _=> [(15,.sc (.int .u64 0)),(16,.sc (.int .u64 U))]) (fun _=> []) (fun _=>True) (fun _=>0) () ?_ ?_;(focus (trivial));rintro _ hN0 _ hinv;(try dsimp only at hinv);skip))|((with_reducible show Wk (boolK _ _ _ _));first|(refine bk_ (fun h h'=>?_) (fun h h'=>?_)))|((with_reducible show Wk (_∧_));first|(refine and_ ?_ ?_))|(refine hN1.go ((q - 1,r+Y / 4294967296)) ?_ ?_;(focus (exact ⟨hT2.go hr2 (by omega),by omega⟩));(focus (show (q - 1).toNat < q.toNat;omega)))|fail)<;>(try refine nm_ ?_))
  all_goals clear ex0 ex1 ex2 ex3 ex4
  all_goals (refine ⟨?_⟩)
  all_goals first|contradiction|(exfalso;omega)|(exact ⟨_,tupE ((Int.zero_add _).trans ((hT2.go hr2 (by assumption)).brk (by assumption)))⟩)|(exact ⟨_,tupE ((Int.zero_add _).trans (hT2.done (by omega)))⟩)
theorem div64_U (x y:Int) (hx:0≤x) (hlt:x < 100*y) (hy:0 < y∧y≤9223372036854775807):Spec Tryz.prog 434 [.sc (.int .u64 (x / 18446744073709551616)),.sc (.int .u64 (x % 18446744073709551616)),.sc (.int .u64 y)] (fun d=>∃ r,d = .tup [.sc (.int .u64 (x.tdiv y)),.sc (.int .u64 r)]):=by
  by_cases h:x < 18446744073709551616
  · rw [show x / 18446744073709551616=0 by omega,show x % 18446744073709551616=x by omega]
    exact (div64_X x y ⟨hx,h⟩ hy).mono fun d hd=>⟨_,hd⟩
  · have e:x / 18446744073709551616*18446744073709551616+x % 18446744073709551616=x:=by omega
    refine (div64_W (x / 18446744073709551616) (x % 18446744073709551616) y (by omega) (by omega) hy (by omega)).mono fun d hd=>?_
    rw [e,tdU hx] at hd
    exact hd
theorem impl_ShareOf_X (a b:Int) (hb:b≤9223372036854775807):Spec Tryz.prog 422 [.sc (.int .i64 a),.sc (.int .i64 b)] (fun d=>d = .sc (.int .i64 (shareN a b))):=by
  have hsr:=shareN_rng a b
  have ex0:=@w64p
  refine sp_ (rs:= [.tmp 4]) (nt:=36) Tryz.func422 rfl fun X hX=>?_
  refine nm_ ?_
  repeat' ((first|contradiction|(with_reducible exact tt_)|((with_reducible show Wk (AwStepF _ _ _ _ _ _ _));first|(refine cl_ rfl _ _ (mul64_X a (by omega)) rfl rfl ?_;rintro _ rfl)|(refine cl_ rfl _ _ (div64_U (a*100) b (by omega) (by omega) (by omega)) rfl rfl ?_;rintro _ ⟨r,rfl⟩;(rw [(sh_q (a:=a) (b:=b) (by omega) (by omega)).2])))|((with_reducible show Wk (AwStep _ _ _ _ _));first|(refine pln_ ?_))|((with_reducible show Wk (boolK _ _ _ _));first|(refine bk_ (fun h h'=>?_) (fun h h'=>?_)))|((with_reducible show Wk (_∧_));first|(refine and_ ?_ ?_))|fail)<;>(try refine nm_ ?_))
  all_goals clear ex0
  all_goals (refine ⟨?_⟩)
  all_goals first|contradiction|(exfalso;omega)|rfl|(rw [wrap_in _ (by omega)];done)|(exact resI 0 (sh_zero (by omega)))|(exact resI 0 (sh_full (by omega) (by omega)))
theorem impl_ShareOf_R (a b:Int) (hb:b≤9223372036854775807):Spec Tryz.prog 422 [.sc (.int .i64 a),.sc (.int .i64 b)] (fun d=>∃ m,m=shareN a b∧0≤m∧m≤100∧d = .sc (.int .i64 m)):=(impl_ShareOf_X a b hb).mono fun d h=>⟨_,rfl,(shareN_rng a b).1,(shareN_rng a b).2,h⟩
theorem impl_fits_X (a b m:Int) (hb:b≤9223372036854775807):Spec Tryz.prog 431 [.sc (.int .i64 a),.sc (.int .i64 b),.sc (.int .i64 m)] (fun d=>d = .sc (.bool (fitB a b m))):=by
  refine sp_ (rs:= [.tmp 6]) (nt:=21) Tryz.func431 rfl fun X hX=>?_
  refine nm_ ?_
  repeat' ((first|contradiction|(with_reducible exact tt_)|((with_reducible show Wk (AwStepF _ _ _ _ _ _ _));first|(refine cl_ rfl _ _ (impl_AddInt_D a b hb) rfl rfl ?_;rintro _ rfl))|((with_reducible show Wk (AwStep _ _ _ _ _));first|(refine pln_ ?_))|((with_reducible show Wk (boolK _ _ _ _));first|(refine bk_ (fun h h'=>?_) (fun h h'=>?_)))|((with_reducible show Wk (_∧_));first|(refine and_ ?_ ?_))|fail)<;>(try refine nm_ ?_))
  all_goals (refine ⟨?_⟩)
  all_goals first|contradiction|(exfalso;omega)|(unfold fitB;first|rfl|(simp_all;done))
theorem impl_sumOrMost_X (a b:Int) (hb:b≤9223372036854775807):Spec Tryz.prog 423 [.sc (.int .i64 a),.sc (.int .i64 b)] (fun d=>d = .sc (.int .i64 (sumM a b))):=by
  refine sp_ (rs:= [.tmp 4]) (nt:=16) Tryz.func423 rfl fun X hX=>?_
  refine nm_ ?_
  repeat' ((first|contradiction|(with_reducible exact tt_)|((with_reducible show Wk (AwStepF _ _ _ _ _ _ _));first|(refine cl_ rfl _ _ (impl_AddInt_D a b hb) rfl rfl ?_;rintro _ rfl))|((with_reducible show Wk (AwStep _ _ _ _ _));first|(refine pln_ ?_))|((with_reducible show Wk (boolK _ _ _ _));first|(refine bk_ (fun h h'=>?_) (fun h h'=>?_)))|((with_reducible show Wk (_∧_));first|(refine and_ ?_ ?_))|fail)<;>(try refine nm_ ?_))
  all_goals (refine ⟨?_⟩)
  all_goals first|contradiction|(exfalso;omega)|(unfold sumM;first|rfl|(simp_all;done))
theorem impl_ReasonOn_X (c:ClusterD) (nm:ByteArray) (p:PodD) (hf:c.fine) (hp:p.fine):Spec Tryz.prog 419 [c.d,.sc (.string nm),.agg (podCells p)] (fun d=>d = .sc (.int .i64 (reasonN c nm p))):=by
  have hcl:=hf.hlen;have hx:=hf.host (hostAtB c.hosts nm).toNat;have hr:-1≤hostAtB c.hosts nm∧hostAtB c.hosts nm < c.hosts.length:=⟨(firstN_rng _ _).1,(firstN_rng _ _).2.1⟩;have hxl:=hx.labels.len;have hxt:=hx.tlen;have hpn:=hp.nlen;have hpt:=hp.tlen;have hpc:=hp.cpu.2;have hpm:=hp.mem.2;have hnv:=fun k=>(hp.need k).len;unfold ClusterD.d podCells
  have ex0:=@hostCells.eq_1
  refine sp_ (rs:= [.tmp 6]) (nt:=70) Tryz.func419 rfl fun X hX=>?_
  refine nm_ ?_
  repeat' ((first|contradiction|(with_reducible exact tt_)|((with_reducible show Wk (AwStepF _ _ _ _ _ _ _));first|(refine cl_ rfl _ _ (impl_HostAt_D c nm (by omega)) rfl rfl ?_;rintro _ rfl)|(refine cl_ rfl _ _ (impl_UsedOn_D c nm hf) rfl rfl ?_;rintro _ rfl)|(refine cl_ rfl _ _ (impl_Selects_X p.needs (c.hosts.getD (hostAtB c.hosts nm).toNat default).labels hpn hnv (by omega)) rfl rfl ?_;rintro _ rfl)|(refine cl_ rfl _ _ (impl_Untolerated_X p.tolers (c.hosts.getD (hostAtB c.hosts nm).toNat default).taints 1 (by omega) (by omega)) rfl rfl ?_;rintro _ rfl)|(refine cl_ rfl _ _ (impl_fits_X _ p.cpu (c.hosts.getD (hostAtB c.hosts nm).toNat default).cpu (by omega)) rfl rfl ?_;rintro _ rfl)|(refine cl_ rfl _ _ (impl_fits_X _ p.mem (c.hosts.getD (hostAtB c.hosts nm).toNat default).mem (by omega)) rfl rfl ?_;rintro _ rfl))|((with_reducible show Wk (AwStep _ _ _ _ _));first|(refine pln_ ?_))|((with_reducible show Wk (boolK _ _ _ _));first|(refine bk_ (fun h h'=>?_) (fun h h'=>?_)))|((with_reducible show Wk (_∧_));first|(refine and_ ?_ ?_))|fail)<;>(try refine nm_ ?_))
  all_goals clear ex0
  all_goals (refine ⟨?_⟩)
  all_goals first|contradiction|(exfalso;omega)|(unfold reasonN;first|(simp_all [noHost,fitB,usedC,hostC];done)|(simp_all [noHost,fitB,usedC,hostC]<;>omega))
theorem impl_FitsOn_X (c:ClusterD) (nm:ByteArray) (p:PodD) (hf:c.fine) (hp:p.fine):Spec Tryz.prog 402 [c.d,.sc (.string nm),.agg (podCells p)] (fun d=>d = .sc (.bool (reasonN c nm p==0))):=by
  unfold ClusterD.d podCells
  refine sp_ (rs:= [.tmp 6]) (nt:=12) Tryz.func402 rfl fun X hX=>?_
  refine nm_ ?_
  repeat' ((first|contradiction|(with_reducible exact tt_)|((with_reducible show Wk (AwStepF _ _ _ _ _ _ _));first|(refine cl_ rfl _ _ (impl_ReasonOn_X c nm p hf hp) rfl rfl ?_;rintro _ rfl))|((with_reducible show Wk (AwStep _ _ _ _ _));first|(refine pln_ ?_))|((with_reducible show Wk (boolK _ _ _ _));first|(refine bk_ (fun h h'=>?_) (fun h h'=>?_)))|((with_reducible show Wk (_∧_));first|(refine and_ ?_ ?_))|fail)<;>(try refine nm_ ?_))
  all_goals (refine ⟨?_⟩)
  all_goals first|contradiction|(exfalso;omega)|rfl
theorem impl_PackMark_X (c:ClusterD) (nm:ByteArray) (p:PodD) (hf:c.fine) (hp:p.fine):Spec Tryz.prog 404 [c.d,.sc (.string nm),.agg (podCells p)] (fun d=>d = .sc (.int .i64 (packN c nm p))):=by
  have hcl:=hf.hlen;have hx:=hf.host (hostAtB c.hosts nm).toNat;have hr:-1≤hostAtB c.hosts nm∧hostAtB c.hosts nm < c.hosts.length:=⟨(firstN_rng _ _).1,(firstN_rng _ _).2.1⟩;have hxl:=hx.labels.len;have hxt:=hx.tlen;have hpn:=hp.nlen;have hpt:=hp.tlen;have hpc:=hp.cpu.2;have hpm:=hp.mem.2;have hnv:=fun k=>(hp.need k).len;have hxc:=hx.cpu.2;have hxm:=hx.mem.2;have hxs:=hx.slots.2;unfold ClusterD.d podCells
  have ex0:=@hostCells.eq_1
  refine sp_ (rs:= [.tmp 6]) (nt:=53) Tryz.func404 rfl fun X hX=>?_
  refine nm_ ?_
  repeat' ((first|contradiction|(with_reducible exact tt_)|((with_reducible show Wk (AwStepF _ _ _ _ _ _ _));first|(refine cl_ rfl _ _ (impl_HostAt_D c nm (by omega)) rfl rfl ?_;rintro _ rfl)|(refine cl_ rfl _ _ (impl_UsedOn_D c nm hf) rfl rfl ?_;rintro _ rfl)|(refine cl_ rfl _ _ (impl_sumOrMost_X _ p.cpu (by omega)) rfl rfl ?_;rintro _ rfl)|(refine cl_ rfl _ _ (impl_sumOrMost_X _ p.mem (by omega)) rfl rfl ?_;rintro _ rfl)|(refine cl_ rfl _ _ (impl_ShareOf_R _ _ (by omega)) rfl rfl ?_;rintro _ ⟨m,hm,hm0,hm1,rfl⟩))|((with_reducible show Wk (AwStep _ _ _ _ _));first|(refine pln_ ?_))|((with_reducible show Wk (AwCode _ _ _ _ _));first|(refine wo_ (id:=5) [] [(0,true),(1,true),(2,true),(4,true),(5,true),(6,true),(7,true),(8,true),(9,true),(11,true),(12,true),(13,true),(15,true),(16,true),(17,true),(18,true),(19,true),(20,true),(3,false),(10,false),(14,false),(21,false),(22,true),(23,true),(24,true)] ?_))|((with_reducible show Wk (boolK _ _ _ _));first|(refine bk_ (fun h h'=>?_) (fun h h'=>?_)))|((with_reducible show Wk (_∧_));first|(refine and_ ?_ ?_))|fail)<;>(try refine nm_ ?_))
  all_goals clear ex0
  all_goals (refine ⟨?_⟩)
  all_goals first|contradiction|(exfalso;omega)|(rw [tdivP (shareN_rng _ _) (shareN_rng _ _)];unfold packN;first|(simp_all [noHost,usedC,hostC,sumM];done)|(simp_all [noHost,usedC,hostC,sumM]<;>omega))|(unfold packN;first|(simp_all [noHost,usedC,hostC,sumM];done)|(simp_all [noHost,usedC,hostC,sumM]<;>omega))|(exact pack_of (by unfold noHost;first|(simp_all;done)|(simp_all;omega)))
theorem impl_SpreadMark_X (c:ClusterD) (nm:ByteArray) (p:PodD) (hf:c.fine) (hp:p.fine):Spec Tryz.prog 405 [c.d,.sc (.string nm),.agg (podCells p)] (fun d=>d = .sc (.int .i64 (spreadN c nm))):=by
  have hcl:=hf.hlen;have hx:=hf.host (hostAtB c.hosts nm).toNat;have hr:-1≤hostAtB c.hosts nm∧hostAtB c.hosts nm < c.hosts.length:=⟨(firstN_rng _ _).1,(firstN_rng _ _).2.1⟩;have hxl:=hx.labels.len;have hxt:=hx.tlen;have hpn:=hp.nlen;have hpt:=hp.tlen;have hpc:=hp.cpu.2;have hpm:=hp.mem.2;have hnv:=fun k=>(hp.need k).len;have hxc:=hx.cpu.2;have hxm:=hx.mem.2;have hxs:=hx.slots.2;unfold ClusterD.d podCells
  have ex0:=@hostCells.eq_1
  refine sp_ (rs:= [.tmp 6]) (nt:=38) Tryz.func405 rfl fun X hX=>?_
  refine nm_ ?_
  repeat' ((first|contradiction|(with_reducible exact tt_)|((with_reducible show Wk (AwStepF _ _ _ _ _ _ _));first|(refine cl_ rfl _ _ (impl_HostAt_D c nm (by omega)) rfl rfl ?_;rintro _ rfl)|(refine cl_ rfl _ _ (impl_UsedOn_D c nm hf) rfl rfl ?_;rintro _ rfl)|(refine cl_ rfl _ _ (impl_ShareOf_R _ _ (by omega)) rfl rfl ?_;rintro _ ⟨m,hm,hm0,hm1,rfl⟩))|((with_reducible show Wk (AwStep _ _ _ _ _));first|(refine pln_ ?_))|((with_reducible show Wk (boolK _ _ _ _));first|(refine bk_ (fun h h'=>?_) (fun h h'=>?_)))|((with_reducible show Wk (_∧_));first|(refine and_ ?_ ?_))|fail)<;>(try refine nm_ ?_))
  all_goals clear ex0
  all_goals (refine ⟨?_⟩)
  all_goals first|contradiction|(exfalso;omega)|(unfold spreadN;first|(simp_all [noHost,usedC,hostC,sumM];done)|(simp_all [noHost,usedC,hostC,sumM]<;>omega))
theorem impl_SoftMark_X (c:ClusterD) (nm:ByteArray) (p:PodD) (hf:c.fine) (hp:p.fine):Spec Tryz.prog 406 [c.d,.sc (.string nm),.agg (podCells p)] (fun d=>d = .sc (.int .i64 (softN c nm p))):=by
  have hcl:=hf.hlen;have hx:=hf.host (hostAtB c.hosts nm).toNat;have hr:-1≤hostAtB c.hosts nm∧hostAtB c.hosts nm < c.hosts.length:=⟨(firstN_rng _ _).1,(firstN_rng _ _).2.1⟩;have hxl:=hx.labels.len;have hxt:=hx.tlen;have hpn:=hp.nlen;have hpt:=hp.tlen;have hpc:=hp.cpu.2;have hpm:=hp.mem.2;have hnv:=fun k=>(hp.need k).len;unfold ClusterD.d podCells
  have ex0:=@hostCells.eq_1
  refine sp_ (rs:= [.tmp 6]) (nt:=25) Tryz.func406 rfl fun X hX=>?_
  refine nm_ ?_
  repeat' ((first|contradiction|(with_reducible exact tt_)|((with_reducible show Wk (AwStepF _ _ _ _ _ _ _));first|(refine cl_ rfl _ _ (impl_HostAt_D c nm (by omega)) rfl rfl ?_;rintro _ rfl)|(refine cl_ rfl _ _ (impl_Untolerated_X p.tolers (c.hosts.getD (hostAtB c.hosts nm).toNat default).taints 2 (by omega) (by omega)) rfl rfl ?_;rintro _ rfl;(have hur:=untN_rng p.tolers (c.hosts.getD (hostAtB c.hosts nm).toNat default).taints 2 (c.hosts.getD (hostAtB c.hosts nm).toNat default).taints.length))|(refine mx2_ rfl ?_))|((with_reducible show Wk (AwStep _ _ _ _ _));first|(refine pln_ ?_))|((with_reducible show Wk (AwCode _ _ _ _ _));first|(refine wo_ (id:=4) [] [(0,true),(1,true),(2,true),(3,true),(4,true),(5,true),(6,true),(7,true),(8,false),(9,true),(10,true),(11,false),(12,true)] ?_))|((with_reducible show Wk (boolK _ _ _ _));first|(refine bk_ (fun h h'=>?_) (fun h h'=>?_)))|((with_reducible show Wk (_∧_));first|(refine and_ ?_ ?_))|fail)<;>(try refine nm_ ?_))
  all_goals clear ex0
  all_goals (refine ⟨?_⟩)
  all_goals first|contradiction|(exfalso;omega)|(refine resI 0 ?_;(try unfold softN);(try unfold brB);(try unfold hostC);(repeat' split)<;>omega)
theorem impl_MarkOn_X (c:ClusterD) (nm:ByteArray) (p:PodD) (hf:c.fine) (hp:p.fine):Spec Tryz.prog 375 [c.d,.sc (.string nm),.agg (podCells p)] (fun d=>d = .sc (.int .i64 (markN c nm p))):=by
  have h1:=packN_rng c nm p;have h2:=spreadN_rng c nm;have h3:=softN_rng c nm p;have hw1:=@wt_rng c nm p;unfold ClusterD.d podCells
  refine sp_ (rs:= [.tmp 6]) (nt:=36) Tryz.func375 rfl fun X hX=>?_
  refine nm_ ?_
  repeat' ((first|contradiction|(with_reducible exact tt_)|((with_reducible show Wk (AwStepF _ _ _ _ _ _ _));first|(refine cl_ rfl _ _ (impl_WeightsOk_D c.w1 c.w2 c.w3) rfl rfl ?_;rintro _ rfl;(by_cases hwb:(inB c.w1 0 10&&(inB c.w2 0 10&&inB c.w3 0 10))=true;obtain ⟨hq1,hq2,hq3⟩:=hw1 hwb))|(refine cl_ rfl _ _ (impl_PackMark_X c nm p hf hp) rfl rfl ?_;rintro _ rfl)|(refine cl_ rfl _ _ (impl_SpreadMark_X c nm p hf hp) rfl rfl ?_;rintro _ rfl)|(refine cl_ rfl _ _ (impl_SoftMark_X c nm p hf hp) rfl rfl ?_;rintro _ rfl))|((with_reducible show Wk (AwStep _ _ _ _ _));first|(refine pln_ ?_))|((with_reducible show Wk (AwCode _ _ _ _ _));first|(refine wo_ (id:=4) [] [(0,true),(1,true),(2,true),(3,true),(4,true),(7,true),(8,true),(9,true),(10,true),(11,true),(15,true),(16,true),(17,true),(18,true),(19,true),(5,false),(6,true),(12,false),(13,true),(14,true),(20,false),(21,true),(22,true),(23,true)] ?_))|((with_reducible show Wk (boolK _ _ _ _));first|(refine bk_ (fun h h'=>?_) (fun h h'=>?_)))|((with_reducible show Wk (_∧_));first|(refine and_ ?_ ?_))|fail)<;>(try refine nm_ ?_))
  all_goals (refine ⟨?_⟩)
  all_goals first|contradiction|(exfalso;omega)|(unfold markN;first|(rw [if_pos hwb];done)|(rw [if_neg hwb];done)|(simp_all;done))
theorem impl_Feasible_X (c:ClusterD) (p:PodD) (hf:c.fine) (hp:p.fine):SpecH Tryz.prog 372 [c.d,.agg (podCells p)] [] 0 (fun d os' nb'=>d = .own 0 0 (feasL c p c.hosts.length).length∧os' = [(0,⟨9,1,((feasL c p c.hosts.length)).length,strsD ((feasL c p c.hosts.length))⟩)]∧nb' = 1):=by
  have hcl:=hf.hlen;unfold ClusterD.d podCells
  have ex0:=@strs_put
  refine spH_ (rs:= [.tmp 4]) (nt:=28) Tryz.func372 rfl fun X hX=>?_
  refine nm_ ?_
  repeat' ((first|contradiction|(with_reducible exact tt_)|((with_reducible show Wk (AwStepF _ _ _ _ _ _ _));first|(refine cl_ rfl _ _ (impl_FitsOn_X c (c.hosts.getD i default).name p hf hp) rfl rfl ?_;rintro _ rfl)|(refine app_ rfl ?_))|((with_reducible show Wk (AwStep _ _ _ _ _));first|(refine pln_ ?_))|((with_reducible show Wk (AwCode _ _ _ _ _));first|(refine lpK_ (ι:=Nat × List ByteArray) [] [0,1,2] 0x1c2c (fun ⟨i,o⟩=> [(12,.sc (.int .i64 (i:Int))),(5,.own 2 0 o.length)]) (fun ⟨i,o⟩=> [(2,⟨9,1,(o).length,strsD (o)⟩)]) (fun ⟨i,o⟩=>i≤c.hosts.length∧o=feasL c p i) (fun ⟨i,o⟩=>c.hosts.length - i) (0, []) ?_ ?_;(focus (exact ⟨Nat.zero_le _,rfl⟩));rintro _ hN0 ⟨i,o⟩ hinv;(try dsimp only at hinv);obtain ⟨hi,hW⟩:=hinv;have hol:o.length≤i:=(by rw [hW];exact feas_len _ _ _);replace hW:=Lib.hid hW;skip))|((with_reducible show Wk (boolK _ _ _ _));first|(refine bk_ (fun h h'=>?_) (fun h h'=>?_)))|((with_reducible show Wk (_∧_));first|(refine and_ ?_ ?_))|((with_reducible show Wk (retOkH _ _ _ _ _));first|(refine rh_ [2] ?_))|(refine hN0.run ((i+1,o ++ [(c.hosts.getD i default).name])) [] [0,1,5] ?_ ?_;(focus (exact ⟨by show i+1≤c.hosts.length;omega,by show o++_=_;rw [hW.out];exact (feas_go (by omega) (by omega)).symm⟩));(focus (show c.hosts.length - (i+1) < c.hosts.length - i;omega)))|(refine hN0.run ((i+1,o)) [] [0,1,2] ?_ ?_;(focus (exact ⟨by show i+1≤c.hosts.length;omega,by show o=_;rw [hW.out];exact (feas_no (by omega) (by omega)).symm⟩));(focus (show c.hosts.length - (i+1) < c.hosts.length - i;omega)))|fail)<;>(try refine nm_ ?_))
  all_goals clear ex0
  all_goals (refine ⟨?_⟩)
  all_goals first|contradiction|(exfalso;omega)|(have e8:i=c.hosts.length:=(by omega);subst e8;have e9:=hW.out;subst e9;first|rfl|exact ⟨rfl,rfl,rfl⟩|exact ⟨rfl,rfl⟩)
theorem rank1_X (c:ClusterD) (p:PodD) (x y:ByteArray) (hf:c.fine) (hp:p.fine):Spec Tryz.prog 374 [.sc (.string x),.sc (.string y),.cptr [.sl c.hosts.length (hostsD c.hosts),.sl c.pods.length (placedsD c.pods),.sc (.int .i64 c.next),.sc (.int .i64 c.w1),.sc (.int .i64 c.w2),.sc (.int .i64 c.w3)] 0,.cptr (podCells p) 0] (fun d=>∃ k:Int,decide (k < 0)=rkLt c p x y∧d = .sc (.int .i64 k)):=by
  unfold podCells
  refine sp_ (rs:= [.tmp 6]) (nt:=21) Tryz.func374 rfl fun X hX=>?_
  refine nm_ ?_
  repeat' ((first|contradiction|(with_reducible exact tt_)|((with_reducible show Wk (AwStepF _ _ _ _ _ _ _));first|(refine cl_ rfl _ _ (impl_MarkOn_X c y p hf hp) rfl rfl ?_;rintro _ rfl)|(refine cl_ rfl _ _ (impl_MarkOn_X c x p hf hp) rfl rfl ?_;rintro _ rfl)|(refine cl_ rfl _ _ (cmp_Compare_int_D _ _) rfl rfl ?_;rintro _ rfl)|(refine cl_ rfl _ _ (cmp_Compare_string_D _ _) rfl rfl ?_;rintro _ rfl)|(refine afz_ [0] ?_;refine nm_ ?_;refine cl_ rfl _ _ (cmp_Or_int_D [_,_] (by simp)) rfl rfl ?_;rintro _ rfl))|((with_reducible show Wk (AwStep _ _ _ _ _));first|(refine pln_ ?_))|((with_reducible show Wk (AwCode _ _ _ _ _));first|(refine wo_ (id:=1) [] [(0,true),(1,true),(2,true),(4,true),(5,true),(6,true),(9,true),(10,true),(3,false),(7,false),(8,false),(11,false),(12,false),(13,false),(14,true)] ?_))|((with_reducible show Wk (boolK _ _ _ _));first|(refine bk_ (fun h h'=>?_) (fun h h'=>?_)))|((with_reducible show Wk (_∧_));first|(refine and_ ?_ ?_))|fail)<;>(try refine nm_ ?_))
  all_goals (refine ⟨?_⟩)
  all_goals first|contradiction|(exfalso;omega)|(exact ⟨_,rk_cmp,rfl⟩)
theorem ins_s_X (c:ClusterD) (p:PodD) (hf:c.fine) (hp:p.fine) (ws:List ByteArray) (hl:ws.length≤19):SpecH Tryz.prog 420 [.own 0 0 ws.length,.sc (.int .i64 0),.sc (.int .i64 (ws.length:Int)),.fn 374 [.cptr [.sl c.hosts.length (hostsD c.hosts),.sl c.pods.length (placedsD c.pods),.sc (.int .i64 c.next),.sc (.int .i64 c.w1),.sc (.int .i64 c.w2),.sc (.int .i64 c.w3)] 0,.cptr (podCells p) 0]] [(0,⟨9,1,ws.length,strsD ws⟩)] 1 (fun d os' nb'=>∃ L,Srt (rkLt c p) L∧L.Perm ws∧d = .tup []∧os' = [(0,⟨9,1,ws.length,strsD L⟩)]∧nb' = 1):=by
  have ex0:=@strs_set1;have ex1:=@len_setS
  refine spH_ (rs:= []) (nt:=53) Tryz.func420 rfl fun X hX=>?_
  refine nm_ ?_
  repeat' ((first|contradiction|(with_reducible exact tt_)|((with_reducible show Wk (AwStepF _ _ _ _ _ _ _));first|(refine clC_ rfl rfl _ _ (rank1_X c p (L2.getD j default) (L2.getD (j - 1) default) hf hp) rfl rfl rfl ?_;rintro _ ⟨k,hk,rfl⟩))|((with_reducible show Wk (AwStep _ _ _ _ _));first|(refine pln_ ?_))|((with_reducible show Wk (AwCode _ _ _ _ _));first|(refine wo_ (id:=4) [] [(0,true),(1,true),(2,true),(3,true),(4,true),(5,true),(6,true),(7,true),(8,true),(9,true),(10,true),(11,true),(12,true),(13,true),(14,false),(15,true),(16,true)] ?_)|(refine wtr_ (id:=6) [0] (.early 0 (.early 1 (.early 2 (.early 3 (.early 4 (.early 5 (.early 6 (.early 7 (.early 8 (.early 10 (.early 11 (.early 12 (.two 9 (.one 13 (.early 14 (.one 15 (.early 16 (.one 17 .done))))) 13 (.one 9 (.early 14 (.one 15 (.early 16 (.one 17 .done)))))))))))))))))) ?_)|((with_reducible show Wk (AwCode _ _ (.loop (.seq (.seq (.region 4 _ _) _) _)) _ _));refine lpK_ (ι:=Nat × List ByteArray) [] [0] 0x30f (fun ⟨j,L2⟩=> [(9,.sc (.int .i64 (j:Int)))]) (fun ⟨j,L2⟩=> [(0,⟨9,1,ws.length,strsD L2⟩)]) (fun ⟨j,L2⟩=>InsI (rkLt c p) ws L2 i j) (fun ⟨j,L2⟩=>j) (i,L) ?_ ?_;(focus (exact isr_new hS.out (by omega)));rintro _ hN1 ⟨j,L2⟩ hinv;(try dsimp only at hinv);have hI:InsI (rkLt c p) ws L2 i j:=hinv;clear hinv;obtain ⟨hj1,hj2,hj3⟩:=hI.at_ (by omega);replace hI:=Lib.hid hI;skip)|((with_reducible show Wk (AwCode _ _ (.loop (.seq (.seq (.region 1 _ _) _) _)) _ _));refine lpK_ (ι:=Nat × List ByteArray) [] [0] 0x10f (fun ⟨i,L⟩=> [(8,.sc (.int .i64 (i:Int)))]) (fun ⟨i,L⟩=> [(0,⟨9,1,ws.length,strsD L⟩)]) (fun ⟨i,L⟩=>1≤i∧PreS (rkLt c p) ws L i) (fun ⟨i,L⟩=>ws.length - i) (1,ws) ?_ ?_;(focus (exact ⟨Nat.le_refl _,pre_one⟩));rintro _ hN0 ⟨i,L⟩ hinv;(try dsimp only at hinv);obtain ⟨hi,hS⟩:=hinv;have hLl:=hS.perm.length_eq;replace hS:=Lib.hid hS;skip))|((with_reducible show Wk (boolK _ _ _ _));first|(refine bk_ (fun h h'=>?_) (fun h h'=>?_)))|((with_reducible show Wk (_∧_));first|(refine and_ ?_ ?_))|((with_reducible show Wk (retOkH _ _ _ _ _));first|(refine rh_ [] ?_))|(refine hN1.run ((j - 1,(L2.set j (L2.getD (j - 1) default)).set (j - 1) (L2.getD j default))) [] [0] ?_ ?_;(focus (exact isr_go hI.out (by omega) (by first|assumption|(simp_all;done))));(focus (show j - 1 < j;omega)))|(refine hN0.run ((i+1,L2)) [] [0] ?_ ?_;(focus (exact ⟨by show 1≤i+1;omega,isr_end (j:=j) (rk_sto c p) hI.out (by first|exact .inl (by omega)|exact .inr (by assumption)|exact .inr (by simp_all))⟩));(focus (show ws.length - (i+1) < ws.length - i;omega)))|fail)<;>(try refine nm_ ?_))
  all_goals clear ex0 ex1
  all_goals (refine ⟨?_⟩)
  all_goals first|contradiction|(exfalso;omega)|(have e9:=pre_all hS.out (by omega);first|exact ⟨L,e9.1,e9.2,rfl,rfl,rfl⟩|exact ⟨L,e9.1,e9.2,rfl,rfl⟩|exact ⟨L,e9.1,e9.2,rfl⟩)
theorem stable_s_X (c:ClusterD) (p:PodD) (hf:c.fine) (hp:p.fine) (ws:List ByteArray) (hl:ws.length≤19):SpecH Tryz.prog 403 [.own 0 0 ws.length,.sc (.int .i64 (ws.length:Int)),.fn 374 [.cptr [.sl c.hosts.length (hostsD c.hosts),.sl c.pods.length (placedsD c.pods),.sc (.int .i64 c.next),.sc (.int .i64 c.w1),.sc (.int .i64 c.w2),.sc (.int .i64 c.w3)] 0,.cptr (podCells p) 0]] [(0,⟨9,1,ws.length,strsD ws⟩)] 1 (fun d os' nb'=>∃ L,Srt (rkLt c p) L∧L.Perm ws∧d = .tup []∧os' = [(0,⟨9,1,ws.length,strsD L⟩)]∧nb' = 1):=by
  refine spH_ (rs:= []) (nt:=63) Tryz.func403 rfl fun X hX=>?_
  refine nm_ ?_
  repeat' ((first|contradiction|(with_reducible exact tt_)|((with_reducible show Wk (AwStepF _ _ _ _ _ _ _));first|(refine awH_ rfl (ins_s_X c p hf hp ws hl) [0] ?_;rintro _ _ _ ⟨L,hs,hpm,rfl,rfl,rfl⟩ _;(have hLl:=hpm.length_eq)))|((with_reducible show Wk (AwStep _ _ _ _ _));first|(refine pln_ ?_))|((with_reducible show Wk (AwCode _ _ _ _ _));first|((with_reducible show Wk (AwCode _ _ (.loop (.seq (.seq (.region 7 _ _) _) _)) _ _));refine lpK_ (ι:=Unit) [] [0] 0x47 (fun _=> [(6,.sc (.int .i64 20))]) (fun _=> []) (fun _=>True) (fun _=>0) () ?_ ?_;(focus (trivial));rintro _ hN1 _ hinv;(try dsimp only at hinv);skip)|((with_reducible show Wk (AwCode _ _ (.loop (.seq (.seq (.region 2 _ _) _) _)) _ _));refine lpK_ (ι:=Unit) [] [0] 0x1c7 (fun _=> [(7,.sc (.int .i64 0)),(8,.sc (.int .i64 20))]) (fun _=> []) (fun _=>True) (fun _=>0) () ?_ ?_;(focus (trivial));rintro _ hN0 _ hinv;(try dsimp only at hinv);skip))|((with_reducible show Wk (boolK _ _ _ _));first|(refine bk_ (fun h h'=>?_) (fun h h'=>?_)))|((with_reducible show Wk (_∧_));first|(refine and_ ?_ ?_))|((with_reducible show Wk (retOkH _ _ _ _ _));first|(refine rh_ [] ?_))|fail)<;>(try refine nm_ ?_))
  all_goals (refine ⟨?_⟩)
  all_goals first|contradiction|(exfalso;omega)|(first|exact ⟨L,hs,hpm,rfl,rfl,rfl⟩|exact ⟨L,hs,hpm,rfl,rfl⟩|exact ⟨L,hs,hpm,rfl⟩)
theorem sort_s_X (c:ClusterD) (p:PodD) (hf:c.fine) (hp:p.fine) (ws:List ByteArray) (hl:ws.length≤19):SpecH Tryz.prog 373 [.own 0 0 ws.length,.fn 374 [.cptr [.sl c.hosts.length (hostsD c.hosts),.sl c.pods.length (placedsD c.pods),.sc (.int .i64 c.next),.sc (.int .i64 c.w1),.sc (.int .i64 c.w2),.sc (.int .i64 c.w3)] 0,.cptr (podCells p) 0]] [(0,⟨9,1,ws.length,strsD ws⟩)] 1 (fun d os' nb'=>∃ L,Srt (rkLt c p) L∧L.Perm ws∧d = .tup []∧os' = [(0,⟨9,1,ws.length,strsD L⟩)]∧nb' = 1):=by
  refine spH_ (rs:= []) (nt:=9) Tryz.func373 rfl fun X hX=>?_
  refine nm_ ?_
  repeat' ((first|contradiction|(with_reducible exact tt_)|((with_reducible show Wk (AwStepF _ _ _ _ _ _ _));first|(refine awH_ rfl (stable_s_X c p hf hp ws hl) [0] ?_;rintro _ _ _ ⟨L,hs,hpm,rfl,rfl,rfl⟩ _))|((with_reducible show Wk (AwStep _ _ _ _ _));first|(refine pln_ ?_))|((with_reducible show Wk (boolK _ _ _ _));first|(refine bk_ (fun h h'=>?_) (fun h h'=>?_)))|((with_reducible show Wk (_∧_));first|(refine and_ ?_ ?_))|((with_reducible show Wk (retOkH _ _ _ _ _));first|(refine rh_ [] ?_))|fail)<;>(try refine nm_ ?_))
  all_goals (refine ⟨?_⟩)
  all_goals first|contradiction|(exfalso;omega)|(first|exact ⟨L,hs,hpm,rfl,rfl,rfl⟩|exact ⟨L,hs,hpm,rfl,rfl⟩|exact ⟨L,hs,hpm,rfl⟩)
theorem wait1_X (x y:PlacedD):Spec Tryz.prog 219 [.agg (placedCells x),.agg (placedCells y)] (fun d=>∃ k:Int,decide (k < 0)=wtLt x y∧d = .sc (.int .i64 k)):=by
  unfold placedCells
  refine sp_ (rs:= [.tmp 4]) (nt:=19) Tryz.func219 rfl fun X hX=>?_
  refine nm_ ?_
  repeat' ((first|contradiction|(with_reducible exact tt_)|((with_reducible show Wk (AwStepF _ _ _ _ _ _ _));first|(refine cl_ rfl _ _ (cmp_Compare_int_D _ _) rfl rfl ?_;rintro _ rfl)|(refine afz_ [2] ?_;refine nm_ ?_;refine cl_ rfl _ _ (cmp_Or_int_D [_,_] (by simp)) rfl rfl ?_;rintro _ rfl))|((with_reducible show Wk (AwStep _ _ _ _ _));first|(refine pln_ ?_))|((with_reducible show Wk (AwCode _ _ _ _ _));first|(refine wo_ (id:=1) [] [(0,true),(1,true),(2,true),(3,true),(4,true),(5,true),(7,true),(8,true),(9,true),(10,true),(6,false),(11,false),(12,false),(13,false),(14,true)] ?_))|((with_reducible show Wk (boolK _ _ _ _));first|(refine bk_ (fun h h'=>?_) (fun h h'=>?_)))|((with_reducible show Wk (_∧_));first|(refine and_ ?_ ?_))|fail)<;>(try refine nm_ ?_))
  all_goals (refine ⟨?_⟩)
  all_goals first|contradiction|(exfalso;omega)|(exact ⟨_,wt_cmp,rfl⟩)
theorem ins_p_X (ws:List PlacedD) (hl:ws.length≤19):SpecH Tryz.prog 370 [.own 0 0 ws.length,.sc (.int .i64 0),.sc (.int .i64 (ws.length:Int)),.fn 219 []] [(0,⟨125,9,ws.length,placedsD ws⟩)] 1 (fun d os' nb'=>∃ L,Srt wtLt L∧L.Perm ws∧d = .tup []∧os' = [(0,⟨125,9,ws.length,placedsD L⟩)]∧nb' = 1):=by
  have ex0:=@placeds_set9;have ex1:=@placedCells.eq_1;have ex2:=@len_setP
  refine spH_ (rs:= []) (nt:=53) Tryz.func370 rfl fun X hX=>?_
  refine nm_ ?_
  repeat' ((first|contradiction|(with_reducible exact tt_)|((with_reducible show Wk (AwStepF _ _ _ _ _ _ _));first|(refine clC_ rfl rfl _ _ (wait1_X (L2.getD j default) (L2.getD (j - 1) default)) rfl rfl rfl ?_;rintro _ ⟨k,hk,rfl⟩))|((with_reducible show Wk (AwStep _ _ _ _ _));first|(refine pln_ ?_))|((with_reducible show Wk (AwCode _ _ _ _ _));first|(refine wo_ (id:=4) [] [(0,true),(1,true),(2,true),(3,true),(4,true),(5,true),(6,true),(7,true),(8,true),(9,true),(10,true),(11,true),(12,true),(13,true),(14,false),(15,true),(16,true)] ?_)|(refine wtr_ (id:=6) [0] (.early 0 (.early 1 (.early 2 (.early 3 (.early 4 (.early 5 (.early 6 (.early 7 (.early 8 (.early 10 (.early 11 (.early 12 (.two 9 (.one 13 (.early 14 (.one 15 (.early 16 (.one 17 .done))))) 13 (.one 9 (.early 14 (.one 15 (.early 16 (.one 17 .done)))))))))))))))))) ?_)|((with_reducible show Wk (AwCode _ _ (.loop (.seq (.seq (.region 4 _ _) _) _)) _ _));refine lpK_ (ι:=Nat × List PlacedD) [] [0] 0x30f (fun ⟨j,L2⟩=> [(9,.sc (.int .i64 (j:Int)))]) (fun ⟨j,L2⟩=> [(0,⟨125,9,ws.length,placedsD L2⟩)]) (fun ⟨j,L2⟩=>InsI wtLt ws L2 i j) (fun ⟨j,L2⟩=>j) (i,L) ?_ ?_;(focus (exact isr_new hS.out (by omega)));rintro _ hN1 ⟨j,L2⟩ hinv;(try dsimp only at hinv);have hI:InsI wtLt ws L2 i j:=hinv;clear hinv;obtain ⟨hj1,hj2,hj3⟩:=hI.at_ (by omega);replace hI:=Lib.hid hI;skip)|((with_reducible show Wk (AwCode _ _ (.loop (.seq (.seq (.region 1 _ _) _) _)) _ _));refine lpK_ (ι:=Nat × List PlacedD) [] [0] 0x10f (fun ⟨i,L⟩=> [(8,.sc (.int .i64 (i:Int)))]) (fun ⟨i,L⟩=> [(0,⟨125,9,ws.length,placedsD L⟩)]) (fun ⟨i,L⟩=>1≤i∧PreS wtLt ws L i) (fun ⟨i,L⟩=>ws.length - i) (1,ws) ?_ ?_;(focus (exact ⟨Nat.le_refl _,pre_one⟩));rintro _ hN0 ⟨i,L⟩ hinv;(try dsimp only at hinv);obtain ⟨hi,hS⟩:=hinv;have hLl:=hS.perm.length_eq;replace hS:=Lib.hid hS;skip))|((with_reducible show Wk (boolK _ _ _ _));first|(refine bk_ (fun h h'=>?_) (fun h h'=>?_)))|((with_reducible show Wk (_∧_));first|(refine and_ ?_ ?_))|((with_reducible show Wk (retOkH _ _ _ _ _));first|(refine rh_ [] ?_))|(refine hN1.run ((j - 1,(L2.set j (L2.getD (j - 1) default)).set (j - 1) (L2.getD j default))) [] [0] ?_ ?_;(focus (exact isr_go hI.out (by omega) (by first|assumption|(simp_all;done))));(focus (show j - 1 < j;omega)))|(refine hN0.run ((i+1,L2)) [] [0] ?_ ?_;(focus (exact ⟨by show 1≤i+1;omega,isr_end (j:=j) wt_sto hI.out (by first|exact .inl (by omega)|exact .inr (by assumption)|exact .inr (by simp_all))⟩));(focus (show ws.length - (i+1) < ws.length - i;omega)))|fail)<;>(try refine nm_ ?_))
  all_goals clear ex0 ex1 ex2
  all_goals (refine ⟨?_⟩)
  all_goals first|contradiction|(exfalso;omega)|(have e9:=pre_all hS.out (by omega);first|exact ⟨L,e9.1,e9.2,rfl,rfl,rfl⟩|exact ⟨L,e9.1,e9.2,rfl,rfl⟩|exact ⟨L,e9.1,e9.2,rfl⟩)
theorem stable_p_X (ws:List PlacedD) (hl:ws.length≤19):SpecH Tryz.prog 301 [.own 0 0 ws.length,.sc (.int .i64 (ws.length:Int)),.fn 219 []] [(0,⟨125,9,ws.length,placedsD ws⟩)] 1 (fun d os' nb'=>∃ L,Srt wtLt L∧L.Perm ws∧d = .tup []∧os' = [(0,⟨125,9,ws.length,placedsD L⟩)]∧nb' = 1):=by
  refine spH_ (rs:= []) (nt:=63) Tryz.func301 rfl fun X hX=>?_
  refine nm_ ?_
  repeat' ((first|contradiction|(with_reducible exact tt_)|((with_reducible show Wk (AwStepF _ _ _ _ _ _ _));first|(refine awH_ rfl (ins_p_X ws hl) [0] ?_;rintro _ _ _ ⟨L,hs,hpm,rfl,rfl,rfl⟩ _;(have hLl:=hpm.length_eq)))|((with_reducible show Wk (AwStep _ _ _ _ _));first|(refine pln_ ?_))|((with_reducible show Wk (AwCode _ _ _ _ _));first|((with_reducible show Wk (AwCode _ _ (.loop (.seq (.seq (.region 7 _ _) _) _)) _ _));refine lpK_ (ι:=Unit) [] [0] 0x47 (fun _=> [(6,.sc (.int .i64 20))]) (fun _=> []) (fun _=>True) (fun _=>0) () ?_ ?_;(focus (trivial));rintro _ hN1 _ hinv;(try dsimp only at hinv);skip)|((with_reducible show Wk (AwCode _ _ (.loop (.seq (.seq (.region 2 _ _) _) _)) _ _));refine lpK_ (ι:=Unit) [] [0] 0x1c7 (fun _=> [(7,.sc (.int .i64 0)),(8,.sc (.int .i64 20))]) (fun _=> []) (fun _=>True) (fun _=>0) () ?_ ?_;(focus (trivial));rintro _ hN0 _ hinv;(try dsimp only at hinv);skip))|((with_reducible show Wk (boolK _ _ _ _));first|(refine bk_ (fun h h'=>?_) (fun h h'=>?_)))|((with_reducible show Wk (_∧_));first|(refine and_ ?_ ?_))|((with_reducible show Wk (retOkH _ _ _ _ _));first|(refine rh_ [] ?_))|fail)<;>(try refine nm_ ?_))
  all_goals (refine ⟨?_⟩)
  all_goals first|contradiction|(exfalso;omega)|(first|exact ⟨L,hs,hpm,rfl,rfl,rfl⟩|exact ⟨L,hs,hpm,rfl,rfl⟩|exact ⟨L,hs,hpm,rfl⟩)
theorem sort_p_X (ws:List PlacedD) (hl:ws.length≤19):SpecH Tryz.prog 218 [.own 0 0 ws.length,.fn 219 []] [(0,⟨125,9,ws.length,placedsD ws⟩)] 1 (fun d os' nb'=>∃ L,Srt wtLt L∧L.Perm ws∧d = .tup []∧os' = [(0,⟨125,9,ws.length,placedsD L⟩)]∧nb' = 1):=by
  refine spH_ (rs:= []) (nt:=9) Tryz.func218 rfl fun X hX=>?_
  refine nm_ ?_
  repeat' ((first|contradiction|(with_reducible exact tt_)|((with_reducible show Wk (AwStepF _ _ _ _ _ _ _));first|(refine awH_ rfl (stable_p_X ws hl) [0] ?_;rintro _ _ _ ⟨L,hs,hpm,rfl,rfl,rfl⟩ _))|((with_reducible show Wk (AwStep _ _ _ _ _));first|(refine pln_ ?_))|((with_reducible show Wk (boolK _ _ _ _));first|(refine bk_ (fun h h'=>?_) (fun h h'=>?_)))|((with_reducible show Wk (_∧_));first|(refine and_ ?_ ?_))|((with_reducible show Wk (retOkH _ _ _ _ _));first|(refine rh_ [] ?_))|fail)<;>(try refine nm_ ?_))
  all_goals (refine ⟨?_⟩)
  all_goals first|contradiction|(exfalso;omega)|(first|exact ⟨L,hs,hpm,rfl,rfl,rfl⟩|exact ⟨L,hs,hpm,rfl,rfl⟩|exact ⟨L,hs,hpm,rfl⟩)
end Go.Proofs.YtgoeccemfgniiaaGreat
