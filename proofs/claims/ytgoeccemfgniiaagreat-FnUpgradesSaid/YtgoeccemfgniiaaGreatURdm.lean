/- Rdm (what is wanted of them). -/
import Derived.Test.YtgoeccemfgniiaaGreatUSnx
namespace Go.Proofs.YtgoeccemfgniiaaGreat
open Go.RowKit
def varGo (s:ByteArray) (p:Nat):Nat→Nat→Int→Int × Int
  |0,_,_=>(0,-1)
  |f+1,i,n=>if p+i < s.size then (if bytB s (p+i) < 128 then (if 0 < i∧bytB s (p+i)=0 then (0,-1) else (n+bytB s (p+i) % 128*128 ^ i,(p:Int)+i+1)) else varGo s p f (i+1) (n+bytB s (p+i) % 128*128 ^ i)) else (0,-1)
def readV (s:ByteArray) (p:Int):Int × Int:=if p < 0 then (0,-1) else varGo s p.toNat 9 0 0
theorem bytB_rng (s:ByteArray) (k:Nat):0≤bytB s k∧bytB s k≤255:=by
  unfold bytB
  have:=(s.data.getD k 0).toNat_lt
  omega
theorem varGo_rng (s:ByteArray) (p:Nat):∀ (f i:Nat) (n:Int),0≤n→((varGo s p f i n).2=-1∧(varGo s p f i n).1=0)∨(0≤(varGo s p f i n).1∧0 < (varGo s p f i n).2∧(varGo s p f i n).2≤s.size)
  |0,_,_,_=>.inl ⟨rfl,rfl⟩
  |f+1,i,n,h=>by
    have h2:0≤n+bytB s (p+i) % 128*128 ^ i:=by
      have h3:(0:Int)≤bytB s (p+i) % 128:=Int.emod_nonneg _ (by decide)
      have h4:(0:Int)≤128 ^ i:=Int.pow_nonneg (by decide)
      have:=Int.mul_nonneg h3 h4
      omega
    rw [varGo]
    split
    · split
      · split
        · exact .inl ⟨rfl,rfl⟩
        · right
          refine ⟨h2,?_,?_⟩<;>simp only<;>omega
      · exact varGo_rng s p f (i+1) _ h2
    · exact .inl ⟨rfl,rfl⟩
theorem readV_rng (s:ByteArray) (p:Int):((readV s p).2=-1∧(readV s p).1=0)∨(0≤(readV s p).1∧0 < (readV s p).2∧(readV s p).2≤s.size):=by
  unfold readV
  split
  · exact .inl ⟨rfl,rfl⟩
  · exact varGo_rng s _ 9 0 0 (Int.le_refl _)
theorem pow_small {i:Nat} (h:i≤9):(128:Int) ^ i≤9223372036854775808:=by
  have h1:(128:Int) ^ i≤128 ^ 9:=by
    have:=Nat.pow_le_pow_right (n:=128) (by decide) h
    exact_mod_cast this
  exact Int.le_trans h1 (by decide)
/-- A step keeps below the next power. -/
theorem var_lt {n x:Int}{i:Nat} (h0:0≤n) (h:n < 128 ^ i):0≤n+x % 128*128 ^ i∧n+x % 128*128 ^ i < 128 ^ (i+1):=by
  have h3:(0:Int)≤x % 128:=Int.emod_nonneg _ (by decide)
  have h4:x % 128 < (128:Int):=Int.emod_lt_of_pos _ (by decide)
  have h5:(0:Int)≤128 ^ i:=Int.pow_nonneg (by decide)
  have h6:x % 128*128 ^ i≤127*128 ^ i:=Int.mul_le_mul_of_nonneg_right (by omega) h5
  have h7:=Int.mul_nonneg h3 h5
  have h8:(128:Int) ^ (i+1)=128*128 ^ i:=by rw [Int.pow_succ,Int.mul_comm]
  omega
theorem var_max {n x:Int}{i:Nat} (h0:0≤n) (h:n < 128 ^ i) (hi:i≤8):n+x % 128*128 ^ i≤9223372036854775807∧0≤x % 128*128 ^ i∧x % 128*128 ^ i≤9223372036854775807:=by
  have h1:=var_lt (x:=x) h0 h
  have h2:=pow_small (i:=i+1) (by omega)
  have h3:(0:Int)≤x % 128:=Int.emod_nonneg _ (by decide)
  have h5:(0:Int)≤128 ^ i:=Int.pow_nonneg (by decide)
  have h7:=Int.mul_nonneg h3 h5
  omega
theorem shl7 (x:Int) (i:Nat) (hx:0≤x) (h2:x≤127) (hi:i≤8):bitI .shl .i64 x (7*(i:Int))=x*128 ^ i:=by
  delta bitI
  show IntKind.i64.wrap (x*2 ^ (min (7*(i:Int)).toNat IntKind.i64.bits))=_
  have e:min (7*(i:Int)).toNat IntKind.i64.bits=7*i:=by
    show min (7*(i:Int)).toNat 64=7*i
    omega
  rw [e,show (2:Int) ^ (7*i)=128 ^ i by rw [Int.pow_mul,show (2:Int) ^ 7=128 by decide]]
  have h5:(0:Int)≤128 ^ i:=Int.pow_nonneg (by decide)
  have h6:x*128 ^ i≤127*128 ^ i:=Int.mul_le_mul_of_nonneg_right h2 h5
  have h7:=Int.mul_nonneg hx h5
  have h8:(128:Int) ^ i≤128 ^ 8:=by
    have:=Nat.pow_le_pow_right (n:=128) (by decide) hi
    exact_mod_cast this
  have h9:(128:Int) ^ 8=72057594037927936:=by decide
  exact wrap_in _ (by omega)
theorem and7 (x:Int) (h:0≤x∧x≤255):bitI .and .i64 x 127=x % 128:=by
  have key:∀ n:Fin 256,bitI .and .i64 (n.val:Int) 127=(n.val:Int) % 128:=by
    delta bitI
    decide +kernel
  have:=key ⟨x.toNat,by omega⟩
  simp only [Int.toNat_of_nonneg h.1] at this
  exact this
theorem orAdd (n m:Int) (i:Nat) (hn:0≤n) (hn2:n < 128 ^ i) (hm:0≤m) (hm2:m≤127) (hi:i≤8):bitI .or .i64 n (m*128 ^ i)=n+m*128 ^ i:=by
  obtain ⟨a,rfl⟩:=Int.eq_ofNat_of_zero_le hn
  obtain ⟨b,rfl⟩:=Int.eq_ofNat_of_zero_le hm
  have e:((b:Int)*128 ^ i)=((b*128 ^ i:Nat):Int):=by rw [Int.natCast_mul,Int.natCast_pow];rfl
  have h1:a < 128 ^ i:=by exact_mod_cast hn2
  have h2:b≤127:=by omega
  have h3:b*128 ^ i≤127*128 ^ i:=Nat.mul_le_mul_right _ h2
  have h4:128 ^ i≤128 ^ 8:=Nat.pow_le_pow_right (by decide) hi
  have h5:(128:Nat) ^ 8=72057594037927936:=by decide
  have h6:(128:Nat) ^ i=2 ^ (7*i):=by rw [Nat.pow_mul]
  have h7:a|||(b*128 ^ i)=b*128 ^ i+a:=by
    rw [h6,← Nat.shiftLeft_eq,Nat.shiftLeft_add_eq_or_of_lt (by rw [← h6];exact h1),Nat.or_comm]
  rw [e]
  delta bitI
  show IntKind.i64.wrap (((BitVec.ofInt 64 (a:Int)|||BitVec.ofInt 64 ((b*128 ^ i:Nat):Int)).toNat:Nat):Int)=_
  rw [BitVec.ofInt_natCast,BitVec.ofInt_natCast,BitVec.toNat_or,BitVec.toNat_ofNat,BitVec.toNat_ofNat,Nat.mod_eq_of_lt (by omega),Nat.mod_eq_of_lt (by omega),h7]
  rw [wrap_in _ (by omega)]
  push_cast
  omega
theorem wrap64 (m:Int) (h:0≤m∧m≤9223372036854775807):IntKind.u64.wrap m=m:=by
  simp [IntKind.wrap,IntKind.signed,IntKind.bits]
  omega
theorem readV_neg {s:ByteArray}{p:Int} (h:p < 0):readV s p=(0,-1):=by unfold readV;exact if_pos h
theorem readV_pos {s:ByteArray}{p:Int} (h:0≤p):varGo s p.toNat (9 - 0) 0 0=readV s p:=by unfold readV;exact (if_neg (by omega)).symm
theorem varGo_end {s:ByteArray}{p i:Nat}{n:Int} (h:¬ p+i < s.size∨9≤i):varGo s p (9 - i) i n=(0,-1):=by
  by_cases hi:9≤i
  · rw [show 9 - i=0 by omega];rfl
  · rw [show 9 - i=(8 - i)+1 by omega,varGo,if_neg (by omega)]
theorem readV_out {s:ByteArray}{p:Int} (h:(s.size:Int) - 1 < p):readV s p=(0,-1):=by
  by_cases h0:p < 0
  · exact readV_neg h0
  · rw [← readV_pos (by omega)];exact varGo_end (.inl (by omega))
theorem varGo_zero {s:ByteArray}{p i:Nat}{n:Int} (hi:i≤8) (h:p+i < s.size) (h2:0 < i) (h3:bytB s (p+i)=0):varGo s p (9 - i) i n=(0,-1):=by
  rw [show 9 - i=(8 - i)+1 by omega,varGo,if_pos h,if_pos (by omega),if_pos ⟨h2,h3⟩]
theorem varGo_hit {s:ByteArray}{p i:Nat}{n:Int} (hi:i≤8) (h:p+i < s.size) (h2:bytB s (p+i) < 128) (h3:¬ (0 < i∧bytB s (p+i)=0)):varGo s p (9 - i) i n=(n+bytB s (p+i) % 128*128 ^ i,(p:Int)+i+1):=by
  rw [show 9 - i=(8 - i)+1 by omega,varGo,if_pos h,if_pos h2,if_neg h3]
theorem varGo_next {s:ByteArray}{p i:Nat}{n:Int} (hi:i≤8) (h:p+i < s.size) (h2:¬ bytB s (p+i) < 128):varGo s p (9 - (i+1)) (i+1) (n+bytB s (p+i) % 128*128 ^ i)=varGo s p (9 - i) i n:=by
  rw [show 9 - i=(9 - (i+1))+1 by omega,varGo,if_pos h,if_neg h2]
theorem readV_bad {s:ByteArray}{p:Int} (h:p < 0∨(s.size:Int) - 1 < p):readV s p=(0,-1):=h.elim readV_neg readV_out
theorem varGo_hitI {s:ByteArray}{p:Int}{i:Nat}{n:Int} (h0:0≤p) (hi:i≤8) (h:p+i < s.size) (h2:bytB s (p.toNat+i) < 128) (h3:¬ (0 < i∧bytB s (p.toNat+i)=0)):varGo s p.toNat (9 - i) i n=(n+bytB s (p.toNat+i) % 128*128 ^ i,p+i+1):=by
  rw [varGo_hit hi (by omega) h2 h3,Int.toNat_of_nonneg h0]
/-- Text with its length ahead. -/
def readS (s:ByteArray) (p:Int):ByteArray × Int:=if (readV s p).2 < 0∨(s.size:Int) - (readV s p).2 < (readV s p).1 then (⟨#[]⟩,-1) else (s.extract (readV s p).2.toNat ((readV s p).2+(readV s p).1).toNat,(readV s p).2+(readV s p).1)
theorem readS_rng (s:ByteArray) (p:Int):(readS s p).2=-1∨(0≤(readS s p).2∧(readS s p).2≤s.size):=by
  have:=readV_rng s p
  unfold readS
  split
  · exact .inl rfl
  · right
    simp only
    omega
theorem varGo_gt (s:ByteArray) (p:Nat):∀ (f i:Nat) (n:Int),(varGo s p f i n).2=-1∨(p:Int) < (varGo s p f i n).2
  |0,_,_=>.inl rfl
  |f+1,i,n=>by
    rw [varGo]
    split
    · split
      · split
        · exact .inl rfl
        · right
          show (p:Int) < p+i+1
          omega
      · exact varGo_gt s p f (i+1) _
    · exact .inl rfl
theorem varGo_max (s:ByteArray) (p:Nat):∀ (f i:Nat) (n:Int),i+f≤9→0≤n→n < 128 ^ i→(varGo s p f i n).1≤9223372036854775807
  |0,_,_,_,_,_=>by show (0:Int)≤_;omega
  |f+1,i,n,hf,h0,h=>by
    have h1:=var_lt (x:=bytB s (p+i)) h0 h
    have h2:=var_max (x:=bytB s (p+i)) h0 h (by omega)
    rw [varGo]
    split
    · split
      · split
        · show (0:Int)≤_;omega
        · exact h2.1
      · exact varGo_max s p f (i+1) _ (by omega) h1.1 h1.2
    · show (0:Int)≤_;omega
theorem readV_max (s:ByteArray) (p:Int):(readV s p).1≤9223372036854775807:=by
  unfold readV
  split
  · show (0:Int)≤_;omega
  · exact varGo_max s _ 9 0 0 (by decide) (by decide) (by decide)
theorem readV_gt (s:ByteArray) (p:Int):(readV s p).2=-1∨p < (readV s p).2:=by
  by_cases h:p < 0
  · rw [readV_neg h];exact .inl rfl
  · rw [← readV_pos (by omega)]
    have:=varGo_gt s p.toNat (9 - 0) 0 0
    omega
/-- A place from which on all texts are small; -1 behind a fault. -/
def okP (s:ByteArray) (p:Int):Prop:=p=-1∨(0≤p∧p≤s.size∧s.size≤p+1048576)
theorem okP_bad (s:ByteArray):okP s (-1):=.inl rfl
theorem okP_rng {s:ByteArray}{p:Int} (h:okP s p) (hs:s.size≤4611686018427387904):-1≤p∧p≤4611686018427387904:=by unfold okP at h;omega
theorem okP_num {s:ByteArray}{p:Int} (h:okP s p):okP s (readV s p).2:=by
  have h1:=readV_rng s p
  have h2:=readV_gt s p
  unfold okP at h ⊢
  rcases h with rfl|h
  · rw [readV_neg (by decide)];exact .inl rfl
  · omega
theorem okP_cond {s:ByteArray}{p:Int}{b:Bool} (h:okP s p):okP s (cond b p (-1)):=by cases b;exact okP_bad s;exact h
def cntR (s:ByteArray) (p most:Int):Int × Int:=if (readV s p).2 < 0∨most < (readV s p).1 then (0,-1) else readV s p
def txtR (s:ByteArray) (p:Int):ByteArray × Int:=if p < 0 then (⟨#[]⟩,-1) else readS s p
theorem okP_cnt {s:ByteArray}{p most:Int} (h:okP s p):okP s (cntR s p most).2:=by
  unfold cntR
  split
  · exact okP_bad s
  · exact okP_num h
theorem cnt_rng {s:ByteArray}{p most:Int} (h:0≤most):0≤(cntR s p most).1∧(cntR s p most).1≤most:=by
  have h1:=readV_rng s p
  unfold cntR
  split
  · exact ⟨by decide,h⟩
  · omega
theorem okP_txt {s:ByteArray}{p:Int} (h:okP s p):okP s (txtR s p).2:=by
  have h1:=readV_rng s p
  have h2:=readV_gt s p
  unfold txtR readS
  split
  · exact okP_bad s
  · split
    · exact okP_bad s
    · unfold okP at h ⊢
      simp only
      omega
theorem txt_size {s:ByteArray}{p:Int} (h:okP s p):(txtR s p).1.size≤1048576:=by
  have h1:=readV_rng s p
  have h2:=readV_gt s p
  unfold txtR readS
  split
  · exact Nat.zero_le _
  · split
    · exact Nat.zero_le _
    · show (s.extract _ _).size≤_
      rw [ByteArray.size_extract]
      unfold okP at h
      omega
theorem txt_neg {s:ByteArray}{p:Int} (h:p < 0):txtR s p=(⟨#[]⟩,-1):=if_pos h
theorem cnt_neg {s:ByteArray}{p most:Int} (h:p < 0):cntR s p most=(0,-1):=by unfold cntR;rw [readV_neg h];exact if_pos (.inl (by decide))
theorem readS_bad {s:ByteArray}{p:Int} (h:(readS s p).2 < 0):readS s p=(⟨#[]⟩,-1):=by
  have h1:=readV_rng s p
  unfold readS at h ⊢
  split
  · rfl
  · rename_i h2
    rw [if_neg h2] at h
    simp only at h
    omega
end Go.Proofs.YtgoeccemfgniiaaGreat
namespace Go.Proofs.YtgoeccemfgniiaaGreat
open Go.RowKit
/-- What was read, and the place behind it. -/
structure Got {α:Type} (r:α × Int) (x:α) (q:Int):Prop where
  eq:r=(x,q)
theorem Got.self {α:Type} (r:α × Int):Got r r.1 r.2:=⟨rfl⟩
/-- As many as n, one behind the other. -/
def repA {α:Type} (f:Int→α × Int):Nat→List α→Int→List α × Int
  |0,acc,p=>(acc,p)
  |n+1,acc,p=>repA f n (acc ++ [(f p).1]) (f p).2
/-- The same; it stops behind a fault. -/
def repZ {α:Type} (f:Int→α × Int):Nat→List α→Int→List α × Int
  |0,acc,p=>(acc,p)
  |n+1,acc,p=>if p < 0 then (acc,p) else repZ f n (acc ++ [(f p).1]) (f p).2
def mustR {α:Type} (ok:α→Bool) (x:α) (q:Int):α × Int:=(x,cond (ok x) q (-1))
theorem Got.must {α:Type}{r:α × Int}{x:α}{q:Int} (ok:α→Bool) (h:Got r x q):Got (mustR ok r.1 r.2) x (cond (ok x) q (-1)):=⟨by rw [h.eq];rfl⟩
theorem rep_step {α:Type}{f:Int→α × Int}{m q q':Int}{acc:List α}{x:α}{R:List α × Int} (hm:0 < m) (h:repA f m.toNat acc q=R) (hx:Got (f q) x q'):repA f (m - 1).toNat (acc ++ [x]) q' = R:=by
  rw [← h,show m.toNat=(m - 1).toNat+1 by omega,repA,hx.eq]
theorem rep_end {α:Type}{f:Int→α × Int}{m q:Int}{acc:List α}{R:List α × Int} (hm:m≤0) (h:repA f m.toNat acc q=R):Got R acc q:=by
  rw [show m.toNat=0 by omega] at h
  exact ⟨h.symm⟩
theorem repZ_step {α:Type}{f:Int→α × Int}{m i q q':Int}{acc:List α}{x:α}{R:List α × Int} (hm:i < m) (hq:0≤q) (h:repZ f (m - i).toNat acc q=R) (hx:Got (f q) x q'):repZ f (m - (i+1)).toNat (acc ++ [x]) q' = R:=by
  rw [← h,show (m - i).toNat=(m - (i+1)).toNat+1 by omega,repZ,if_neg (by omega),hx.eq]
theorem repZ_end {α:Type}{f:Int→α × Int}{m i q:Int}{acc:List α}{R:List α × Int} (hm:m≤i∨q < 0) (h:repZ f (m - i).toNat acc q=R):Got R acc q:=by
  cases hn:(m - i).toNat with
  |zero=>rw [hn] at h;exact ⟨h.symm⟩
  |succ n=>rw [hn,repZ,if_pos (by omega)] at h;exact ⟨h.symm⟩
def okQ (s:ByteArray) (k:Nat) (p:Int):Prop:=p=-1∨(0≤p∧p≤s.size∧s.size≤p+(1048576+k))
theorem okQ_num {s:ByteArray}{k:Nat}{p x q:Int} (h:okQ s (k+1) p) (hg:Got (readV s p) x q):okQ s k q:=by
  have h1:=readV_rng s p
  have h2:=readV_gt s p
  rw [hg.eq] at h1 h2
  unfold okQ at h ⊢
  rcases h with rfl|h
  · left
    have:=hg.eq
    rw [readV_neg (by decide)] at this
    injection this with _ h4
    exact h4.symm
  · simp only at h1 h2
    omega
theorem okQ_ok {s:ByteArray}{p:Int} (h:okQ s 0 p):okP s p:=by unfold okQ at h;unfold okP;omega
theorem okQ_rng {s:ByteArray}{k:Nat}{p:Int} (h:okQ s k p) (hs:s.size≤4611686018427387904):-1≤p∧p≤4611686018427387904:=by unfold okQ at h;omega
theorem okP_must {s:ByteArray}{p:Int} (b:Bool) (h:okP s p):okP s (cond b p (-1)):=okP_cond h
theorem cnt_no {s:ByteArray}{p m x q:Int} (h:Got (readV s p) x q) (hb:q < 0∨m < x):cntR s p m=(0,-1):=by unfold cntR;rw [h.eq];exact if_pos hb
theorem cnt_yes {s:ByteArray}{p m x q:Int} (h:Got (readV s p) x q) (hb:¬ (q < 0∨m < x)):cntR s p m=(x,q):=by unfold cntR;rw [h.eq];exact if_neg hb
theorem txt_none {s:ByteArray}{p:Int} (h:p < 0) (hp:okP s p):Got (txtR s p) ⟨#[]⟩ p:=⟨by unfold okP at hp;rw [txt_neg h,show p=-1 by omega]⟩
theorem txt_got {s:ByteArray}{p:Int} (h:0≤p):Got (txtR s p) (readS s p).1 (readS s p).2:=⟨by unfold txtR;rw [if_neg (by omega)]⟩
theorem txt_got_ok {s:ByteArray}{p:Int} (h:0≤p) (h1:okP s (txtR s p).2):okP s (readS s p).2:=by rw [(txt_got h).eq] at h1;exact h1
theorem txt_got_sz {s:ByteArray}{p:Int} (h:0≤p) (h1:(txtR s p).1.size≤1048576):strOk (readS s p).1:=by rw [(txt_got h).eq] at h1;exact h1
structure allF {α:Type} [Inhabited α] (P:α→Prop) (xs:List α):Prop where
  out:∀ k,P (xs.getD k default)
theorem allF_nil {α:Type} [Inhabited α] {P:α→Prop} (h:P default):allF P ([]:List α):=⟨fun _=>h⟩
theorem allF_snoc {α:Type} [Inhabited α] {P:α→Prop}{xs:List α}{x:α} (h0:P default) (h:allF P xs) (hx:P x):allF P (xs ++ [x]):=by
  refine ⟨getD_of h0 fun y hy=>?_⟩
  rcases List.mem_append.1 hy with hy|hy
  · obtain ⟨k,rfl⟩:=mem_getD hy
    exact h.out k
  · rw [List.mem_singleton.1 hy]
    exact hx
theorem int_ok {x:Int} (h:0≤x∧x≤9223372036854775807):intOk x:=⟨by omega,h.2⟩
theorem str_def:strOk default:=by show (0:Nat)≤_;omega
theorem label_def:strOk (default:LabelD).key∧strOk (default:LabelD).value:=⟨str_def,str_def⟩
theorem taint_def:(default:TaintD).fine:=⟨str_def,str_def,by decide⟩
theorem toler_def:(default:TolerD).fine:=⟨str_def,str_def,by decide⟩
theorem need_def:(default:NeedD).fine:=⟨str_def,by decide,by decide,fun _=>str_def⟩
theorem labels_def:labelsFine []:=⟨by decide,fun _=>str_def,fun _=>str_def⟩
theorem pod_def:(default:PodD).fine:=⟨str_def,labels_def,by decide,by decide,by decide,by decide,fun _=>need_def,by decide,fun _=>toler_def⟩
theorem host_def:(default:HostD).fine:=⟨str_def,labels_def,by decide,by decide,by decide,by decide,fun _=>taint_def⟩
abbrev labelF (x:LabelD):Prop:=strOk x.key∧strOk x.value
theorem labels_of {ls:List LabelD} (h:allF labelF ls) (hn:ls.length≤1048576):labelsFine ls:=⟨hn,fun k=>(h.out k).1,fun k=>(h.out k).2⟩
def labelR (s:ByteArray) (p:Int):LabelD × Int:=
  let k:=txtR s p
  let v:=txtR s k.2
  (⟨k.1,v.1⟩,v.2)
def taintR (s:ByteArray) (p:Int):TaintD × Int:=
  let k:=txtR s p
  let v:=txtR s k.2
  let e:=readV s v.2
  (⟨k.1,v.1,e.1⟩,e.2)
def tolerR (s:ByteArray) (p:Int):TolerD × Int:=
  let k:=txtR s p
  let b:=cntR s k.2 1
  let v:=txtR s b.2
  let e:=readV s v.2
  (⟨k.1,b.1==1,v.1,e.1⟩,e.2)
def labelsW (rep:(Int→LabelD × Int)→Nat→List LabelD→Int→List LabelD × Int) (s:ByteArray) (p:Int):List LabelD × Int:=
  let c:=cntR s p 6
  rep (labelR s) c.1.toNat [] c.2
def needW (rep:(Int→ByteArray × Int)→Nat→List ByteArray→Int→List ByteArray × Int) (s:ByteArray) (p:Int):NeedD × Int:=
  let k:=txtR s p
  let o:=readV s k.2
  let c:=cntR s o.2 4
  let v:=rep (txtR s) c.1.toNat [] c.2
  (⟨k.1,o.1,v.1⟩,v.2)
def labelsI (s:ByteArray) (p:Int):List LabelD × Int:=mustR labelsB (labelsW repA s p).1 (labelsW repA s p).2
def hostW (lab:Int→List LabelD × Int) (rep:(Int→TaintD × Int)→Nat→List TaintD→Int→List TaintD × Int) (s:ByteArray) (p:Int):HostD × Int:=
  let a:=txtR s p
  let l:=lab a.2
  let c:=readV s l.2
  let m:=readV s c.2
  let o:=readV s m.2
  let n:=cntR s o.2 4
  let t:=rep (taintR s) n.1.toNat [] n.2
  (⟨a.1,l.1,c.1,m.1,o.1,t.1⟩,t.2)
def hostI (s:ByteArray) (p:Int):HostD × Int:=mustR hostB (hostW (labelsI s) repA s p).1 (hostW (labelsI s) repA s p).2
def podW (lab:Int→List LabelD × Int) (need:Int→NeedD × Int) (rep:{α:Type}→(Int→α × Int)→Nat→List α→Int→List α × Int) (s:ByteArray) (p:Int):PodD × Int:=
  let a:=txtR s p
  let l:=lab a.2
  let c:=readV s l.2
  let m:=readV s c.2
  let k:=readV s m.2
  let n:=cntR s k.2 4
  let x:=rep need n.1.toNat [] n.2
  let j:=cntR s x.2 4
  let t:=rep (tolerR s) j.1.toNat [] j.2
  (⟨a.1,l.1,c.1,m.1,k.1,x.1,t.1⟩,t.2)
def podI (s:ByteArray) (p:Int):PodD × Int:=mustR podB (podW (labelsI s) (needW repA s) repA s p).1 (podW (labelsI s) (needW repA s) repA s p).2
/-- The name of the host at a place less one; empty for 0. -/
def onR (s:ByteArray) (hs:List HostD) (p:Int):ByteArray × Int:=
  let k:=cntR s p hs.length
  (if 0 < k.1 then (hs.getD (k.1 - 1).toNat default).name else ⟨#[]⟩,k.2)
def placedW (pod:Int→PodD × Int) (s:ByteArray) (hs:List HostD) (p:Int):PlacedD × Int:=
  let x:=pod p
  let o:=onR s hs x.2
  let q:=readV s o.2
  (⟨x.1,o.1,q.1⟩,q.2)
def snapW (host:Int→HostD × Int) (pod:Int→PodD × Int) (rep:{α:Type}→(Int→α × Int)→Nat→List α→Int→List α × Int) (s:ByteArray) (p:Int):ClusterD × Int:=
  let a:=readV s p
  let b:=readV s a.2
  let c:=readV s b.2
  let d:=readV s c.2
  let n:=cntR s d.2 8
  let h:=rep host n.1.toNat [] n.2
  let m:=cntR s h.2 12
  let x:=rep (placedW pod s h.1) m.1.toNat [] m.2
  (⟨h.1,x.1,d.1,a.1,b.1,c.1⟩,x.2)
def snapI (s:ByteArray):ClusterD × Int:=snapW (hostI s) (podI s) repA s 0
/-- Version 1. -/
def host1W (lab:Int→List LabelD × Int) (s:ByteArray) (p:Int):HostD × Int:=
  let a:=txtR s p
  let l:=lab a.2
  let c:=readV s l.2
  let m:=readV s c.2
  (⟨a.1,l.1,c.1,m.1,20, []⟩,m.2)
def need1R (s:ByteArray) (p:Int):NeedD × Int:=
  let k:=txtR s p
  let v:=txtR s k.2
  (⟨k.1,1, [v.1]⟩,v.2)
def pod1W (lab:Int→List LabelD × Int) (rep:{α:Type}→(Int→α × Int)→Nat→List α→Int→List α × Int) (s:ByteArray) (p:Int):PodD × Int:=
  let a:=txtR s p
  let l:=lab a.2
  let c:=readV s l.2
  let m:=readV s c.2
  let n:=cntR s m.2 4
  let x:=rep (need1R s) n.1.toNat [] n.2
  (⟨a.1,l.1,c.1,m.1,0,x.1, []⟩,x.2)
def snap1W (lab:Int→List LabelD × Int) (rep:{α:Type}→(Int→α × Int)→Nat→List α→Int→List α × Int) (s:ByteArray) (p:Int):ClusterD × Int:=
  let d:=readV s p
  let n:=cntR s d.2 8
  let h:=rep (host1W lab s) n.1.toNat [] n.2
  let m:=cntR s h.2 12
  let x:=rep (placedW (pod1W lab rep s) s h.1) m.1.toNat [] m.2
  (⟨h.1,x.1,d.1,2,1,3⟩,x.2)
def snap1I (s:ByteArray):ClusterD × Int:=snap1W (labelsI s) repA s 0
def labelsS (s:ByteArray) (p:Int):List LabelD × Int:=labelsW repZ s p
def hostS (s:ByteArray) (p:Int):HostD × Int:=hostW (labelsS s) repZ s p
def podS (s:ByteArray) (p:Int):PodD × Int:=podW (labelsS s) (needW repZ s) repZ s p
def snapS (s:ByteArray):ClusterD × Int:=snapW (hostS s) (podS s) repZ s 0
def snap1S (s:ByteArray):ClusterD × Int:=snap1W (labelsS s) repZ s 0
theorem label_mk {s:ByteArray}{p p1 p2:Int}{k v:ByteArray} (h1:Got (txtR s p) k p1) (h2:Got (txtR s p1) v p2):Got (labelR s p) ⟨k,v⟩ p2:=⟨by simp only [labelR,h1.eq,h2.eq]⟩
theorem taint_mk {s:ByteArray}{p p1 p2 p3 e:Int}{k v:ByteArray} (h1:Got (txtR s p) k p1) (h2:Got (txtR s p1) v p2) (h3:Got (readV s p2) e p3):Got (taintR s p) ⟨k,v,e⟩ p3:=⟨by simp only [taintR,h1.eq,h2.eq,h3.eq]⟩
theorem toler_mk {s:ByteArray}{p p1 p2 p3 p4 b e:Int}{k v:ByteArray} (h1:Got (txtR s p) k p1) (h2:Got (cntR s p1 1) b p2) (h3:Got (txtR s p2) v p3) (h4:Got (readV s p3) e p4):Got (tolerR s p) ⟨k,b==1,v,e⟩ p4:=⟨by simp only [tolerR,h1.eq,h2.eq,h3.eq,h4.eq]⟩
theorem labels_mk {rep:(Int→LabelD × Int)→Nat→List LabelD→Int→List LabelD × Int}{s:ByteArray}{p p1 p2 n:Int}{l:List LabelD} (h1:Got (cntR s p 6) n p1) (h2:Got (rep (labelR s) n.toNat [] p1) l p2):Got (labelsW rep s p) l p2:=⟨by simp only [labelsW,h1.eq,h2.eq]⟩
theorem need_mk {rep:(Int→ByteArray × Int)→Nat→List ByteArray→Int→List ByteArray × Int}{s:ByteArray}{p p1 p2 p3 p4 o n:Int}{k:ByteArray}{l:List ByteArray} (h1:Got (txtR s p) k p1) (h2:Got (readV s p1) o p2) (h3:Got (cntR s p2 4) n p3) (h4:Got (rep (txtR s) n.toNat [] p3) l p4):Got (needW rep s p) ⟨k,o,l⟩ p4:=⟨by simp only [needW,h1.eq,h2.eq,h3.eq,h4.eq]⟩
theorem host_mk {lab:Int→List LabelD × Int}{rep:(Int→TaintD × Int)→Nat→List TaintD→Int→List TaintD × Int}{s:ByteArray}{p p1 p2 p3 p4 p5 p6 p7 c m o n:Int}{a:ByteArray}{l:List LabelD}{t:List TaintD} (h1:Got (txtR s p) a p1) (h2:Got (lab p1) l p2) (h3:Got (readV s p2) c p3) (h4:Got (readV s p3) m p4) (h5:Got (readV s p4) o p5) (h6:Got (cntR s p5 4) n p6) (h7:Got (rep (taintR s) n.toNat [] p6) t p7):Got (hostW lab rep s p) ⟨a,l,c,m,o,t⟩ p7:=⟨by simp only [hostW,h1.eq,h2.eq,h3.eq,h4.eq,h5.eq,h6.eq,h7.eq]⟩
theorem pod_mk {lab:Int→List LabelD × Int}{need:Int→NeedD × Int}{rep:{α:Type}→(Int→α × Int)→Nat→List α→Int→List α × Int}{s:ByteArray}{p p1 p2 p3 p4 p5 p6 p7 p8 p9 c m k n j:Int}{a:ByteArray}{l:List LabelD}{x:List NeedD}{t:List TolerD} (h1:Got (txtR s p) a p1) (h2:Got (lab p1) l p2) (h3:Got (readV s p2) c p3) (h4:Got (readV s p3) m p4) (h5:Got (readV s p4) k p5) (h6:Got (cntR s p5 4) n p6) (h7:Got (rep need n.toNat [] p6) x p7) (h8:Got (cntR s p7 4) j p8) (h9:Got (rep (tolerR s) j.toNat [] p8) t p9):Got (podW lab need @rep s p) ⟨a,l,c,m,k,x,t⟩ p9:=⟨by simp only [podW,h1.eq,h2.eq,h3.eq,h4.eq,h5.eq,h6.eq,h7.eq,h8.eq,h9.eq]⟩
theorem placed_mk {pod:Int→PodD × Int}{s:ByteArray}{hs:List HostD}{p p1 p2 p3 q:Int}{x:PodD}{o:ByteArray} (h1:Got (pod p) x p1) (h2:Got (onR s hs p1) o p2) (h3:Got (readV s p2) q p3):Got (placedW pod s hs p) ⟨x,o,q⟩ p3:=⟨by simp only [placedW,h1.eq,h2.eq,h3.eq]⟩
theorem on_mk {s:ByteArray}{hs:List HostD}{p p1 k:Int} (h1:Got (cntR s p hs.length) k p1):Got (onR s hs p) (if 0 < k then (hs.getD (k - 1).toNat default).name else ⟨#[]⟩) p1:=⟨by simp only [onR,h1.eq]⟩
theorem snap_mk {host:Int→HostD × Int}{pod:Int→PodD × Int}{rep:{α:Type}→(Int→α × Int)→Nat→List α→Int→List α × Int}{s:ByteArray}{p p1 p2 p3 p4 p5 p6 p7 p8 a b c d n m:Int}{h:List HostD}{x:List PlacedD} (h1:Got (readV s p) a p1) (h2:Got (readV s p1) b p2) (h3:Got (readV s p2) c p3) (h4:Got (readV s p3) d p4) (h5:Got (cntR s p4 8) n p5) (h6:Got (rep host n.toNat [] p5) h p6) (h7:Got (cntR s p6 12) m p7) (h8:Got (rep (placedW pod s h) m.toNat [] p7) x p8):Got (snapW host pod @rep s p) ⟨h,x,d,a,b,c⟩ p8:=⟨by simp only [snapW,h1.eq,h2.eq,h3.eq,h4.eq,h5.eq,h6.eq,h7.eq,h8.eq]⟩
theorem host1_mk {lab:Int→List LabelD × Int}{s:ByteArray}{p p1 p2 p3 p4 c m:Int}{a:ByteArray}{l:List LabelD} (h1:Got (txtR s p) a p1) (h2:Got (lab p1) l p2) (h3:Got (readV s p2) c p3) (h4:Got (readV s p3) m p4):Got (host1W lab s p) ⟨a,l,c,m,20, []⟩ p4:=⟨by simp only [host1W,h1.eq,h2.eq,h3.eq,h4.eq]⟩
theorem need1_mk {s:ByteArray}{p p1 p2:Int}{k v:ByteArray} (h1:Got (txtR s p) k p1) (h2:Got (txtR s p1) v p2):Got (need1R s p) ⟨k,1, [v]⟩ p2:=⟨by simp only [need1R,h1.eq,h2.eq]⟩
theorem pod1_mk {lab:Int→List LabelD × Int}{rep:{α:Type}→(Int→α × Int)→Nat→List α→Int→List α × Int}{s:ByteArray}{p p1 p2 p3 p4 p5 p6 c m n:Int}{a:ByteArray}{l:List LabelD}{x:List NeedD} (h1:Got (txtR s p) a p1) (h2:Got (lab p1) l p2) (h3:Got (readV s p2) c p3) (h4:Got (readV s p3) m p4) (h6:Got (cntR s p4 4) n p5) (h7:Got (rep (need1R s) n.toNat [] p5) x p6):Got (pod1W lab @rep s p) ⟨a,l,c,m,0,x, []⟩ p6:=⟨by simp only [pod1W,h1.eq,h2.eq,h3.eq,h4.eq,h6.eq,h7.eq]⟩
theorem snap1_mk {lab:Int→List LabelD × Int}{rep:{α:Type}→(Int→α × Int)→Nat→List α→Int→List α × Int}{s:ByteArray}{p p4 p5 p6 p7 p8 d n m:Int}{h:List HostD}{x:List PlacedD} (h4:Got (readV s p) d p4) (h5:Got (cntR s p4 8) n p5) (h6:Got (rep (host1W lab s) n.toNat [] p5) h p6) (h7:Got (cntR s p6 12) m p7) (h8:Got (rep (placedW (pod1W lab @rep s) s h) m.toNat [] p7) x p8):Got (snap1W lab @rep s p) ⟨h,x,d,2,1,3⟩ p8:=⟨by simp only [snap1W,h4.eq,h5.eq,h6.eq,h7.eq,h8.eq]⟩
theorem on_yes {s:ByteArray}{hs:List HostD}{p p1 k:Int} (h:0 < k) (h1:Got (cntR s p hs.length) k p1):Got (onR s hs p) (hs.getD (k - 1).toNat default).name p1:=by have:=on_mk (hs:=hs) h1;rwa [if_pos h] at this
theorem on_no {s:ByteArray}{hs:List HostD}{p p1 k:Int} (h:k≤0) (h1:Got (cntR s p hs.length) k p1):Got (onR s hs p) ⟨#[]⟩ p1:=by have:=on_mk (hs:=hs) h1;rwa [if_neg (by omega)] at this
/-- What is handed back: nothing, where not all was read or it is not right. -/
def zeroC:ClusterD:=⟨[], [],0,0,0,0⟩
def finR (s:ByteArray) (x:ClusterD × Int):ClusterD × Bool:=if x.2=s.size∧clusterB x.1=true then (x.1,true) else (zeroC,false)
structure Fin (r:ClusterD × Bool) (c:ClusterD) (ok:Bool):Prop where
  eq:r=(c,ok)
theorem fin_yes {s:ByteArray}{x:ClusterD × Int}{c:ClusterD}{q:Int} (h:Got x c q) (hq:q=s.size) (hc:clusterB c=true):Fin (finR s x) c true:=⟨by rw [h.eq];exact if_pos ⟨hq,hc⟩⟩
theorem fin_no {s:ByteArray}{x:ClusterD × Int}{c:ClusterD}{q:Int} (h:Got x c q) (hb:¬ (q=s.size∧clusterB c=true)):Fin (finR s x) zeroC false:=⟨by rw [h.eq];exact if_neg hb⟩
structure PlacedD.fit (p:PlacedD):Prop where
  pod:p.pod.fine
  on:strOk p.on
  seq:intOk p.seq
theorem placed_def:(default:PlacedD).fit:=⟨pod_def,str_def,by decide⟩
theorem fine_mk {L:List HostD}{ps:List PlacedD}{n a b c:Int} (h1:L.length≤1048576) (h2:allF HostD.fine L) (h3:ps.length≤1048576) (h4:allF PlacedD.fit ps) (h5:intOk n):(⟨L,ps,n,a,b,c⟩:ClusterD).fine:=⟨h1,h2.out,h3,fun k=>(h4.out k).pod,fun k=>(h4.out k).on,fun k=>(h4.out k).seq,h5⟩
theorem zero_fine:zeroC.fine:=fine_mk (by decide) (allF_nil host_def) (by decide) (allF_nil placed_def) (by decide)
theorem okQ_start {s:ByteArray} (h:s.size≤1048579):okQ s 3 0:=.inr ⟨by omega,by omega,by omega⟩
theorem okP_start {s:ByteArray} (h:s.size≤1048576):okP s 0:=.inr ⟨by omega,by omega,by omega⟩
end Go.Proofs.YtgoeccemfgniiaaGreat
namespace Go.Proofs.YtgoeccemfgniiaaGreat
open Go.RowKit
structure Cur (a:Int) (b:Bool) (p:Int):Prop where
  eq:p=cond b (-1) a
  lo:0≤a
  hi:a≤4611686018427387904
theorem Cur.fls {a p:Int}{b:Bool} (h:Cur a b p) (hb:b=false):Cur a false p:=by subst hb;exact h
theorem Cur.tru {a p:Int}{b:Bool} (h:Cur a b p) (hb:b=true):Cur a true p:=by subst hb;exact h
theorem Cur.pos {a p:Int}{b:Bool} (h:Cur a b p) (hb:b=false):0≤p:=by subst hb;rw [h.eq];exact h.lo
theorem Cur.neg {a p:Int}{b:Bool} (h:Cur a b p) (hb:b=true):p < 0:=by subst hb;rw [h.eq];show (-1:Int) < 0;decide
theorem Cur.bad {a p:Int}{b:Bool} (h:Cur a b p):Cur a true (-1):=⟨rfl,h.lo,h.hi⟩
theorem Cur.start {p:Int} (h:0≤p) (h2:p≤4611686018427387904):Cur p false p:=⟨rfl,h,h2⟩
theorem num_no {s:ByteArray}{a p:Int}{b:Bool} (h:Cur a b p) (hb:(readV s a).2 < 0∨b=true):Got (readV s p) 0 (-1):=by
  have h1:=readV_rng s a
  cases b with
  |true=>rw [h.eq];exact ⟨readV_neg (show (-1:Int) < 0 by decide)⟩
  |false=>
    rw [h.eq]
    exact ⟨Prod.ext (by show (readV s a).1=0;rcases hb with hb|hb;omega;cases hb) (by show (readV s a).2=-1;rcases hb with hb|hb;omega;cases hb)⟩
theorem num_yes {s:ByteArray}{a p:Int}{b:Bool} (h:Cur a b p) (hs:s.size≤4611686018427387904) (h1:0≤(readV s a).2) (hb:b=false):Got (readV s p) (readV s a).1 (readV s a).2∧Cur (readV s a).2 false (readV s a).2∧(0≤(readV s a).1∧(readV s a).1≤9223372036854775807):=by
  have h2:=readV_rng s a
  have h3:=readV_max s a
  subst hb
  rw [h.eq]
  exact ⟨⟨rfl⟩,⟨rfl,h1,by omega⟩,by omega,h3⟩
theorem okP_got {s:ByteArray}{p x q:Int} (hp:okP s p) (h:Got (readV s p) x q):okP s q:=by have:=okP_num hp;rwa [h.eq] at this
theorem okP_gott {s x:ByteArray}{p q:Int} (hp:okP s p) (h:Got (txtR s p) x q):okP s q∧strOk x:=by have:=okP_txt hp;have h2:=txt_size hp;rw [h.eq] at this h2;exact ⟨this,h2⟩
theorem okP_gotc {s:ByteArray}{p x q m:Int} (hp:okP s p) (hm:0≤m) (h:Got (cntR s p m) x q):okP s q∧(0≤x∧x≤m):=by have:=okP_cnt (most:=m) hp;have h2:=cnt_rng (s:=s) (p:=p) hm;rw [h.eq] at this h2;exact ⟨this,h2⟩
theorem tx_no {s:ByteArray}{a p:Int}{b:Bool} (h:Cur a b p) (hb:(readS s a).2 < 0∨b=true):Got (txtR s p) ⟨#[]⟩ (-1):=by
  cases b with
  |true=>rw [h.eq];exact ⟨txt_neg (show (-1:Int) < 0 by decide)⟩
  |false=>
    rw [h.eq]
    have h2:=h.lo
    show Got (txtR s a) _ _
    unfold txtR
    rw [if_neg (by omega),readS_bad (by rcases hb with hb|hb;exact hb;cases hb)]
    exact ⟨rfl⟩
theorem tx_yes {s:ByteArray}{a p:Int}{b:Bool} (h:Cur a b p) (hs:s.size≤4611686018427387904) (h1:0≤(readS s a).2) (hb:b=false):Got (txtR s p) (readS s a).1 (readS s a).2∧Cur (readS s a).2 false (readS s a).2:=by
  have h2:=readS_rng s a
  subst hb
  rw [h.eq]
  exact ⟨txt_got h.lo,⟨rfl,h1,by omega⟩⟩
theorem many_no {s:ByteArray}{p x q m:Int} (h:Got (readV s p) x q) (hm:m < x):Got (cntR s p m) 0 (-1):=⟨cnt_no h (.inr hm)⟩
theorem many_yes {s:ByteArray}{p x q m:Int} (_hm:0≤m) (h:Got (readV s p) x q) (hx:x≤m):Got (cntR s p m) x q:=by
  have h1:=readV_rng s p
  rw [h.eq] at h1
  by_cases hq:q < 0
  · have:x=0∧q=-1:=by simp only at h1;omega
    obtain ⟨rfl,rfl⟩:=this
    exact ⟨cnt_no h (.inl (by decide))⟩
  · exact ⟨cnt_yes h (by omega)⟩
end Go.Proofs.YtgoeccemfgniiaaGreat
