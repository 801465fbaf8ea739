/- Snx (what is wanted of them). -/
import Derived.Test.YtgoeccemfgniiaaGreatUCl1
import Derived.Test.YtgoeccemfgniiaaGreatUCl4
namespace Go.Proofs.YtgoeccemfgniiaaGreat
open Go.RowKit
theorem u8D_takeS (ns:List Int) (x:Int):(u8D (ns ++ [x])).take (ns.length+1)=u8D (ns ++ [x]):=u8D_takeN _ _ (by simp)
theorem tdivE (m:Int) (h:0≤m):m.tdiv 128=m / 128:=Int.tdiv_eq_ediv_of_nonneg h
theorem tmodE (m:Int) (h:0≤m):m.tmod 128=m % 128:=Int.tmod_eq_emod_of_nonneg h
theorem wrapU_m (m:Int) (_h:0≤m):IntKind.u8.wrap m=m % 256:=by simp [IntKind.wrap,IntKind.signed,IntKind.bits]
theorem wrapU (m:Int) (h:0≤m∧m≤255):IntKind.u8.wrap m=m:=by rw [wrapU_m m h.1];omega
theorem or8 (x:Int) (h:0≤x∧x≤255):bitI .or .u8 x 128=128+x % 128:=by
  have key:∀ n:Fin 256,bitI .or .u8 (n.val:Int) 128=128+(n.val:Int) % 128:=by
    delta bitI
    decide +kernel
  have:=key ⟨x.toNat,by omega⟩
  simp only [Int.toNat_of_nonneg h.1] at this
  exact this
theorem shr7 (m:Int):bitI .shr .i64 m 7=m / 128:=by
  delta bitI
  show m.fdiv (2 ^ (min (7:Int).toNat 64))=m / 128
  rw [show (2:Int) ^ (min (7:Int).toNat 64)=128 by decide]
  exact Int.fdiv_eq_ediv_of_nonneg m (by decide)
def varL (n:Nat):List Int:=if n < 128 then [(n:Int)] else ((128+n % 128:Nat):Int)::varL (n / 128)
termination_by n
decreasing_by omega
theorem varL_small {n:Nat} (h:n < 128):varL n = [(n:Int)]:=by rw [varL,if_pos h]
theorem varL_big {n:Nat} (h:128≤n):varL n=((128+n % 128:Nat):Int)::varL (n / 128):=by rw [varL,if_neg (by omega)]
theorem varL_len:∀ (k n:Nat),n < 128 ^ (k+1)→(varL n).length≤k+1
  |0,n,h=>by rw [varL_small (by simpa using h)];simp
  |k+1,n,h=>by
    by_cases h1:n < 128
    · rw [varL_small h1];simp
    · rw [varL_big (by omega),List.length_cons]
      have:=varL_len k (n / 128) (Nat.div_lt_of_lt_mul (by rw [Nat.pow_succ,Nat.mul_comm] at h;exact h))
      omega
def varI (n:Int):List Int:=varL n.toNat
theorem varI_small {n:Int} (h0:0≤n) (h:n < 128):varI n = [n]:=by
  unfold varI
  rw [varL_small (by omega),Int.toNat_of_nonneg h0]
theorem varI_big {n:Int} (h:128≤n):varI n=(128+n % 128)::varI (n / 128):=by
  unfold varI
  rw [varL_big (by omega),show (n / 128).toNat=n.toNat / 128 by omega]
  congr 1
  omega
theorem varI_len {n:Int} (h:n≤9223372036854775807):(varI n).length≤9:=varL_len 8 _ (by omega)
/-- The text of a number, seven bits a byte, the low ones first; empty below 0. -/
def varB (n:Int):ByteArray:=if n < 0 then ⟨#[]⟩ else strOf (varI n)
theorem varB_le {n:Int} (h:n≤9223372036854775807):(varB n).size≤9:=by
  unfold varB
  split
  · exact Nat.zero_le _
  · rw [strOf_size];exact varI_len h
theorem var_step {n m:Int}{out:List Int} (hm:128≤m) (h:out++varI m=varI n):(out ++ [128+m % 128])++varI (m / 128)=varI n:=by
  rw [← h,varI_big hm,List.append_assoc]
  rfl
theorem var_end {n m:Int}{out:List Int} (h0:0≤m) (hm:m < 128) (hn:0≤n) (h:out++varI m=varI n):strOf (out ++ [m])=varB n:=by
  unfold varB
  rw [if_neg (by omega),← h,varI_small h0 hm]
theorem var_out {n m:Int}{out:List Int} (hn:n≤9223372036854775807) (h:out++varI m=varI n):out.length≤9:=by
  have h1:=varI_len hn
  have h2:=congrArg List.length h
  rw [List.length_append] at h2
  omega
theorem baAssoc (a b c:ByteArray):a++b++c=a++(b++c):=ByteArray.ext (by simp [ByteArray.data_append,Array.append_assoc])
/-- Texts one behind the other. -/
def catN (f:Nat→ByteArray):Nat→ByteArray
  |0=>⟨#[]⟩
  |n+1=>catN f n++f n
theorem cat_nil (a:ByteArray):a++(⟨#[]⟩:ByteArray)=a:=ByteArray.ext (by simp [ByteArray.data_append])
theorem cat_zero (f:Nat→ByteArray) (a:ByteArray):a++catN f 0=a:=cat_nil a
def shortB (s:ByteArray):ByteArray:=varB s.size++s
end Go.Proofs.YtgoeccemfgniiaaGreat
namespace Go.Proofs.YtgoeccemfgniiaaGreat
open Go.RowKit
theorem pod_needs {p:PodD} (h:podB p=true):p.needs.length≤4:=by
  unfold podB needsB at h
  simp only [Bool.and_eq_true,decide_eq_true_eq] at h
  exact h.2.2.1.1
theorem catN_zero (f:Nat→ByteArray):catN f 0=⟨#[]⟩:=rfl
theorem catN_succ (f:Nat→ByteArray) (n:Nat):catN f (n+1)=catN f n++f n:=rfl
theorem nil_cat (a:ByteArray):(⟨#[]⟩:ByteArray)++a=a:=ByteArray.ext (by simp [ByteArray.data_append])
def labelTx (ls:List LabelD) (k:Nat):ByteArray:=shortB (ls.getD k default).key++shortB (ls.getD k default).value
def labelsT (ls:List LabelD):ByteArray:=varB ls.length++catN (labelTx ls) ls.length
def taintTx (ts:List TaintD) (k:Nat):ByteArray:=shortB (ts.getD k default).key++(shortB (ts.getD k default).value++varB (ts.getD k default).effect)
def hostT (h:HostD):ByteArray:=if hostB h then shortB h.name++(labelsT h.labels++(varB h.cpu++(varB h.mem++(varB h.slots++(varB h.taints.length++catN (taintTx h.taints) h.taints.length))))) else ⟨#[]⟩
def valTx (vs:List ByteArray) (k:Nat):ByteArray:=shortB (vs.getD k default)
def needTx (ns:List NeedD) (k:Nat):ByteArray:=shortB (ns.getD k default).key++(varB (ns.getD k default).op++(varB (ns.getD k default).values.length++catN (valTx (ns.getD k default).values) (ns.getD k default).values.length))
def flagN (b:Bool):Int:=if b then 1 else 0
def tolerTx (ts:List TolerD) (k:Nat):ByteArray:=shortB (ts.getD k default).key++(varB (flagN (ts.getD k default).equal)++(shortB (ts.getD k default).value++varB (ts.getD k default).effect))
def podT (p:PodD):ByteArray:=if podB p then shortB p.name++(labelsT p.labels++(varB p.cpu++(varB p.mem++(varB p.rank++(varB p.needs.length++(catN (needTx p.needs) p.needs.length++(varB p.tolers.length++catN (tolerTx p.tolers) p.tolers.length))))))) else ⟨#[]⟩
def placeT (c:ClusterD) (p:PlacedD):ByteArray:=varB (hostAtB c.hosts p.on+1)++varB p.seq
def hostTAt (c:ClusterD) (k:Nat):ByteArray:=hostT (c.hosts.getD k default)
def podTAt (c:ClusterD) (k:Nat):ByteArray:=podT (c.pods.getD k default).pod++placeT c (c.pods.getD k default)
def bodyT (c:ClusterD):ByteArray:=varB c.next++(varB c.hosts.length++(catN (hostTAt c) c.hosts.length++(varB c.pods.length++catN (podTAt c) c.pods.length)))
def snapT (c:ClusterD):ByteArray:=if clusterB c then varB c.w1++(varB c.w2++(varB c.w3++bodyT c)) else ⟨#[]⟩
def snap2T (c:ClusterD):ByteArray:=if expB c 2 then bodyT c else ⟨#[]⟩
def host1At (c:ClusterD) (k:Nat):ByteArray:=shortB (c.hosts.getD k default).name++(labelsT (c.hosts.getD k default).labels++(varB (c.hosts.getD k default).cpu++varB (c.hosts.getD k default).mem))
def need1Tx (ns:List NeedD) (k:Nat):ByteArray:=shortB (ns.getD k default).key++shortB ((ns.getD k default).values.getD 0 default)
def pod1At (c:ClusterD) (k:Nat):ByteArray:=shortB (c.pods.getD k default).pod.name++(labelsT (c.pods.getD k default).pod.labels++(varB (c.pods.getD k default).pod.cpu++(varB (c.pods.getD k default).pod.mem++(varB (c.pods.getD k default).pod.needs.length++(catN (need1Tx (c.pods.getD k default).pod.needs) (c.pods.getD k default).pod.needs.length++placeT c (c.pods.getD k default))))))
def snap1T (c:ClusterD):ByteArray:=if expB c 1 then varB c.next++(varB c.hosts.length++(catN (host1At c) c.hosts.length++(varB c.pods.length++catN (pod1At c) c.pods.length))) else ⟨#[]⟩
def snapAtT (c:ClusterD) (k:Int):ByteArray:=if k=1 then snap1T c else if k=2 then snap2T c else if k=3 then snapT c else ⟨#[]⟩
theorem allB_at {n:Nat}{p:Nat→Bool} (h:allB n p=true) {k:Nat} (hk:k < n):p k=true:=List.all_eq_true.1 h k (List.mem_range.2 hk)
theorem cl_weights {c:ClusterD} (h:clusterB c=true):(0≤c.w1∧c.w1≤10)∧(0≤c.w2∧c.w2≤10)∧(0≤c.w3∧c.w3≤10):=by
  rw [clusterB_eq] at h
  simp only [Bool.and_eq_true,inB,decide_eq_true_eq] at h
  exact h.2.2.2.1
theorem cl_hosts {c:ClusterD} (h:clusterB c=true) {k:Nat} (hk:k < c.hosts.length):hostB (c.hosts.getD k default)=true:=by
  rw [clusterB_eq] at h
  simp only [Bool.and_eq_true] at h
  have:=allB_at h.2.2.2.2.1 hk
  unfold hostAtOk at this
  simp only [Bool.and_eq_true] at this
  exact this.1
theorem eqB_empty {a:ByteArray} (h:emptyB a=true):a=⟨#[]⟩:=str_eq.1 h
theorem host_none {c:ClusterD} (h:clusterB c=true) {nm:ByteArray} (he:emptyB nm=true):hostAtB c.hosts nm=-1:=by
  obtain ⟨h1,h2,h3⟩:=firstN_rng c.hosts.length fun k=>eqB (c.hosts.getD k default).name nm
  by_cases h0:0≤hostAtB c.hosts nm
  · exfalso
    have h4:=h3 h0
    have h5:=cl_hosts h (k:=(hostAtB c.hosts nm).toNat) (by have:hostAtB c.hosts nm < c.hosts.length:=h2;omega)
    have h6:emptyB (c.hosts.getD (hostAtB c.hosts nm).toNat default).name=true:=by rw [eqB_empty he] at h4 ⊢;exact h4
    have h7:=eqB_empty h6
    unfold hostB nmB inB at h5
    simp only [Bool.and_eq_true,decide_eq_true_eq] at h5
    rw [h7] at h5
    have:=h5.1.1.1
    revert this
    decide
  · have:-1≤hostAtB c.hosts nm:=h1
    omega
theorem cl_exp {c:ClusterD}{k:Int} (h:expB c k=true):clusterB c=true:=by
  unfold expB at h
  simp only [Bool.and_eq_true] at h
  exact h.2.1
theorem exp_usual {c:ClusterD} (h:expB c 2=true):c.w1=2∧c.w2=1∧c.w3=3:=by
  unfold expB usualB at h
  simp at h
  exact h.2.2
theorem exp_plain {c:ClusterD} (h:expB c 1=true) {k:Nat} (hk:k < c.pods.length) {j:Nat} (hj:j < (c.pods.getD k default).pod.needs.length):((c.pods.getD k default).pod.needs.getD j default).values.length=1:=by
  unfold expB plainB at h
  simp only [Bool.and_eq_true,Bool.or_eq_true] at h
  have h2:=h.2.2.2
  have h3:allB c.pods.length (podPlain c)=true:=by
    rcases h2 with h2|h2
    · exact absurd h2 (by decide)
    · exact h2.2
  have h4:=allB_at h3 hk
  unfold podPlain at h4
  simp only [Bool.and_eq_true] at h4
  have h5:=allB_at h4.2.2 hj
  unfold needPlain at h5
  simp only [Bool.and_eq_true,beq_iff_eq] at h5
  omega
theorem varB_small {n:Int} (h0:0≤n) (h:n < 128):varB n=strOf [n]:=by
  unfold varB
  rw [if_neg (by omega),varI_small h0 h]
theorem snap2_eq {c:ClusterD} (h:expB c 2=true):snapT c=(varB 2++(varB 1++varB 3))++bodyT c:=by
  unfold snapT
  rw [if_pos (cl_exp h)]
  obtain ⟨h1,h2,h3⟩:=exp_usual h
  rw [h1,h2,h3,baAssoc,baAssoc]
theorem var3:(varB 2++(varB 1++varB 3)).size=3:=by
  rw [ByteArray.size_append,ByteArray.size_append,varB_small (by decide) (by decide),varB_small (by decide) (by decide),varB_small (by decide) (by decide),strOf_size,strOf_size,strOf_size]
  rfl
theorem cl_small {c:ClusterD} (h:clusterB c=true):c.hosts.length≤8∧c.pods.length≤12:=by
  rw [clusterB_eq] at h
  simp only [Bool.and_eq_true,decide_eq_true_eq] at h
  exact ⟨h.1,h.2.1⟩
theorem getD_default {α:Type} [Inhabited α] {xs:List α}{k:Nat} (h:xs.length≤k):xs.getD k default=default:=by simp [List.getD,List.getElem?_eq_none h]
theorem cl_pods0 {c:ClusterD} (h:clusterB c=true) {k:Nat} (hk:k < c.pods.length):podB (c.pods.getD k default).pod=true:=by
  rw [clusterB_eq] at h
  simp only [Bool.and_eq_true] at h
  have:=allB_at h.2.2.2.2.2 hk
  rw [placedB_eq] at this
  simp only [Bool.and_eq_true] at this
  exact this.1
theorem cl_needs {c:ClusterD} (h:clusterB c=true) (k:Nat):(c.pods.getD k default).pod.needs.length≤4:=by
  by_cases hk:k < c.pods.length
  · exact pod_needs (cl_pods0 h hk)
  · rw [getD_default (by omega)];decide
theorem cl_w1 {c:ClusterD} (h:clusterB c=true):c.w1≤9223372036854775807:=by have:=cl_weights h;omega
theorem cl_w2 {c:ClusterD} (h:clusterB c=true):c.w2≤9223372036854775807:=by have:=cl_weights h;omega
theorem cl_w3 {c:ClusterD} (h:clusterB c=true):c.w3≤9223372036854775807:=by have:=cl_weights h;omega
def usualT:ByteArray:=varB 2++varB 1++varB 3
theorem hostAt_rng (hs:List HostD) (nm:ByteArray):-1≤hostAtB hs nm∧hostAtB hs nm < hs.length:=by
  obtain ⟨h1,h2,_⟩:=firstN_rng hs.length fun k=>eqB (hs.getD k default).name nm
  exact ⟨h1,h2⟩
theorem usual_size:usualT.size=3:=by
  rw [usualT,baAssoc]
  exact var3
theorem ext_app (a b:ByteArray):(a++b).extract a.size (a++b).size=b:=by
  exact ByteArray.extract_append_eq_right rfl (ByteArray.size_append)
theorem snap2_tail {c:ClusterD} (h:expB c 2=true):(snapT c).extract 3 (snapT c).size=bodyT c:=by
  rw [snap2_eq h]
  have:=ext_app (varB 2++(varB 1++varB 3)) (bodyT c)
  rw [var3] at this
  exact this
theorem snap2_size {c:ClusterD} (h:expB c 2=true):3≤(snapT c).size:=by
  rw [snap2_eq h,ByteArray.size_append,var3]
  omega
end Go.Proofs.YtgoeccemfgniiaaGreat
