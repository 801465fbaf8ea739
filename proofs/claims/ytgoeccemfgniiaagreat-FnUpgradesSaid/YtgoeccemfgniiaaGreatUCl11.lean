/- Cl11 (what is wanted of them). -/
import Derived.Test.YtgoeccemfgniiaaGreatUCl7
namespace Go.Proofs.YtgoeccemfgniiaaGreat
open Go.RowKit
set_option linter.unusedVariables false
set_option linter.unusedSimpArgs false
set_option maxRecDepth 100000
set_option maxHeartbeats 1000000
theorem mp202:mapK Tryz.prog 202=true:=by kernel_rfl
theorem any_seq (c:ClusterD) (k:Nat) (h:k≤c.pods.length) (n:Int):n ∈ (c.pods.take k).map (fun p=>p.seq)↔∃ j,j < k∧(c.pods.getD j default).seq=n:=by
  rw [List.mem_map]
  constructor
  · rintro ⟨p,hp,rfl⟩
    obtain ⟨j,hj,rfl⟩:=List.getElem_of_mem hp
    have h1:j < k∧j < c.pods.length:=by rw [List.length_take] at hj;omega
    exact ⟨j,h1.1,by simp [h1.2]⟩
  · rintro ⟨j,hj,rfl⟩
    have h1:j < c.pods.length:=by omega
    refine ⟨c.pods.getD j default,?_,rfl⟩
    rw [List.mem_take_iff_getElem]
    exact ⟨j,by omega,by simp [h1]⟩
theorem seen_not {c:ClusterD}{k:Nat} (h:k≤c.pods.length) (hn:¬ (c.pods.getD k default).seq ∈ (c.pods.take k).map (fun p=>p.seq)):allB k (seqAt c k)=true:=by
  refine List.all_eq_true.2 fun j hj=>?_
  have:=List.mem_range.1 hj
  unfold seqAt
  rw [Bool.not_eq_true',beq_eq_false_iff_ne]
  exact fun e=>hn ((any_seq c k h _).2 ⟨j,this,e⟩)
theorem seen_yes {c:ClusterD}{k:Nat} (h:k≤c.pods.length) (hn:(c.pods.getD k default).seq ∈ (c.pods.take k).map (fun p=>p.seq)):allB k (seqAt c k)=false:=by
  obtain ⟨j,hj,e⟩:=(any_seq c k h _).1 hn
  exact allN_no hj (by unfold seqAt;rw [e];simp)
set_option maxHeartbeats 8000000 in
theorem impl_ClusterOk_D (c:ClusterD) (hc:c.fine):Spec Tryz.prog 100 [c.d] (fun d=>d = .sc (.bool (clusterB c))):=by
  unfold ClusterD.d
  have ex0:=@takeMap_snoc
  refine sp_ (rs:= [.tmp 2]) (nt:=155) Tryz.func100 rfl fun X hX=>?_
  refine nm_ ?_
  repeat' ((first|contradiction|(with_reducible exact tt_)|((with_reducible show Wk (AwStepF _ _ _ _ _ _ _));first|(first|refine lkP_ rfl rfl rfl mo_ mp202 ?_|refine lk_ rfl rfl rfl mo_ mp202 ?_)|(refine cl_ rfl _ _ (within_D _ _ _) rfl rfl ?_;rintro _ rfl)|(refine cl_ rfl _ _ (impl_WeightsOk_D _ _ _) rfl rfl ?_;rintro _ rfl)|(refine cl_ rfl _ _ (impl_UsedOn_D c _ hc) rfl rfl ?_;rintro _ rfl)|(refine cl_ rfl _ _ (impl_HostOk_D (c.hosts.getD m default) (hc.host m)) rfl rfl ?_;rintro _ rfl)|(refine cl_ rfl _ _ (impl_PodOk_D (c.pods.getD k default).pod (hc.pod k)) rfl rfl ?_;rintro _ rfl)|(refine cl_ rfl _ _ (impl_HostAt_D c _ hc.hlen) rfl rfl ?_;rintro _ rfl))|((with_reducible show Wk (AwStep _ _ _ _ _));first|(refine mm_ rfl ?_)|(first|refine lkP_ rfl rfl rfl mo_ mp202 ?_|refine lk_ rfl rfl rfl mo_ mp202 ?_)|(refine pm_ rfl rfl rfl rfl mo_ mp202 (by simp_all) ?_)|(refine pln_ ?_))|((with_reducible show Wk (AwCode _ _ _ _ _));first|(refine wo_ (id:=7) [] [(0,true),(1,false),(2,true),(3,true),(4,true),(5,true),(6,true),(7,true),(8,true),(9,true),(10,true),(11,true),(12,true),(14,true),(15,true),(13,false),(16,true),(17,true),(18,true),(19,true),(20,true),(21,true),(22,true),(23,true),(24,true),(25,true),(26,true),(27,true),(28,true),(29,true),(30,true),(31,true),(32,true),(33,true),(34,true),(35,true),(36,true),(37,true),(38,true),(39,true),(40,true)] ?_)|(refine wo_ (id:=14) [] [(0,true),(1,true),(2,false),(3,true),(4,true),(5,true),(6,true),(7,true),(8,true),(9,true),(10,true),(11,true),(12,true),(13,true),(14,true),(16,true),(17,true),(18,true),(15,false),(19,true),(20,true),(21,true),(22,true),(23,true),(24,true),(25,true),(26,false),(27,true),(28,true),(29,true),(30,true),(31,true),(32,true),(33,true),(34,false),(35,true),(36,true),(37,true),(38,true),(39,true),(40,true),(41,true),(42,true),(43,true),(44,true),(45,false),(46,true),(47,true),(48,true)] ?_)|(refine lpU_ 0x3800000002 (ι:=Nat) (fun m=> [(37,.sc (.int .i64 (m:Int)))]) (fun m=>m≤c.hosts.length∧∀ j:Nat,j < m→hostAtOk c j=true) (fun m=>c.hosts.length - m) 0 ?_ ?_;(focus (exact ⟨by omega,allN_zero⟩));rintro _ hN0 m hinv;(try dsimp only at hinv);obtain ⟨hkm,hjm⟩:=hinv;replace hjm:=Lib.hid hjm;skip)|(refine lpV_ (ι:=Nat) [] [0,1] 0x3800000000000000000000202 (fun k=> [(97,.sc (.int .i64 (k:Int)))]) (fun k=> [(1,⟨202,0,0,.none::seenD ((c.pods.take k).map (fun p=>p.seq))⟩)]) (fun k=>k≤c.pods.length∧∀ j:Nat,j < k→placedB c j=true) (fun k=>c.pods.length - k) 0 ?_ ?_;(focus (exact ⟨by omega,allN_zero⟩));rintro _ hN1 k hinv;(try dsimp only at hinv);obtain ⟨hk,hj⟩:=hinv;replace hj:=Lib.hid hj;skip))|((with_reducible show Wk (boolK _ _ _ _));first|(refine bk_ (fun h h'=>?_) (fun h h'=>?_)))|((with_reducible show Wk (_∧_));first|(refine and_ ?_ ?_))|(refine hN0.go (m+1) ?_ ?_;(focus (exact ⟨by show m+1≤c.hosts.length;omega,allN_step hjm.out (by unfold hostAtOk nextB fitsB;rcases hu:usedB c.pods (c.hosts.getD m default).name with _|⟨a,b,n⟩<;>simp_all)⟩));(focus (show c.hosts.length - (m+1) < c.hosts.length - m;omega)))|(refine hN1.go (k+1) [] [0,1] ?_ ?_;(focus (exact ⟨by show k+1≤_;omega,allN_step hj.out (by rw [placedB_eq,seen_not (k:=k) (by omega) (by assumption)];unfold nextB;simp_all)⟩));(focus (show c.pods.length - (k+1) < c.pods.length - k;omega)))|fail)<;>(try refine nm_ ?_))
  all_goals clear ex0
  all_goals (refine ⟨?_⟩)
  all_goals first|contradiction|(exfalso;omega)|(rw [clusterB_eq,allN_yes (n:=c.pods.length) (p:=placedB c) (k:=k) (by omega) hj.out,allN_yes (n:=c.hosts.length) (p:=hostAtOk c) (k:=m) (by omega) hjm.out,show decide (c.hosts.length≤8)=true from decide_eq_true (by omega),show decide (c.pods.length≤12)=true from decide_eq_true (by omega)];simp_all;done)|(refine cl_host (m:=m) ?_ ?_;(focus (omega;done));(focus (unfold hostAtOk nextB fitsB;rcases hu:usedB c.pods (c.hosts.getD m default).name with _|⟨a,b,n⟩<;>first|(simp_all;done)|(simp_all;omega);done)))|(refine cl_pod (k:=k) ?_ ?_;(focus (omega;done));(focus (rw [placedB_eq,seen_yes (k:=k) (by omega) (by assumption)];simp;done)))|(refine cl_pod (k:=k) ?_ ?_;(focus (omega;done));(focus (rw [placedB_eq];unfold nextB;first|(simp_all;done)|(simp_all;omega);done)))|(rw [clusterB_eq];rw [Bool.not_eq_true'] at h;rw [h];simp;done)|(rw [clusterB_eq];simp_all;done)|(rw [clusterB_eq];simp_all;omega)
set_option maxHeartbeats 4000000 in
theorem impl_isOldest_D (c:ClusterD) (hc:c.fine):Spec Tryz.prog 103 [c.d] (fun d=>d = .sc (.bool (plainB c))):=by
  unfold ClusterD.d;have hc1:=hc.hlen;have hc2:=hc.plen
  refine sp_ (rs:= [.tmp 2]) (nt:=63) Tryz.func103 rfl fun X hX=>?_
  refine nm_ ?_
  repeat' ((first|contradiction|(with_reducible exact tt_)|((with_reducible show Wk (AwStep _ _ _ _ _));first|(refine pln_ ?_))|((with_reducible show Wk (AwCode _ _ _ _ _));first|(refine lpU_ 0x1c02 (ι:=Nat) (fun m=> [(12,.sc (.int .i64 (m:Int)))]) (fun m=>m≤c.hosts.length∧∀ j:Nat,j < m→hostPlain c j=true) (fun m=>c.hosts.length - m) 0 ?_ ?_;(focus (exact ⟨by omega,allN_zero⟩));rintro _ hN0 m hinv;(try dsimp only at hinv);obtain ⟨hkm,hjm⟩:=hinv;replace hjm:=Lib.hid hjm;skip)|(refine lpU_ 0x38000000 (ι:=Nat) (fun k=> [(29,.sc (.int .i64 (k:Int)))]) (fun k=>k≤c.pods.length∧∀ j:Nat,j < k→podPlain c j=true) (fun k=>c.pods.length - k) 0 ?_ ?_;(focus (exact ⟨by omega,allN_zero⟩));rintro _ hN1 k hinv;(try dsimp only at hinv);obtain ⟨hk,hj⟩:=hinv;replace hj:=Lib.hid hj;have hq0:=(hc.pod k).nlen;skip)|(refine lpU_ 0x1c00038000000 (ι:=Nat) (fun q=> [(48,.sc (.int .i64 (q:Int)))]) (fun q=>q≤(c.pods.getD k default).pod.needs.length∧∀ j:Nat,j < q→needPlain (c.pods.getD k default).pod.needs j=true) (fun q=>(c.pods.getD k default).pod.needs.length - q) 0 ?_ ?_;(focus (exact ⟨by omega,allN_zero⟩));rintro _ hN2 q hinv;(try dsimp only at hinv);obtain ⟨hkq,hjq⟩:=hinv;replace hjq:=Lib.hid hjq;skip))|((with_reducible show Wk (boolK _ _ _ _));first|(refine bk_ (fun h h'=>?_) (fun h h'=>?_)))|((with_reducible show Wk (_∧_));first|(refine and_ ?_ ?_))|(refine hN0.go (m+1) ?_ ?_;(focus (exact ⟨by show m+1≤c.hosts.length;omega,allN_step hjm.out (by unfold hostPlain;simp_all)⟩));(focus (show c.hosts.length - (m+1) < c.hosts.length - m;omega)))|(refine hN1.go (k+1) ?_ ?_;(focus (exact ⟨by show k+1≤c.pods.length;omega,allN_step hj.out (by unfold podPlain;rw [allN_yes (n:=(c.pods.getD k default).pod.needs.length) (p:=needPlain (c.pods.getD k default).pod.needs) (by omega) hjq.out];simp_all)⟩));(focus (show c.pods.length - (k+1) < c.pods.length - k;omega)))|(refine hN2.go (q+1) ?_ ?_;(focus (exact ⟨by show q+1≤(c.pods.getD k default).pod.needs.length;omega,allN_step hjq.out (by unfold needPlain;simp_all)⟩));(focus (show (c.pods.getD k default).pod.needs.length - (q+1) < (c.pods.getD k default).pod.needs.length - q;omega)))|fail)<;>(try refine nm_ ?_))
  all_goals (refine ⟨?_⟩)
  all_goals first|contradiction|(rw [plainB,allN_no (n:=c.hosts.length) (p:=hostPlain c) (k:=m) (by omega) (by unfold hostPlain;simp_all)];rfl)|(have e:=allN_no (n:=(c.pods.getD k default).pod.needs.length) (p:=needPlain (c.pods.getD k default).pod.needs) (k:=q) (by omega) (by unfold needPlain;simp_all);rw [plainB,allN_no (n:=c.pods.length) (p:=podPlain c) (k:=k) (by omega) (by unfold podPlain;rw [e];simp)];simp;done)|(rw [plainB,allN_no (n:=c.pods.length) (p:=podPlain c) (k:=k) (by omega) (by unfold podPlain;simp_all)];simp;done)|(rw [plainB,allN_yes (n:=c.hosts.length) (p:=hostPlain c) (k:=m) (by omega) hjm.out,allN_yes (n:=c.pods.length) (p:=podPlain c) (k:=k) (by omega) hj.out];rfl)
theorem impl_Expressible_D (c:ClusterD) (k:Int) (hc:c.fine):Spec Tryz.prog 32 [c.d,.sc (.int .i64 k)] (fun d=>d = .sc (.bool (expB c k))):=by
  unfold ClusterD.d
  refine sp_ (rs:= [.tmp 4]) (nt:=25) Tryz.func32 rfl fun X hX=>?_
  refine nm_ ?_
  repeat' ((first|contradiction|(with_reducible exact tt_)|((with_reducible show Wk (AwStepF _ _ _ _ _ _ _));first|(refine cl_ rfl _ _ (impl_ClusterOk_D c hc) rfl rfl ?_;rintro _ rfl)|(refine cl_ rfl _ _ (within_D _ _ _) rfl rfl ?_;rintro _ rfl)|(refine cl_ rfl _ _ (impl_UsualWeights_D) rfl rfl ?_;rintro _ rfl)|(refine cl_ rfl _ _ (impl_isOldest_D c hc) rfl rfl ?_;rintro _ rfl)|(refine eqg_ rfl ?_))|((with_reducible show Wk (AwStep _ _ _ _ _));first|(refine pln_ ?_))|((with_reducible show Wk (AwCode _ _ _ _ _));first|(refine wo_ (id:=5) [] [(0,true),(1,true),(2,false),(3,false)] ?_))|((with_reducible show Wk (boolK _ _ _ _));first|(refine bk_ (fun h h'=>?_) (fun h h'=>?_)))|((with_reducible show Wk (_∧_));first|(refine and_ ?_ ?_))|fail)<;>(try refine nm_ ?_))
  all_goals (refine ⟨?_⟩)
  all_goals first|contradiction|rfl|(simp_all [expB,usualB]<;>omega)|(simp [expB,usualB, *]<;>omega)
end Go.Proofs.YtgoeccemfgniiaaGreat
