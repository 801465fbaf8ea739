/- Tr2 (what is wanted of them). -/
import Derived.Test.YtgoeccemfgniiaaGreatUTr
namespace Go.Proofs.YtgoeccemfgniiaaGreat
open Go.RowKit
set_option linter.unusedVariables false
set_option maxRecDepth 100000
theorem varB_fit {n:Int} (k:Nat) (h:n < 128 ^ (k+1)):(varB n).size≤k+1:=by
  unfold varB
  split
  · exact Nat.zero_le _
  · rw [strOf_size]
    refine varL_len k _ ?_
    have:((n.toNat:Nat):Int) < ((128 ^ (k+1):Nat):Int):=by push_cast;omega
    exact_mod_cast this
theorem varB_1 {n:Int} (h:n < 128):(varB n).size≤1:=varB_fit 0 (by simpa using h)
theorem varB_5 {n:Int} (h:n≤1000000000):(varB n).size≤5:=varB_fit 4 (Int.lt_of_le_of_lt h (by decide))
theorem varB_2 {n:Int} (h:n≤1000):(varB n).size≤2:=varB_fit 1 (Int.lt_of_le_of_lt h (by decide))
theorem short_1 {t:ByteArray}{m:Nat} (hm:m < 128) (h:t.size≤m):(shortB t).size≤1+m:=by
  unfold shortB
  rw [ByteArray.size_append]
  have:=varB_1 (n:=(t.size:Int)) (by omega)
  omega
theorem labelsT_fit {ls:List LabelD} (h:labelsB ls=true):(labelsT ls).size≤313:=by
  unfold labelsB at h
  simp only [Bool.and_eq_true,decide_eq_true_eq] at h
  unfold labelsT
  rw [ByteArray.size_append]
  have h1:=varB_1 (n:=(ls.length:Int)) (by omega)
  have h2:=catN_max (f:=labelTx ls) (m:=52) h.1 fun k hk=>by
    have h3:=allB_at h.2 hk
    simp only [Bool.and_eq_true] at h3
    unfold labelTx
    rw [ByteArray.size_append]
    have h4:=short_1 (by decide) (key_le h3.1)
    have h5:=short_1 (by decide) (value_le h3.2.1)
    omega
  omega
theorem hostT_fit {x:HostD} (hf:x.fine):(hostT x).size≤566:=by
  unfold hostT
  split
  · rename_i h
    unfold hostB at h
    simp only [Bool.and_eq_true] at h
    obtain ⟨h1,h2,h3,_,_,h6⟩:=h
    unfold taintsB at h3
    unfold inB at h6
    simp only [Bool.and_eq_true,decide_eq_true_eq] at h3 h6
    simp only [ByteArray.size_append]
    have e1:=short_1 (by decide) (name_le h1)
    have e2:=labelsT_fit h2
    have e3:=varB_le hf.cpu.2
    have e4:=varB_le hf.mem.2
    have e5:=varB_1 (n:=x.slots) (by omega)
    have e6:=varB_1 (n:=(x.taints.length:Int)) (by omega)
    have e7:=catN_max (f:=taintTx x.taints) (m:=53) h3.1 fun k hk=>by
      have h5:=allB_at h3.2 hk
      unfold taintB inB at h5
      simp only [Bool.and_eq_true,decide_eq_true_eq] at h5
      unfold taintTx
      simp only [ByteArray.size_append]
      have h6:=short_1 (by decide) (key_le h5.1.1)
      have h7:=short_1 (by decide) (value_le h5.1.2.1)
      have h8:=varB_1 (n:=(x.taints.getD k default).effect) (by omega)
      omega
    omega
  · exact Nat.zero_le _
theorem podT_fit {x:PodD} (hf:x.fine):(podT x).size≤1040:=by
  unfold podT
  split
  · rename_i h
    unfold podB at h
    simp only [Bool.and_eq_true] at h
    obtain ⟨h1,h2,h3,h4,_,_,h7⟩:=h
    unfold needsB at h3
    unfold tolersB at h4
    unfold inB at h7
    simp only [Bool.and_eq_true,decide_eq_true_eq] at h3 h4 h7
    simp only [ByteArray.size_append]
    have e1:=short_1 (by decide) (name_le h1)
    have e2:=labelsT_fit h2
    have e3:=varB_le hf.cpu.2
    have e4:=varB_le hf.mem.2
    have e5:=varB_2 (n:=x.rank) (by omega)
    have e6:=varB_1 (n:=(x.needs.length:Int)) (by omega)
    have e7:=varB_1 (n:=(x.tolers.length:Int)) (by omega)
    have e8:=catN_max (f:=needTx x.needs) (m:=117) h3.1 fun k hk=>by
      have h5:=allB_at h3.2 hk
      unfold needB at h5
      simp only [Bool.and_eq_true] at h5
      obtain ⟨⟨h6,h7,h8⟩,_⟩:=h5
      unfold inB at h7
      simp only [Bool.and_eq_true,decide_eq_true_eq] at h7
      unfold needTx
      simp only [ByteArray.size_append]
      have g1:=short_1 (by decide) (key_le h6)
      have g2:=varB_1 (n:=(x.needs.getD k default).op) (by omega)
      have hl:(x.needs.getD k default).values.length≤4∧∀ j,j < (x.needs.getD k default).values.length→valueB ((x.needs.getD k default).values.getD j default)=true:=by
        split at h8
        · have:(x.needs.getD k default).values.length=0:=by
            have:=beq_iff_eq.1 h8
            omega
          exact ⟨by omega,fun j hj=>by omega⟩
        · unfold inB at h8
          simp only [Bool.and_eq_true,decide_eq_true_eq] at h8
          refine ⟨by omega,fun j hj=>?_⟩
          have:=allB_at h8.2 hj
          simp only [Bool.and_eq_true] at this
          exact this.1
      have g3:=varB_1 (n:=((x.needs.getD k default).values.length:Int)) (by omega)
      have g4:=catN_max (f:=valTx (x.needs.getD k default).values) (m:=21) hl.1 fun j hj=>short_1 (by decide) (value_le (hl.2 j hj))
      omega
    have e9:=catN_max (f:=tolerTx x.tolers) (m:=54) h4.1 fun k hk=>by
      have h5:=allB_at h4.2 hk
      unfold tolerB inB at h5
      simp only [Bool.and_eq_true,decide_eq_true_eq] at h5
      obtain ⟨⟨h0,h6⟩,_⟩:=h5
      unfold tolerTx
      simp only [ByteArray.size_append]
      have hl:(x.tolers.getD k default).key.size≤30∧(x.tolers.getD k default).value.size≤20:=by
        split at h6
        · simp only [Bool.and_eq_true] at h6
          exact ⟨key_le h6.1,value_le h6.2⟩
        · simp only [Bool.and_eq_true,Bool.or_eq_true] at h6
          exact ⟨h6.2.elim (fun h=>empty_le h 30) key_le,empty_le h6.1 20⟩
      have g1:=short_1 (by decide) hl.1
      have g2:=short_1 (by decide) hl.2
      have g3:=varB_1 (n:=(x.tolers.getD k default).effect) (by omega)
      have g4:=varB_1 (n:=flagN (x.tolers.getD k default).equal) (by have:=flag_rng (x.tolers.getD k default).equal;omega)
      omega
    omega
  · exact Nat.zero_le _
theorem place_fit {c:ClusterD}{p:PlacedD} (hl:c.hosts.length≤8) (hs:p.seq≤1000000000):(placeT c p).size≤6:=by
  unfold placeT
  rw [ByteArray.size_append]
  have h1:=hostAt_rng c.hosts p.on
  have h2:=varB_1 (n:=hostAtB c.hosts p.on+1) (by omega)
  have h3:=varB_5 hs
  omega
theorem body_fit {c:ClusterD} (hc:c.fine) (h:clusterB c=true):(bodyT c).size≤17087:=by
  have hs:=cl_small h
  have hx:=next_rng h
  unfold bodyT
  simp only [ByteArray.size_append]
  have e1:=varB_5 hx.2
  have e2:=varB_1 (n:=(c.hosts.length:Int)) (by omega)
  have e3:=varB_1 (n:=(c.pods.length:Int)) (by omega)
  have e4:=catN_max (f:=hostTAt c) (m:=566) hs.1 fun k _=>hostT_fit (hc.host k)
  have e5:=catN_max (f:=podTAt c) (m:=1046) hs.2 fun k hk=>by
    unfold podTAt
    rw [ByteArray.size_append]
    have h1:=podT_fit (hc.pod k)
    have h2:=place_fit (c:=c) hs.1 (cl_placed h hk).2.1.2
    omega
  omega
theorem snapT_fit {c:ClusterD} (hc:c.fine):(snapT c).size≤17090:=by
  unfold snapT
  split
  · rename_i h
    have hw:=cl_weights h
    simp only [ByteArray.size_append]
    have e1:=varB_1 (n:=c.w1) (by omega)
    have e2:=varB_1 (n:=c.w2) (by omega)
    have e3:=varB_1 (n:=c.w3) (by omega)
    have e4:=body_fit hc h
    omega
  · exact Nat.zero_le _
theorem snap2T_fit {c:ClusterD} (hc:c.fine):(snap2T c).size≤17090:=by
  unfold snap2T
  split
  · rename_i h
    have:=body_fit hc (cl_exp h)
    omega
  · exact Nat.zero_le _
theorem snap1T_fit {c:ClusterD} (hc:c.fine):(snap1T c).size≤17090:=by
  unfold snap1T
  split
  · rename_i he
    have h:=cl_exp he
    have hs:=cl_small h
    have hx:=next_rng h
    simp only [ByteArray.size_append]
    have e1:=varB_5 hx.2
    have e2:=varB_1 (n:=(c.hosts.length:Int)) (by omega)
    have e3:=varB_1 (n:=(c.pods.length:Int)) (by omega)
    have e4:=catN_max (f:=host1At c) (m:=352) hs.1 fun k hk=>by
      have hb:=cl_hosts h hk
      unfold hostB at hb
      simp only [Bool.and_eq_true] at hb
      unfold host1At
      simp only [ByteArray.size_append]
      have g1:=short_1 (by decide) (name_le hb.1)
      have g2:=labelsT_fit hb.2.1
      have g3:=varB_le (hc.host k).cpu.2
      have g4:=varB_le (hc.host k).mem.2
      omega
    have e5:=catN_max (f:=pod1At c) (m:=567) hs.2 fun k hk=>by
      have hb:=(cl_placed h hk).1
      have hn:=pod_needs hb
      have hs2:=place_fit (c:=c) hs.1 (cl_placed h hk).2.1.2
      unfold podB at hb
      simp only [Bool.and_eq_true] at hb
      have h3:=hb.2.2.1
      unfold needsB at h3
      simp only [Bool.and_eq_true,decide_eq_true_eq] at h3
      unfold pod1At
      simp only [ByteArray.size_append]
      have g1:=short_1 (by decide) (name_le hb.1)
      have g2:=labelsT_fit hb.2.1
      have g3:=varB_le (hc.pod k).cpu.2
      have g4:=varB_le (hc.pod k).mem.2
      have g5:=varB_1 (n:=((c.pods.getD k default).pod.needs.length:Int)) (by omega)
      have g6:=catN_max (f:=need1Tx (c.pods.getD k default).pod.needs) (m:=52) hn fun j hj=>by
        have h5:=allB_at h3.2 hj
        unfold needB at h5
        simp only [Bool.and_eq_true] at h5
        obtain ⟨⟨h6,h7,h8⟩,_⟩:=h5
        have h9:=exp_plain he hk hj
        have h10:=(exp1_pod he hk).2.2 j hj
        rw [h10,if_neg (by decide)] at h8
        simp only [Bool.and_eq_true] at h8
        have h11:=allB_at h8.2 (show 0 < _ by omega)
        simp only [Bool.and_eq_true] at h11
        unfold need1Tx
        rw [ByteArray.size_append]
        have q1:=short_1 (by decide) (key_le h6)
        have q2:=short_1 (by decide) (value_le h11.1)
        omega
      omega
    omega
  · exact Nat.zero_le _
theorem snapAt_fit {c:ClusterD} (hc:c.fine) (k:Int):(snapAtT c k).size≤17090:=by
  unfold snapAtT
  split
  · exact snap1T_fit hc
  · split
    · exact snap2T_fit hc
    · split
      · exact snapT_fit hc
      · exact Nat.zero_le _
theorem exp_rng {c:ClusterD}{k:Int} (h:expB c k=true):1≤k∧k≤3:=by
  unfold expB inB at h
  simp only [Bool.and_eq_true,decide_eq_true_eq] at h
  exact h.1
end Go.Proofs.YtgoeccemfgniiaaGreat
