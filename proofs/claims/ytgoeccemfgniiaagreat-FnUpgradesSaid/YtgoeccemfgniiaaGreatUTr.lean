/- Tr (what is wanted of them). -/
import Derived.Test.YtgoeccemfgniiaaGreatUSn3
namespace Go.Proofs.YtgoeccemfgniiaaGreat
open Go.RowKit
set_option linter.unusedVariables false
set_option maxRecDepth 100000
theorem bytB_left {a b:ByteArray}{k:Nat} (h:k < a.size):bytB (a++b) k=bytB a k:=by
  unfold bytB
  rw [ByteArray.data_append,Array.getD_eq_getD_getElem?, Array.getD_eq_getD_getElem?, Array.getElem?_append_left h]
theorem bytB_right (a b:ByteArray) (k:Nat):bytB (a++b) (a.size+k)=bytB b k:=by
  unfold bytB
  rw [ByteArray.data_append,Array.getD_eq_getD_getElem?, Array.getD_eq_getD_getElem?]
  have e:(a.data++b.data)[a.size+k]? = b.data[k]? :=by
    rw [Array.getElem?_append_right (show a.data.size≤a.size+k from Nat.le_add_right _ _)]
    congr 1
    exact Nat.add_sub_cancel_left _ _
  rw [e]
theorem str_data:∀ (ns:List Int) (r:ByteArray),(ns.foldl (fun r n=>r.push (UInt8.ofNat n.toNat)) r).data.toList=r.data.toList++ns.map fun n=>UInt8.ofNat n.toNat
  | [],r=>by simp
  |n::l,r=>by
    show (l.foldl _ (r.push _)).data.toList=_
    rw [str_data l]
    show ((r.data.push _).toList++_)=_
    simp
theorem bytB_str {ns:List Int}{k:Nat} (h:k < ns.length) (h0:0≤ns[k]) (h1:ns[k]≤255):bytB (strOf ns) k=ns[k]:=by
  have e:=str_data ns ByteArray.empty
  have e2:(strOf ns).data.toList=ns.map fun n=>UInt8.ofNat n.toNat:=by unfold strOf;simpa using e
  unfold bytB
  rw [Array.getD_eq_getD_getElem?, ← Array.getElem?_toList,e2,List.getElem?_map,List.getElem?_eq_getElem h]
  simp only [Option.map_some,Option.getD_some,UInt8.toNat_ofNat']
  omega
/-- In s the text t stands at p. -/
structure At (s:ByteArray) (p:Int) (t:ByteArray):Prop where
  ex:∃ a b:ByteArray,s=a++(t++b)∧(a.size:Int)=p
theorem At.left {s t u:ByteArray}{p:Int} (h:At s p (t++u)):At s p t:=by
  obtain ⟨a,b,e,h⟩:=h.ex
  exact ⟨a,u++b,by rw [e,baAssoc],h⟩
theorem At.right {s t u:ByteArray}{p:Int} (h:At s p (t++u)):At s (p+t.size) u:=by
  obtain ⟨a,b,e,h⟩:=h.ex
  exact ⟨a++t,b,by rw [e,baAssoc,baAssoc],by rw [ByteArray.size_append];push_cast;omega⟩
theorem At.self (s:ByteArray):At s 0 s:=⟨⟨#[]⟩,⟨#[]⟩,by rw [nil_cat,cat_nil],rfl⟩
theorem At.pos {s t:ByteArray}{p:Int} (h:At s p t):0≤p:=by
  obtain ⟨a,b,e,h⟩:=h.ex
  omega
theorem At.fit {s t:ByteArray}{p:Int} (h:At s p t):p+t.size≤s.size:=by
  obtain ⟨a,b,e,h⟩:=h.ex
  rw [e,ByteArray.size_append,ByteArray.size_append]
  push_cast
  omega
theorem At.byt {s t:ByteArray}{p:Int} (h:At s p t) {k:Nat} (hk:k < t.size):bytB s (p.toNat+k)=bytB t k:=by
  obtain ⟨a,b,e,h⟩:=h.ex
  rw [show p.toNat=a.size by omega,e,bytB_right,bytB_left hk]
theorem At.cut {s t:ByteArray}{p:Int} (h:At s p t):s.extract p.toNat (p+t.size).toNat=t:=by
  obtain ⟨a,b,e,h⟩:=h.ex
  rw [show p.toNat=a.size by omega,show (p+t.size).toNat=a.size+t.size by omega,e]
  refine ByteArray.ext ?_
  rw [ByteArray.data_extract,ByteArray.data_append,ByteArray.data_append]
  show ((a.data++(t.data++b.data)).extract a.data.size (a.data.size+t.data.size))=t.data
  refine Array.ext (by simp) fun j h1 h2=>?_
  rw [Array.getElem_extract,Array.getElem_append_right (by omega)]
  simp only [Nat.add_sub_cancel_left]
  rw [Array.getElem_append_left h2]
theorem varL_pos (n:Nat):0 < (varL n).length:=by rw [varL];split<;>simp
theorem varL_rng:∀ (n:Nat) (k:Nat) (h:k < (varL n).length),0≤(varL n)[k]∧(varL n)[k]≤255
  |n,k,h=>by
    by_cases hn:n < 128
    · simp only [varL_small hn] at h ⊢
      have:k=0:=by simpa using h
      subst this
      show 0≤(n:Int)∧(n:Int)≤255
      omega
    · simp only [varL_big (show 128≤n by omega)] at h ⊢
      cases k with
      |zero=>show 0≤((128+n % 128:Nat):Int)∧_≤(255:Int);show _∧((128+n % 128:Nat):Int)≤255;omega
      |succ k=>exact varL_rng (n / 128) k (by simpa using h)
theorem varGo_at {s:ByteArray}{p:Nat}:∀ (f m i:Nat) (acc:Int),m < 128 ^ f→0 < f→(0 < i→0 < m)→(∀ k (h:k < (varL m).length),p+(i+k) < s.size∧bytB s (p+(i+k))=(varL m)[k])→varGo s p f i acc=(acc+m*128 ^ i,(p:Int)+i+(varL m).length)
  |0,_,_,_,_,h,_,_=>absurd h (Nat.lt_irrefl 0)
  |f+1,m,i,acc,hm,_,hi,hb=>by
    obtain ⟨h1,h2⟩:=hb 0 (varL_pos m)
    rw [Nat.add_zero] at h1 h2
    rw [varGo,if_pos h1]
    by_cases hs:m < 128
    · have e:(varL m)[0]'(varL_pos m)=(m:Int):=by simp only [varL_small hs];rfl
      rw [e] at h2
      rw [h2,if_pos (by omega),if_neg (by omega),varL_small hs]
      have:(m:Int) % 128=m:=by omega
      rw [this]
      rfl
    · have hb':128≤m:=by omega
      have e:(varL m)[0]'(varL_pos m)=((128+m % 128:Nat):Int):=by simp only [varL_big hb'];rfl
      rw [e] at h2
      have hf:0 < f:=by
        rcases Nat.eq_zero_or_pos f with rfl|h
        · simp at hm;omega
        · exact h
      rw [h2,if_neg (by omega),varGo_at f (m / 128) (i+1) _ (Nat.div_lt_of_lt_mul (by rw [Nat.pow_succ,Nat.mul_comm] at hm;exact hm)) hf (fun _=>by omega) fun k hk=>?_]
      · rw [varL_big hb',List.length_cons]
        have e1:((128+m % 128:Nat):Int) % 128=((m % 128:Nat):Int):=by omega
        rw [e1]
        congr 1
        · rw [Int.pow_succ,Int.add_assoc]
          congr 1
          rw [Int.mul_comm ((128:Int) ^ i) 128,← Int.mul_assoc,← Int.add_mul]
          congr 1
          omega
        · push_cast
          omega
      · have:=hb (k+1) (by rw [varL_big hb'];simpa using hk)
        have e2:i+1+k=i+(k+1):=by omega
        rw [e2]
        refine ⟨this.1,this.2.trans ?_⟩
        simp only [varL_big hb']
        rfl
theorem num_at {s:ByteArray}{p n:Int} (h:At s p (varB n)) (h0:0≤n) (h1:n≤9223372036854775807):readV s p=(n,p+(varB n).size):=by
  have hp:=h.pos
  have hf:=h.fit
  have hsz:(varB n).size=(varL n.toNat).length:=by unfold varB;rw [if_neg (by omega),strOf_size];rfl
  have h128:(128:Nat) ^ 9=9223372036854775808:=by decide
  unfold readV
  rw [if_neg (by omega),varGo_at 9 n.toNat 0 0 (by rw [h128];omega) (by decide) (fun h=>absurd h (by decide)) fun k hk=>?_]
  · rw [hsz]
    simp only [Int.pow_zero,Int.mul_one,Int.zero_add,Int.toNat_of_nonneg h0,Int.toNat_of_nonneg hp]
    congr 1
    omega
  · have e:p.toNat+(0+k)=p.toNat+k:=by omega
    rw [e]
    refine ⟨by omega,?_⟩
    rw [h.byt (by rw [hsz];exact hk)]
    have e2:varB n=strOf (varL n.toNat):=by unfold varB;rw [if_neg (by omega)];rfl
    obtain ⟨r1,r2⟩:=varL_rng n.toNat k hk
    rw [e2,bytB_str hk r1 r2]
theorem nat_at {s:ByteArray}{p:Int}{n:Nat} (h:At s p (varB n)) (h1:n≤1048576):readV s p=((n:Int),p+(varB n).size):=num_at h (by omega) (by omega)
theorem cnt_at {s:ByteArray}{p m:Int}{n:Nat} (h:At s p (varB n)) (h1:(n:Int)≤m) (h2:n≤1048576):cntR s p m=((n:Int),p+(varB n).size):=by
  have hp:=h.pos
  unfold cntR
  rw [nat_at h h2,if_neg (by simp only;omega)]
theorem cntI_at {s:ByteArray}{p m n:Int} (h:At s p (varB n)) (h0:0≤n) (h1:n≤m) (h2:n≤9223372036854775807):cntR s p m=(n,p+(varB n).size):=by
  have hp:=h.pos
  unfold cntR
  rw [num_at h h0 h2,if_neg (by simp only;omega)]
theorem txt_at {s t:ByteArray}{p:Int} (h:At s p (shortB t)) (h1:t.size≤1048576):txtR s p=(t,p+(shortB t).size):=by
  have hp:=h.pos
  have h2:At s p (varB t.size++t):=h
  have h3:=h2.right
  have hf:=h3.fit
  unfold txtR readS
  rw [if_neg (by omega),nat_at h2.left h1,if_neg (by simp only;omega)]
  simp only
  rw [h3.cut]
  unfold shortB
  rw [ByteArray.size_append]
  congr 1
  push_cast
  omega
theorem cat_split {f:Nat→ByteArray}{j:Nat}:∀ {n:Nat},j < n→∃ r,catN f n=catN f j++(f j++r)
  |n+1,h=>by
    rcases Nat.lt_or_eq_of_le (Nat.le_of_lt_succ h) with h1|rfl
    · obtain ⟨r,e⟩:=cat_split (n:=n) h1
      exact ⟨r++f n,by rw [catN_succ,e,baAssoc,baAssoc]⟩
    · exact ⟨⟨#[]⟩,by rw [catN_succ,cat_nil]⟩
theorem rep_at {α:Type}{s:ByteArray}{p:Int}{r:Int→α × Int}{x:Nat→α}{f:Nat→ByteArray}{n:Nat} (h:At s p (catN f n)) (hr:∀ k,k < n→∀ q,At s q (f k)→r q=(x k,q+(f k).size)):
    repZ r n [] p=((List.range n).map x,p+(catN f n).size):=by
  have hp:=h.pos
  have key:∀ m j,j+m=n→repZ r m ((List.range j).map x) (p+(catN f j).size)=((List.range n).map x,p+(catN f n).size):=by
    intro m
    induction m with
    |zero=>intro j hj;rw [show j=n by omega];rfl
    |succ m ih=>
      intro j hj
      obtain ⟨t,e⟩:=cat_split (f:=f) (j:=j) (n:=n) (by omega)
      rw [e] at h
      have h2:=hr j (by omega) _ h.right.left
      rw [repZ,if_neg (by omega),h2]
      simp only
      rw [show (List.range j).map x ++ [x j]=(List.range (j+1)).map x by simp [List.range_succ]]
      have e3:p+(catN f j).size+(f j).size=p+(catN f (j+1)).size:=by rw [catN_succ,ByteArray.size_append];push_cast;omega
      rw [e3]
      exact ih (j+1) (by omega)
  have hk:=key n 0 (by omega)
  have e0:p+((catN f 0).size:Int)=p:=by
    rw [catN_zero]
    show p+((0:Nat):Int)=p
    omega
  rw [e0] at hk
  simpa using hk
theorem map_get {α:Type} [Inhabited α] (xs:List α):(List.range xs.length).map (fun k=>xs.getD k default)=xs:=by
  refine List.ext_getElem (by simp) fun k h1 h2=>?_
  simp [h2]
theorem row_at {α:Type} [Inhabited α] {s:ByteArray}{p:Int}{r:Int→α × Int}{xs:List α}{f:Nat→ByteArray} (h:At s p (catN f xs.length)) (hr:∀ k,k < xs.length→∀ q,At s q (f k)→r q=(xs.getD k default,q+(f k).size)):repZ r xs.length [] p=(xs,p+(catN f xs.length).size):=by
  rw [rep_at (x:=fun k=>xs.getD k default) h hr,map_get]
theorem size3 (a b:ByteArray) (p:Int):p+a.size+b.size=p+(a++b).size:=by rw [ByteArray.size_append];push_cast;omega
theorem labelR_at {s:ByteArray}{ls:List LabelD} (hf:labelsFine ls) {k:Nat}{q:Int} (h:At s q (labelTx ls k)):labelR s q=(ls.getD k default,q+(labelTx ls k).size):=by
  unfold labelTx at h
  simp only [labelR,txt_at h.left (hf.key k),txt_at h.right (hf.value k)]
  rw [size3]
  rfl
theorem labels_at {s:ByteArray}{p:Int}{ls:List LabelD} (hf:labelsFine ls) (hl:ls.length≤6) (h:At s p (labelsT ls)):labelsS s p=(ls,p+(labelsT ls).size):=by
  unfold labelsT at h
  simp only [labelsS,labelsW,cnt_at (m:=6) h.left (by omega) hf.len,Int.toNat_natCast]
  rw [row_at h.right fun k _ q hq=>labelR_at hf hq,size3]
  rfl
theorem taintR_at {s:ByteArray}{ts:List TaintD}{k:Nat}{q:Int} (hf:(ts.getD k default).fine) (he:0≤(ts.getD k default).effect) (h:At s q (taintTx ts k)):taintR s q=(ts.getD k default,q+(taintTx ts k).size):=by
  unfold taintTx at h
  simp only [taintR,txt_at h.left hf.key,txt_at h.right.left hf.value,num_at h.right.right he hf.effect.2]
  rw [size3,size3]
  rfl
theorem labels_len {ls:List LabelD} (h:labelsB ls=true):ls.length≤6:=by
  unfold labelsB at h
  simp only [Bool.and_eq_true,decide_eq_true_eq] at h
  exact h.1
theorem host_at {s:ByteArray}{p:Int}{x:HostD} (hf:x.fine) (hb:hostB x=true) (h:At s p (hostT x)):hostS s p=(x,p+(hostT x).size):=by
  unfold hostT at h ⊢
  rw [if_pos hb] at h ⊢
  unfold hostB taintsB inB at hb
  simp only [Bool.and_eq_true,decide_eq_true_eq] at hb
  obtain ⟨_,h2,h3,h4,h5,h6⟩:=hb
  have e1:=txt_at h.left hf.name
  have e2:=labels_at hf.labels (labels_len h2) h.right.left
  have e3:=num_at h.right.right.left h4 hf.cpu.2
  have e4:=num_at h.right.right.right.left h5 hf.mem.2
  have e5:=num_at h.right.right.right.right.left (by omega) hf.slots.2
  have e6:=cnt_at (m:=4) h.right.right.right.right.right.left (by omega) hf.tlen
  have e7 := row_at (r := taintR s) h.right.right.right.right.right.right fun k hk q hq => taintR_at (hf.taint k) (by
    have h7:=allB_at h3.2 hk
    unfold taintB inB at h7
    simp only [Bool.and_eq_true,decide_eq_true_eq] at h7
    omega) hq
  simp only [hostS,hostW,e1,e2,e3,e4,e5,e6,Int.toNat_natCast,e7]
  simp only [ByteArray.size_append]
  congr 1
  push_cast
  omega
theorem valR_at {s:ByteArray}{vs:List ByteArray}{k:Nat}{q:Int} (hf:strOk (vs.getD k default)) (h:At s q (valTx vs k)):txtR s q=(vs.getD k default,q+(valTx vs k).size):=txt_at h hf
theorem needR_at {s:ByteArray}{ns:List NeedD}{k:Nat}{q:Int} (hf:(ns.getD k default).fine) (ho:0≤(ns.getD k default).op) (hv:(ns.getD k default).values.length≤4) (h:At s q (needTx ns k)):needW repZ s q=(ns.getD k default,q+(needTx ns k).size):=by
  unfold needTx at h
  have e1:=txt_at h.left hf.key
  have e2:=num_at h.right.left ho hf.op.2
  have e3:=cnt_at (m:=4) h.right.right.left (by omega) hf.len
  have e4:=row_at (r:=txtR s) h.right.right.right fun k _ q hq=>valR_at (hf.value k) hq
  simp only [needW,e1,e2,e3,Int.toNat_natCast,e4]
  unfold needTx
  simp only [ByteArray.size_append]
  congr 1
  push_cast
  omega
theorem flag_rng (b:Bool):0≤flagN b∧flagN b≤1:=by cases b<;>decide
theorem tolerR_at {s:ByteArray}{ts:List TolerD}{k:Nat}{q:Int} (hf:(ts.getD k default).fine) (he:0≤(ts.getD k default).effect) (h:At s q (tolerTx ts k)):tolerR s q=(ts.getD k default,q+(tolerTx ts k).size):=by
  unfold tolerTx at h
  have hr:=flag_rng (ts.getD k default).equal
  have e1:=txt_at h.left hf.key
  have e2:=cntI_at (m:=1) h.right.left hr.1 hr.2 (by omega)
  have e3:=txt_at h.right.right.left hf.value
  have e4:=num_at h.right.right.right he hf.effect.2
  have e5:(flagN (ts.getD k default).equal==1)=(ts.getD k default).equal:=by cases (ts.getD k default).equal<;>rfl
  simp only [tolerR,e1,e2,e3,e4,e5]
  unfold tolerTx
  simp only [ByteArray.size_append]
  congr 1
  push_cast
  omega
theorem need_facts {ns:List NeedD} (h:needsB ns=true) {k:Nat} (hk:k < ns.length):0≤(ns.getD k default).op∧(ns.getD k default).values.length≤4:=by
  unfold needsB at h
  simp only [Bool.and_eq_true,decide_eq_true_eq] at h
  have h5:=allB_at h.2 hk
  unfold needB at h5
  simp only [Bool.and_eq_true] at h5
  obtain ⟨⟨h6,h7,h8⟩,_⟩:=h5
  unfold inB at h7
  simp only [Bool.and_eq_true,decide_eq_true_eq] at h7
  refine ⟨by omega,?_⟩
  split at h8
  · have:=beq_iff_eq.1 h8
    omega
  · unfold inB at h8
    simp only [Bool.and_eq_true,decide_eq_true_eq] at h8
    omega
theorem toler_facts {ts:List TolerD} (h:tolersB ts=true) {k:Nat} (hk:k < ts.length):0≤(ts.getD k default).effect:=by
  unfold tolersB at h
  simp only [Bool.and_eq_true,decide_eq_true_eq] at h
  have h5:=allB_at h.2 hk
  unfold tolerB inB at h5
  simp only [Bool.and_eq_true,decide_eq_true_eq] at h5
  exact h5.1.1.1
theorem pod_at {s:ByteArray}{p:Int}{x:PodD} (hf:x.fine) (hb:podB x=true) (h:At s p (podT x)):podS s p=(x,p+(podT x).size):=by
  unfold podT at h ⊢
  rw [if_pos hb] at h ⊢
  have hn:=pod_needs hb
  unfold podB at hb
  simp only [Bool.and_eq_true,decide_eq_true_eq] at hb
  obtain ⟨_,h2,h3,h4,h5,h6,h7⟩:=hb
  unfold inB at h7
  simp only [Bool.and_eq_true,decide_eq_true_eq] at h7
  have ht:x.tolers.length≤4:=by
    unfold tolersB at h4
    simp only [Bool.and_eq_true,decide_eq_true_eq] at h4
    exact h4.1
  have e1:=txt_at h.left hf.name
  have e2:=labels_at hf.labels (labels_len h2) h.right.left
  have e3:=num_at h.right.right.left h5 hf.cpu.2
  have e4:=num_at h.right.right.right.left h6 hf.mem.2
  have e5:=num_at h.right.right.right.right.left (by omega) hf.rank.2
  have e6:=cnt_at (m:=4) h.right.right.right.right.right.left (by omega) hf.nlen
  have e7:=row_at (r:=needW repZ s) h.right.right.right.right.right.right.left fun k hk q hq=>needR_at (hf.need k) (need_facts h3 hk).1 (need_facts h3 hk).2 hq
  have e8:=cnt_at (m:=4) h.right.right.right.right.right.right.right.left (by omega) hf.tlen
  have e9:=row_at (r:=tolerR s) h.right.right.right.right.right.right.right.right fun k hk q hq=>tolerR_at (hf.toler k) (toler_facts h4 hk) hq
  simp only [podS,podW,e1,e2,e3,e4,e5,e6,Int.toNat_natCast,e7,e8,e9]
  simp only [ByteArray.size_append]
  congr 1
  push_cast
  omega
theorem cl_placed {c:ClusterD} (h:clusterB c=true) {k:Nat} (hk:k < c.pods.length):podB (c.pods.getD k default).pod=true∧(1≤(c.pods.getD k default).seq∧(c.pods.getD k default).seq≤1000000000)∧(emptyB (c.pods.getD k default).on=true∨0≤hostAtB c.hosts (c.pods.getD k default).on):=by
  rw [clusterB_eq] at h
  simp only [Bool.and_eq_true,inB,decide_eq_true_eq] at h
  have h2:=allB_at h.2.2.2.2.2 hk
  rw [placedB_eq] at h2
  simp only [Bool.and_eq_true,Bool.or_eq_true,inB,decide_eq_true_eq] at h2
  refine ⟨h2.1,⟨h2.2.2.1.1,by omega⟩,h2.2.2.2.1⟩
theorem on_at {s:ByteArray}{p:Int}{c:ClusterD}{nm:ByteArray} (hl:c.hosts.length≤1048576) (hc:clusterB c=true) (ho:emptyB nm=true∨0≤hostAtB c.hosts nm) (h:At s p (varB (hostAtB c.hosts nm+1))):onR s c.hosts p=(nm,p+(varB (hostAtB c.hosts nm+1)).size):=by
  have hr:=hostAt_rng c.hosts nm
  have e1:=cntI_at (m:=c.hosts.length) h (by omega) (by omega) (by omega)
  simp only [onR,e1]
  by_cases h0:0≤hostAtB c.hosts nm
  · rw [if_pos (by omega)]
    have h3:=(firstN_rng c.hosts.length fun k=>eqB (c.hosts.getD k default).name nm).2.2 h0
    have h4:(c.hosts.getD (hostAtB c.hosts nm).toNat default).name=nm:=str_eq.1 h3
    rw [show hostAtB c.hosts nm+1 - 1=hostAtB c.hosts nm by omega,h4]
  · rw [if_neg (by omega)]
    rcases ho with ho|ho
    · rw [eqB_empty ho]
    · exact absurd ho h0
theorem placed_at {s:ByteArray}{c:ClusterD} (hf:c.fine) (hc:clusterB c=true) {k:Nat} (hk:k < c.pods.length) {q:Int} (h:At s q (podTAt c k)):placedW (podS s) s c.hosts q=(c.pods.getD k default,q+(podTAt c k).size):=by
  obtain ⟨h1,h2,h3⟩:=cl_placed hc hk
  unfold podTAt placeT at h
  have e1:=pod_at (hf.pod k) h1 h.left
  have e2:=on_at hf.hlen hc h3 h.right.left
  have e3:=num_at h.right.right (by omega) (hf.seq k).2
  simp only [placedW,e1,e2,e3]
  unfold podTAt placeT
  simp only [ByteArray.size_append]
  congr 1
  push_cast
  omega
theorem next_rng {c:ClusterD} (h:clusterB c=true):1≤c.next∧c.next≤1000000000:=by
  rw [clusterB_eq] at h
  simp only [Bool.and_eq_true,inB,decide_eq_true_eq] at h
  exact h.2.2.1
theorem snap_at {c:ClusterD} (hf:c.fine) (hc:clusterB c=true):snapS (snapT c)=(c,((snapT c).size:Int)):=by
  have h:At (snapT c) 0 (varB c.w1++(varB c.w2++(varB c.w3++bodyT c))):=by
    have:=At.self (snapT c)
    conv at this=>rhs;unfold snapT;rw [if_pos hc]
    exact this
  unfold bodyT at h
  have hw:=cl_weights hc
  have hs:=cl_small hc
  have hx:=next_rng hc
  have e1:=num_at h.left (by omega) (by omega)
  have e2:=num_at h.right.left (by omega) (by omega)
  have e3:=num_at h.right.right.left (by omega) (by omega)
  have e4:=num_at h.right.right.right.left (by omega) (by omega)
  have e5:=cnt_at (m:=8) h.right.right.right.right.left (by omega) hf.hlen
  have e6:=row_at (r:=hostS (snapT c)) h.right.right.right.right.right.left fun k hk q hq=>host_at (hf.host k) (cl_hosts hc hk) hq
  have e7:=cnt_at (m:=12) h.right.right.right.right.right.right.left (by omega) hf.plen
  have e8:=row_at (r:=placedW (podS (snapT c)) (snapT c) c.hosts) h.right.right.right.right.right.right.right fun k hk q hq=>placed_at hf hc hk hq
  simp only [snapS,snapW,e1,e2,e3,e4,e5,Int.toNat_natCast,e6,e7,e8]
  congr 1
  conv=>rhs;unfold snapT bodyT;rw [if_pos hc]
  simp only [ByteArray.size_append]
  push_cast
  omega
theorem rdC_snap {c:ClusterD} (hf:c.fine) (hc:clusterB c=true):rdC (snapT c)=(c,true):=by
  unfold rdC finR
  rw [snap_at hf hc]
  exact if_pos ⟨rfl,hc⟩
theorem rd2_snap {c:ClusterD} (hf:c.fine) (h:expB c 2=true):rd2 (snap2T c)=(c,true):=by
  unfold rd2 snap2T
  rw [if_pos h]
  have e:usualT++bodyT c=snapT c:=by
    rw [snap2_eq h,usualT]
    congr 1
    exact baAssoc _ _ _
  rw [e,rdC_snap hf (cl_exp h)]
theorem exp1_host {c:ClusterD} (h:expB c 1=true) {k:Nat} (hk:k < c.hosts.length):(c.hosts.getD k default).slots=20∧(c.hosts.getD k default).taints = []:=by
  unfold expB plainB at h
  simp only [Bool.and_eq_true,Bool.or_eq_true] at h
  have h3:allB c.hosts.length (hostPlain c)=true:=by
    rcases h.2.2.2 with h2|h2
    · exact absurd h2 (by decide)
    · exact h2.1
  have h4:=allB_at h3 hk
  unfold hostPlain at h4
  simp only [Bool.and_eq_true,beq_iff_eq,Bool.not_eq_true',decide_eq_false_iff_not] at h4
  exact ⟨h4.1,List.eq_nil_of_length_eq_zero (by omega)⟩
theorem exp1_pod {c:ClusterD} (h:expB c 1=true) {k:Nat} (hk:k < c.pods.length):(c.pods.getD k default).pod.rank=0∧(c.pods.getD k default).pod.tolers = []∧∀ j,j < (c.pods.getD k default).pod.needs.length→((c.pods.getD k default).pod.needs.getD j default).op=1:=by
  unfold expB plainB at h
  simp only [Bool.and_eq_true,Bool.or_eq_true] at h
  have h3:allB c.pods.length (podPlain c)=true:=by
    rcases h.2.2.2 with h2|h2
    · exact absurd h2 (by decide)
    · exact h2.2
  have h4:=allB_at h3 hk
  unfold podPlain at h4
  simp only [Bool.and_eq_true,beq_iff_eq,Bool.not_eq_true',decide_eq_false_iff_not] at h4
  refine ⟨h4.1,List.eq_nil_of_length_eq_zero (by omega),fun j hj=>?_⟩
  have h5:=allB_at h4.2.2 hj
  unfold needPlain at h5
  simp only [Bool.and_eq_true,beq_iff_eq] at h5
  exact h5.1
theorem usual1 {c:ClusterD} (h:expB c 1=true):c.w1=2∧c.w2=1∧c.w3=3:=by
  unfold expB usualB at h
  simp only [Bool.and_eq_true,Bool.or_eq_true,beq_iff_eq] at h
  rcases h.2.2.1 with h2|h2
  · exact absurd h2 (by decide)
  · exact h2
theorem host1_at {s:ByteArray}{c:ClusterD} (hf:c.fine) (he:expB c 1=true) {k:Nat} (hk:k < c.hosts.length) {q:Int} (h:At s q (host1At c k)):host1W (labelsS s) s q=(c.hosts.getD k default,q+(host1At c k).size):=by
  have hb:=cl_hosts (cl_exp he) hk
  obtain ⟨p1,p2⟩:=exp1_host he hk
  have hx:=hf.host k
  unfold hostB at hb
  simp only [Bool.and_eq_true,decide_eq_true_eq] at hb
  unfold host1At at h
  have e1:=txt_at h.left hx.name
  have e2:=labels_at hx.labels (labels_len hb.2.1) h.right.left
  have e3:=num_at h.right.right.left hb.2.2.2.1 hx.cpu.2
  have e4:=num_at h.right.right.right hb.2.2.2.2.1 hx.mem.2
  simp only [host1W,e1,e2,e3,e4]
  rw [← p1,← p2]
  unfold host1At
  simp only [ByteArray.size_append]
  congr 1
  push_cast
  omega
theorem need1_at {s:ByteArray}{ns:List NeedD}{k:Nat}{q:Int} (hf:(ns.getD k default).fine) (h1:(ns.getD k default).op=1) (h2:(ns.getD k default).values.length=1) (h:At s q (need1Tx ns k)):need1R s q=(ns.getD k default,q+(need1Tx ns k).size):=by
  unfold need1Tx at h
  have e1:=txt_at h.left hf.key
  have e2:=txt_at h.right (hf.value 0)
  have e3: [(ns.getD k default).values.getD 0 default]=(ns.getD k default).values:=by
    obtain ⟨v,hv⟩:=List.length_eq_one_iff.1 h2
    rw [hv]
    rfl
  simp only [need1R,e1,e2,e3]
  rw [← h1]
  unfold need1Tx
  simp only [ByteArray.size_append]
  congr 1
  push_cast
  omega
theorem placed1_at {s:ByteArray}{c:ClusterD} (hf:c.fine) (he:expB c 1=true) {k:Nat} (hk:k < c.pods.length) {q:Int} (h:At s q (pod1At c k)):placedW (pod1W (labelsS s) repZ s) s c.hosts q=(c.pods.getD k default,q+(pod1At c k).size):=by
  have hc:=cl_exp he
  obtain ⟨h1,h2,h3⟩:=cl_placed hc hk
  obtain ⟨p1,p2,p3⟩:=exp1_pod he hk
  have hx:=hf.pod k
  have hn:=pod_needs h1
  unfold podB at h1
  simp only [Bool.and_eq_true,decide_eq_true_eq] at h1
  unfold pod1At placeT at h
  have e1:=txt_at h.left hx.name
  have e2:=labels_at hx.labels (labels_len h1.2.1) h.right.left
  have e3:=num_at h.right.right.left h1.2.2.2.2.1 hx.cpu.2
  have e4:=num_at h.right.right.right.left h1.2.2.2.2.2.1 hx.mem.2
  have e5:=cnt_at (m:=4) h.right.right.right.right.left (by omega) hx.nlen
  have e6:=row_at (r:=need1R s) h.right.right.right.right.right.left fun j hj q hq=>need1_at (hx.need j) (p3 j hj) (exp_plain he hk hj) hq
  have e7:=on_at hf.hlen hc h3 h.right.right.right.right.right.right.left
  have e8:=num_at h.right.right.right.right.right.right.right (by omega) (hf.seq k).2
  simp only [placedW,pod1W,e1,e2,e3,e4,e5,Int.toNat_natCast,e6,e7,e8]
  rw [← p1,← p2]
  unfold pod1At placeT
  simp only [ByteArray.size_append]
  congr 1
  push_cast
  omega
theorem rd1_snap {c:ClusterD} (hf:c.fine) (he:expB c 1=true):rd1 (snap1T c)=(c,true):=by
  have hc:=cl_exp he
  have h:At (snap1T c) 0 (varB c.next++(varB c.hosts.length++(catN (host1At c) c.hosts.length++(varB c.pods.length++catN (pod1At c) c.pods.length)))):=by
    have:=At.self (snap1T c)
    conv at this=>rhs;unfold snap1T;rw [if_pos he]
    exact this
  have hs:=cl_small hc
  have hx:=next_rng hc
  have e4:=num_at h.left (by omega) (by omega)
  have e5:=cnt_at (m:=8) h.right.left (by omega) hf.hlen
  have e6:=row_at (r:=host1W (labelsS (snap1T c)) (snap1T c)) h.right.right.left fun k hk q hq=>host1_at hf he hk hq
  have e7:=cnt_at (m:=12) h.right.right.right.left (by omega) hf.plen
  have e8:=row_at (r:=placedW (pod1W (labelsS (snap1T c)) repZ (snap1T c)) (snap1T c) c.hosts) h.right.right.right.right fun k hk q hq=>placed1_at hf he hk hq
  have e9:snap1S (snap1T c)=(c,((snap1T c).size:Int)):=by
    simp only [snap1S,snap1W,e4,e5,Int.toNat_natCast,e6,e7,e8]
    obtain ⟨u1,u2,u3⟩:=usual1 he
    rw [← u1,← u2,← u3]
    congr 1
    conv=>rhs;unfold snap1T;rw [if_pos he]
    simp only [ByteArray.size_append]
    push_cast
    omega
  unfold rd1 finR
  rw [e9]
  exact if_pos ⟨rfl,hc⟩
/-- What an older version can tell, a newer one can tell, too. -/
theorem exp_up12 {c:ClusterD} (h:expB c 1=true):expB c 2=true:=by
  unfold expB at h ⊢
  simp only [Bool.and_eq_true,Bool.or_eq_true] at h ⊢
  refine ⟨by decide,h.2.1,?_,.inl (by decide)⟩
  rcases h.2.2.1 with h2|h2
  · exact absurd h2 (by decide)
  · exact .inr h2
theorem exp_up23 {c:ClusterD} (h:expB c 2=true):expB c 3=true:=by
  unfold expB at h ⊢
  simp only [Bool.and_eq_true,Bool.or_eq_true] at h ⊢
  exact ⟨by decide,h.2.1,.inl (by decide),.inl (by decide)⟩
theorem up12_snap {c:ClusterD} (hf:c.fine) (h:expB c 1=true):up12 (snap1T c)=(snap2T c,true):=by unfold up12;rw [rd1_snap hf h];rfl
theorem up23_snap {c:ClusterD} (hf:c.fine) (h:expB c 2=true):up23 (snap2T c)=(snapT c,true):=by unfold up23;rw [rd2_snap hf h];rfl
end Go.Proofs.YtgoeccemfgniiaaGreat
