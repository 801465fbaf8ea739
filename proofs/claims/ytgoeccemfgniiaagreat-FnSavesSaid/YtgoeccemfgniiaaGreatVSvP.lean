/- SvP (what is wanted of them). -/
import Derived.Test.YtgoeccemfgniiaaGreatVSn4
import Derived.Test.YtgoeccemfgniiaaGreatVRd9
import Derived.Test.YtgoeccemfgniiaaGreatVScp
namespace Go.Proofs.YtgoeccemfgniiaaGreat
open Go.RowKit
set_option linter.unusedVariables false
def sF (t:ByteArray):FileD:=⟨stNm,t,t.size⟩
def nF (t:ByteArray) (n:Int):FileD:=⟨newNm,t,n⟩
/-- A file that is right by itself. -/
structure FOk (f:FileD):Prop where
  nm:nmB f.name=true
  tx:f.text.size≤20000
  lo:0≤f.synced
  hi:f.synced≤f.text.size
theorem less_sn:lessB stNm newNm=true:=by decide +kernel
theorem less_ss:lessB stNm stNm=false:=by decide +kernel
theorem eq_ss:eqB stNm stNm=true:=by decide +kernel
theorem eq_nn:eqB newNm newNm=true:=by decide +kernel
theorem eq_sn:eqB stNm newNm=false:=by decide +kernel
theorem eq_ns:eqB newNm stNm=false:=by decide +kernel
theorem nm_s:nmB stNm=true:=by decide +kernel
theorem nm_n:nmB newNm=true:=by decide +kernel
theorem sF_ok {t:ByteArray} (h:t.size≤20000):FOk (sF t):=⟨nm_s,h,by show (0:Int)≤((t.size:Nat):Int);omega,Int.le_refl _⟩
theorem nF_ok {t:ByteArray}{n:Int} (h:t.size≤20000) (h0:0≤n) (h1:n≤t.size):FOk (nF t n):=⟨nm_n,h,h0,h1⟩
theorem FOk.fine {f:FileD} (h:FOk f):f.fine:=by
  have h1:=h.tx
  have h2:=h.lo
  have h3:=h.hi
  have h4:=h.nm
  refine ⟨?_,by omega,by omega,by omega⟩
  unfold nmB inB at h4
  simp only [Bool.and_eq_true,decide_eq_true_eq] at h4
  omega
theorem okB_0 {f:FileD}{r:List FileD} (h:FOk f):fileOkB (f::r) 0=true:=by
  unfold fileOkB nextB inB
  simp [h.nm,h.tx,h.lo,h.hi]
theorem okB_1 {f g:FileD}{r:List FileD} (h:FOk g) (hl:lessB f.name g.name=true):fileOkB (f::g::r) 1=true:=by
  unfold fileOkB nextB inB
  simp [h.nm,h.tx,h.lo,h.hi,hl]
theorem disk_0:diskB []=true:=by decide
theorem disk_1 {f:FileD} (h:FOk f):diskB [f]=true:=disk_yes (k:=1) (by show 1≤4;decide) (Nat.le_refl _) fun j hj=>by
  obtain rfl:j=0:=by omega
  exact okB_0 h
theorem disk_2 {f g:FileD} (hf:FOk f) (hg:FOk g) (hl:lessB f.name g.name=true):diskB [f,g]=true:=disk_yes (k:=2) (by show 2≤4;decide) (Nat.le_refl _) fun j hj=>by
  rcases (by omega:j=0∨j=1) with rfl|rfl
  · exact okB_0 hf
  · exact okB_1 hg hl
theorem at_none {nm:ByteArray}:fileB [] nm=-1:=fileB_none (k:=0) (Nat.le_refl _) fun j hj=>by omega
theorem at_first {f:FileD}{r:List FileD}{nm:ByteArray} (h:eqB f.name nm=true):fileB (f::r) nm=0:=fileB_hit (k:=0) (Nat.zero_lt_succ _) h fun j hj=>by omega
theorem at_second {f g:FileD}{r:List FileD}{nm:ByteArray} (h:eqB f.name nm=false) (h1:eqB g.name nm=true):fileB (f::g::r) nm=1:=fileB_hit (k:=1) (by simp) h1 fun j hj=>by
  obtain rfl:j=0:=by omega
  show (!eqB f.name nm)=true
  rw [h];rfl
theorem at_lone {f:FileD}{nm:ByteArray} (h:eqB f.name nm=false):fileB [f] nm=-1:=fileB_none (k:=1) (Nat.le_refl _) fun j hj=>by
  obtain rfl:j=0:=by omega
  show (!eqB f.name nm)=true
  rw [h];rfl
theorem st0_s {t s:ByteArray} (ht:t.size≤20000) (hs:s.size≤20000):stepR [sF t] s 0=([sF t,nF s 0],0):=by
  rw [step_0 rfl,wr_good ⟨disk_1 (sF_ok ht),nm_n,hs⟩ (by rintro ⟨_,h⟩;exact absurd (show 4≤1 from h) (by decide))]
  show (putF (nF s 0) [sF t],(0:Int))=_
  unfold putF putF
  rw [if_pos (show lessB (sF t).name (nF s 0).name=true from less_sn)]
theorem st0_e {s:ByteArray} (hs:s.size≤20000):stepR [] s 0=([nF s 0],0):=by
  rw [step_0 rfl,wr_good ⟨disk_0,nm_n,hs⟩ (by rintro ⟨_,h⟩;exact absurd h (by decide))]
  rfl
theorem st1_s {t s:ByteArray} (ht:t.size≤20000) (hs:s.size≤20000):stepR [sF t,nF s 0] s 1=([sF t,nF s s.size],0):=by
  have e:fileB [sF t,nF s 0] newNm=1:=at_second eq_sn eq_nn
  rw [step_1 rfl,sy_good (disk_2 (sF_ok ht) (nF_ok hs (Int.le_refl _) (by omega)) less_sn) (by rw [e];decide),e]
  rfl
theorem st1_e {s:ByteArray} (hs:s.size≤20000):stepR [nF s 0] s 1=([nF s s.size],0):=by
  have e:fileB [nF s 0] newNm=0:=at_first eq_nn
  rw [step_1 rfl,sy_good (disk_1 (nF_ok hs (Int.le_refl _) (by omega))) (by rw [e];decide),e]
  rfl
theorem st2_s {t s:ByteArray} (ht:t.size≤20000) (hs:s.size≤20000):stepR [sF t,nF s s.size] s 2=([sF s],0):=by
  have e:fileB [sF t,nF s s.size] newNm=1:=at_second eq_sn eq_nn
  rw [step_2 rfl,mv_good ⟨disk_2 (sF_ok ht) (nF_ok hs (by omega) (Int.le_refl _)) less_sn,nm_s⟩ (by rw [e];decide),e]
  show (putF (sF s) [sF t],(0:Int))=_
  unfold putF
  rw [if_neg (by rw [show lessB (sF t).name (sF s).name=false from less_ss];decide),if_pos (show eqB (sF t).name (sF s).name=true from eq_ss)]
theorem st2_e {s:ByteArray} (hs:s.size≤20000):stepR [nF s s.size] s 2=([sF s],0):=by
  have e:fileB [nF s s.size] newNm=0:=at_first eq_nn
  rw [step_2 rfl,mv_good ⟨disk_1 (nF_ok hs (by omega) (Int.le_refl _)),nm_s⟩ (by rw [e];decide),e]
  rfl
theorem steps_one {fs gs:List FileD}{s:ByteArray}{i:Int}{n:Nat} (h:stepR fs s i=(gs,0)):stepsR s (n+1) i fs=stepsR s n (i+1) gs:=by
  rw [stepsR,h];rfl
/-- A disk on which a save was begun. -/
inductive Mid (a:List FileD) (s:ByteArray):List FileD→Prop
  |same:Mid a s a
  |more (n:Int):0≤n→n≤s.size→Mid a s (a ++ [nF s n])
theorem till_s {t s:ByteArray} (ht:t.size≤20000) (hs:s.size≤20000) {i:Int} (hi:0≤i∧i≤3):∃ fs,tillR [sF t] s i=(fs,0)∧(i=3∧fs = [sF s]∨i≠3∧Mid [sF t] s fs):=by
  unfold tillR
  rcases (by omega:i=0∨i=1∨i=2∨i=3) with rfl|rfl|rfl|rfl
  · exact ⟨_,rfl,.inr ⟨by decide,.same⟩⟩
  · refine ⟨[sF t,nF s 0],?_,.inr ⟨by decide,.more 0 (Int.le_refl _) (by omega)⟩⟩
    rw [show (min (1:Int) 3).toNat=0+1 by decide,steps_one (st0_s ht hs)];rfl
  · refine ⟨[sF t,nF s s.size],?_,.inr ⟨by decide,.more _ (by omega) (Int.le_refl _)⟩⟩
    rw [show (min (2:Int) 3).toNat=0+1+1 by decide,steps_one (st0_s ht hs),show (0:Int)+1=1 by decide,steps_one (st1_s ht hs)];rfl
  · refine ⟨[sF s],?_,.inl ⟨rfl,rfl⟩⟩
    rw [show (min (3:Int) 3).toNat=0+1+1+1 by decide,steps_one (st0_s ht hs),show (0:Int)+1=1 by decide,steps_one (st1_s ht hs),show (1:Int)+1=2 by decide,steps_one (st2_s ht hs)];rfl
theorem till_e {s:ByteArray} (hs:s.size≤20000) {i:Int} (hi:0≤i∧i≤3):∃ fs,tillR [] s i=(fs,0)∧(i=3∧fs = [sF s]∨i≠3∧Mid [] s fs):=by
  unfold tillR
  rcases (by omega:i=0∨i=1∨i=2∨i=3) with rfl|rfl|rfl|rfl
  · exact ⟨_,rfl,.inr ⟨by decide,.same⟩⟩
  · refine ⟨[nF s 0],?_,.inr ⟨by decide,.more 0 (Int.le_refl _) (by omega)⟩⟩
    rw [show (min (1:Int) 3).toNat=0+1 by decide,steps_one (st0_e hs)];rfl
  · refine ⟨[nF s s.size],?_,.inr ⟨by decide,.more _ (by omega) (Int.le_refl _)⟩⟩
    rw [show (min (2:Int) 3).toNat=0+1+1 by decide,steps_one (st0_e hs),show (0:Int)+1=1 by decide,steps_one (st1_e hs)];rfl
  · refine ⟨[sF s],?_,.inl ⟨rfl,rfl⟩⟩
    rw [show (min (3:Int) 3).toNat=0+1+1+1 by decide,steps_one (st0_e hs),show (0:Int)+1=1 by decide,steps_one (st1_e hs),show (1:Int)+1=2 by decide,steps_one (st2_e hs)];rfl
def Fal (f g:FileD):Prop:=∃ n:Int,f.synced≤n∧n≤f.text.size∧g=⟨f.name,f.text.extract 0 n.toNat,n⟩
structure FalW (fs gs:List FileD):Prop where
  len:gs.length=fs.length
  at_:∀ k,k < fs.length→Fal (fs.getD k default) (gs.getD k default)
theorem fal_s {t:ByteArray}{g:FileD} (h:Fal (sF t) g):g=sF t:=by
  obtain ⟨n,h1,h2,rfl⟩:=h
  have h1':(t.size:Int)≤n:=h1
  have h2':n≤(t.size:Int):=h2
  obtain rfl:n=t.size:=by omega
  show (⟨stNm,t.extract 0 _,_⟩:FileD)=⟨stNm,t,_⟩
  rw [Int.toNat_natCast,ByteArray.extract_zero_size]
theorem fal_n {s:ByteArray}{n:Int}{g:FileD} (hs:s.size≤20000) (h0:0≤n) (h:Fal (nF s n) g):FOk g∧g.name=newNm:=by
  obtain ⟨m,h1,h2,rfl⟩:=h
  have h1':n≤m:=h1
  have h2':m≤(s.size:Int):=h2
  have hz:(s.extract 0 m.toNat).size=m.toNat:=by rw [ByteArray.size_extract];omega
  exact ⟨⟨nm_n,by show (s.extract 0 m.toNat).size≤_;omega,by show 0≤m;omega,by show m≤(((s.extract 0 m.toNat).size:Nat):Int);omega⟩,rfl⟩
theorem falW_1 {f:FileD}{gs:List FileD} (h:FalW [f] gs):∃ g,gs = [g]∧Fal f g:=by
  have hl:=h.len
  match gs,hl with
  | [g],_=>exact ⟨g,rfl,h.at_ 0 (by simp)⟩
theorem falW_2 {f f':FileD}{gs:List FileD} (h:FalW [f,f'] gs):∃ g g',gs = [g,g']∧Fal f g∧Fal f' g':=by
  have hl:=h.len
  match gs,hl with
  | [g,g'],_=>exact ⟨g,g',rfl,h.at_ 0 (by simp),h.at_ 1 (by simp)⟩
theorem falW_0 {gs:List FileD} (h:FalW [] gs):gs = []:=List.eq_nil_of_length_eq_zero h.len
theorem diskF_1 {f:FileD} (h:FOk f):DiskF [f]:=diskF_mem (by show 1≤_;decide) fun x hx=>by
  obtain rfl:=List.mem_singleton.1 hx;exact h.fine
theorem diskF_0:DiskF []:=diskF_mem (by show 0≤_;decide) fun x hx=>by cases hx
theorem diskF_2 {f g:FileD} (h:FOk f) (h2:FOk g):DiskF [f,g]:=diskF_mem (by show 2≤_;decide) fun x hx=>by
  rcases List.mem_cons.1 hx with rfl|hx
  · exact h.fine
  · obtain rfl:=List.mem_singleton.1 hx;exact h2.fine
/-- A disk as it stands while a save is under way: what the walk wants. -/
structure Small (fs:List FileD):Prop where
  f:DiskF fs
  ok:diskB fs=true
  len:fs.length≤4
theorem small_0:Small []:=⟨diskF_0,disk_0,by decide⟩
theorem small_1 {f:FileD} (h:FOk f):Small [f]:=⟨diskF_1 h,disk_1 h,by show 1≤4;decide⟩
theorem small_2 {f g:FileD} (h:FOk f) (h2:FOk g) (hl:lessB f.name g.name=true):Small [f,g]:=⟨diskF_2 h h2,disk_2 h h2 hl,by show 2≤4;decide⟩
theorem mid_s {t s:ByteArray}{fs:List FileD} (ht:t.size≤20000) (hs:s.size≤20000) (h:Mid [sF t] s fs):Small fs:=by
  cases h with
  |same=>exact small_1 (sF_ok ht)
  |more n h0 h1=>exact small_2 (sF_ok ht) (nF_ok hs h0 h1) less_sn
theorem mid_e {s:ByteArray}{fs:List FileD} (hs:s.size≤20000) (h:Mid [] s fs):Small fs:=by
  cases h with
  |same=>exact small_0
  |more n h0 h1=>exact small_1 (nF_ok hs h0 h1)
theorem rm_gone {fs:List FileD}{nm:ByteArray} (h:diskB fs=true) (h1:fileB fs nm < 0):(rmR fs nm).1=fs:=by
  unfold rmR;rw [if_pos h,if_pos h1]
theorem rm_there {fs:List FileD}{nm:ByteArray} (h:diskB fs=true) (h1:¬ fileB fs nm < 0):(rmR fs nm).1=fs.eraseIdx (fileB fs nm).toNat:=by
  unfold rmR;rw [if_pos h,if_neg h1]
/-- What is left of a disk with a state, behind a fall and a clearing. -/
theorem left_s {t s:ByteArray} (ht:t.size≤20000) (hs:s.size≤20000) {i:Int} (hi:0≤i∧i≤3):(tillR [sF t] s i).2=0∧Small (tillR [sF t] s i).1∧∀ gs,FalW (tillR [sF t] s i).1 gs→Small gs∧(rmR gs newNm).1 = [sF (if i=3 then s else t)]:=by
  obtain ⟨fs,e,h⟩:=till_s ht hs hi
  rw [e]
  refine ⟨rfl,?_⟩
  show Small fs∧∀ gs,FalW fs gs→_
  rcases h with ⟨rfl,rfl⟩|⟨h3,hm⟩
  · refine ⟨small_1 (sF_ok hs),fun gs hg=>?_⟩
    obtain ⟨g,rfl,hg1⟩:=falW_1 hg
    obtain rfl:=fal_s hg1
    rw [if_pos rfl]
    exact ⟨small_1 (sF_ok hs),rm_gone (disk_1 (sF_ok hs)) (by rw [at_lone (show eqB (sF s).name newNm=false from eq_sn)];decide)⟩
  · refine ⟨mid_s ht hs hm,fun gs hg=>?_⟩
    rw [if_neg h3]
    cases hm with
    |same=>
      obtain ⟨g,rfl,hg1⟩:=falW_1 hg
      obtain rfl:=fal_s hg1
      exact ⟨small_1 (sF_ok ht),rm_gone (disk_1 (sF_ok ht)) (by rw [at_lone (show eqB (sF t).name newNm=false from eq_sn)];decide)⟩
    |more n h0 h1=>
      obtain ⟨g,g',rfl,hg1,hg'⟩:=falW_2 hg
      obtain rfl:=fal_s hg1
      obtain ⟨hk,hn⟩:=fal_n hs h0 hg'
      have hl:lessB (sF t).name g'.name=true:=by rw [hn];exact less_sn
      have e1:fileB [sF t,g'] newNm=1:=at_second eq_sn (by rw [hn];exact eq_nn)
      refine ⟨small_2 (sF_ok ht) hk hl,?_⟩
      rw [rm_there (disk_2 (sF_ok ht) hk hl) (by rw [e1];decide),e1]
      rfl
/-- What is left of an empty disk. -/
theorem left_e {s:ByteArray} (hs:s.size≤20000) {i:Int} (hi:0≤i∧i≤3):Small (tillR [] s i).1∧∀ gs,FalW (tillR [] s i).1 gs→DiskF gs∧(i=3∧gs = [sF s]∨i≠3∧fileB gs stNm < 0):=by
  obtain ⟨fs,e,h⟩:=till_e hs hi
  rw [e]
  show Small fs∧∀ gs,FalW fs gs→_
  rcases h with ⟨rfl,rfl⟩|⟨h3,hm⟩
  · refine ⟨small_1 (sF_ok hs),fun gs hg=>?_⟩
    obtain ⟨g,rfl,hg1⟩:=falW_1 hg
    obtain rfl:=fal_s hg1
    exact ⟨diskF_1 (sF_ok hs),.inl ⟨rfl,rfl⟩⟩
  · refine ⟨mid_e hs hm,fun gs hg=>?_⟩
    cases hm with
    |same=>
      obtain rfl:=falW_0 hg
      exact ⟨diskF_0,.inr ⟨h3,by rw [at_none];decide⟩⟩
    |more n h0 h1=>
      obtain ⟨g,rfl,hg1⟩:=falW_1 hg
      obtain ⟨hk,hn⟩:=fal_n hs h0 hg1
      exact ⟨diskF_1 hk,.inr ⟨h3,by rw [at_lone (by rw [hn];exact eq_ns)];decide⟩⟩
theorem tx_s (t:ByteArray):fileB [sF t] stNm=0∧txtB [sF t] stNm=t:=by
  have e:fileB [sF t] stNm=0:=at_first eq_ss
  refine ⟨e,?_⟩
  rw [txt_at1 (by omega),e];rfl
/-- What was stored is restored. -/
theorem rs_sF {c q:ClusterD}{code:Int} (hf:c.fine) (he:expB c 3=true) (h:Rs8 [sF (storedT c 3)] q code):c=q∧0=code:=by
  have e:=h.eq
  obtain ⟨h1,h2⟩:=tx_s (storedT c 3)
  unfold rsR at e
  rw [if_neg (by omega),h2] at e
  exact st_read hf he ⟨e⟩
theorem sd_sF {c q:ClusterD}{code:Int} (hf:c.fine) (he:expB c 3=true) (h:Sd8 [sF (storedT c 3)] q code):c=q∧0=code:=by
  have e:=h.eq
  obtain ⟨h1,h2⟩:=tx_s (storedT c 3)
  have hr:rsR [sF (storedT c 3)]=(c,0):=by unfold rsR;rw [if_neg (by omega),h2,stored_at hf he]
  unfold sdR at e
  rw [hr,if_neg (show ¬ (0:Int)=11 by decide)] at e
  injection e with e1 e2
  exact ⟨e1,e2⟩
theorem rs_none {fs:List FileD}{q:ClusterD}{code:Int} (h0:fileB fs stNm < 0) (h:Rs8 fs q code):zeroC=q∧11=code:=by
  have e:=h.eq
  unfold rsR at e
  rw [if_pos h0] at e
  injection e with e1 e2
  exact ⟨e1,e2⟩
theorem sv_first {c:ClusterD} (hs:(storedT c 3).size≤20000) (he:expB c 3=true):svR [] c 3=([sF (storedT c 3)],0):=by
  rw [sv_0 (storedN_0 he)]
  obtain ⟨fs,e,h⟩:=till_e hs (i:=3) (by decide)
  rw [e]
  rcases h with ⟨_,rfl⟩|⟨h,_⟩
  · rfl
  · exact absurd rfl h
/-- What a save that was begun leaves, whatever falls. -/
structure Lft (fs:List FileD) (s:ByteArray) (i:Int) (w:ClusterD):Prop where
  c0:(tillR fs s i).2=0
  sm:Small (tillR fs s i).1
  f:∀ gs,FalW (tillR fs s i).1 gs→Small gs∧(rmR gs newNm).1 = [sF (storedT w 3)]
theorem sv_ex {o:ClusterD} (ho:(storedT o 3).size≤20000) (eo:expB o 3=true):∃ fs,svR [] o 3=(fs,0)∧Small fs∧∀ (c:ClusterD) (i:Int),(storedT c 3).size≤20000→0≤i∧i≤3→(¬ i=3→Lft fs (storedT c 3) i o)∧(i=3→Lft fs (storedT c 3) i c):=by
  refine ⟨[sF (storedT o 3)],sv_first ho eo,small_1 (sF_ok ho),fun c i hc hi=>?_⟩
  obtain ⟨h1,h2,h3⟩:=left_s ho hc hi
  refine ⟨fun h=>⟨h1,h2,fun gs hg=>?_⟩,fun h=>⟨h1,h2,fun gs hg=>?_⟩⟩
  · have:=h3 gs hg;rwa [if_neg h] at this
  · have:=h3 gs hg;rwa [if_pos h] at this
theorem left_rs {w q:ClusterD}{code:Int}{gs:List FileD} (hw:w.fine) (ew:expB w 3=true) (h1:gs = [sF (storedT w 3)]) (h:Rs8 gs q code):w=q∧0=code:=by
  subst h1;exact rs_sF hw ew h
theorem left_sd {w q:ClusterD}{code:Int}{gs:List FileD} (hw:w.fine) (ew:expB w 3=true) (h1:gs = [sF (storedT w 3)]) (h:Sd8 gs q code):w=q∧0=code:=by
  subst h1;exact sd_sF hw ew h
theorem left_no {w:ClusterD}{gs:List FileD} (h1:gs = [sF (storedT w 3)]):fileB gs newNm=-1:=by
  subst h1;exact at_lone eq_sn
theorem saves_e {c q:ClusterD}{code i:Int}{gs:List FileD} (hc:c.fine) (ec:expB c 3=true) (h:i=3∧gs = [sF (storedT c 3)]∨i≠3∧fileB gs stNm < 0) (hr:Rs8 gs q code):(code=11↔i≠3):=by
  rcases h with ⟨rfl,rfl⟩|⟨h3,h0⟩
  · obtain ⟨_,rfl⟩:=rs_sF hc ec hr
    exact ⟨fun h=>absurd h (by decide),fun h=>absurd rfl h⟩
  · obtain ⟨_,rfl⟩:=rs_none h0 hr
    exact ⟨fun _=>h3,fun _=>rfl⟩
end Go.Proofs.YtgoeccemfgniiaaGreat
