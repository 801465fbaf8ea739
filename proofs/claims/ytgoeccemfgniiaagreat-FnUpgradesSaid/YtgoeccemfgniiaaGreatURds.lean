/- Rds (what is wanted of them). -/
import Derived.Test.YtgoeccemfgniiaaGreatURdm
import Derived.Test.YtgoeccemfgniiaaGreatUClx
import Derived.Test.YtgoeccemfgniiaaGreatUCl4
import Derived.Test.YtgoeccemfgniiaaGreatUSnx
namespace Go.Proofs.YtgoeccemfgniiaaGreat
open Go.RowKit
theorem hostsD_no (xs:List HostD) (na:ByteArray) (la:List LabelD) (c m s:Int):hostsD xs ++ [.sc (.string na),.sl la.length (labelsD la),.sc (.int .i64 c),.sc (.int .i64 m),.sc (.int .i64 s),.sl 0 []]=hostsD (xs ++ [⟨na,la,c,m,s, []⟩]):=hostsD_one xs na la c m s []
theorem hostsT_no (xs:List HostD) (na:ByteArray) (la:List LabelD) (c m s:Int):hostsT xs ++ [.sc (.string na),.tr 222 2 la.length (labelsD la),.sc (.int .i64 c),.sc (.int .i64 m),.sc (.int .i64 s),.tr 207 3 0 []]=hostsT (xs ++ [⟨na,la,c,m,s, []⟩]):=hostsT_one xs na la c m s []
theorem placedsD_no (xs:List PlacedD) (na:ByteArray) (la:List LabelD) (c m r:Int) (ne:List NeedD) (o:ByteArray) (q:Int):placedsD xs ++ [.sc (.string na),.sl la.length (labelsD la),.sc (.int .i64 c),.sc (.int .i64 m),.sc (.int .i64 r),.sl ne.length (needsD ne),.sl 0 [],.sc (.string o),.sc (.int .i64 q)]=placedsD (xs ++ [⟨⟨na,la,c,m,r,ne, []⟩,o,q⟩]):=placedsD_one xs na la c m r ne [] o q
theorem placedsT_no (xs:List PlacedD) (na:ByteArray) (la:List LabelD) (c m r:Int) (ne:List NeedD) (o:ByteArray) (q:Int):placedsT xs ++ [.sc (.string na),.tr 222 2 la.length (labelsD la),.sc (.int .i64 c),.sc (.int .i64 m),.sc (.int .i64 r),.tr 143 3 ne.length (needsT ne),.tr 210 4 0 [],.sc (.string o),.sc (.int .i64 q)]=placedsT (xs ++ [⟨⟨na,la,c,m,r,ne, []⟩,o,q⟩]):=placedsT_one xs na la c m r ne [] o q
theorem needsD_val (xs:List NeedD) (k:ByteArray) (o:Int) (v:ByteArray):needsD xs ++ [.sc (.string k),.sc (.int .i64 o),.sl 1 [.sc (.string v)]]=needsD (xs ++ [⟨k,o, [v]⟩]):=needsD_one xs k o [v]
theorem needsT_val (xs:List NeedD) (k:ByteArray) (o:Int) (v:ByteArray):needsT xs ++ [.sc (.string k),.sc (.int .i64 o),.tr 9 1 1 [.sc (.string v)]]=needsT (xs ++ [⟨k,o, [v]⟩]):=needsT_one xs k o [v]
theorem fin_bad {a q:Int}{b ok:Bool}{n:Nat} (hc:Cur a b q) (h:b=true∨¬ a=n∨ok=false):¬ (q=n∧ok=true):=by
  rintro ⟨h1,h2⟩
  rcases h with h|h|h
  · have:=hc.neg h;omega
  · cases b with
    |true=>have:=hc.neg rfl;omega
    |false=>exact h (by rw [← h1,hc.eq];rfl)
  · rw [h] at h2;cases h2
theorem fin_ok {a q:Int}{b:Bool}{n:Nat} (hc:Cur a b q) (h:b=false) (h2:a=n):q=n:=by subst h;rw [hc.eq];exact h2
theorem val1 {v:ByteArray} (h:strOk v):∀ k,strOk (([v]:List ByteArray).getD k default)
  |0=>h
  |_+1=>str_def
/-- The same for version 1. -/
def finE (s:ByteArray) (x:ClusterD × Int):ClusterD × Bool:=if x.2=s.size∧expB x.1 1=true then (x.1,true) else (zeroC,false)
theorem finE_yes {s:ByteArray}{x:ClusterD × Int}{c:ClusterD}{q:Int} (h:Got x c q) (hq:q=s.size) (hc:expB c 1=true):Fin (finE s x) c true:=⟨by rw [h.eq];exact if_pos ⟨hq,hc⟩⟩
theorem finE_no {s:ByteArray}{x:ClusterD × Int}{c:ClusterD}{q:Int} (h:Got x c q) (hb:¬ (q=s.size∧expB c 1=true)):Fin (finE s x) zeroC false:=⟨by rw [h.eq];exact if_neg hb⟩
end Go.Proofs.YtgoeccemfgniiaaGreat
namespace Go.Proofs.YtgoeccemfgniiaaGreat
open Go.RowKit
theorem num_pos {s:ByteArray}{p:Int} (h:0≤(readV s p).2):0≤p:=by
  by_cases hp:p < 0
  · rw [readV_neg hp] at h;exact absurd h (by decide)
  · omega
theorem cnt_pos {s:ByteArray}{p m:Int} (h:0≤(cntR s p m).2):0≤p:=by
  by_cases hp:p < 0
  · rw [cnt_neg hp] at h;exact absurd h (by decide)
  · omega
theorem txt_pos {s:ByteArray}{p:Int} (h:0≤(txtR s p).2):0≤p:=by
  by_cases hp:p < 0
  · rw [txt_neg hp] at h;exact absurd h (by decide)
  · omega
/-- f reads as g does, but that it stops where what was read is not right. -/
structure Agree {α:Type} (ok:α→Bool) (f g:Int→α × Int):Prop where
  one:∀ p,0≤(f p).2→0≤p∧g p=f p∧ok (f p).1=true
  two:∀ p,0≤(g p).2→0≤p∧(ok (g p).1=true→f p=g p)
theorem Agree.same {α:Type}{f:Int→α × Int} (h:∀ p,0≤(f p).2→0≤p):Agree (fun _=>true) f f:=⟨fun p hp=>⟨h p hp,rfl,rfl⟩,fun p hp=>⟨h p hp,fun _=>rfl⟩⟩
theorem repA_one {α:Type}{ok:α→Bool}{f g:Int→α × Int} (h:Agree ok f g):∀ (n:Nat) (acc:List α) (p:Int),0≤(repA f n acc p).2→0≤p∧repZ g n acc p=repA f n acc p∧∃ l,(repA f n acc p).1=acc++l∧∀ x,x ∈ l→ok x=true
  |0,acc,p,hp=>⟨hp,rfl, [],by simp [repA],fun x hx=>by cases hx⟩
  |n+1,acc,p,hp=>by
    obtain ⟨h1,h2,l,h3,h4⟩:=repA_one h n _ _ (show 0≤(repA f n (acc ++ [(f p).1]) (f p).2).2 from hp)
    obtain ⟨h5,h6,h7⟩:=h.one p h1
    refine ⟨h5,?_,(f p).1::l,?_,fun x hx=>?_⟩
    · rw [repZ,if_neg (by omega),h6,h2];rfl
    · show (repA f n (acc ++ [(f p).1]) (f p).2).1=_
      rw [h3];simp
    · rcases List.mem_cons.1 hx with rfl|hx
      · exact h7
      · exact h4 x hx
theorem repZ_two {α:Type}{ok:α→Bool}{f g:Int→α × Int} (h:Agree ok f g):∀ (n:Nat) (acc:List α) (p:Int),0≤(repZ g n acc p).2→0≤p∧∃ l,(repZ g n acc p).1=acc++l∧((∀ x,x ∈ l→ok x=true)→repA f n acc p=repZ g n acc p)
  |0,acc,p,hp=>⟨hp, [],by simp [repZ],fun _=>rfl⟩
  |n+1,acc,p,hp=>by
    by_cases h0:p < 0
    · rw [repZ,if_pos h0] at hp
      exact absurd hp (by show ¬ 0≤p;omega)
    · rw [repZ,if_neg h0] at hp ⊢
      obtain ⟨h1,l,h3,h4⟩:=repZ_two h n _ _ hp
      obtain ⟨h5,h6⟩:=h.two p h1
      refine ⟨h5,(g p).1::l,by rw [h3];simp,fun hx=>?_⟩
      have h7:=h6 (hx _ (List.mem_cons_self ..))
      rw [repA,h7]
      exact h4 fun x hm=>hx x (List.mem_cons_of_mem _ hm)
/-- As lists that begin with nothing. -/
theorem rep_one {α:Type}{ok:α→Bool}{f g:Int→α × Int} (h:Agree ok f g) {n:Nat}{p:Int} (hp:0≤(repA f n [] p).2):0≤p∧repZ g n [] p=repA f n [] p∧∀ x,x ∈ (repA f n [] p).1→ok x=true:=by
  obtain ⟨h1,h2,l,h3,h4⟩:=repA_one h n [] p hp
  exact ⟨h1,h2,fun x hx=>h4 x (by rw [h3] at hx;simpa using hx)⟩
theorem rep_two {α:Type}{ok:α→Bool}{f g:Int→α × Int} (h:Agree ok f g) {n:Nat}{p:Int} (hp:0≤(repZ g n [] p).2):0≤p∧((∀ x,x ∈ (repZ g n [] p).1→ok x=true)→repA f n [] p=repZ g n [] p):=by
  obtain ⟨h1,l,h3,h4⟩:=repZ_two h n [] p hp
  exact ⟨h1,fun hx=>h4 fun x hm=>hx x (by rw [h3];simpa using hm)⟩
theorem must_pos {α:Type}{ok:α→Bool}{x:α}{q:Int} (h:0≤(mustR ok x q).2):ok x=true∧0≤q∧mustR ok x q=(x,q):=by
  unfold mustR at h ⊢
  cases ho:ok x with
  |true=>rw [ho] at h;exact ⟨rfl,h,rfl⟩
  |false=>rw [ho] at h;exact absurd h (show ¬ (0:Int)≤-1 by decide)
theorem must_ok {α:Type}{ok:α→Bool}{x:α}{q:Int} (h:ok x=true):mustR ok x q=(x,q):=by unfold mustR;rw [h];rfl
theorem Agree.must {α:Type}{ok0 ok:α→Bool}{f g:Int→α × Int} (h:Agree ok0 f g) (hk:∀ x,ok x=true→ok0 x=true):Agree ok (fun p=>mustR ok (f p).1 (f p).2) g:=by
  refine ⟨fun p hp=>?_,fun p hp=>?_⟩
  · obtain ⟨h1,h2,h3⟩:=must_pos hp
    obtain ⟨h4,h5,_⟩:=h.one p h2
    exact ⟨h4,by rw [h3];exact h5,by rw [h3];exact h1⟩
  · obtain ⟨h1,h2⟩:=h.two p hp
    refine ⟨h1,fun ho=>?_⟩
    show mustR ok (f p).1 (f p).2=g p
    rw [h2 (hk _ ho),must_ok ho]
def tt {α:Type}:α→Bool:=fun _=>true
theorem label_ag (s:ByteArray):Agree tt (labelR s) (labelR s):=Agree.same fun _ h=>txt_pos (txt_pos h)
theorem taint_ag (s:ByteArray):Agree tt (taintR s) (taintR s):=Agree.same fun _ h=>txt_pos (txt_pos (num_pos h))
theorem toler_ag (s:ByteArray):Agree tt (tolerR s) (tolerR s):=Agree.same fun _ h=>txt_pos (cnt_pos (txt_pos (num_pos h)))
theorem text_ag (s:ByteArray):Agree tt (txtR s) (txtR s):=Agree.same fun _ h=>txt_pos h
theorem need1_ag (s:ByteArray):Agree tt (need1R s) (need1R s):=Agree.same fun _ h=>txt_pos (txt_pos h)
theorem labelsW_ag (s:ByteArray):Agree tt (labelsW repA s) (labelsW repZ s):=by
  refine ⟨fun p h=>?_,fun p h=>?_⟩
  · obtain ⟨h1,h2,_⟩:=rep_one (label_ag s) h
    exact ⟨cnt_pos h1,h2,rfl⟩
  · obtain ⟨h1,h2⟩:=rep_two (label_ag s) h
    exact ⟨cnt_pos h1,fun _=>h2 fun _ _=>rfl⟩
theorem labels_ag (s:ByteArray):Agree labelsB (labelsI s) (labelsS s):=(labelsW_ag s).must fun _ _=>rfl
theorem need_ag (s:ByteArray):Agree tt (needW repA s) (needW repZ s):=by
  refine ⟨fun p h=>?_,fun p h=>?_⟩
  · obtain ⟨h1,h2,_⟩:=rep_one (text_ag s) h
    refine ⟨txt_pos (num_pos (cnt_pos h1)),?_,rfl⟩
    unfold needW
    simp only [h2]
  · obtain ⟨h1,h2⟩:=rep_two (text_ag s) h
    refine ⟨txt_pos (num_pos (cnt_pos h1)),fun _=>?_⟩
    unfold needW
    simp only [h2 fun _ _=>rfl]
theorem hostW_ag (s:ByteArray):Agree (fun h=>labelsB h.labels) (hostW (labelsI s) repA s) (hostW (labelsS s) repZ s):=by
  refine ⟨fun p h=>?_,fun p h=>?_⟩
  · obtain ⟨h1,h2,_⟩:=rep_one (taint_ag s) h
    obtain ⟨h3,h4,h5⟩:=(labels_ag s).one _ (num_pos (num_pos (num_pos (cnt_pos h1))))
    refine ⟨txt_pos h3,?_,h5⟩
    unfold hostW
    simp only [h4,h2]
  · obtain ⟨h1,h2⟩:=rep_two (taint_ag s) h
    obtain ⟨h3,h4⟩:=(labels_ag s).two _ (num_pos (num_pos (num_pos (cnt_pos h1))))
    refine ⟨txt_pos h3,fun ho=>?_⟩
    unfold hostW
    simp only [h4 ho,h2 fun _ _=>rfl]
theorem host_labels {x:HostD} (h:hostB x=true):labelsB x.labels=true:=by
  unfold hostB at h
  simp only [Bool.and_eq_true] at h
  exact h.2.1
theorem pod_labels {x:PodD} (h:podB x=true):labelsB x.labels=true:=by
  unfold podB at h
  simp only [Bool.and_eq_true] at h
  exact h.2.1
theorem host_ag (s:ByteArray):Agree hostB (hostI s) (hostS s):=(hostW_ag s).must fun x h=>by
  unfold hostB at h
  simp only [Bool.and_eq_true] at h
  exact h.2.1
theorem podW_ag (s:ByteArray):Agree (fun h=>labelsB h.labels) (podW (labelsI s) (needW repA s) repA s) (podW (labelsS s) (needW repZ s) repZ s):=by
  refine ⟨fun p h=>?_,fun p h=>?_⟩
  · obtain ⟨h1,h2,_⟩:=rep_one (toler_ag s) h
    obtain ⟨h6,h7,_⟩:=rep_one (need_ag s) (cnt_pos h1)
    obtain ⟨h3,h4,h5⟩:=(labels_ag s).one _ (num_pos (num_pos (num_pos (cnt_pos h6))))
    refine ⟨txt_pos h3,?_,h5⟩
    unfold podW
    simp only [h4,h7,h2]
  · obtain ⟨h1,h2⟩:=rep_two (toler_ag s) h
    obtain ⟨h6,h7⟩:=rep_two (need_ag s) (cnt_pos h1)
    obtain ⟨h3,h4⟩:=(labels_ag s).two _ (num_pos (num_pos (num_pos (cnt_pos h6))))
    refine ⟨txt_pos h3,fun ho=>?_⟩
    unfold podW
    simp only [h4 ho,h7 fun _ _=>rfl,h2 fun _ _=>rfl]
theorem pod_ag (s:ByteArray):Agree podB (podI s) (podS s):=(podW_ag s).must fun x h=>by
  unfold podB at h
  simp only [Bool.and_eq_true] at h
  exact h.2.1
theorem host1_ag (s:ByteArray):Agree (fun h=>labelsB h.labels) (host1W (labelsI s) s) (host1W (labelsS s) s):=by
  refine ⟨fun p h=>?_,fun p h=>?_⟩
  · obtain ⟨h3,h4,h5⟩:=(labels_ag s).one _ (num_pos (num_pos h))
    refine ⟨txt_pos h3,?_,h5⟩
    unfold host1W
    simp only [h4]
  · obtain ⟨h3,h4⟩:=(labels_ag s).two _ (num_pos (num_pos h))
    refine ⟨txt_pos h3,fun ho=>?_⟩
    unfold host1W
    simp only [h4 ho]
theorem pod1_ag (s:ByteArray):Agree (fun h=>labelsB h.labels) (pod1W (labelsI s) repA s) (pod1W (labelsS s) repZ s):=by
  refine ⟨fun p h=>?_,fun p h=>?_⟩
  · obtain ⟨h6,h7,_⟩:=rep_one (need1_ag s) h
    obtain ⟨h3,h4,h5⟩:=(labels_ag s).one _ (num_pos (num_pos (cnt_pos h6)))
    refine ⟨txt_pos h3,?_,h5⟩
    unfold pod1W
    simp only [h4,h7]
  · obtain ⟨h6,h7⟩:=rep_two (need1_ag s) h
    obtain ⟨h3,h4⟩:=(labels_ag s).two _ (num_pos (num_pos (cnt_pos h6)))
    refine ⟨txt_pos h3,fun ho=>?_⟩
    unfold pod1W
    simp only [h4 ho,h7 fun _ _=>rfl]
theorem placed_ag {ok:PodD→Bool}{f g:Int→PodD × Int} (h:Agree ok f g) (s:ByteArray) (hs:List HostD):Agree (fun x=>ok x.pod) (placedW f s hs) (placedW g s hs):=by
  refine ⟨fun p hp=>?_,fun p hp=>?_⟩
  · obtain ⟨h1,h2,h3⟩:=h.one p (cnt_pos (num_pos hp))
    refine ⟨h1,?_,h3⟩
    unfold placedW
    simp only [h2]
  · obtain ⟨h1,h2⟩:=h.two p (cnt_pos (num_pos hp))
    refine ⟨h1,fun ho=>?_⟩
    unfold placedW
    simp only [h2 ho]
theorem list_ok {α:Type} [Inhabited α] {P:α→Bool}{xs:List α} (h:∀ k,k < xs.length→P (xs.getD k default)=true):∀ x,x ∈ xs→P x=true:=by
  intro x hx
  obtain ⟨k,hk,rfl⟩:=List.getElem_of_mem hx
  have:=h k hk
  rwa [List.getD_eq_getElem?_getD,List.getElem?_eq_getElem hk] at this
theorem snap_ag (s:ByteArray):finR s (snapI s)=finR s (snapS s):=by
  have one:0≤(snapI s).2→snapS s=snapI s:=by
    intro h
    obtain ⟨h1,h2,_⟩:=rep_one (placed_ag (pod_ag s) s _) h
    obtain ⟨h3,h4,_⟩:=rep_one (host_ag s) (cnt_pos h1)
    unfold snapS snapI snapW
    simp only [h4,h2]
  have two:0≤(snapS s).2→clusterB (snapS s).1=true→snapI s=snapS s:=by
    intro h hc
    obtain ⟨h1,h2⟩:=rep_two (placed_ag (pod_ag s) s _) h
    obtain ⟨h3,h4⟩:=rep_two (host_ag s) (cnt_pos h1)
    have e1:=h4 (list_ok fun k hk=>cl_hosts hc hk)
    have e2:=h2 (list_ok (P:=fun x:PlacedD=>podB x.pod) fun k hk=>cl_pods0 hc hk)
    unfold snapI snapS snapW
    simp only [e1,e2]
  unfold finR
  by_cases h:(snapI s).2=s.size∧clusterB (snapI s).1=true
  · rw [one (by omega)]
  · rw [if_neg h]
    by_cases h2:(snapS s).2=s.size∧clusterB (snapS s).1=true
    · rw [two (by omega) h2.2] at h
      exact absurd h2 h
    · rw [if_neg h2]
theorem repZ_all {α:Type}{P:α→Prop}{g:Int→α × Int} (h:∀ p,P (g p).1):∀ (n:Nat) (acc:List α) (p:Int),(∀ x,x ∈ acc→P x)→∀ x,x ∈ (repZ g n acc p).1→P x
  |0,_,_,ha=>ha
  |n+1,acc,p,ha=>by
    rw [repZ]
    split
    · exact ha
    · exact repZ_all h n _ _ fun x hx=>by
        rcases List.mem_append.1 hx with hx|hx
        · exact ha x hx
        · rw [List.mem_singleton.1 hx];exact h p
theorem getD_in {α:Type} [Inhabited α] {xs:List α}{k:Nat} (hk:k < xs.length):xs.getD k default ∈ xs:=by
  rw [List.getD_eq_getElem?_getD,List.getElem?_eq_getElem hk]
  exact List.getElem_mem hk
theorem nil_all {α:Type}{P:α→Prop}:∀ x,x ∈ ([]:List α)→P x:=fun _ h=>by cases h
theorem snap1_exp {s:ByteArray} (hc:clusterB (snap1S s).1=true):expB (snap1S s).1 1=true:=by
  have hh:∀ x,x ∈ (snap1S s).1.hosts→x.slots=20∧x.taints = []:=by
    exact repZ_all (P:=fun x:HostD=>x.slots=20∧x.taints = []) (fun p=>⟨rfl,rfl⟩) _ _ _ nil_all
  have hp:∀ x,x ∈ (snap1S s).1.pods→x.pod.rank=0∧x.pod.tolers = []∧∀ y,y ∈ x.pod.needs→y.op=1∧y.values.length=1:=by
    refine repZ_all (P:=fun x:PlacedD=>x.pod.rank=0∧x.pod.tolers = []∧∀ y,y ∈ x.pod.needs→y.op=1∧y.values.length=1) (fun p=>⟨rfl,rfl,?_⟩) _ _ _ nil_all
    exact repZ_all (P:=fun y:NeedD=>y.op=1∧y.values.length=1) (fun q=>⟨rfl,rfl⟩) _ _ _ nil_all
  unfold expB usualB plainB
  rw [hc]
  have e1:allB (snap1S s).1.hosts.length (hostPlain (snap1S s).1)=true:=by
    refine List.all_eq_true.2 fun k hk=>?_
    obtain ⟨h1,h2⟩:=hh _ (getD_in (List.mem_range.1 hk))
    unfold hostPlain
    rw [h1,h2]
    rfl
  have e2:allB (snap1S s).1.pods.length (podPlain (snap1S s).1)=true:=by
    refine List.all_eq_true.2 fun k hk=>?_
    obtain ⟨h1,h2,h3⟩:=hp _ (getD_in (List.mem_range.1 hk))
    unfold podPlain
    rw [h1,h2]
    have:allB ((snap1S s).1.pods.getD k default).pod.needs.length (needPlain ((snap1S s).1.pods.getD k default).pod.needs)=true:=by
      refine List.all_eq_true.2 fun j hj=>?_
      obtain ⟨h4,h5⟩:=h3 _ (getD_in (List.mem_range.1 hj))
      unfold needPlain
      rw [h4,h5]
      rfl
    rw [this]
    rfl
  rw [e1,e2]
  rfl
theorem snap1_ag (s:ByteArray):finE s (snap1I s)=finR s (snap1S s):=by
  have one:0≤(snap1I s).2→snap1S s=snap1I s:=by
    intro h
    obtain ⟨h1,h2,_⟩:=rep_one (placed_ag (pod1_ag s) s _) h
    obtain ⟨h3,h4,_⟩:=rep_one (host1_ag s) (cnt_pos h1)
    unfold snap1S snap1I snap1W
    simp only [h4,h2]
  have two:0≤(snap1S s).2→clusterB (snap1S s).1=true→snap1I s=snap1S s:=by
    intro h hc
    obtain ⟨h1,h2⟩:=rep_two (placed_ag (pod1_ag s) s _) h
    obtain ⟨h3,h4⟩:=rep_two (host1_ag s) (cnt_pos h1)
    have e1:=h4 (list_ok (P:=fun x:HostD=>labelsB x.labels) fun k hk=>host_labels (cl_hosts hc hk))
    have e2:=h2 (list_ok (P:=fun x:PlacedD=>labelsB x.pod.labels) fun k hk=>pod_labels (cl_pods0 hc hk))
    unfold snap1I snap1S snap1W
    simp only [e1,e2]
  unfold finE finR
  by_cases h:(snap1I s).2=s.size∧expB (snap1I s).1 1=true
  · rw [one (by omega),if_pos h,if_pos ⟨h.1,cl_exp h.2⟩]
  · rw [if_neg h]
    by_cases h2:(snap1S s).2=s.size∧clusterB (snap1S s).1=true
    · rw [two (by omega) h2.2] at h
      exact absurd ⟨h2.1,snap1_exp h2.2⟩ h
    · rw [if_neg h2]
end Go.Proofs.YtgoeccemfgniiaaGreat
namespace Go.Proofs.YtgoeccemfgniiaaGreat
open Go.RowKit
theorem catN_le {f:Nat→ByteArray}{m:Nat}:∀ {n:Nat},(∀ k,k < n→(f k).size≤m)→(catN f n).size≤n*m
  |0,_=>by rw [catN_zero];exact Nat.zero_le _
  |n+1,h=>by
    rw [catN_succ,ByteArray.size_append,Nat.succ_mul]
    have h1:=catN_le (n:=n) fun k hk=>h k (by omega)
    have h2:=h n (by omega)
    omega
theorem catN_max {f:Nat→ByteArray}{m n M:Nat} (hn:n≤M) (h:∀ k,k < n→(f k).size≤m):(catN f n).size≤M*m:=Nat.le_trans (catN_le h) (Nat.mul_le_mul_right m hn)
theorem var_nat (n:Nat) (h:n≤1048576):(varB n).size≤9:=varB_le (by omega)
theorem short_le {t:ByteArray}{m:Nat} (hm:m≤1048576) (h:t.size≤m):(shortB t).size≤9+m:=by
  unfold shortB
  rw [ByteArray.size_append]
  have:=var_nat t.size (by omega)
  omega
theorem key_le {s:ByteArray} (h:keyB s=true):s.size≤30:=by
  unfold keyB at h
  simp only [Bool.and_eq_true,decide_eq_true_eq] at h
  exact h.1
theorem empty_le {s:ByteArray} (h:emptyB s=true) (m:Nat):s.size≤m:=by rw [eqB_empty h];exact Nat.zero_le _
theorem value_le {s:ByteArray} (h:valueB s=true):s.size≤20:=by
  unfold valueB at h
  simp only [Bool.or_eq_true,Bool.and_eq_true,decide_eq_true_eq] at h
  rcases h with h|h
  · exact empty_le h 20
  · exact h.1
theorem name_le {s:ByteArray} (h:nmB s=true):s.size≤20:=by
  unfold nmB inB at h
  simp only [Bool.and_eq_true,decide_eq_true_eq] at h
  omega
theorem labelsT_le {ls:List LabelD} (h:labelsB ls=true):(labelsT ls).size≤417:=by
  unfold labelsB at h
  simp only [Bool.and_eq_true,decide_eq_true_eq] at h
  unfold labelsT
  rw [ByteArray.size_append]
  have h1:=var_nat ls.length (by omega)
  have h2:=catN_max (f:=labelTx ls) (m:=68) h.1 fun k hk=>by
    have h3:=allB_at h.2 hk
    simp only [Bool.and_eq_true] at h3
    unfold labelTx
    rw [ByteArray.size_append]
    have h4:=short_le (by decide) (key_le h3.1)
    have h5:=short_le (by decide) (value_le h3.2.1)
    omega
  omega
theorem hostT_le {x:HostD} (hf:x.fine):(hostT x).size≤1000:=by
  unfold hostT
  split
  · rename_i h
    unfold hostB at h
    simp only [Bool.and_eq_true] at h
    obtain ⟨h1,h2,h3,_⟩:=h
    unfold taintsB at h3
    simp only [Bool.and_eq_true,decide_eq_true_eq] at h3
    simp only [ByteArray.size_append]
    have e1:=short_le (by decide) (name_le h1)
    have e2:=labelsT_le h2
    have e3:=varB_le hf.cpu.2
    have e4:=varB_le hf.mem.2
    have e5:=varB_le hf.slots.2
    have e6:=var_nat x.taints.length (by omega)
    have e7:=catN_max (f:=taintTx x.taints) (m:=77) h3.1 fun k hk=>by
      have h5:=allB_at h3.2 hk
      unfold taintB at h5
      simp only [Bool.and_eq_true] at h5
      unfold taintTx
      simp only [ByteArray.size_append]
      have h6:=short_le (by decide) (key_le h5.1.1)
      have h7:=short_le (by decide) (value_le h5.1.2.1)
      have h8:=varB_le (hf.taint k).effect.2
      omega
    omega
  · exact Nat.zero_le _
theorem flag_le (b:Bool):(varB (flagN b)).size≤9:=by cases b<;>exact varB_le (by decide)
theorem podT_le {x:PodD} (hf:x.fine):(podT x).size≤3000:=by
  unfold podT
  split
  · rename_i h
    unfold podB at h
    simp only [Bool.and_eq_true] at h
    obtain ⟨h1,h2,h3,h4,_⟩:=h
    unfold needsB at h3
    unfold tolersB at h4
    simp only [Bool.and_eq_true,decide_eq_true_eq] at h3 h4
    simp only [ByteArray.size_append]
    have e1:=short_le (by decide) (name_le h1)
    have e2:=labelsT_le h2
    have e3:=varB_le hf.cpu.2
    have e4:=varB_le hf.mem.2
    have e5:=varB_le hf.rank.2
    have e6:=var_nat x.needs.length (by omega)
    have e7:=var_nat x.tolers.length (by omega)
    have e8:=catN_max (f:=needTx x.needs) (m:=200) h3.1 fun k hk=>by
      have h5:=allB_at h3.2 hk
      unfold needB at h5
      simp only [Bool.and_eq_true] at h5
      obtain ⟨⟨h6,h7,h8⟩,_⟩:=h5
      unfold needTx
      simp only [ByteArray.size_append]
      have g1:=short_le (by decide) (key_le h6)
      have g2:=varB_le (hf.need k).op.2
      have hl:(x.needs.getD k default).values.length≤4∧∀ j,j < (x.needs.getD k default).values.length→valueB ((x.needs.getD k default).values.getD j default)=true:=by
        split at h8
        · have:(x.needs.getD k default).values.length=0:=by
            have:=beq_iff_eq.1 h8
            omega
          exact ⟨by omega,fun j hj=>by omega⟩
        · unfold inB at h8
          simp only [Bool.and_eq_true,decide_eq_true_eq] at h8
          refine ⟨by omega,fun j hj=>?_⟩
          have:=allB_at h8.2 hj
          simp only [Bool.and_eq_true] at this
          exact this.1
      have g3:=var_nat (x.needs.getD k default).values.length (by omega)
      have g4:=catN_max (f:=valTx (x.needs.getD k default).values) (m:=29) hl.1 fun j hj=>short_le (by decide) (value_le (hl.2 j hj))
      omega
    have e9:=catN_max (f:=tolerTx x.tolers) (m:=100) h4.1 fun k hk=>by
      have h5:=allB_at h4.2 hk
      unfold tolerB at h5
      simp only [Bool.and_eq_true] at h5
      obtain ⟨⟨_,h6⟩,_⟩:=h5
      unfold tolerTx
      simp only [ByteArray.size_append]
      have hl:(x.tolers.getD k default).key.size≤30∧(x.tolers.getD k default).value.size≤20:=by
        split at h6
        · simp only [Bool.and_eq_true] at h6
          exact ⟨key_le h6.1,value_le h6.2⟩
        · simp only [Bool.and_eq_true,Bool.or_eq_true] at h6
          exact ⟨h6.2.elim (fun h=>empty_le h 30) key_le,empty_le h6.1 20⟩
      have g1:=short_le (by decide) hl.1
      have g2:=short_le (by decide) hl.2
      have g3:=varB_le (hf.toler k).effect.2
      have g4:=flag_le (x.tolers.getD k default).equal
      omega
    omega
  · exact Nat.zero_le _
theorem place_le {c:ClusterD}{p:PlacedD} (hl:c.hosts.length≤1048576) (hs:intOk p.seq):(placeT c p).size≤18:=by
  unfold placeT
  rw [ByteArray.size_append]
  have h1:=hostAt_rng c.hosts p.on
  have h2:=varB_le (n:=hostAtB c.hosts p.on+1) (by omega)
  have h3:=varB_le hs.2
  omega
theorem body_le {c:ClusterD} (hc:c.fine) (h:clusterB c=true):(bodyT c).size≤50000:=by
  have hs:=cl_small h
  unfold bodyT
  simp only [ByteArray.size_append]
  have e1:=varB_le hc.next.2
  have e2:=var_nat c.hosts.length (by omega)
  have e3:=var_nat c.pods.length (by omega)
  have e4:=catN_max (f:=hostTAt c) (m:=1000) hs.1 fun k _=>hostT_le (hc.host k)
  have e5:=catN_max (f:=podTAt c) (m:=3018) hs.2 fun k _=>by
    unfold podTAt
    rw [ByteArray.size_append]
    have h1:=podT_le (hc.pod k)
    have h2:=place_le (c:=c) hc.hlen (hc.seq k)
    omega
  omega
theorem snapT_le {c:ClusterD} (hc:c.fine):(snapT c).size≤60000:=by
  unfold snapT
  split
  · rename_i h
    have hw:=cl_weights h
    simp only [ByteArray.size_append]
    have e1:=varB_le (n:=c.w1) (by omega)
    have e2:=varB_le (n:=c.w2) (by omega)
    have e3:=varB_le (n:=c.w3) (by omega)
    have e4:=body_le hc h
    omega
  · exact Nat.zero_le _
theorem snap2T_le {c:ClusterD} (hc:c.fine):(snap2T c).size≤60000:=by
  unfold snap2T
  split
  · rename_i h
    have:=body_le hc (cl_exp h)
    omega
  · exact Nat.zero_le _
def rdC (s:ByteArray):ClusterD × Bool:=finR s (snapS s)
def rd2 (s:ByteArray):ClusterD × Bool:=rdC (usualT++s)
def rd1 (s:ByteArray):ClusterD × Bool:=finR s (snap1S s)
def up12 (s:ByteArray):ByteArray × Bool:=cond (rd1 s).2 (snap2T (rd1 s).1,true) (⟨#[]⟩,false)
def up23 (s:ByteArray):ByteArray × Bool:=cond (rd2 s).2 (snapT (rd2 s).1,true) (⟨#[]⟩,false)
structure Txt (r:ByteArray × Bool) (t:ByteArray) (ok:Bool):Prop where
  eq:r=(t,ok)
theorem up23_no {s:ByteArray}{c:ClusterD}{ok:Bool} (h:Fin (rd2 s) c ok) (hk:ok=false):Txt (up23 s) ⟨#[]⟩ false:=⟨by unfold up23;rw [h.eq,hk];rfl⟩
theorem up23_yes {s:ByteArray}{c:ClusterD}{ok:Bool} (h:Fin (rd2 s) c ok) (hk:ok=true):Txt (up23 s) (snapT c) true:=⟨by unfold up23;rw [h.eq,hk];rfl⟩
theorem up12_no {s:ByteArray}{c:ClusterD}{ok:Bool} (h:Fin (rd1 s) c ok) (hk:ok=false):Txt (up12 s) ⟨#[]⟩ false:=⟨by unfold up12;rw [h.eq,hk];rfl⟩
theorem up12_yes {s:ByteArray}{c:ClusterD}{ok:Bool} (h:Fin (rd1 s) c ok) (hk:ok=true):Txt (up12 s) (snap2T c) true:=⟨by unfold up12;rw [h.eq,hk];rfl⟩
end Go.Proofs.YtgoeccemfgniiaaGreat
