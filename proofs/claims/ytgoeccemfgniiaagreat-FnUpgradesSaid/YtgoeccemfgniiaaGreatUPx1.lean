/- Px1 (what is wanted of them). -/
import Derived.Test.YtgoeccemfgniiaaGreatUPx
import Derived.Test.YtgoeccemfgniiaaGreatUCl3
import Derived.Test.YtgoeccemfgniiaaGreatUNo
import Derived.Test.YtgoeccemfgniiaaGreatUDr2
namespace Go.Proofs.YtgoeccemfgniiaaGreat
open Go.RowKit
set_option linter.unusedVariables false
set_option linter.unusedSimpArgs false
set_option maxRecDepth 100000
set_option maxHeartbeats 4000000
theorem someB_go {tl:List TolerD}{x:TaintD}{n:Nat}:someB tl x (n+1)=(someB tl x n||tolOnB (tl.getD n default) x):=by
  unfold someB allB
  rw [List.range_succ,List.all_append]
  cases List.all (List.range n) (fun i=>!tolOnB (tl.getD i default) x)<;>simp
theorem some_t {b:Bool}{tl:List TolerD}{x:TaintD}{k:Nat} (h:true=(b||someB tl x k)):true=(b||someB tl x (k+1)):=by rw [someB_go,← Bool.or_assoc,← h];rfl
theorem some_f {b:Bool}{tl:List TolerD}{x:TaintD}{k:Nat} (h:false=(b||someB tl x k)):tolOnB (tl.getD k default) x=(b||someB tl x (k+1)):=by rw [someB_go,← Bool.or_assoc,← h];rfl
theorem some_i {b:Bool}{tl:List TolerD}{x:TaintD}:b=(b||someB tl x 0):=by rw [show someB tl x 0=false from rfl,Bool.or_false]
theorem unt_go {tl:List TolerD}{tn:List TaintD}{e:Int}{k:Nat} (h:untC tl e (tn.getD k default)=true):untN tl tn e (k+1)=untN tl tn e k+1:=by rw [untN,if_pos h]
theorem unt_no {tl:List TolerD}{tn:List TaintD}{e:Int}{k:Nat} (h:untC tl e (tn.getD k default)=false):untN tl tn e (k+1)=untN tl tn e k:=by rw [untN,if_neg (by rw [h];decide)];exact Int.add_zero _
theorem untC_of {tl:List TolerD}{e:Int}{x:TaintD}{k:Nat} (hk:tl.length=k) {ok:Bool} (h:ok=(!(x.effect==e)||someB tl x k)):untC tl e x=!ok:=by
  subst hk;subst h;unfold untC
  cases (x.effect==e)<;>cases someB tl x tl.length<;>rfl
theorem unt_yes {tl:List TolerD}{tn:List TaintD}{e m:Int}{i k:Nat} (hk:tl.length=k) (h:false=(!((tn.getD i default).effect==e)||someB tl (tn.getD i default) k)) (hm:m=untN tl tn e i):m+1=untN tl tn e (i+1):=by
  rw [unt_go (by rw [untC_of hk h];rfl),hm]
theorem unt_non {tl:List TolerD}{tn:List TaintD}{e m:Int}{i k:Nat} (hk:tl.length=k) (h:true=(!((tn.getD i default).effect==e)||someB tl (tn.getD i default) k)) (hm:m=untN tl tn e i):m=untN tl tn e (i+1):=by
  rw [unt_no (by rw [untC_of hk h];rfl),hm]
theorem sh_zero {a b:Int} (h:b≤0∨a < 0):shareN a b=0:=if_pos h
theorem sh_full {a b:Int} (h:¬ (b≤0∨a < 0)) (h2:b≤a):shareN a b=100:=by unfold shareN;rw [if_neg h,if_pos h2]
theorem sh_part {a b:Int} (h:¬ (b≤0∨a < 0)) (h2:¬ b≤a):shareN a b=a*100 / b:=by unfold shareN;rw [if_neg h,if_neg h2]
/-- The model reckons a share figure by figure. -/
structure ShI (a b:Int) (i:Nat) (n r:Int):Prop where
  eq:a*(i:Int)=n*b+r
  r0:0≤r
  r1:r < b
  n0:0≤n
  n1:n≤i
theorem shI_0 {a b:Int} (h:¬ (b≤0∨a < 0)):ShI a b 0 0 0:=⟨by simp,Int.le_refl _,by omega,Int.le_refl _,by simp⟩
theorem shI_up {a b n r:Int}{i:Nat} (h:ShI a b i n r) (h2:b - a≤r) (h3:¬ b≤a) (h4:0≤a):ShI a b (i+1) (n+1) (r - (b - a)):=by
  have h5:=h.eq;have h6:=h.r0;have h7:=h.r1;have h8:=h.n0;have h9:=h.n1
  refine ⟨?_,by omega,by omega,by omega,by omega⟩
  rw [Int.natCast_add,Int.mul_add,h5,Int.add_mul];simp;omega
theorem shI_on {a b n r:Int}{i:Nat} (h:ShI a b i n r) (h2:¬ b - a≤r) (h4:0≤a):ShI a b (i+1) n (r+a):=by
  have h5:=h.eq;have h6:=h.r0;have h7:=h.r1;have h8:=h.n0;have h9:=h.n1
  refine ⟨?_,by omega,by omega,h8,by omega⟩
  rw [Int.natCast_add,Int.mul_add,h5];simp;omega
theorem shI_end {a b n r:Int}{i:Nat} (h:ShI a b i n r) (hi:i=100) (hn:¬ (b≤0∨a < 0)) (h3:¬ b≤a):shareN a b=n:=by
  subst hi
  rw [sh_part hn h3]
  have h5:a*100=n*b+r:=h.eq
  have h6:=h.r0;have h7:=h.r1
  rw [h5,Int.add_comm,Int.add_mul_ediv_right _ _ (by omega),Int.ediv_eq_zero_of_lt h6 h7];omega
theorem resI (b:Int) {x y:Int} (h:x=y):D.sc (.int .i64 y)=D.sc (.int .i64 x):=by rw [h]
theorem tdivP {a b:Int} (ha:0≤a∧a≤100) (hb:0≤b∧b≤100):IntKind.i64.wrap ((a+b).tdiv 2)=(a+b).tdiv 2:=wrap_in _ (by rw [Int.tdiv_eq_ediv_of_nonneg (by omega)];omega)
theorem pack_of {c:ClusterD}{nm:ByteArray}{p:PodD} (h:noHost c nm=false):D.sc (.int .i64 (IntKind.i64.wrap ((shareN (sumM (usedC c nm).1 p.cpu) (hostC c nm).cpu+shareN (sumM (usedC c nm).2.1 p.mem) (hostC c nm).mem).tdiv 2))) = .sc (.int .i64 (packN c nm p)):=by
  unfold packN
  rw [h,if_neg (by decide),tdivP (shareN_rng _ _) (shareN_rng _ _)]
theorem wt_rng {c:ClusterD}{nm:ByteArray}{p:PodD} (h:(inB c.w1 0 10&&(inB c.w2 0 10&&inB c.w3 0 10))=true):(0≤c.w1*packN c nm p∧c.w1*packN c nm p≤1000)∧(0≤c.w2*spreadN c nm∧c.w2*spreadN c nm≤1000)∧(0≤c.w3*softN c nm p∧c.w3*softN c nm p≤1000):=by
  rw [Bool.and_eq_true,Bool.and_eq_true,inB_iff,inB_iff,inB_iff] at h
  exact ⟨mul_rng h.1 (packN_rng c nm p),mul_rng h.2.1 (spreadN_rng c nm),mul_rng h.2.2 (softN_rng c nm p)⟩
structure RkI (c:ClusterD) (p:PodD) (ws:List ByteArray) (i:Nat) (o:List ByteArray):Prop where
  srt:Srt (rkLt c p) o
  perm:o.Perm (ws.take i)
theorem RkI.len {c:ClusterD}{p:PodD}{ws:List ByteArray}{i:Nat}{o:List ByteArray} (h:RkI c p ws i o) (hi:i≤ws.length):o.length=i:=by rw [h.perm.length_eq,List.length_take];omega
theorem rkI_0 (c:ClusterD) (p:PodD) (ws:List ByteArray):RkI c p ws 0 []:=⟨.nil,.refl _⟩
theorem rkI_go {c:ClusterD}{p:PodD}{ws o a b:List ByteArray}{i j:Nat} (h:RkI c p ws i o) (hi:i < ws.length) (ha:a=o.take j) (hb:b=o.drop j) (h1:∀ t,t < j→rkLt c p (ws.getD i default) (o.getD t default)=false) (h2:j < o.length→rkLt c p (ws.getD i default) (o.getD j default)=true) (hj:j≤o.length):RkI c p ws (i+1) (a ++ [ws.getD i default]++b):=by
  subst ha;subst hb
  rw [List.append_assoc]
  refine ⟨srt_lay (rk_sto c p) h.srt h1 h2 hj,(lay_perm _ _ _).trans ?_⟩
  rw [take_snoc _ _ hi]
  exact h.perm.append_right _
theorem rkI_end {c:ClusterD}{p:PodD}{ws o a:List ByteArray}{i j:Nat} (h:RkI c p ws i o) (hi:i < ws.length) (ha:a=o.take j) (h1:∀ t,t < j→rkLt c p (ws.getD i default) (o.getD t default)=false) (hj:o.length≤j):RkI c p ws (i+1) (a ++ [ws.getD i default]):=by
  have hd:o.drop j = []:=List.drop_of_length_le hj
  have he:a=o.take o.length:=by rw [ha,List.take_of_length_le hj,List.take_of_length_le (Nat.le_refl _)]
  have:=rkI_go (a:=a) (b:= []) (j:=o.length) h hi he (by rw [List.drop_of_length_le (Nat.le_refl _)]) (fun t ht=>h1 t (by omega)) (fun hh=>absurd hh (Nat.lt_irrefl _)) (Nat.le_refl _)
  rwa [List.append_nil] at this
theorem rk_step {c:ClusterD}{p:PodD}{x:ByteArray}{o:List ByteArray}{j:Nat} (h:∀ t,t < j→rkLt c p x (o.getD t default)=false) (h1:¬ (markN c (o.getD j default) p < markN c x p∨markN c x p=markN c (o.getD j default) p∧lessB x (o.getD j default)=true)):∀ t,t < j+1→rkLt c p x (o.getD t default)=false:=fun t ht=>by
  by_cases e:t=j
  · subst e;exact rk_not.2 h1
  · exact h t (by omega)
theorem leq_not {x y:ByteArray} (h:(lessB y x||eqB y x)=true):¬ lessB x y=true:=fun h2=>by
  rw [Bool.or_eq_true] at h
  rcases h with h|h
  · have:=lessB_tr h h2;rw [lessB_irr] at this;cases this
  · rw [eqB_eq h,lessB_irr] at h2;cases h2
theorem leq_less {x y:ByteArray} (h:(lessB y x||eqB y x)=false):lessB x y=true:=lessB_tri ((Bool.or_eq_false_iff.1 h).1) ((Bool.or_eq_false_iff.1 h).2)
theorem best_of {c:ClusterD}{p:PodD}{ws:List ByteArray} (h:RkS c p ws) (hl:0 < ws.length):Best c p (ws.getD 0 default) true:=⟨⟨ws,h,(fun _=>⟨hl,rfl⟩),(fun e=>absurd e (by decide))⟩⟩
theorem best_no {c:ClusterD}{p:PodD}{ws:List ByteArray} (h:RkS c p ws) (hl:ws.length≤0):Best c p ⟨#[]⟩ false:=⟨⟨ws,h,(fun e=>absurd e (by decide)),(fun _=>⟨List.eq_nil_of_length_eq_zero (by omega),rfl⟩)⟩⟩
theorem RkS.len {c:ClusterD}{p:PodD}{ws:List ByteArray} (h:RkS c p ws):ws.length≤c.hosts.length:=by rw [h.perm.length_eq];exact feas_len _ _ _
theorem spec_LabelAt_X (ls:List LabelD) (s:ByteArray) (hn:ls.length≤1048576):Spec Tryz.prog 448 [.sl ls.length (labelsD ls),.sc (.string s)] (fun d=>d = .tup [.sc (.string (labV ls s)),.sc (.bool (decide (0≤labIx ls s)))]):=by
  refine sp_ (rs:= [.tmp 4,.tmp 5]) (nt:=25) Tryz.func448 rfl fun X hX=>?_
  refine nm_ ?_
  repeat' ((first|contradiction|(with_reducible exact tt_)|((with_reducible show Wk (AwStep _ _ _ _ _));first|(refine pln_ ?_))|((with_reducible show Wk (AwCode _ _ _ _ _));first|(refine lpU_ 0x43 (ι:=Nat) (fun k=> [(6,.sc (.int .i64 (k:Int)))]) (fun k=>k≤ls.length∧∀ j:Nat,j < k→(fun j=>!eqB (ls.getD j default).key s) j=true) (fun k=>ls.length - k) 0 ?_ ?_;(focus (exact ⟨by omega,allN_zero⟩));rintro _ hN0 k hinv;(try dsimp only at hinv);obtain ⟨hk,hj⟩:=hinv;replace hj:=Lib.hid hj;skip))|((with_reducible show Wk (boolK _ _ _ _));first|(refine bk_ (fun h h'=>?_) (fun h h'=>?_)))|((with_reducible show Wk (_∧_));first|(refine and_ ?_ ?_))|(refine hN0.go (k+1) ?_ ?_;(focus (exact ⟨by show k+1≤ls.length;omega,allN_step hj.out (by simp_all)⟩));(focus (show ls.length - (k+1) < ls.length - k;omega)))|fail)<;>(try refine nm_ ?_))
  all_goals (refine ⟨?_⟩)
  all_goals first|contradiction|(exfalso;omega)|(exact lab_hit (k:=k) (by omega) (by simp_all) hj.out)|(exact lab_none (k:=k) (by omega) hj.out)
theorem l15Has_X (ss:List ByteArray) (s:ByteArray) (hn:ss.length≤1048576):Spec Tryz.prog 449 [.sl ss.length (strsD ss),.sc (.string s)] (fun d=>d = .sc (.bool (hasB ss s))):=by
  refine sp_ (rs:= [.tmp 4]) (nt:=18) Tryz.func449 rfl fun X hX=>?_
  refine nm_ ?_
  repeat' ((first|contradiction|(with_reducible exact tt_)|((with_reducible show Wk (AwStep _ _ _ _ _));first|(refine pln_ ?_))|((with_reducible show Wk (AwCode _ _ _ _ _));first|(refine lpU_ 0x23 (ι:=Nat) (fun k=> [(5,.sc (.int .i64 (k:Int)))]) (fun k=>k≤ss.length∧∀ j:Nat,j < k→(fun j=>!eqB (ss.getD j default) s) j=true) (fun k=>ss.length - k) 0 ?_ ?_;(focus (exact ⟨by omega,allN_zero⟩));rintro _ hN0 k hinv;(try dsimp only at hinv);obtain ⟨hk,hj⟩:=hinv;replace hj:=Lib.hid hj;skip))|((with_reducible show Wk (boolK _ _ _ _));first|(refine bk_ (fun h h'=>?_) (fun h h'=>?_)))|((with_reducible show Wk (_∧_));first|(refine and_ ?_ ?_))|(refine hN0.go (k+1) ?_ ?_;(focus (exact ⟨by show k+1≤ss.length;omega,allN_step hj.out (by simp_all)⟩));(focus (show ss.length - (k+1) < ss.length - k;omega)))|fail)<;>(try refine nm_ ?_))
  all_goals (refine ⟨?_⟩)
  all_goals first|contradiction|(exfalso;omega)|(rw [hasB_yes (k:=k) (by omega) (by simp_all)];done)|(rw [hasB_no (k:=k) (by omega) hj.out];done)
theorem spec_NeedMet_X (ls:List LabelD) (x:NeedD) (hn:ls.length≤1048576) (hv:x.values.length≤1048576):Spec Tryz.prog 444 [.sl ls.length (labelsD ls),.agg (needCells x)] (fun d=>d = .sc (.bool (needMetB ls x))):=by
  unfold needCells
  refine sp_ (rs:= [.tmp 4]) (nt:=44) Tryz.func444 rfl fun X hX=>?_
  refine nm_ ?_
  repeat' ((first|contradiction|(with_reducible exact tt_)|((with_reducible show Wk (AwStepF _ _ _ _ _ _ _));first|(refine cl_ rfl _ _ (spec_NeedOk_D x) rfl rfl ?_;rintro _ rfl)|(refine cl_ rfl _ _ (spec_LabelAt_X ls x.key hn) rfl rfl ?_;rintro _ rfl)|(refine cl_ rfl _ _ (l15Has_X x.values (labV ls x.key) hv) rfl rfl ?_;rintro _ rfl))|((with_reducible show Wk (AwStep _ _ _ _ _));first|(refine pln_ ?_))|((with_reducible show Wk (boolK _ _ _ _));first|(refine bk_ (fun h h'=>?_) (fun h h'=>?_)))|((with_reducible show Wk (_∧_));first|(refine and_ ?_ ?_))|fail)<;>(try refine nm_ ?_))
  all_goals (refine ⟨?_⟩)
  all_goals first|contradiction|(exfalso;omega)|(unfold needMetB;first|(simp_all;done)|(simp_all;omega)|(simp (disch:=omega) only [*,if_pos,if_neg];done))
theorem spec_Selects_X (ns:List NeedD) (ls:List LabelD) (hns:ns.length≤1048576) (hv:∀ k,(ns.getD k default).values.length≤1048576) (hn:ls.length≤1048576):Spec Tryz.prog 438 [.sl ns.length (needsD ns),.sl ls.length (labelsD ls)] (fun d=>d = .sc (.bool (selB ns ls))):=by
  refine sp_ (rs:= [.tmp 4]) (nt:=19) Tryz.func438 rfl fun X hX=>?_
  refine nm_ ?_
  repeat' ((first|contradiction|(with_reducible exact tt_)|((with_reducible show Wk (AwStepF _ _ _ _ _ _ _));first|(refine cl_ rfl _ _ (spec_NeedMet_X ls (ns.getD k default) hn (hv k)) rfl rfl ?_;rintro _ rfl))|((with_reducible show Wk (AwStep _ _ _ _ _));first|(refine pln_ ?_))|((with_reducible show Wk (AwCode _ _ _ _ _));first|(refine lpU_ 0x23 (ι:=Nat) (fun k=> [(5,.sc (.int .i64 (k:Int)))]) (fun k=>k≤ns.length∧∀ j:Nat,j < k→(fun j=>needMetB ls (ns.getD j default)) j=true) (fun k=>ns.length - k) 0 ?_ ?_;(focus (exact ⟨by omega,allN_zero⟩));rintro _ hN0 k hinv;(try dsimp only at hinv);obtain ⟨hk,hj⟩:=hinv;replace hj:=Lib.hid hj;skip))|((with_reducible show Wk (boolK _ _ _ _));first|(refine bk_ (fun h h'=>?_) (fun h h'=>?_)))|((with_reducible show Wk (_∧_));first|(refine and_ ?_ ?_))|(refine hN0.go (k+1) ?_ ?_;(focus (exact ⟨by show k+1≤ns.length;omega,allN_step hj.out (by simp_all)⟩));(focus (show ns.length - (k+1) < ns.length - k;omega)))|fail)<;>(try refine nm_ ?_))
  all_goals (refine ⟨?_⟩)
  all_goals first|contradiction|(exfalso;omega)|(rw [show selB ns ls=false from allN_no (k:=k) (by omega) (by simp_all)];done)|(rw [show selB ns ls=true from allN_yes (k:=k) (by omega) hj.out];done)
theorem spec_Tolerates_X (t:TolerD) (x:TaintD):Spec Tryz.prog 439 [.agg (tolerCells t),.agg (taintCells x)] (fun d=>d = .sc (.bool (tolOnB t x))):=by
  unfold tolerCells taintCells
  refine sp_ (rs:= [.tmp 4]) (nt:=47) Tryz.func439 rfl fun X hX=>?_
  refine nm_ ?_
  repeat' ((first|contradiction|(with_reducible exact tt_)|((with_reducible show Wk (AwStepF _ _ _ _ _ _ _));first|(refine cl_ rfl _ _ (spec_ToleranceOk_D t) rfl rfl ?_;rintro _ rfl)|(refine cl_ rfl _ _ (spec_TaintOk_D x) rfl rfl ?_;rintro _ rfl))|((with_reducible show Wk (AwStep _ _ _ _ _));first|(refine pln_ ?_))|((with_reducible show Wk (boolK _ _ _ _));first|(refine bk_ (fun h h'=>?_) (fun h h'=>?_)))|((with_reducible show Wk (_∧_));first|(refine and_ ?_ ?_))|fail)<;>(try refine nm_ ?_))
  all_goals (refine ⟨?_⟩)
  all_goals first|contradiction|(exfalso;omega)|(unfold tolOnB emptyB;first|rfl|(simp_all;done)|(simp_all;omega))
theorem spec_Untolerated_X (tl:List TolerD) (tn:List TaintD) (e:Int) (h1:tl.length≤1048576) (h2:tn.length≤1048576):Spec Tryz.prog 427 [.sl tl.length (tolersD tl),.sl tn.length (taintsD tn),.sc (.int .i64 e)] (fun d=>d = .sc (.int .i64 (untN tl tn e tn.length))):=by
  refine sp_ (rs:= [.tmp 6]) (nt:=47) Tryz.func427 rfl fun X hX=>?_
  refine nm_ ?_
  repeat' ((first|contradiction|(with_reducible exact tt_)|((with_reducible show Wk (AwStepF _ _ _ _ _ _ _));first|(refine cl_ rfl _ _ (spec_Tolerates_X (tl.getD k default) (tn.getD i default)) rfl rfl ?_;rintro _ rfl))|((with_reducible show Wk (AwStep _ _ _ _ _));first|(refine pln_ ?_))|((with_reducible show Wk (AwCode _ _ _ _ _));first|(refine wo_ (id:=9) [] [(0,true),(1,true),(2,true),(3,true),(4,true),(5,true),(6,true),(7,true),(8,true),(9,true),(10,false),(11,true),(12,true)] ?_)|((with_reducible show Wk (AwCode _ _ (.loop (.seq (.seq (.region 7 _ _) _) _)) _ _));refine lpU_ 0x787 (ι:=Nat × Bool) (fun ⟨k,q⟩=> [(9,.sc (.bool q)),(10,.sc (.int .i64 (k:Int)))]) (fun ⟨k,q⟩=>k≤tl.length∧q=(!((tn.getD i default).effect==e)||someB tl (tn.getD i default) k)) (fun ⟨k,q⟩=>tl.length - k) (0,!((tn.getD i default).effect==e)) ?_ ?_;(focus (exact ⟨Nat.zero_le _,some_i⟩));rintro _ hN1 ⟨k,q⟩ hinv;(try dsimp only at hinv);obtain ⟨hk,hq⟩:=hinv;replace hq:=Lib.hid hq;cases q;skip)|((with_reducible show Wk (AwCode _ _ (.loop (.seq (.seq (.region 3 _ _) _) _)) _ _));refine lpU_ 0x187 (ι:=Nat × Int) (fun ⟨i,m⟩=> [(7,.sc (.int .i64 m)),(8,.sc (.int .i64 (i:Int)))]) (fun ⟨i,m⟩=>i≤tn.length∧m=untN tl tn e i) (fun ⟨i,m⟩=>tn.length - i) (0,0) ?_ ?_;(focus (exact ⟨Nat.zero_le _,rfl⟩));rintro _ hN0 ⟨i,m⟩ hinv;(try dsimp only at hinv);obtain ⟨hi,hm⟩:=hinv;have hur:=untN_rng tl tn e i;have hmr:0≤m∧m≤i:=(by omega);clear hur;replace hm:=Lib.hid hm;skip))|((with_reducible show Wk (boolK _ _ _ _));first|(refine bk_ (fun h h'=>?_) (fun h h'=>?_)))|((with_reducible show Wk (_∧_));first|(refine and_ ?_ ?_))|(refine hN1.go ((k+1,true)) ?_ ?_;(focus (first|exact ⟨by show k+1≤tl.length;omega,some_t hq.out⟩|exact ⟨by show k+1≤tl.length;omega,some_f hq.out⟩));(focus (show tl.length - (k+1) < tl.length - k;omega)))|(refine hN1.go ((k+1,tolOnB (tl.getD k default) (tn.getD i default))) ?_ ?_;(focus (first|exact ⟨by show k+1≤tl.length;omega,some_t hq.out⟩|exact ⟨by show k+1≤tl.length;omega,some_f hq.out⟩));(focus (show tl.length - (k+1) < tl.length - k;omega)))|(refine hN0.go ((i+1,m+1)) ?_ ?_;(focus (first|exact ⟨by show i+1≤tn.length;omega,unt_yes (k:=k) (by omega) hq.out hm.out⟩|exact ⟨by show i+1≤tn.length;omega,unt_non (k:=k) (by omega) hq.out hm.out⟩));(focus (show tn.length - (i+1) < tn.length - i;omega)))|(refine hN0.go ((i+1,m)) ?_ ?_;(focus (first|exact ⟨by show i+1≤tn.length;omega,unt_yes (k:=k) (by omega) hq.out hm.out⟩|exact ⟨by show i+1≤tn.length;omega,unt_non (k:=k) (by omega) hq.out hm.out⟩));(focus (show tn.length - (i+1) < tn.length - i;omega)))|fail)<;>(try refine nm_ ?_))
  all_goals (refine ⟨?_⟩)
  all_goals first|contradiction|(exfalso;omega)|(have e9:=hm.out;have e8:i=tn.length:=(by omega);subst e8;rw [e9];done)|rfl
theorem spec_ShareOf_X (a b:Int) (hb:b≤9223372036854775807):Spec Tryz.prog 426 [.sc (.int .i64 a),.sc (.int .i64 b)] (fun d=>d = .sc (.int .i64 (shareN a b))):=by
  refine sp_ (rs:= [.tmp 4]) (nt:=37) Tryz.func426 rfl fun X hX=>?_
  refine nm_ ?_
  repeat' ((first|contradiction|(with_reducible exact tt_)|((with_reducible show Wk (AwStep _ _ _ _ _));first|(refine pln_ ?_))|((with_reducible show Wk (AwCode _ _ _ _ _));first|(refine lpU_ 0xe3 (ι:=Nat × Int × Int) (fun ⟨i,n,r⟩=> [(5,.sc (.int .i64 n)),(6,.sc (.int .i64 r)),(7,.sc (.int .i64 (i:Int)))]) (fun ⟨i,n,r⟩=>i≤100∧ShI a b i n r) (fun ⟨i,n,r⟩=>100 - i) (0,0,0) ?_ ?_;(focus (exact ⟨Nat.zero_le _,shI_0 (by omega)⟩));rintro _ hN0 ⟨i,n,r⟩ hinv;(try dsimp only at hinv);obtain ⟨hi,hI⟩:=hinv;have hr0:=hI.r0;have hr1:=hI.r1;have hn0:=hI.n0;have hn1:=hI.n1;replace hI:=Lib.hid hI;skip))|((with_reducible show Wk (boolK _ _ _ _));first|(refine bk_ (fun h h'=>?_) (fun h h'=>?_)))|((with_reducible show Wk (_∧_));first|(refine and_ ?_ ?_))|(refine hN0.go ((i+1,n+1,r - (b - a))) ?_ ?_;(focus (first|exact ⟨by show i+1≤100;omega,shI_up hI.out (by omega) (by omega) (by omega)⟩|exact ⟨by show i+1≤100;omega,shI_on hI.out (by omega) (by omega)⟩));(focus (show 100 - (i+1) < 100 - i;omega)))|(refine hN0.go ((i+1,n,r+a)) ?_ ?_;(focus (first|exact ⟨by show i+1≤100;omega,shI_up hI.out (by omega) (by omega) (by omega)⟩|exact ⟨by show i+1≤100;omega,shI_on hI.out (by omega) (by omega)⟩));(focus (show 100 - (i+1) < 100 - i;omega)))|fail)<;>(try refine nm_ ?_))
  all_goals (refine ⟨?_⟩)
  all_goals first|contradiction|(exfalso;omega)|(exact resI 0 (shI_end hI.out (by omega) (by omega) (by omega)))|(exact resI 0 (sh_zero (by omega)))|(exact resI 0 (sh_full (by omega) (by omega)))
theorem spec_ReasonOn_X (c:ClusterD) (nm:ByteArray) (p:PodD) (hf:c.fine) (hp:p.fine):Spec Tryz.prog 425 [c.d,.sc (.string nm),.agg (podCells p)] (fun d=>d = .sc (.int .i64 (reasonN c nm p))):=by
  have hcl:=hf.hlen;have hx:=hf.host (hostAtB c.hosts nm).toNat;have hr:-1≤hostAtB c.hosts nm∧hostAtB c.hosts nm < c.hosts.length:=⟨(firstN_rng _ _).1,(firstN_rng _ _).2.1⟩;have hxl:=hx.labels.len;have hxt:=hx.tlen;have hpn:=hp.nlen;have hpt:=hp.tlen;have hpc:=hp.cpu.2;have hpm:=hp.mem.2;have hnv:=fun k=>(hp.need k).len;unfold ClusterD.d podCells
  have ex0:=@hostCells.eq_1
  refine sp_ (rs:= [.tmp 6]) (nt:=85) Tryz.func425 rfl fun X hX=>?_
  refine nm_ ?_
  repeat' ((first|contradiction|(with_reducible exact tt_)|((with_reducible show Wk (AwStepF _ _ _ _ _ _ _));first|(refine cl_ rfl _ _ (spec_HostAt_D c nm (by omega)) rfl rfl ?_;rintro _ rfl)|(refine cl_ rfl _ _ (spec_UsedOn_D c nm hf) rfl rfl ?_;rintro _ rfl)|(refine cl_ rfl _ _ (spec_Selects_X p.needs (c.hosts.getD (hostAtB c.hosts nm).toNat default).labels hpn hnv (by omega)) rfl rfl ?_;rintro _ rfl)|(refine cl_ rfl _ _ (spec_Untolerated_X p.tolers (c.hosts.getD (hostAtB c.hosts nm).toNat default).taints 1 (by omega) (by omega)) rfl rfl ?_;rintro _ rfl)|(refine cl_ rfl _ _ (spec_AddInt_D _ p.cpu (by omega)) rfl rfl ?_;rintro _ rfl)|(refine cl_ rfl _ _ (spec_AddInt_D _ p.mem (by omega)) rfl rfl ?_;rintro _ rfl))|((with_reducible show Wk (AwStep _ _ _ _ _));first|(refine pln_ ?_))|((with_reducible show Wk (boolK _ _ _ _));first|(refine bk_ (fun h h'=>?_) (fun h h'=>?_)))|((with_reducible show Wk (_∧_));first|(refine and_ ?_ ?_))|fail)<;>(try refine nm_ ?_))
  all_goals clear ex0
  all_goals (refine ⟨?_⟩)
  all_goals first|contradiction|(exfalso;omega)|(unfold reasonN;first|(simp_all [noHost,fitB,usedC,hostC];done)|(simp_all [noHost,fitB,usedC,hostC]<;>omega))
theorem spec_FitsOn_X (c:ClusterD) (nm:ByteArray) (p:PodD) (hf:c.fine) (hp:p.fine):Spec Tryz.prog 408 [c.d,.sc (.string nm),.agg (podCells p)] (fun d=>d = .sc (.bool (reasonN c nm p==0))):=by
  unfold ClusterD.d podCells
  refine sp_ (rs:= [.tmp 6]) (nt:=12) Tryz.func408 rfl fun X hX=>?_
  refine nm_ ?_
  repeat' ((first|contradiction|(with_reducible exact tt_)|((with_reducible show Wk (AwStepF _ _ _ _ _ _ _));first|(refine cl_ rfl _ _ (spec_ReasonOn_X c nm p hf hp) rfl rfl ?_;rintro _ rfl))|((with_reducible show Wk (AwStep _ _ _ _ _));first|(refine pln_ ?_))|((with_reducible show Wk (boolK _ _ _ _));first|(refine bk_ (fun h h'=>?_) (fun h h'=>?_)))|((with_reducible show Wk (_∧_));first|(refine and_ ?_ ?_))|fail)<;>(try refine nm_ ?_))
  all_goals (refine ⟨?_⟩)
  all_goals first|contradiction|(exfalso;omega)|rfl
theorem spec_Brought_X (x lo hi:Int):Spec Tryz.prog 143 [.sc (.int .i64 x),.sc (.int .i64 lo),.sc (.int .i64 hi)] (fun d=>d = .sc (.int .i64 (brB x lo hi))):=by
  refine sp_ (rs:= [.tmp 6]) (nt:=21) Tryz.func143 rfl fun X hX=>?_
  refine nm_ ?_
  repeat' ((first|contradiction|(with_reducible exact tt_)|((with_reducible show Wk (AwStep _ _ _ _ _));first|(refine pln_ ?_))|((with_reducible show Wk (boolK _ _ _ _));first|(refine bk_ (fun h h'=>?_) (fun h h'=>?_)))|((with_reducible show Wk (_∧_));first|(refine and_ ?_ ?_))|fail)<;>(try refine nm_ ?_))
  all_goals (refine ⟨?_⟩)
  all_goals first|contradiction|(exfalso;omega)|(unfold brB;first|(rw [if_pos (by omega)];done)|(rw [if_neg (by omega),if_pos (by omega)];done)|(rw [if_neg (by omega),if_neg (by omega)];done))
theorem spec_ShareOf_R (a b:Int) (hb:b≤9223372036854775807):Spec Tryz.prog 426 [.sc (.int .i64 a),.sc (.int .i64 b)] (fun d=>∃ m,m=shareN a b∧0≤m∧m≤100∧d = .sc (.int .i64 m)):=(spec_ShareOf_X a b hb).mono fun d h=>⟨_,rfl,(shareN_rng a b).1,(shareN_rng a b).2,h⟩
theorem spec_PackMark_X (c:ClusterD) (nm:ByteArray) (p:PodD) (hf:c.fine) (hp:p.fine):Spec Tryz.prog 409 [c.d,.sc (.string nm),.agg (podCells p)] (fun d=>d = .sc (.int .i64 (packN c nm p))):=by
  have hcl:=hf.hlen;have hx:=hf.host (hostAtB c.hosts nm).toNat;have hr:-1≤hostAtB c.hosts nm∧hostAtB c.hosts nm < c.hosts.length:=⟨(firstN_rng _ _).1,(firstN_rng _ _).2.1⟩;have hxl:=hx.labels.len;have hxt:=hx.tlen;have hpn:=hp.nlen;have hpt:=hp.tlen;have hpc:=hp.cpu.2;have hpm:=hp.mem.2;have hnv:=fun k=>(hp.need k).len;have hxc:=hx.cpu.2;have hxm:=hx.mem.2;have hxs:=hx.slots.2;unfold ClusterD.d podCells
  have ex0:=@hostCells.eq_1
  refine sp_ (rs:= [.tmp 6]) (nt:=69) Tryz.func409 rfl fun X hX=>?_
  refine nm_ ?_
  repeat' ((first|contradiction|(with_reducible exact tt_)|((with_reducible show Wk (AwStepF _ _ _ _ _ _ _));first|(refine cl_ rfl _ _ (spec_HostAt_D c nm (by omega)) rfl rfl ?_;rintro _ rfl)|(refine cl_ rfl _ _ (spec_UsedOn_D c nm hf) rfl rfl ?_;rintro _ rfl)|(refine cl_ rfl _ _ (spec_AddInt_D _ p.cpu (by omega)) rfl rfl ?_;rintro _ rfl)|(refine cl_ rfl _ _ (spec_AddInt_D _ p.mem (by omega)) rfl rfl ?_;rintro _ rfl)|(refine cl_ rfl _ _ (spec_ShareOf_R _ _ (by omega)) rfl rfl ?_;rintro _ ⟨m,hm,hm0,hm1,rfl⟩))|((with_reducible show Wk (AwStep _ _ _ _ _));first|(refine pln_ ?_))|((with_reducible show Wk (AwCode _ _ _ _ _));first|(refine wo_ (id:=11) [] [(0,true),(1,true),(2,true),(3,true),(4,true),(5,true),(6,true),(8,true),(9,true),(10,true),(11,true),(12,true),(13,true),(14,true),(7,false),(15,false),(16,true),(17,true),(18,true)] ?_))|((with_reducible show Wk (boolK _ _ _ _));first|(refine bk_ (fun h h'=>?_) (fun h h'=>?_)))|((with_reducible show Wk (_∧_));first|(refine and_ ?_ ?_))|fail)<;>(try refine nm_ ?_))
  all_goals clear ex0
  all_goals (refine ⟨?_⟩)
  all_goals first|contradiction|(exfalso;omega)|(rw [tdivP (shareN_rng _ _) (shareN_rng _ _)];unfold packN;first|(simp_all [noHost,usedC,hostC,sumM];done)|(simp_all [noHost,usedC,hostC,sumM]<;>omega))|(unfold packN;first|(simp_all [noHost,usedC,hostC,sumM];done)|(simp_all [noHost,usedC,hostC,sumM]<;>omega))
theorem spec_SpreadMark_X (c:ClusterD) (nm:ByteArray) (p:PodD) (hf:c.fine) (hp:p.fine):Spec Tryz.prog 410 [c.d,.sc (.string nm),.agg (podCells p)] (fun d=>d = .sc (.int .i64 (spreadN c nm))):=by
  have hcl:=hf.hlen;have hx:=hf.host (hostAtB c.hosts nm).toNat;have hr:-1≤hostAtB c.hosts nm∧hostAtB c.hosts nm < c.hosts.length:=⟨(firstN_rng _ _).1,(firstN_rng _ _).2.1⟩;have hxl:=hx.labels.len;have hxt:=hx.tlen;have hpn:=hp.nlen;have hpt:=hp.tlen;have hpc:=hp.cpu.2;have hpm:=hp.mem.2;have hnv:=fun k=>(hp.need k).len;have hxc:=hx.cpu.2;have hxm:=hx.mem.2;have hxs:=hx.slots.2;unfold ClusterD.d podCells
  have ex0:=@hostCells.eq_1
  refine sp_ (rs:= [.tmp 6]) (nt:=38) Tryz.func410 rfl fun X hX=>?_
  refine nm_ ?_
  repeat' ((first|contradiction|(with_reducible exact tt_)|((with_reducible show Wk (AwStepF _ _ _ _ _ _ _));first|(refine cl_ rfl _ _ (spec_HostAt_D c nm (by omega)) rfl rfl ?_;rintro _ rfl)|(refine cl_ rfl _ _ (spec_UsedOn_D c nm hf) rfl rfl ?_;rintro _ rfl)|(refine cl_ rfl _ _ (spec_ShareOf_R _ _ (by omega)) rfl rfl ?_;rintro _ ⟨m,hm,hm0,hm1,rfl⟩))|((with_reducible show Wk (AwStep _ _ _ _ _));first|(refine pln_ ?_))|((with_reducible show Wk (boolK _ _ _ _));first|(refine bk_ (fun h h'=>?_) (fun h h'=>?_)))|((with_reducible show Wk (_∧_));first|(refine and_ ?_ ?_))|fail)<;>(try refine nm_ ?_))
  all_goals clear ex0
  all_goals (refine ⟨?_⟩)
  all_goals first|contradiction|(exfalso;omega)|(unfold spreadN;first|(simp_all [noHost,usedC,hostC,sumM];done)|(simp_all [noHost,usedC,hostC,sumM]<;>omega))
theorem spec_SoftMark_X (c:ClusterD) (nm:ByteArray) (p:PodD) (hf:c.fine) (hp:p.fine):Spec Tryz.prog 411 [c.d,.sc (.string nm),.agg (podCells p)] (fun d=>d = .sc (.int .i64 (softN c nm p))):=by
  have hcl:=hf.hlen;have hx:=hf.host (hostAtB c.hosts nm).toNat;have hr:-1≤hostAtB c.hosts nm∧hostAtB c.hosts nm < c.hosts.length:=⟨(firstN_rng _ _).1,(firstN_rng _ _).2.1⟩;have hxl:=hx.labels.len;have hxt:=hx.tlen;have hpn:=hp.nlen;have hpt:=hp.tlen;have hpc:=hp.cpu.2;have hpm:=hp.mem.2;have hnv:=fun k=>(hp.need k).len;unfold ClusterD.d podCells
  have ex0:=@hostCells.eq_1
  refine sp_ (rs:= [.tmp 6]) (nt:=25) Tryz.func411 rfl fun X hX=>?_
  refine nm_ ?_
  repeat' ((first|contradiction|(with_reducible exact tt_)|((with_reducible show Wk (AwStepF _ _ _ _ _ _ _));first|(refine cl_ rfl _ _ (spec_HostAt_D c nm (by omega)) rfl rfl ?_;rintro _ rfl)|(refine cl_ rfl _ _ (spec_Untolerated_X p.tolers (c.hosts.getD (hostAtB c.hosts nm).toNat default).taints 2 (by omega) (by omega)) rfl rfl ?_;rintro _ rfl;(have hur:=untN_rng p.tolers (c.hosts.getD (hostAtB c.hosts nm).toNat default).taints 2 (c.hosts.getD (hostAtB c.hosts nm).toNat default).taints.length))|(refine cl_ rfl _ _ (spec_Brought_X _ _ _) rfl rfl ?_;rintro _ rfl))|((with_reducible show Wk (AwStep _ _ _ _ _));first|(refine pln_ ?_))|((with_reducible show Wk (AwCode _ _ _ _ _));first|(refine wo_ (id:=4) [] [(0,true),(1,true),(2,true),(3,true),(4,true),(5,true),(6,true),(7,true),(8,false),(9,true),(10,true),(11,false),(12,true)] ?_))|((with_reducible show Wk (boolK _ _ _ _));first|(refine bk_ (fun h h'=>?_) (fun h h'=>?_)))|((with_reducible show Wk (_∧_));first|(refine and_ ?_ ?_))|fail)<;>(try refine nm_ ?_))
  all_goals clear ex0
  all_goals (refine ⟨?_⟩)
  all_goals first|contradiction|(exfalso;omega)|(refine resI 0 ?_;(try unfold softN);(try unfold brB);(try unfold hostC);(repeat' split)<;>omega)
theorem spec_MarkOn_X (c:ClusterD) (nm:ByteArray) (p:PodD) (hf:c.fine) (hp:p.fine):Spec Tryz.prog 378 [c.d,.sc (.string nm),.agg (podCells p)] (fun d=>d = .sc (.int .i64 (markN c nm p))):=by
  have h1:=packN_rng c nm p;have h2:=spreadN_rng c nm;have h3:=softN_rng c nm p;have hw1:=@wt_rng c nm p;unfold ClusterD.d podCells
  refine sp_ (rs:= [.tmp 6]) (nt:=37) Tryz.func378 rfl fun X hX=>?_
  refine nm_ ?_
  repeat' ((first|contradiction|(with_reducible exact tt_)|((with_reducible show Wk (AwStepF _ _ _ _ _ _ _));first|(refine cl_ rfl _ _ (spec_WeightsOk_D c.w1 c.w2 c.w3) rfl rfl ?_;rintro _ rfl;(by_cases hwb:(inB c.w1 0 10&&(inB c.w2 0 10&&inB c.w3 0 10))=true;obtain ⟨hq1,hq2,hq3⟩:=hw1 hwb))|(refine cl_ rfl _ _ (spec_PackMark_X c nm p hf hp) rfl rfl ?_;rintro _ rfl)|(refine cl_ rfl _ _ (spec_SpreadMark_X c nm p hf hp) rfl rfl ?_;rintro _ rfl)|(refine cl_ rfl _ _ (spec_SoftMark_X c nm p hf hp) rfl rfl ?_;rintro _ rfl))|((with_reducible show Wk (AwStep _ _ _ _ _));first|(refine pln_ ?_))|((with_reducible show Wk (AwCode _ _ _ _ _));first|(refine wo_ (id:=4) [] [(0,true),(1,true),(2,true),(3,true),(4,true),(7,true),(8,true),(9,true),(10,true),(11,true),(15,true),(16,true),(17,true),(18,true),(19,true),(5,false),(6,true),(12,false),(13,true),(14,true),(20,false),(21,true),(22,true),(23,true)] ?_))|((with_reducible show Wk (boolK _ _ _ _));first|(refine bk_ (fun h h'=>?_) (fun h h'=>?_)))|((with_reducible show Wk (_∧_));first|(refine and_ ?_ ?_))|fail)<;>(try refine nm_ ?_))
  all_goals (refine ⟨?_⟩)
  all_goals first|contradiction|(exfalso;omega)|(unfold markN;first|(rw [if_pos hwb];done)|(rw [if_neg hwb];done)|(simp_all;done))
theorem spec_Feasible_X (c:ClusterD) (p:PodD) (hf:c.fine) (hp:p.fine):Spec Tryz.prog 377 [c.d,.agg (podCells p)] (fun d=>d = .sl (feasL c p c.hosts.length).length (strsD (feasL c p c.hosts.length))):=by
  have hcl:=hf.hlen;unfold ClusterD.d podCells
  have ex0:=@strs_put
  refine spG_ (rs:= [.tmp 4]) (nt:=34) Tryz.func377 rfl fun X hX=>?_
  refine nm_ ?_
  repeat' ((first|contradiction|(with_reducible exact tt_)|((with_reducible show Wk (AwStepF _ _ _ _ _ _ _));first|(refine cl_ rfl _ _ (spec_FitsOn_X c (c.hosts.getD i default).name p hf hp) rfl rfl ?_;rintro _ rfl)|(refine app_ rfl ?_))|((with_reducible show Wk (AwStep _ _ _ _ _));first|(refine pln_ ?_))|((with_reducible show Wk (AwCode _ _ _ _ _));first|(refine wo_ (id:=5) [] [(0,true),(1,true),(2,true),(3,true),(4,true),(5,true),(6,true),(7,true),(8,false)] ?_)|(refine lpK_ (ι:=Nat × List ByteArray) [] [0,1,2] 0x6c (fun ⟨i,o⟩=> [(6,.sc (.int .i64 (i:Int))),(5,.own 2 0 o.length)]) (fun ⟨i,o⟩=> [(2,⟨9,1,(o).length,strsD (o)⟩)]) (fun ⟨i,o⟩=>i≤c.hosts.length∧o=feasL c p i) (fun ⟨i,o⟩=>c.hosts.length - i) (0, []) ?_ ?_;(focus (exact ⟨Nat.zero_le _,rfl⟩));rintro _ hN0 ⟨i,o⟩ hinv;(try dsimp only at hinv);obtain ⟨hi,hW⟩:=hinv;have hol:o.length≤i:=(by rw [hW];exact feas_len _ _ _);replace hW:=Lib.hid hW;skip))|((with_reducible show Wk (boolK _ _ _ _));first|(refine bk_ (fun h h'=>?_) (fun h h'=>?_)))|((with_reducible show Wk (_∧_));first|(refine and_ ?_ ?_))|((with_reducible show Wk (retOkG _ _ _ _));first|(refine rgg_ [.frz 2] ?_))|(refine hN0.run ((i+1,o ++ [(c.hosts.getD i default).name])) [] [0,1,4] ?_ ?_;(focus (exact ⟨by show i+1≤c.hosts.length;omega,by show o++_=_;rw [hW.out];exact (feas_go (by omega) (by omega)).symm⟩));(focus (show c.hosts.length - (i+1) < c.hosts.length - i;omega)))|(refine hN0.run ((i+1,o)) [] [0,1,2] ?_ ?_;(focus (exact ⟨by show i+1≤c.hosts.length;omega,by show o=_;rw [hW.out];exact (feas_no (by omega) (by omega)).symm⟩));(focus (show c.hosts.length - (i+1) < c.hosts.length - i;omega)))|fail)<;>(try refine nm_ ?_))
  all_goals clear ex0
  all_goals (refine ⟨?_⟩)
  all_goals first|contradiction|(exfalso;omega)|(have e8:i=c.hosts.length:=(by omega);subst e8;have e9:=hW.out;subst e9;first|rfl|exact ⟨rfl,rfl,rfl⟩|exact ⟨rfl,rfl⟩)
theorem spec_RankingOf_X (c:ClusterD) (p:PodD) (hf:c.fine) (hp:p.fine):Spec Tryz.prog 307 [c.d,.agg (podCells p)] (fun d=>∃ ws,RkS c p ws∧d = .sl ws.length (strsD ws)):=by
  have hcl:=hf.hlen;unfold ClusterD.d podCells
  have ex0:=@strs_app;have ex1:=@strs_put;have ex2:=@Nat.sub_zero
  refine spG_ (rs:= [.tmp 4]) (nt:=84) Tryz.func307 rfl fun X hX=>?_
  refine nm_ ?_
  repeat' ((first|contradiction|(with_reducible exact tt_)|((with_reducible show Wk (AwStepF _ _ _ _ _ _ _));first|(refine cl_ rfl _ _ (spec_Feasible_X c p hf hp) rfl rfl ?_;rintro _ rfl;(have hwl:=feas_len c p c.hosts.length;generalize hws:feasL c p c.hosts.length=ws at *;replace hws:=Lib.hid hws))|(refine cl_ rfl _ _ (spec_MarkOn_X c (ws.getD i default) p hf hp) rfl rfl ?_;rintro _ rfl)|(refine cl_ rfl _ _ (spec_MarkOn_X c (o.getD j default) p hf hp) rfl rfl ?_;rintro _ rfl)|(refine app_ rfl ?_))|((with_reducible show Wk (AwStep _ _ _ _ _));first|(refine pln_ ?_))|((with_reducible show Wk (AwCode _ _ _ _ _));first|(refine wo_ (id:=6) [] [(0,true),(1,true),(2,true),(3,true),(4,true),(5,true),(6,false),(7,true)] ?_)|(refine wtr_ (id:=8) [] (.early 0 (.early 1 (.early 2 (.early 3 (.early 4 (.early 5 (.early 6 (.early 7 (.early 8 (.early 9 (.early 10 (.early 12 (.one 11 (.early 13 (.early 14 (.early 15 (.early 16 (.early 17 (.early 18 (.early 20 (.early 22 (.one 19 (.one 21 (.early 23 (.early 24 (.early 25 (.early 26 (.early 27 (.early 29 (.early 30 (.early 31 (.two 28 (.one 32 (.early 33 (.early 34 (.early 35 (.early 36 .done))))) 32 (.one 28 (.early 33 (.early 34 (.early 35 (.early 36 .done))))))))))))))))))))))))))))))))))))) ?_)|(refine wtr_ (id:=10) [] (.early 1 (.early 2 (.early 3 (.early 5 (.early 6 (.early 7 (.early 8 (.two 0 (.two 4 (.one 9 (.one 10 (.early 11 .done))) 9 (.one 4 (.one 10 (.early 11 .done)))) 9 (.one 0 (.one 4 (.one 10 (.early 11 .done)))))))))))) ?_)|((with_reducible show Wk (AwCode _ _ (.loop (.seq (.seq (.region 8 _ _) _) _)) _ _));refine lpK_ (ι:=Nat) [] [0,1,2] 0x3ec (fun j=> [(9,.sc (.int .i64 (j:Int)))]) (fun j=> []) (fun j=>j≤o.length∧∀ t,t < j→rkLt c p (ws.getD i default) (o.getD t default)=false) (fun j=>o.length - j) 0 ?_ ?_;(focus (exact ⟨Nat.zero_le _,fun t h=>absurd h (Nat.not_lt_zero _)⟩));rintro _ hN1 j hinv;(try dsimp only at hinv);obtain ⟨hj,hjt⟩:=hinv;replace hjt:=Lib.hid hjt;obtain ⟨a,b,hcut,la,lb,ta,tb⟩:=strs_cut o j j (by omega) (by omega);replace hcut:=Lib.hid hcut;skip)|((with_reducible show Wk (AwCode _ _ (.loop (.seq (.seq (.region 4 _ _) _) _)) _ _));refine lpK_ (ι:=Nat × List ByteArray) [] [0,1,2] 0xec (fun ⟨i,o⟩=> [(7,.sc (.int .i64 (i:Int))),(6,.own 2 0 o.length)]) (fun ⟨i,o⟩=> [(2,⟨9,1,(o).length,strsD (o)⟩)]) (fun ⟨i,o⟩=>i≤ws.length∧RkI c p ws i o) (fun ⟨i,o⟩=>ws.length - i) (0, []) ?_ ?_;(focus (exact ⟨Nat.zero_le _,rkI_0 c p ws⟩));rintro _ hN0 ⟨i,o⟩ hinv;(try dsimp only at hinv);obtain ⟨hi,hW⟩:=hinv;have hol:=hW.len hi;have hol2:o.length≤i:=(by omega);have hol3:i≤o.length:=(by omega);clear hol;replace hW:=Lib.hid hW;skip))|((with_reducible show Wk (boolK _ _ _ _));first|(refine bk_ (fun h h'=>?_) (fun h h'=>?_)))|((with_reducible show Wk (_∧_));first|(refine and_ ?_ ?_))|((with_reducible show Wk (stepK _ _ _));first|(refine ite_ (fun hs=>?_) (fun hs=>?_)))|((with_reducible show Wk (retOkG _ _ _ _));first|(refine rgg_ [.frz 2] ?_))|(refine hN1.run (j+1) [] [0,1,2] ?_ ?_;(focus (exact ⟨by show j+1≤o.length;omega,rk_step hjt.out (by first|omega|(rintro (h1|⟨h1,h2⟩)<;>first|omega|exact leq_not (by assumption) h2))⟩));(focus (show o.length - (j+1) < o.length - j;omega)))|(refine hN0.run ((i+1,a ++ [(ws.getD i default)]++b)) [] [0,1,7] ?_ ?_;(focus (exact ⟨by show i+1≤ws.length;omega,rkI_go hW.out (by omega) hcut.out.fst hcut.out.snd hjt.out (fun hlt=>rk_iff.2 (by first|exact .inl (by omega)|exact .inr ⟨by omega,leq_less (by assumption)⟩|(exfalso;omega))) (by omega)⟩));(focus (show ws.length - (i+1) < ws.length - i;omega)))|(refine hN0.run ((i+1,a ++ [(ws.getD i default)])) [] [0,1,7] ?_ ?_;(focus (exact ⟨by show i+1≤ws.length;omega,rkI_end hW.out (by omega) hcut.out.fst hjt.out (by omega)⟩));(focus (show ws.length - (i+1) < ws.length - i;omega)))|fail)<;>(try refine nm_ ?_))
  all_goals clear ex0 ex1 ex2
  all_goals (refine ⟨?_⟩)
  all_goals first|contradiction|(exfalso;omega)|(refine ⟨o,⟨hW.out.srt,?_⟩,rfl⟩;rw [hws.out];have e8:=hW.out.perm;rwa [List.take_of_length_le (by omega)] at e8)
theorem spec_BestHost_X (c:ClusterD) (p:PodD) (hf:c.fine) (hp:p.fine):Spec Tryz.prog 228 [c.d,.agg (podCells p)] (fun d=>∃ v q,Best c p v q∧d = .tup [.sc (.string v),.sc (.bool q)]):=by
  have hcl:=hf.hlen;unfold ClusterD.d podCells
  refine sp_ (rs:= [.tmp 4,.tmp 5]) (nt:=16) Tryz.func228 rfl fun X hX=>?_
  refine nm_ ?_
  repeat' ((first|contradiction|(with_reducible exact tt_)|((with_reducible show Wk (AwStepF _ _ _ _ _ _ _));first|(refine cl_ rfl _ _ (spec_RankingOf_X c p hf hp) rfl rfl ?_;rintro _ ⟨ws,hws,rfl⟩;(have hwl:=hws.len;replace hws:=Lib.hid hws)))|((with_reducible show Wk (AwStep _ _ _ _ _));first|(refine pln_ ?_))|((with_reducible show Wk (boolK _ _ _ _));first|(refine bk_ (fun h h'=>?_) (fun h h'=>?_)))|((with_reducible show Wk (_∧_));first|(refine and_ ?_ ?_))|fail)<;>(try refine nm_ ?_))
  all_goals (refine ⟨?_⟩)
  all_goals first|contradiction|(exfalso;omega)|(exact ⟨_,true,best_of hws.out (by omega),rfl⟩)|(exact ⟨_,false,best_no hws.out (by omega),rfl⟩)
end Go.Proofs.YtgoeccemfgniiaaGreat
