/- Px2 (what is wanted of them). -/
import Derived.Test.YtgoeccemfgniiaaGreatUPx1
import Derived.Test.YtgoeccemfgniiaaGreatUDr8
namespace Go.Proofs.YtgoeccemfgniiaaGreat
open Go.RowKit
set_option linter.unusedVariables false
set_option linter.unusedSimpArgs false
set_option maxRecDepth 100000
set_option maxHeartbeats 4000000
def podIq (c:ClusterD) (x:Int):PlacedD:=c.pods.getD x.toNat default
/-- The pods that wait, by their places. -/
structure WtI (c:ClusterD) (i:Nat) (o:List Int):Prop where
  srt:Srt wtLt (o.map (podIq c))
  perm:(o.map (podIq c)).Perm (waitP c i)
  idx:∀ x ∈ o,0≤x∧x < c.pods.length
theorem wtI_0 (c:ClusterD):WtI c 0 []:=⟨.nil,.refl _,fun x h=>by cases h⟩
theorem WtI.len {c:ClusterD}{i:Nat}{o:List Int} (h:WtI c i o):o.length≤i:=by
  have:=h.perm.length_eq
  rw [List.length_map] at this
  rw [this];exact wait_len c i
theorem WtI.at_ {c:ClusterD}{i j:Nat}{o:List Int} (h:WtI c i o) (hj:j < o.length):0≤o.getD j default∧o.getD j default < c.pods.length:=by
  rw [getD_at hj];exact h.idx _ (List.getElem_mem _)
theorem map_at {α β:Type} [Inhabited α] [Inhabited β] (f:α→β) {o:List α}{j:Nat} (h:j < o.length):(o.map f).getD j default=f (o.getD j default):=by
  rw [getD_at (by rw [List.length_map];exact h),getD_at h,List.getElem_map]
theorem wtI_go {c:ClusterD}{i j:Nat}{o a b:List Int} (h:WtI c i o) (hi:i < c.pods.length) (he:emptyB (c.pods.getD i default).on=true) (ha:a=o.take j) (hb:b=o.drop j) (h1:∀ t,t < j→wtLt (c.pods.getD i default) (podIq c (o.getD t default))=false) (h2:j < o.length→wtLt (c.pods.getD i default) (podIq c (o.getD j default))=true) (hj:j≤o.length):WtI c (i+1) (a ++ [(i:Int)]++b):=by
  subst ha;subst hb
  have hx:podIq c (i:Int)=c.pods.getD i default:=by unfold podIq;rw [Int.toNat_natCast]
  have em:(o.take j ++ [(i:Int)]++o.drop j).map (podIq c)=(o.map (podIq c)).take j++c.pods.getD i default::(o.map (podIq c)).drop j:=by
    rw [List.map_append,List.map_append,List.map_take,List.map_drop,List.append_assoc]
    show _++(podIq c (i:Int)::_)=_
    rw [hx];rfl
  refine ⟨?_,?_,fun x hx=>?_⟩
  · rw [em]
    exact srt_lay wt_sto h.srt (fun t ht=>by rw [map_at _ (by omega)];exact h1 t ht) (fun hl=>by rw [List.length_map] at hl;rw [map_at _ hl];exact h2 hl) (by rw [List.length_map];exact hj)
  · rw [em]
    refine (lay_perm _ _ _).trans ?_
    rw [wait_go hi he]
    exact h.perm.append_right _
  · rcases List.mem_append.1 hx with hx|hx
    · rcases List.mem_append.1 hx with hx|hx
      · exact h.idx _ (List.mem_of_mem_take hx)
      · rw [List.mem_singleton.1 hx];omega
    · exact h.idx _ (List.mem_of_mem_drop hx)
theorem wtI_end {c:ClusterD}{i j:Nat}{o a:List Int} (h:WtI c i o) (hi:i < c.pods.length) (he:emptyB (c.pods.getD i default).on=true) (ha:a=o.take j) (h1:∀ t,t < j→wtLt (c.pods.getD i default) (podIq c (o.getD t default))=false) (hj:o.length≤j):WtI c (i+1) (a ++ [(i:Int)]):=by
  have he2:a=o.take o.length:=by rw [ha,List.take_of_length_le hj,List.take_of_length_le (Nat.le_refl _)]
  have:=wtI_go (a:=a) (b:= []) (j:=o.length) h hi he he2 (by rw [List.drop_of_length_le (Nat.le_refl _)]) (fun t ht=>h1 t (by omega)) (fun hh=>absurd hh (Nat.lt_irrefl _)) (Nat.le_refl _)
  rwa [List.append_nil] at this
theorem wtI_no {c:ClusterD}{i:Nat}{o:List Int} (h:WtI c i o) (hi:i < c.pods.length) (he:emptyB (c.pods.getD i default).on=false):WtI c (i+1) o:=⟨h.srt,by rw [wait_no hi he];exact h.perm,h.idx⟩
theorem wt_step {c:ClusterD}{x:PlacedD}{o:List Int}{j:Nat} (h:∀ t,t < j→wtLt x (podIq c (o.getD t default))=false) (h1:wtLt x (c.pods.getD (o.getD j default).toNat default)=false):∀ t,t < j+1→wtLt x (podIq c (o.getD t default))=false:=fun t ht=>by
  by_cases e:t=j
  · subst e;exact h1
  · exact h t (by omega)
/-- The names of the first k that wait. -/
def wNm (q:List PlacedD) (k:Nat):List ByteArray:=(q.take k).map (·.pod.name)
theorem wNm_go {c:ClusterD}{o:List Int}{k:Nat} (h:k < o.length):wNm (o.map (podIq c)) k ++ [(c.pods.getD (o.getD k default).toNat default).pod.name]=wNm (o.map (podIq c)) (k+1):=by
  unfold wNm
  rw [take_snoc _ _ (by rw [List.length_map];exact h),List.map_append,map_at _ h];rfl
theorem wNm_len (q:List PlacedD) (k:Nat):(wNm q k).length≤k:=by unfold wNm;rw [List.length_map,List.length_take];omega
theorem wNm_all (q:List PlacedD):(wNm q q.length).length=q.length:=by unfold wNm;rw [List.length_map,List.length_take,Nat.min_self]
theorem wNm_at {q:List PlacedD}{i:Nat} (h:i < q.length):(wNm q q.length).getD i default=(q.getD i default).pod.name:=by
  unfold wNm
  rw [List.take_of_length_le (Nat.le_refl _),map_at _ h]
theorem WtS.len {c:ClusterD}{q:List PlacedD} (h:WtS c q):q.length≤c.pods.length:=by rw [h.perm.length_eq];exact wait_len _ _
theorem podAt_hit {c:ClusterD}{nm:ByteArray}{k:Nat} (h:k < c.pods.length) (he:eqB (c.pods.getD k default).pod.name nm=true) (hj:∀ j:Nat,j < k→(!eqB (c.pods.getD j default).pod.name nm)=true):podAtB c nm=(k:Int):=firstN_hit h he hj
theorem podAt_none {c:ClusterD}{nm:ByteArray}{k:Nat} (h:c.pods.length≤k) (hj:∀ j:Nat,j < k→(!eqB (c.pods.getD j default).pod.name nm)=true):podAtB c nm=-1:=firstN_none h hj
theorem eB_t {b:ByteArray} (h:eqB b ⟨#[]⟩=true):emptyB b=true:=h
theorem plc_none {c:ClusterD}{nm:ByteArray} (h:podAtB c nm < 0):PlcR c nm c ⟨#[]⟩ 3:=⟨.inl ⟨h,rfl,rfl,rfl⟩⟩
theorem plc_busy {c:ClusterD}{nm:ByteArray} (h:0≤podAtB c nm) (he:eqB (podC c nm).on ⟨#[]⟩=false):PlcR c nm c ⟨#[]⟩ 5:=⟨.inr (.inl ⟨h,he,rfl,rfl,rfl⟩)⟩
theorem plc_no {c:ClusterD}{nm v:ByteArray}{b:Bool} (h:0≤podAtB c nm) (he:eqB (podC c nm).on ⟨#[]⟩=true) (hb:Best c (podC c nm).pod v b) (hq:b=false):PlcR c nm c ⟨#[]⟩ 6:=⟨.inr (.inr ⟨h,he,v,b,hb,.inl ⟨hq,rfl,rfl,rfl⟩⟩)⟩
theorem plc_yes {c:ClusterD}{nm v:ByteArray}{b:Bool} (h:0≤podAtB c nm) (he:eqB (podC c nm).on ⟨#[]⟩=true) (hb:Best c (podC c nm).pod v b) (hq:b=true):PlcR c nm (putOn c nm v) v 0:=⟨.inr (.inr ⟨h,he,v,b,hb,.inr ⟨hq,rfl,rfl,rfl⟩⟩)⟩
theorem nxt_some {c c':ClusterD}{q:List PlacedD}{i:Nat}{v:ByteArray}{code:Int} (hq:WtS c q) (hi:i < q.length) (hn:NoneN c q i) (hp:PlcR c ((wNm q q.length).getD i default) c' v code) (hc:code=0):NxtP c c' ((wNm q q.length).getD i default) v 0:=⟨⟨q,hq,.inr (.inl ⟨i,hi,hn,by rw [wNm_at hi] at hp;rw [← hc];exact hp,wNm_at hi,rfl⟩)⟩⟩
theorem nxt_empty {c:ClusterD}{q:List PlacedD} (hq:WtS c q) (h:q.length≤0):NxtP c c ⟨#[]⟩ ⟨#[]⟩ 7:=⟨⟨q,hq,.inl ⟨List.eq_nil_of_length_eq_zero (by omega),rfl,rfl,rfl,rfl⟩⟩⟩
theorem nxt_none {c:ClusterD}{q:List PlacedD}{i:Nat} (hq:WtS c q) (h:0 < q.length) (hn:NoneN c q i) (hi:q.length≤i):NxtP c c ⟨#[]⟩ ⟨#[]⟩ 6:=⟨⟨q,hq,.inr (.inr ⟨h,fun j hj=>hn j (by omega),rfl,rfl,rfl,rfl⟩)⟩⟩
theorem none_at {c:ClusterD}{q:List PlacedD}{k:Nat} (h:NoneN c q k) (hk:k < q.length) {c':ClusterD}{v:ByteArray}{code:Int} (hp:PlcR c ((wNm q q.length).getD k default) c' v code) (hc:¬ code=0):NoneN c q (k+1):=nonN_go h (by rw [← wNm_at hk];exact hp) hc
theorem spec_PodAt_X (c:ClusterD) (nm:ByteArray) (hp:c.pods.length≤1048576):Spec Tryz.prog 227 [c.d,.sc (.string nm)] (fun d=>d = .sc (.int .i64 (podAtB c nm))):=by
  unfold ClusterD.d
  refine sp_ (rs:= [.tmp 4]) (nt:=23) Tryz.func227 rfl fun X hX=>?_
  refine nm_ ?_
  repeat' ((first|contradiction|(with_reducible exact tt_)|((with_reducible show Wk (AwStep _ _ _ _ _));first|(refine pln_ ?_))|((with_reducible show Wk (AwCode _ _ _ _ _));first|(refine lpU_ 0x26 (ι:=Nat) (fun k=> [(5,.sc (.int .i64 (k:Int)))]) (fun k=>k≤c.pods.length∧∀ j:Nat,j < k→(fun j=>!eqB (c.pods.getD j default).pod.name nm) j=true) (fun k=>c.pods.length - k) 0 ?_ ?_;(focus (exact ⟨by omega,allN_zero⟩));rintro _ hN0 k hinv;(try dsimp only at hinv);obtain ⟨hk,hj⟩:=hinv;replace hj:=Lib.hid hj;skip))|((with_reducible show Wk (boolK _ _ _ _));first|(refine bk_ (fun h h'=>?_) (fun h h'=>?_)))|((with_reducible show Wk (_∧_));first|(refine and_ ?_ ?_))|(refine hN0.go (k+1) ?_ ?_;(focus (exact ⟨by show k+1≤c.pods.length;omega,allN_step hj.out (by simp_all)⟩));(focus (show c.pods.length - (k+1) < c.pods.length - k;omega)))|fail)<;>(try refine nm_ ?_))
  all_goals (refine ⟨?_⟩)
  all_goals first|contradiction|(exfalso;omega)|(rw [podAt_hit (k:=k) (by omega) (by simp_all) hj.out];done)|(rw [podAt_none (k:=k) (by omega) hj.out];done)
theorem l22First_X (x y:PlacedD):Spec Tryz.prog 226 [.agg (placedCells x),.agg (placedCells y)] (fun d=>d = .sc (.bool (wtLt x y))):=by
  unfold placedCells
  refine sp_ (rs:= [.tmp 4]) (nt:=28) Tryz.func226 rfl fun X hX=>?_
  refine nm_ ?_
  repeat' ((first|contradiction|(with_reducible exact tt_)|((with_reducible show Wk (AwStep _ _ _ _ _));first|(refine pln_ ?_))|((with_reducible show Wk (boolK _ _ _ _));first|(refine bk_ (fun h h'=>?_) (fun h h'=>?_)))|((with_reducible show Wk (_∧_));first|(refine and_ ?_ ?_))|fail)<;>(try refine nm_ ?_))
  all_goals (refine ⟨?_⟩)
  all_goals first|contradiction|(exfalso;omega)|(unfold wtLt;first|rfl|(simp_all;done)|(simp_all;omega))
theorem spec_Waiting_X (c:ClusterD) (hp:c.pods.length≤1048576):Spec Tryz.prog 132 [c.d] (fun d=>∃ q,WtS c q∧d = .sl (wNm q q.length).length (strsD (wNm q q.length))):=by
  unfold ClusterD.d
  have ex0:=@ints_app;have ex1:=@ints_put;have ex2:=@strs_put;have ex3:=@strs_app;have ex4:=@Nat.sub_zero
  refine spG_ (rs:= [.tmp 2]) (nt:=81) Tryz.func132 rfl fun X hX=>?_
  refine nm_ ?_
  repeat' ((first|contradiction|(with_reducible exact tt_)|((with_reducible show Wk (AwStepF _ _ _ _ _ _ _));first|(refine cl_ rfl _ _ (l22First_X (c.pods.getD i default) (c.pods.getD (o.getD j default).toNat default)) rfl rfl ?_;rintro _ rfl)|(refine app_ rfl ?_))|((with_reducible show Wk (AwStep _ _ _ _ _));first|(refine pln_ ?_))|((with_reducible show Wk (AwCode _ _ _ _ _));first|(refine wo_ (id:=7) [] [(0,true),(1,true),(2,true),(3,true),(4,true),(5,true),(6,true),(7,true),(8,true),(9,true),(10,true),(11,true),(12,true),(13,true),(14,true),(15,true),(16,true),(17,true),(18,false),(19,true),(20,true)] ?_)|(refine wo_ (id:=15) [2] [(0,true),(1,true),(2,true),(3,true),(4,true),(5,true),(6,true),(7,true),(8,true),(9,true),(10,true),(11,false),(12,false),(13,true)] ?_)|((with_reducible show Wk (AwCode _ _ (.loop (.seq (.seq (.region 13 _ _) _) _)) _ _));refine lpK_ (ι:=Nat × List ByteArray) [] [0,1,2] 0x18a (fun ⟨k,u⟩=> [(8,.sc (.int .i64 (k:Int))),(7,.own 2 0 u.length)]) (fun ⟨k,u⟩=> [(2,⟨9,1,(u).length,strsD (u)⟩)]) (fun ⟨k,u⟩=>k≤o.length∧u=wNm (o.map (podIq c)) k) (fun ⟨k,u⟩=>o.length - k) (0, []) ?_ ?_;(focus (exact ⟨Nat.zero_le _,rfl⟩));rintro _ hN2 ⟨k,u⟩ hinv;(try dsimp only at hinv);obtain ⟨hk,hU⟩:=hinv;have hul:u.length≤k:=(by rw [hU];exact wNm_len _ _);replace hU:=Lib.hid hU;have hkx:k < o.length→0≤o.getD k default∧o.getD k default < c.pods.length:=fun h=>hW.out.at_ h;skip)|((with_reducible show Wk (AwCode _ _ (.loop (.seq (.seq (.region 7 _ _) _) _)) _ _));refine lpK_ (ι:=Nat) [] [0,1] 0x3a (fun j=> [(5,.sc (.int .i64 (j:Int)))]) (fun j=> []) (fun j=>j≤o.length∧∀ t,t < j→wtLt (c.pods.getD i default) (podIq c (o.getD t default))=false) (fun j=>o.length - j) 0 ?_ ?_;(focus (exact ⟨Nat.zero_le _,fun t h=>absurd h (Nat.not_lt_zero _)⟩));rintro _ hN1 j hinv;(try dsimp only at hinv);obtain ⟨hj,hjt⟩:=hinv;replace hjt:=Lib.hid hjt;obtain ⟨a,b,hcut,la,lb,ta,tb⟩:=ints_cut o j j (by omega) (by omega);replace hcut:=Lib.hid hcut;have hjx:j < o.length→0≤o.getD j default∧o.getD j default < c.pods.length:=fun h=>hW.out.at_ h;skip)|((with_reducible show Wk (AwCode _ _ (.loop (.seq (.seq (.region 3 _ _) _) _)) _ _));refine lpK_ (ι:=Nat × List Int) [] [0,1] 0x1a (fun ⟨i,o⟩=> [(4,.sc (.int .i64 (i:Int))),(3,.own 1 0 o.length)]) (fun ⟨i,o⟩=> [(1,⟨3,1,(o).length,intsD (o)⟩)]) (fun ⟨i,o⟩=>i≤c.pods.length∧WtI c i o) (fun ⟨i,o⟩=>c.pods.length - i) (0, []) ?_ ?_;(focus (exact ⟨Nat.zero_le _,wtI_0 c⟩));rintro _ hN0 ⟨i,o⟩ hinv;(try dsimp only at hinv);obtain ⟨hi,hW⟩:=hinv;have hol:=hW.len;replace hW:=Lib.hid hW;skip))|((with_reducible show Wk (boolK _ _ _ _));first|(refine bk_ (fun h h'=>?_) (fun h h'=>?_)))|((with_reducible show Wk (_∧_));first|(refine and_ ?_ ?_))|((with_reducible show Wk (stepK _ _ _));first|(refine ite_ (fun hs=>?_) (fun hs=>?_)))|((with_reducible show Wk (retOkG _ _ _ _));first|(refine rgg_ [.frz 2] ?_))|(refine hN2.run ((k+1,u ++ [(c.pods.getD (o.getD k default).toNat default).pod.name])) [] [0,1,4] ?_ ?_;(focus (exact ⟨by show k+1≤o.length;omega,by show u++_=_;rw [hU.out];exact wNm_go (by omega)⟩));(focus (show o.length - (k+1) < o.length - k;omega)))|(refine hN1.run (j+1) [] [0,1] ?_ ?_;(focus (exact ⟨by show j+1≤o.length;omega,wt_step hjt.out (by first|assumption|(simp_all;done))⟩));(focus (show o.length - (j+1) < o.length - j;omega)))|(refine hN0.run ((i+1,a ++ [(i:Int)]++b)) [] [0,6] ?_ ?_;(focus (exact ⟨by show i+1≤c.pods.length;omega,wtI_go hW.out (by omega) (eB_t (by assumption)) hcut.out.fst hcut.out.snd hjt.out (fun hl=>by first|assumption|(exfalso;omega)|(simp_all;done)) (by omega)⟩));(focus (show c.pods.length - (i+1) < c.pods.length - i;omega)))|(refine hN0.run ((i+1,a ++ [(i:Int)])) [] [0,6] ?_ ?_;(focus (exact ⟨by show i+1≤c.pods.length;omega,wtI_end hW.out (by omega) (eB_t (by assumption)) hcut.out.fst hjt.out (by omega)⟩));(focus (show c.pods.length - (i+1) < c.pods.length - i;omega)))|(refine hN0.run ((i+1,o)) [] [0,1] ?_ ?_;(focus (exact ⟨by show i+1≤c.pods.length;omega,wtI_no hW.out (by omega) (by first|assumption|(unfold emptyB;simp_all;done))⟩));(focus (show c.pods.length - (i+1) < c.pods.length - i;omega)))|fail)<;>(try refine nm_ ?_))
  all_goals clear ex0 ex1 ex2 ex3 ex4
  all_goals (refine ⟨?_⟩)
  all_goals first|contradiction|(exfalso;omega)|(have ek:k=(o.map (podIq c)).length:=(by rw [List.length_map];omega);have ei:i=c.pods.length:=(by omega);subst ei;have e9:=hU.out;rw [ek] at e9;refine ⟨(o.map (podIq c)),⟨hW.out.srt,hW.out.perm⟩,?_⟩;rw [← e9])
theorem spec_PlacePod_X (c:ClusterD) (nm:ByteArray) (hw:CluW 8 12 c) (hcb:clusterB c=true):SpecH Tryz.prog 133 [c.d,.sc (.string nm)] [] 0 (fun d os' nb'=>∃ (q:ClusterD) (v:ByteArray) (code:Int),PlcR c nm q v code∧d = .tup [.agg [.own 0 0 q.hosts.length,.own 1 0 q.pods.length,.sc (.int .i64 q.next),.sc (.int .i64 q.w1),.sc (.int .i64 q.w2),.sc (.int .i64 q.w3)],.sc (.string v),.sc (.int .i64 code)]∧os' = [(0,⟨119,6,q.hosts.length,hostsD q.hosts⟩),(1,⟨125,9,q.pods.length,placedsD q.pods⟩)]∧nb' = 2):=by
  have hcl:=hw.hosts.len;have hpl:=hw.pods.len;have hf:=hw.fine (by decide) (by decide);have hrp:=podAt_rng c;unfold ClusterD.d;have hrn:=hrp nm
  have ex0:=@placeds_on
  refine spH_ (rs:= [.cell 4 43,.tmp 5,.tmp 6]) (nt:=53) Tryz.func133 rfl fun X hX=>?_
  refine nm_ ?_
  repeat' ((first|contradiction|(with_reducible exact tt_)|((with_reducible show Wk (AwStepF _ _ _ _ _ _ _));first|(refine cl_ rfl _ _ (spec_ClusterOk_D c hf) rfl rfl ?_;rintro _ rfl;(rw [hcb]))|(refine cl_ rfl _ _ (spec_PodAt_X c nm (by omega)) rfl rfl ?_;rintro _ rfl)|(refine cl_ rfl _ _ (spec_BestHost_X c (podC c nm).pod hf (hf.pod _)) rfl rfl ?_;rintro _ ⟨v,b,hb,rfl⟩)|(refine awH_ rfl (spec_l22Copy_D c hw) [] ?_;rintro _ _ _ ⟨rfl,rfl,rfl⟩ _))|((with_reducible show Wk (AwStep _ _ _ _ _));first|(refine pln_ ?_))|((with_reducible show Wk (AwCode _ _ _ _ _));first|(refine wo_ (id:=9) [] [(0,true),(1,true),(2,true),(3,true),(4,true),(5,true),(6,true),(7,false),(8,true),(9,true),(10,true),(11,true),(12,true)] ?_))|((with_reducible show Wk (boolK _ _ _ _));first|(refine bk_ (fun h h'=>?_) (fun h h'=>?_)))|((with_reducible show Wk (_∧_));first|(refine and_ ?_ ?_))|((with_reducible show Wk (retOkH _ _ _ _ _));first|(refine rh_ [2,3] ?_))|fail)<;>(try refine nm_ ?_))
  all_goals clear ex0
  all_goals (refine ⟨?_⟩)
  all_goals first|contradiction|(exfalso;omega)|(refine ⟨c,_,_,plc_none (by omega),?_⟩<;>first|exact ⟨rfl,rfl,rfl⟩|exact ⟨rfl,rfl⟩|rfl|(constructor<;>simp [putOn,podC])|(simp [putOn,podC];done))|(refine ⟨c,_,_,plc_busy (by omega) (by assumption),?_⟩<;>first|exact ⟨rfl,rfl,rfl⟩|exact ⟨rfl,rfl⟩|rfl|(constructor<;>simp [putOn,podC])|(simp [putOn,podC];done))|(refine ⟨c,_,_,plc_no (by omega) (by assumption) hb (by assumption),?_⟩<;>first|exact ⟨rfl,rfl,rfl⟩|exact ⟨rfl,rfl⟩|rfl|(constructor<;>simp [putOn,podC])|(simp [putOn,podC];done))|(refine ⟨putOn c nm v,_,_,plc_yes (by omega) (by assumption) hb (by assumption),?_⟩<;>first|exact ⟨rfl,rfl,rfl⟩|exact ⟨rfl,rfl⟩|rfl|(constructor<;>simp [putOn,podC])|(simp [putOn,podC];done))
theorem spec_PlaceNext_X (c:ClusterD) (hw:CluW 8 12 c) (hcb:clusterB c=true):SpecH Tryz.prog 58 [c.d] [] 0 (fun d os' nb'=>∃ (q:ClusterD) (v u:ByteArray) (code:Int),NxtP c q v u code∧d = .tup [.agg [.own 0 0 q.hosts.length,.own 1 0 q.pods.length,.sc (.int .i64 q.next),.sc (.int .i64 q.w1),.sc (.int .i64 q.w2),.sc (.int .i64 q.w3)],.sc (.string v),.sc (.string u),.sc (.int .i64 code)]∧os' = [(0,⟨119,6,q.hosts.length,hostsD q.hosts⟩),(1,⟨125,9,q.pods.length,placedsD q.pods⟩)]∧nb' = 2):=by
  have hcl:=hw.hosts.len;have hpl:=hw.pods.len;have hf:=hw.fine (by decide) (by decide);have hrp:=podAt_rng c;unfold ClusterD.d
  refine spH_ (rs:= [.cell 2 43,.tmp 3,.tmp 4,.tmp 5]) (nt:=49) Tryz.func58 rfl fun X hX=>?_
  refine nm_ ?_
  repeat' ((first|contradiction|(with_reducible exact tt_)|((with_reducible show Wk (AwStepF _ _ _ _ _ _ _));first|(refine cl_ rfl _ _ (spec_ClusterOk_D c hf) rfl rfl ?_;rintro _ rfl;(rw [hcb]))|(refine cl_ rfl _ _ (spec_Waiting_X c (by omega)) rfl rfl ?_;rintro _ ⟨q,hq,rfl⟩;(have hql:=hq.len;have hwl:=wNm_all q;generalize hN:wNm q q.length=ws at *;replace hN:=Lib.hid hN;have hwl1:ws.length≤q.length:=(by omega);have hwl2:q.length≤ws.length:=(by omega);clear hwl))|(refine awH_ rfl (spec_l22Copy_D c hw) [] ?_;rintro _ _ _ ⟨rfl,rfl,rfl⟩ _)|(refine awH_ rfl (spec_PlacePod_X c (ws.getD i default) hw hcb) [] ?_;rintro _ _ _ ⟨c2,v,code,hp,rfl,rfl,rfl⟩ _;(replace hp:=Lib.hid hp)))|((with_reducible show Wk (AwStep _ _ _ _ _));first|(refine pln_ ?_))|((with_reducible show Wk (AwCode _ _ _ _ _));first|(refine wtr_ (id:=10) [] (.early 0 (.early 1 (.early 2 (.early 3 (.early 4 (.two 5 (.early 6 (.early 7 (.early 8 (.early 9 (.one 10 (.one 11 (.early 12 (.early 13 .done)))))))) 10 (.one 5 (.early 6 (.early 7 (.early 8 (.early 9 (.one 11 (.early 12 (.early 13 .done)))))))))))))) ?_)|(refine wo_ (id:=12) [1] [(0,true),(1,true),(2,true),(3,true),(4,true),(5,true),(6,false),(7,true),(8,true),(9,true)] ?_)|(refine lpK_ (ι:=Nat) [] [0,1,2,3,4] 0x1c6 (fun i=> [(8,.sc (.int .i64 (i:Int)))]) (fun i=> []) (fun i=>i≤ws.length∧NoneN c q i) (fun i=>ws.length - i) 0 ?_ ?_;(focus (exact ⟨Nat.zero_le _,nonN_0 c q⟩));rintro _ hN0 i hinv;(try dsimp only at hinv);obtain ⟨hi,hnn⟩:=hinv;replace hnn:=Lib.hid hnn;skip))|((with_reducible show Wk (boolK _ _ _ _));first|(refine bk_ (fun h h'=>?_) (fun h h'=>?_)))|((with_reducible show Wk (_∧_));first|(refine and_ ?_ ?_))|((with_reducible show Wk (retOkH _ _ _ _ _));first|(refine rh_ [2,3] ?_;refine nm_ ?_;fail_if_success (show Wk False))|(refine rh_ [5,6] ?_;refine nm_ ?_;fail_if_success (show Wk False))|(refine rh_ [6,7] ?_;refine nm_ ?_;fail_if_success (show Wk False)))|(refine hN0.run (i+1) [] [0,1,2,3,4] ?_ ?_;(focus (exact ⟨by show i+1≤ws.length;omega,none_at hnn.out (by omega) (by rw [hN.out];exact hp.out) (by omega)⟩));(focus (show ws.length - (i+1) < ws.length - i;omega)))|fail)<;>(try refine nm_ ?_))
  all_goals (refine ⟨?_⟩)
  all_goals first|contradiction|(exfalso;omega)|(refine ⟨_,_,_,_,nxt_empty hq (by omega),?_⟩<;>first|exact ⟨rfl,rfl,rfl⟩|exact ⟨rfl,rfl⟩|rfl)|(refine ⟨_,_,_,_,nxt_none hq (by omega) hnn.out (by omega),?_⟩<;>first|exact ⟨rfl,rfl,rfl⟩|exact ⟨rfl,rfl⟩|rfl)|(refine ⟨_,_,_,_,hN.out ▸ nxt_some (i:=i) hq (by omega) hnn.out (by rw [hN.out];exact hp.out) (by omega),?_⟩<;>first|exact ⟨rfl,rfl,rfl⟩|exact ⟨rfl,rfl⟩|rfl)
end Go.Proofs.YtgoeccemfgniiaaGreat
