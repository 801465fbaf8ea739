/- Ne6 (what is wanted of them). -/
import Derived.Test.YtidjjfjhmlndjaaGreatDoorVNe5
import Derived.Test.YtidjjfjhmlndjaaGreatDoorVNn
import Derived.Test.YtidjjfjhmlndjaaGreatDoorVCpx
namespace Go.Proofs.YtidjjfjhmlndjaaGreatDoor
open Go.RowKit
set_option linter.unusedVariables false
set_option linter.unusedSimpArgs false
set_option maxRecDepth 100000
set_option maxHeartbeats 4000000
theorem valsB_eq (vs:List ByteArray):cptL eqB (sortB vs)=valsF vs:=by
  have h:=cpt_fold (s:=eqB) lessB_sto (fun y x _=>⟨eqB_eq,fun e=>by subst e;exact eqB_refl' _⟩) (fun a b=>⟨eqB_eq,fun e=>by subst e;exact eqB_refl' _⟩) id (xs:=vs) (ys:=sortB vs) (by rw [List.map_id];exact sortB_perm vs) (sortB_sor vs)
  exact h
theorem nedF_eq {xs ys:List NeedD} (hp:ys.Perm (xs.map needN)) (hs:ys.Pairwise fun a b=>needLess b a=false):cptL needE ys=nedF xs:=cpt_fold needLess_sto needS_iff needE_iff needN hp hs
theorem cptStr_S (xs:List ByteArray) (hn:xs.length≤1048576):SpecH Tryz.prog 133 [.own 0 0 xs.length] [(0,⟨9,1,xs.length,strsD (sortB xs)⟩)] 1
    (fun d os' nb'=>d = .own 0 0 (valsF xs).length∧os' = [(0,⟨9,1,(valsF xs).length,strsD (valsF xs)⟩)]∧nb' = 1):=by
  have h:=cptStr_H (sortB xs) (by rw [sortB_len];exact hn)
  rw [sortB_len,valsB_eq] at h
  exact h
theorem needN_small {xs:List NeedD} (hv:∀ k,(xs.getD k default).values.length≤1000) (k:Nat):((xs.map needN).getD k default).values.length≤1000:=by
  rw [List.getD_eq_getElem?_getD,List.getElem?_map]
  rcases Nat.lt_or_ge k xs.length with h|h
  · have:=hv k
    rw [List.getD_eq_getElem?_getD,List.getElem?_eq_getElem h] at this
    rw [List.getElem?_eq_getElem h]
    exact Nat.le_trans (valsF_len _) this
  · rw [List.getElem?_eq_none h]
    exact Nat.zero_le _
theorem perm_small {xs ys:List NeedD} (hp:ys.Perm (xs.map needN)) (hv:∀ k,(xs.getD k default).values.length≤1000) (k:Nat):(ys.getD k default).values.length≤1000:=by
  rw [List.getD_eq_getElem?_getD]
  rcases Nat.lt_or_ge k ys.length with h|h
  · rw [List.getElem?_eq_getElem h]
    obtain ⟨j,hj,e⟩:=List.getElem_of_mem (hp.mem_iff.1 (List.getElem_mem h))
    have:=needN_small hv j
    rw [List.getD_eq_getElem?_getD,List.getElem?_eq_getElem hj,e] at this
    exact this
  · rw [List.getElem?_eq_none h]
    exact Nat.zero_le _
theorem sortNeeds_N (xs a:List NeedD) (ha:a=xs.map needN) (hn:xs.length≤1048576) (hv:∀ k,(xs.getD k default).values.length≤1000):SpecH Tryz.prog 137 [.own 0 0 xs.length,.fn 138 []] [(0,⟨103,3,xs.length,needsT a⟩)] 1
    (fun d os' nb'=>d = .tup []∧(∃ ys:List NeedD,ys.Perm (xs.map needN)∧(ys.Pairwise fun a b=>needLess b a=false)∧os' = [(0,⟨103,3,xs.length,needsT ys⟩)])∧nb' = 1):=by
  have hl:a.length=xs.length:=by rw [ha,List.length_map]
  have h:=sortNeeds_H a (by omega) (fun k=>by rw [ha];exact Nat.le_trans (needN_small hv k) (by omega))
  rw [hl,ha] at h
  rw [ha]
  exact h
theorem cptNeeds_N (xs ys:List NeedD) (hp:ys.Perm (xs.map needN)) (hs:ys.Pairwise fun a b=>needLess b a=false) (hn:xs.length≤1048576) (hv:∀ k,(xs.getD k default).values.length≤1000):SpecH Tryz.prog 139 [.own 0 0 xs.length,.fn 140 []] [(0,⟨103,3,xs.length,needsT ys⟩)] 1
    (fun d os' nb'=>d = .own 0 0 (nedF xs).length∧os' = [(0,⟨103,3,(nedF xs).length,needsT (nedF xs)⟩)]∧nb' = 1):=by
  have hl:ys.length=xs.length:=by rw [hp.length_eq,List.length_map]
  have h:=compactNeeds_H ys (by omega) (fun k=>Nat.le_trans (perm_small hp hv k) (by omega))
  rw [hl,nedF_eq hp hs] at h
  exact h
theorem nedF_sz (xs:List NeedD):(nedF xs).length≤xs.length:=by
  have e:nedF xs=foldTo (fun x o=>insNed x o) xs xs.length:=(fold_all _ xs (Nat.le_refl _)).symm
  rw [e]
  exact fold_len (fun x o=>insD_len needLess needS (needN x) o) xs xs.length (Nat.le_refl _)
theorem nedF_small {xs:List NeedD} (hv:∀ k,(xs.getD k default).values.length≤1000) (k:Nat):((nedF xs).getD k default).values.length≤1000:=by
  rw [List.getD_eq_getElem?_getD]
  rcases Nat.lt_or_ge k (nedF xs).length with h|h
  · rw [List.getElem?_eq_getElem h]
    have h2:SSor needLess (nedF xs)∧∀ z,z ∈ nedF xs↔(∃ x ∈ xs,z=needN x)∨z ∈ []:=foldD_ok needLess_sto needS_iff needN xs [] List.Pairwise.nil
    rcases (h2.2 _).1 (List.getElem_mem h) with ⟨x,hx,e⟩|hx
    · obtain ⟨j,hj,e2⟩:=List.getElem_of_mem hx
      have:=hv j
      rw [List.getD_eq_getElem?_getD,List.getElem?_eq_getElem hj,e2] at this
      show (nedF xs)[k].values.length≤1000
      rw [e]
      exact Nat.le_trans (valsF_len _) this
    · cases hx
  · rw [List.getElem?_eq_none h]
    exact Nat.zero_le _
theorem needsD_abs (i:Nat) (x:Ob) (xs:List NeedD):(needsD xs).map (D.abs1 i x)=needsD xs:=by
  conv=>rhs;rw [← List.map_id (needsD xs)]
  refine List.map_congr_left fun d hd=>?_
  have:=List.all_eq_true.1 (needsD_rp xs) d hd
  cases d<;>first|rfl|cases this
theorem own1_rp {i n:Nat}:∀ {a:List D},a.all D.rp=true→∀ k:Nat,own1 i n a k=(k==1)
  | [],_,k=>rfl
  |d::a,h,k=>by
    rw [List.all_cons,Bool.and_eq_true] at h
    have ih:=own1_rp (i:=i) (n:=n) h.2 k
    cases d<;>first|exact ih|(exfalso;exact absurd h.1 (by simp [D.rp]))
theorem needsD_own (i n k:Nat) (xs:List NeedD):own1 i n (needsD xs) k=(k==1):=own1_rp (needsD_rp xs) k
theorem mid_get {α:Type} [Inhabited α] {a r R:List α}{x:α} (h:a++x::r=R):x=R.getD a.length default:=by
  rw [← h,List.getD_eq_getElem?_getD,List.getElem?_append_right (Nat.le_refl _),Nat.sub_self]
  rfl
theorem needsD_cons (x:NeedD) (r:List NeedD):needsD (x::r) = .sc (.string x.key)::.sc (.int .i64 x.op)::.sl x.values.length (strsD x.values)::needsD r:=rfl
/-- A loop whose rounds begin by opening cells. -/
theorem awloopO {X:Ctx}{P:Program}{c:Code}{s:St}{Q:Exit→St→Prop}{ι:Type} (st:ι→St) (I:ι→Prop) (μ:ι→Nat) (i0:ι) (hI:I i0) (h0:∃ gs ρ,gopsOk s gs=true∧FitR X.nb ρ (gops s gs) (st i0))
    (round:∀ i,I i→∃ g,gopsOk (st i) g=true∧WCode X P c (thenQ (fun s'=>∃ j gs ρ,I j∧μ j < μ i∧gopsOk s' gs=true∧FitR X.nb ρ (gops s' gs) (st j)) Q) (gops (st i) g)):AwCode X P (.loop c) s Q:=by
  refine ⟨fun E a w R hr hk=>?_⟩
  have key:∀ n i,μ i < n→I i→∀ E a w,Rel X (st i) E a w→Code.rounds P c R n a w:=by
    intro n
    induction n with
    |zero=>intro i h;omega
    |succ n ih=>
      intro i hn hi E a w hr
      rw [rounds_succ]
      obtain ⟨g,hg,hw⟩:=round i hi
      obtain ⟨E2,hr2,_⟩:=gops_sound hg hr
      refine wcode_go hw E2 a w _ hr2 fun e s' E' a' w' hq hr'=>?_
      cases e with
      |normal=>
        obtain ⟨j,gs,ρ,h1,h2,h3,h4⟩:=hq
        obtain ⟨E1,h5,_⟩:=gops_sound h3 hr'
        exact ih j (by omega) h1 _ _ _ (fitR_sound h4 h5)
      |_=>exact hk _ _ _ _ _ hq hr'
  obtain ⟨gs,ρ,h1,h2⟩:=h0
  obtain ⟨E1,h3,_⟩:=gops_sound h1 hr
  exact wp_loop_rounds (μ i0+1) (key _ i0 (by omega) hI _ _ _ (fitR_sound h2 h3))
theorem lpO_ {X:Ctx}{P:Program}{c:Code}{s:St}{Q:Exit→St→Prop}{ι:Type} (gs0:List Gop) (ρ0:List Nat) {tm0:List D}{os0:List (Nat × Ob)}{tm:ι→List D}{os:ι→List (Nat × Ob)} (mask:Nat) (ch:ι→List (Nat × D)) (cho:ι→List (Nat × Ob)) (I:ι→Prop) (μ:ι→Nat) (i0:ι) (hI:I i0)
    (round:∀ N,NxtG X.nb I μ (fun i=>⟨tm i,os i,ρ0.length⟩) N→∀ i,I i→∃ g,gopsOk ⟨tm i,os i,ρ0.length⟩ g=true∧Wk (WCode X P c (thenQ (N i) Q) (gops ⟨tm i,os i,ρ0.length⟩ g)))
    (_h1:(gops s gs0).tm.map (D.ren (sg ρ0))=tm0:=by first|exact cal2_ rfl|exact rfl) (_h2:handOs (gops s gs0).os (sg ρ0) ρ0=os0:=by first|exact cal2_ rfl|exact rfl) (_h3:∀ i,updL (keepN mask tm0) (ch i)=tm i:=by intro i;first|exact cal2_ rfl|exact rfl) (_h4:∀ i,updO os0 (cho i)=os i:=by intro i;first|exact cal2_ rfl|exact rfl)
    (hf : gopsOk s gs0 = true := by first | rfl | exact cal2_ rfl | exact gok2_) (h0 : FitR X.nb ρ0 (gops s gs0) ⟨tm i0, os i0, ρ0.length⟩ := by refine ⟨⟨?_, ?_, ?_⟩, (by (try refine frn2_ ?_); (repeat (first | exact True.intro | (simp only [fitR_nil, fitR_none]; done) | (simp only [fitR_nil, fitR_none]) | (refine fitR_step (by first | rfl | exact si2_) (by first | rfl | exact si2_) ?_))) <;> fail), ?_, ?_, ?_, ?_⟩ <;> (first | rfl | decide | (rw [hX]; decide) | exact si2_ | fail)) : Wk (AwCode X P (.loop c) s Q) := ⟨
  awloopO (fun i => ⟨tm i, os i, ρ0.length⟩) I μ i0 hI ⟨gs0, ρ0, hf, h0⟩ fun i hi => (round (fun i s' => ∃ j gs ρ, I j ∧ μ j < μ i ∧ gopsOk s' gs = true ∧ FitR X.nb ρ (gops s' gs) ⟨tm j, os j, ρ0.length⟩) ⟨fun _ _ j gs ρ h1 h2 h3 h4 => ⟨j, gs, ρ, h1, h2, h3, h4⟩⟩ i hi).imp fun _ h => ⟨h.1, h.2.out⟩⟩
theorem few_of {xs : List NeedD} {n : Nat} (h : ∀ k, (xs.getD k default).values.length ≤ n) : Few (fun x => x.values.length ≤ n) xs := ⟨fun x hx => by
  obtain ⟨j,hj,e⟩:=List.getElem_of_mem hx
  have:=h j
  rw [List.getD_eq_getElem?_getD,List.getElem?_eq_getElem hj,e] at this
  exact this⟩
theorem first_ge {n:Nat}{p:Nat→Bool} (h:decide (0≤firstN n p)=true):∃ j,j < n∧p j=true:=by
  unfold firstN at h
  cases hf:(List.range n).find? p with
  |some j=>exact ⟨j,List.mem_range.1 (List.mem_of_find?_eq_some hf),List.find?_some hf⟩
  |none=>rw [hf] at h;cases h
theorem srtNed_e {xs:List NeedD} (h:decide (0≤firstN xs.length fun j=>decide (40 < (xs.getD j default).values.length))=true):srtNed xs=(xs,false):=by
  obtain ⟨j,hj,hq⟩:=first_ge h
  exact srtNed_b hj (of_decide_eq_true hq)
theorem first_lt {n:Nat}{f:Nat→Nat} (h:decide (0≤firstN n fun j=>decide (40 < f j))=false):∀ j,j < n→f j≤40:=by
  intro j hj
  unfold firstN at h
  cases hf:(List.range n).find? (fun j=>decide (40 < f j)) with
  |some k=>rw [hf] at h;exact absurd h (by simp)
  |none=>
    have:=List.find?_eq_none.1 hf j (List.mem_range.2 hj)
    simpa using this
theorem cloneSw_O (xs:List ByteArray) (hn:xs.length≤1048576):SpecH Tryz.prog 220 [.sl xs.length (strsD xs)] [] 0 (fun d os' nb'=>(d = .own 0 0 xs.length∧os' = [(0,⟨9,1,xs.length,strsD xs⟩)]∧nb' = 1)∨(d = .sc (.slice none 0 0)∧os' = []∧nb' = 0∧(D.own 0 0 0=D.own 0 0 xs.length∧ [(0,(⟨9,1,0, []⟩:Ob))] = [(0,⟨9,1,xs.length,strsD xs⟩)]∧0+1=1))):=by
  refine spH_ (rs:= [.tmp 2]) (nt:=8) Tryz.func220 rfl fun X hX=>?_
  refine nm_ ?_
  repeat' ((first|contradiction|(with_reducible exact tt_)|((with_reducible show Wk (AwStepF _ _ _ _ _ _ _));first|(refine nnil_ rfl (fun hnil=>?_) ?_)|(refine app_ rfl ?_))|((with_reducible show Wk (AwStep _ _ _ _ _));first|(refine pln_ ?_))|((with_reducible show Wk (boolK _ _ _ _));first|(refine bk_ (fun h h'=>?_) (fun h h'=>?_)))|((with_reducible show Wk (_∧_));first|(refine and_ ?_ ?_))|((with_reducible show Wk (retOkH _ _ _ _ _));first|(refine rh_ [] ?_;refine nm_ ?_;fail_if_success (show Wk False))|(refine rh_ [1] ?_;refine nm_ ?_;fail_if_success (show Wk False)))|fail)<;>(try refine nm_ ?_))
  all_goals (refine ⟨?_⟩)
  all_goals first|contradiction|(exfalso;omega)|(exact .inl ⟨rfl,rfl,rfl⟩)|(obtain rfl:=row_none (f:=strsD) (by decide) strs_len1 hnil;exact .inr ⟨rfl,rfl,rfl,rfl,rfl,rfl⟩)|(obtain rfl:=row_none (f:=strsD) (by decide) strs_len1 hnil;rfl)
theorem cloneSw_H (xs:List ByteArray) (hn:xs.length≤1048576):SpecH Tryz.prog 220 [.sl xs.length (strsD xs)] [] 0 (fun d os' nb'=>d = .own 0 0 xs.length∧os' = [(0,⟨9,1,xs.length,strsD xs⟩)]∧nb' = 1):=specH_nil 9 1 (cloneSw_O xs hn)
theorem cloneN_O (xs:List NeedD) (hn:xs.length≤1048576):SpecH Tryz.prog 219 [.sl xs.length (needsD xs)] [] 0 (fun d os' nb'=>(d = .own 0 0 xs.length∧os' = [(0,⟨103,3,xs.length,needsD xs⟩)]∧nb' = 1)∨(d = .sc (.slice none 0 0)∧os' = []∧nb' = 0∧(D.own 0 0 0=D.own 0 0 xs.length∧ [(0,(⟨103,3,0, []⟩:Ob))] = [(0,⟨103,3,xs.length,needsD xs⟩)]∧0+1=1))):=by
  refine spH_ (rs:= [.tmp 2]) (nt:=8) Tryz.func219 rfl fun X hX=>?_
  refine nm_ ?_
  repeat' ((first|contradiction|(with_reducible exact tt_)|((with_reducible show Wk (AwStepF _ _ _ _ _ _ _));first|(refine nnil_ rfl (fun hnil=>?_) ?_)|(refine app_ rfl ?_))|((with_reducible show Wk (AwStep _ _ _ _ _));first|(refine pln_ ?_))|((with_reducible show Wk (boolK _ _ _ _));first|(refine bk_ (fun h h'=>?_) (fun h h'=>?_)))|((with_reducible show Wk (_∧_));first|(refine and_ ?_ ?_))|((with_reducible show Wk (retOkH _ _ _ _ _));first|(refine rh_ [] ?_;refine nm_ ?_;fail_if_success (show Wk False))|(refine rh_ [1] ?_;refine nm_ ?_;fail_if_success (show Wk False)))|fail)<;>(try refine nm_ ?_))
  all_goals (refine ⟨?_⟩)
  all_goals first|contradiction|(exfalso;omega)|(exact .inl ⟨rfl,rfl,rfl⟩)|(obtain rfl:=row_none (f:=needsD) (by decide) needsD_len hnil;exact .inr ⟨rfl,rfl,rfl,rfl,rfl,rfl⟩)|(obtain rfl:=row_none (f:=needsD) (by decide) needsD_len hnil;rfl)
theorem cloneN_H (xs:List NeedD) (hn:xs.length≤1048576):SpecH Tryz.prog 219 [.sl xs.length (needsD xs)] [] 0 (fun d os' nb'=>d = .own 0 0 xs.length∧os' = [(0,⟨103,3,xs.length,needsD xs⟩)]∧nb' = 1):=specH_nil 103 3 (cloneN_O xs hn)
theorem copyNeeds_K (xs:List NeedD) (hn:xs.length≤1048576) (hv:∀ k,(xs.getD k default).values.length≤1048576):SpecH Tryz.prog 136 [.sl xs.length (needsD xs)] [] 0 (fun d os' nb'=>d = .own 0 0 xs.length∧os' = [(0,⟨103,3,xs.length,needsT xs⟩)]∧nb' = 1):=by
  have ex0:=@needsT_s0;have ex1:=@needsT_s1;have ex2:=@needsT_s2;have ex3:=@needsT_g2;have ex4:=@needsT_cons;have ex5:=@needsT_mid;have ex6:=@needsD_abs;have ex7:=@needsD_own;have ex8:=@needsD_cons
  refine spH_ (rs:= [.tmp 2]) (nt:=24) Tryz.func136 rfl fun X hX=>?_
  refine nm_ ?_
  repeat' ((first|contradiction|(with_reducible exact tt_)|((with_reducible show Wk (AwStepF _ _ _ _ _ _ _));first|(refine awH_ rfl (cloneN_H xs hn) [] ?_;rintro _ _ _ ⟨rfl,rfl,rfl⟩ _)|(refine awH_ rfl (cloneSw_H (xs.getD a.length default).values (hv _)) [] ?_;rintro _ _ _ ⟨rfl,rfl,rfl⟩ _))|((with_reducible show Wk (AwStep _ _ _ _ _));first|(refine pln_ ?_))|((with_reducible show Wk (AwCode _ _ _ _ _));first|(refine lpK_ (ι:=List NeedD × List NeedD) [] [0] 0x708 (fun ⟨a,r⟩=> [(10,.sc (.int .i64 (a.length:Int)))]) (fun ⟨a,r⟩=> [(0,⟨103,3,xs.length,needsT a++needsD r⟩)]) (fun ⟨a,r⟩=>a++r=xs∧a.length+r.length=xs.length) (fun ⟨a,r⟩=>r.length) ([],xs) ?_ ?_;(focus (exact ⟨rfl,by simp⟩));rintro _ hN0 ⟨a,r⟩ hinv;(try dsimp only at hinv);obtain ⟨hR,hlen⟩:=hinv;(rcases r with _|⟨x,r⟩<;>(simp only [List.length_nil,List.length_cons] at hlen);rotate_left;(obtain rfl:=mid_get hR;have hvx:=hv a.length);rotate_right);all_goals (replace hR:=Lib.hid hR);skip))|((with_reducible show Wk (boolK _ _ _ _));first|(refine bk_ (fun h h'=>?_) (fun h h'=>?_)))|((with_reducible show Wk (_∧_));first|(refine and_ ?_ ?_))|((with_reducible show Wk (retOkH _ _ _ _ _));first|(refine rh_ [0] ?_))|(refine hN0.run ((a ++ [(xs.getD a.length default)],r)) [.abs 2 0] [0] ?_ ?_;(focus (exact ⟨mk_step hR.out rfl,by simp;omega⟩));(focus (show r.length < (_::r).length;simp)))|fail)<;>(try refine nm_ ?_))
  all_goals clear ex0 ex1 ex2 ex3 ex4 ex5 ex6 ex7 ex8
  all_goals (refine ⟨?_⟩)
  all_goals first|contradiction|(exfalso;omega)|(have e:=mk_end hR.out rfl;subst e;(first|exact ⟨rfl,rfl,rfl⟩|exact ⟨rfl,rfl⟩|rfl))
theorem sortNeeds1_K (x:NeedD):Spec Tryz.prog 135 [.agg (needCells x)] (fun d=>d = .sc (.bool (decide (40 < x.values.length)))):=by
  unfold needCells
  refine sp_ (rs:= [.tmp 2]) (nt:=7) Tryz.func135 rfl fun X hX=>?_
  refine nm_ ?_
  repeat' ((first|contradiction|(with_reducible exact tt_)|((with_reducible show Wk (AwStep _ _ _ _ _));first|(refine pln_ ?_))|((with_reducible show Wk (boolK _ _ _ _));first|(refine bk_ (fun h h'=>?_) (fun h h'=>?_)))|((with_reducible show Wk (_∧_));first|(refine and_ ?_ ?_))|fail)<;>(try refine nm_ ?_))
  all_goals (refine ⟨?_⟩)
  all_goals first|contradiction|(exfalso;omega)|exact congrArg (fun b=>D.sc (.bool b)) (decide_eq_decide.2 (by omega))
theorem indexNeed_K (xs:List NeedD) (hn:xs.length≤1048576):Spec Tryz.prog 218 [.sl xs.length (needsD xs),.fn 135 []] (fun d=>d = .sc (.int .i64 (firstN xs.length fun j=>decide (40 < (xs.getD j default).values.length)))):=by
  have ex0:=@needCells.eq_1
  refine sp_ (rs:= [.tmp 4]) (nt:=19) Tryz.func218 rfl fun X hX=>?_
  refine nm_ ?_
  repeat' ((first|contradiction|(with_reducible exact tt_)|((with_reducible show Wk (AwStepF _ _ _ _ _ _ _));first|(refine clC_ rfl rfl _ _ (sortNeeds1_K (xs.getD k default)) rfl rfl rfl ?_;rintro _ rfl))|((with_reducible show Wk (AwStep _ _ _ _ _));first|(refine pln_ ?_))|((with_reducible show Wk (AwCode _ _ _ _ _));first|(refine lpU_ 0x183 (ι:=Nat) (fun k=> [(8,.sc (.int .i64 (k:Int)))]) (fun k=>k≤xs.length∧∀ j:Nat,j < k→(fun j=>!decide (40 < (xs.getD j default).values.length)) j=true) (fun k=>xs.length - k) 0 ?_ ?_;(focus (exact ⟨by omega,allN_zero⟩));rintro _ hN0 k hinv;(try dsimp only at hinv);obtain ⟨hk,hj⟩:=hinv;replace hj:=Lib.hid hj;skip))|((with_reducible show Wk (boolK _ _ _ _));first|(refine bk_ (fun h h'=>?_) (fun h h'=>?_)))|((with_reducible show Wk (_∧_));first|(refine and_ ?_ ?_))|(refine hN0.go (k+1) ?_ ?_;(focus (exact ⟨by show k+1≤xs.length;omega,allN_step hj.out (by simp_all)⟩));(focus (show xs.length - (k+1) < xs.length - k;omega)))|fail)<;>(try refine nm_ ?_))
  all_goals clear ex0
  all_goals (refine ⟨?_⟩)
  all_goals first|contradiction|(exfalso;omega)|(rw [firstN_hit (k:=k) (by omega) (by simp_all) (fun j h=>by have:=hj.out j h;simp_all)];done)|(rw [firstN_none (k:=k) (by omega) (fun j h=>by have:=hj.out j h;simp_all)];done)
theorem containsNeed_K (xs:List NeedD) (hn:xs.length≤1048576):Spec Tryz.prog 134 [.sl xs.length (needsD xs),.fn 135 []] (fun d=>d = .sc (.bool (decide (0≤(firstN xs.length fun j=>decide (40 < (xs.getD j default).values.length)))))):=by
  refine sp_ (rs:= [.tmp 4]) (nt:=9) Tryz.func134 rfl fun X hX=>?_
  refine nm_ ?_
  repeat' ((first|contradiction|(with_reducible exact tt_)|((with_reducible show Wk (AwStepF _ _ _ _ _ _ _));first|(refine cl_ rfl _ _ (indexNeed_K xs hn) rfl rfl ?_;rintro _ rfl))|((with_reducible show Wk (AwStep _ _ _ _ _));first|(refine pln_ ?_))|((with_reducible show Wk (boolK _ _ _ _));first|(refine bk_ (fun h h'=>?_) (fun h h'=>?_)))|((with_reducible show Wk (_∧_));first|(refine and_ ?_ ?_))|fail)<;>(try refine nm_ ?_))
  all_goals (refine ⟨?_⟩)
  all_goals first|contradiction|(exfalso;omega)|rfl
theorem impl_SortNeeds_K (xs:List NeedD) (hn:xs.length≤1048576) (hv:∀ k,(xs.getD k default).values.length≤1000):SpecH Tryz.prog 67 [.sl xs.length (needsD xs)] [] 0 (fun d os' nb'=>d = .tup [.own 0 0 (srtNed xs).1.length,.sc (.bool (srtNed xs).2)]∧os' = [(0,⟨103,3,(srtNed xs).1.length,needsT (srtNed xs).1⟩)]∧nb' = 1):=by
  have hv2:∀ k,(xs.getD k default).values.length≤1048576:=fun k=>Nat.le_trans (hv k) (by omega);have hnl:=nedF_sz xs;have hns:=nedF_small hv
  have ex0:=@needsT_s0;have ex1:=@needsT_s1;have ex2:=@needsT_s2;have ex3:=@needsT_g2;have ex4:=@needsT_cons;have ex5:=@needsT_mid;have ex6:=@needN.eq_1
  refine spH_ (rs:= [.tmp 2,.tmp 3]) (nt:=49) Tryz.func67 rfl fun X hX=>?_
  refine nm_ ?_
  repeat' ((first|contradiction|(with_reducible exact tt_)|((with_reducible show Wk (AwStepF _ _ _ _ _ _ _));first|(refine cl_ rfl _ _ (containsNeed_K xs (by omega)) rfl rfl ?_;rintro _ rfl)|(refine awH_ rfl (copyNeeds_K xs (by omega) hv2) [] ?_;rintro _ _ _ ⟨rfl,rfl,rfl⟩ _)|(refine awH_ rfl (sortStr_H x.values (by omega)) [1] ?_;rintro _ _ _ ⟨rfl,rfl,rfl⟩ _)|(refine awH_ rfl (cptStr_S x.values (by omega)) [1] ?_;rintro _ _ _ ⟨rfl,rfl,rfl⟩ _)|(refine awH_ rfl (sortNeeds_N xs a (mk_end hR.out rfl) (by omega) hv) [0] ?_;rintro _ _ _ ⟨rfl,⟨ys,hp,hs,rfl⟩,rfl⟩ _)|(refine awH_ rfl (cptNeeds_N xs ys hp hs (by omega) hv) [0] ?_;rintro _ _ _ ⟨rfl,rfl,rfl⟩ _)|(refine bo_ rfl [.cool 0,.frz 0] (impl_SelectorOk_D (nedF xs) (by omega) (fun k=>Nat.le_trans (hns k) (by omega))) ?_;rintro _ rfl;refine ⟨rfl,?_⟩))|((with_reducible show Wk (AwStep _ _ _ _ _));first|(refine pln_ ?_))|((with_reducible show Wk (AwCode _ _ _ _ _));first|(refine lpO_ (ι:=List NeedD × List NeedD) [] [0] 0xc0011 (fun ⟨a,r⟩=> [(19,.sc (.int .i64 (a.length:Int)))]) (fun ⟨a,r⟩=> [(0,⟨103,3,xs.length,needsT a++needsT r⟩)]) (fun ⟨a,r⟩=>(a++r.map needN=xs.map needN∧a.length+r.length=xs.length)∧Few (fun x=>x.values.length≤1000) r) (fun ⟨a,r⟩=>r.length) ([],xs) ?_ ?_;(focus (exact ⟨⟨rfl,by simp⟩,few_of hv⟩));rintro _ hN0 ⟨a,r⟩ hinv;(try dsimp only at hinv);obtain ⟨⟨hR,hlen⟩,hF⟩:=hinv;(rcases r with _|⟨x,r⟩<;>(simp only [List.length_nil,List.length_cons] at hlen));rotate_left;(have hvx:x.values.length≤1000:=hF.head;have hF2:=hF.tail;refine ⟨[.opn 0 (a.length*3+2)],rfl,?_⟩);rotate_right;(refine ⟨[],rfl,?_⟩);all_goals (replace hR:=Lib.hid hR);skip))|((with_reducible show Wk (boolK _ _ _ _));first|(refine bk_ (fun h h'=>?_) (fun h h'=>?_)))|((with_reducible show Wk (_∧_));first|(refine and_ ?_ ?_))|((with_reducible show Wk (retOkH _ _ _ _ _));first|(refine rh_ [0] ?_;refine nm_ ?_;fail_if_success (show Wk False))|(refine rh_ [1] ?_;refine nm_ ?_;fail_if_success (show Wk False)))|(refine hN0.run ((a ++ [needN x],r)) [.abs 1 0] [0] ?_ ?_;(focus (exact ⟨⟨mk_step hR.out rfl,by simp;omega⟩,hF2⟩));(focus (show r.length < (_::r).length;simp)))|fail)<;>(try refine nm_ ?_))
  all_goals clear ex0 ex1 ex2 ex3 ex4 ex5 ex6
  all_goals (refine ⟨?_⟩)
  all_goals (try (rw [srtNed_a (by omega)]<;>(first|exact ⟨rfl,rfl,rfl⟩|exact ⟨rfl,rfl⟩|rfl)))
  all_goals first|contradiction|(exfalso;omega)|(rw [srtNed_e (by assumption)]<;>(first|exact ⟨rfl,rfl,rfl⟩|exact ⟨rfl,rfl⟩|rfl))|(rw [srtNed_c (by omega) (first_lt (by assumption)) (by assumption)]<;>(first|exact ⟨rfl,rfl,rfl⟩|exact ⟨rfl,rfl⟩|rfl))|(rw [srtNed_d (by omega) (first_lt (by assumption)) (by assumption)]<;>(first|exact ⟨rfl,rfl,rfl⟩|exact ⟨rfl,rfl⟩|rfl))
end Go.Proofs.YtidjjfjhmlndjaaGreatDoor
