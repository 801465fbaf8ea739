/- Fr3 (what is wanted of them). -/
import Derived.Test.YtidjjfjhmlndjaaGreatDoorVFr2
import Derived.Test.YtidjjfjhmlndjaaGreatDoorVHo1
namespace Go.Proofs.YtidjjfjhmlndjaaGreatDoor
open Go.RowKit
set_option linter.unusedVariables false
set_option linter.unusedSimpArgs false
def ascB (s:ByteArray):Bool:=decide (s.size≤400)&&(List.range s.size).all fun i=>decide (bytB s i < 128)
theorem ascB_ok {s:ByteArray} (h:ascB s=true):AscT s:=by
  unfold ascB at h
  rw [Bool.and_eq_true] at h
  exact ⟨of_decide_eq_true h.1,fun i hi=>of_decide_eq_true (List.all_eq_true.1 h.2 i (List.mem_range.2 hi))⟩
theorem letter_lo {x:Int} (h:letterB x=true):x < 128:=by
  unfold letterB at h
  simp only [Bool.or_eq_true,Bool.and_eq_true,decide_eq_true_eq] at h
  omega
theorem among_lo {x:Int}{o:ByteArray} (ho:ascB o=true) (h:amongB x o=true):x < 128:=by
  unfold amongB anyN at h
  obtain ⟨j,h1,h2⟩:=List.any_eq_true.1 h
  rw [eq_of_beq h2]
  exact (ascB_ok ho).lo j (List.mem_range.1 h1)
theorem word_lo {s o:ByteArray} (ho:ascB o=true) (h:wordB s o=true) {i:Nat} (hi:i < s.size):bytB s i < 128:=by
  unfold wordB at h
  simp only [Bool.and_eq_true] at h
  have h2:=List.all_eq_true.1 h.2.2.2 i (List.mem_range.2 hi)
  rcases Bool.or_eq_true _ _ ▸ h2 with h3|h3
  · exact letter_lo h3
  · exact among_lo ho h3
theorem key_asc {s:ByteArray} (h:keyB s=true):AscT s:=by
  refine ⟨Nat.le_trans (keyB_sz h) (by decide),fun i hi=>?_⟩
  unfold keyB at h
  rw [Bool.and_eq_true] at h
  exact word_lo (by decide +kernel) h.2 hi
theorem value_asc {s:ByteArray} (h:valueB s=true):AscT s:=by
  refine ⟨Nat.le_trans (valueB_sz h) (by decide),fun i hi=>?_⟩
  unfold valueB at h
  rw [Bool.or_eq_true,Bool.and_eq_true] at h
  rcases h with h|h
  · have:=emptyB_sz h;omega
  · exact word_lo (by decide +kernel) h.2 hi
theorem wCpu_asc:AscT wCpu:=ascB_ok (by decide +kernel)
theorem wKind_asc:AscT wKind:=ascB_ok (by decide +kernel)
theorem wLabels_asc:AscT wLabels:=ascB_ok (by decide +kernel)
theorem wMem_asc:AscT wMem:=ascB_ok (by decide +kernel)
theorem wName_asc:AscT wName:=ascB_ok (by decide +kernel)
theorem wSlots_asc:AscT wSlots:=ascB_ok (by decide +kernel)
theorem wTaints_asc:AscT wTaints:=ascB_ok (by decide +kernel)
theorem wNeeds_asc:AscT wNeeds:=ascB_ok (by decide +kernel)
theorem wRank_asc:AscT wRank:=ascB_ok (by decide +kernel)
theorem wToler_asc:AscT wToler:=ascB_ok (by decide +kernel)
theorem wZz_asc:AscT wZz:=ascB_ok (by decide +kernel)
theorem wPod_asc:AscT wPod:=ascB_ok (by decide +kernel)
theorem wHost_asc:AscT wHost:=ascB_ok (by decide +kernel)
theorem effW_asc (n:Nat):AscT (effW.getD n default):=by
  match n with
  |0=>exact ascB_ok (by decide +kernel)
  |1=>exact ascB_ok (by decide +kernel)
  |2=>exact ascB_ok (by decide +kernel)
  |n+3=>exact (ascB_ok (by decide +kernel):AscT (default:ByteArray))
theorem opW_asc (n:Nat):AscT (opsW.getD n default):=by
  match n with
  |0=>exact ascB_ok (by decide +kernel)
  |1=>exact ascB_ok (by decide +kernel)
  |2=>exact ascB_ok (by decide +kernel)
  |3=>exact ascB_ok (by decide +kernel)
  |4=>exact ascB_ok (by decide +kernel)
  |n+5=>exact (ascB_ok (by decide +kernel):AscT (default:ByteArray))
theorem name_asc {s:ByteArray} (h:nmB s=true):AscT s:=by
  unfold nmB at h
  rw [Bool.and_eq_true,Bool.and_eq_true,Bool.and_eq_true] at h
  obtain ⟨h1,_,_,h4⟩:=h
  simp only [inB,Bool.and_eq_true,decide_eq_true_eq] at h1
  refine ⟨by omega,fun i hi=>?_⟩
  have h5:=List.all_eq_true.1 h4 i (List.mem_range.2 hi)
  simp only [Bool.or_eq_true,Bool.and_eq_true] at h5
  rcases h5 with h5|h5
  · exact letter_lo h5.1
  · have:=of_decide_eq_true h5;omega
theorem sh_text {s:ByteArray} (h:AscT s):ShT (textTr s):=.text h
theorem sz_text (s:ByteArray):szTr (textTr s)=1:=by rw [szTr_eq];show 1+szTrs []=1;rw [szTrs_nil]
theorem dp_text (s:ByteArray):dpTr (textTr s)=1:=by rw [dpTr_eq];show dpTrs []+1=1;rw [dpTrs_nil]
theorem sz_int (n:Int):szTr (intTr n)=1:=by rw [szTr_eq];show 1+szTrs []=1;rw [szTrs_nil]
theorem dp_int (n:Int):dpTr (intTr n)=1:=by rw [dpTr_eq];show dpTrs []+1=1;rw [dpTrs_nil]
theorem sz_list (l:List TreeD):szTr (listTr l)=1+szTrs l:=szTr_eq _
theorem dp_list (l:List TreeD):dpTr (listTr l)=dpTrs l+1:=dpTr_eq _
theorem sz_map (ks:List ByteArray) (cs:List TreeD):szTr (mapTr ks cs)=1+szTrs cs:=szTr_eq _
theorem dp_map (ks:List ByteArray) (cs:List TreeD):dpTr (mapTr ks cs)=dpTrs cs+1:=dpTr_eq _
theorem szTrs_bnd {b:Nat}:∀ {xs:List TreeD},(∀ x ∈ xs,szTr x≤b)→szTrs xs≤b*xs.length
  | [],_=>by rw [szTrs_nil];exact Nat.zero_le _
  |x::r,h=>by
    have h1:=h x (List.mem_cons_self ..)
    have h2:=szTrs_bnd fun y hy=>h y (List.mem_cons_of_mem _ hy)
    rw [szTrs_cons,List.length_cons,Nat.mul_succ]
    omega
theorem dpTrs_bnd {b:Nat}:∀ {xs:List TreeD},(∀ x ∈ xs,dpTr x≤b)→dpTrs xs≤b
  | [],_=>by rw [dpTrs_nil];exact Nat.zero_le _
  |x::r,h=>by
    rw [dpTrs_cons]
    exact Nat.max_le.2 ⟨h x (List.mem_cons_self ..),dpTrs_bnd fun y hy=>h y (List.mem_cons_of_mem _ hy)⟩
theorem szTrs_opt {b:Prop} [Decidable b] {c:TreeD}{n:Nat} (h:¬ b→szTr c≤n):szTrs (optL b c)≤n:=by
  unfold optL
  split
  · rw [szTrs_nil];exact Nat.zero_le _
  · rename_i hb;rw [szTrs_cons,szTrs_nil];exact h hb
theorem dpTrs_opt {b:Prop} [Decidable b] {c:TreeD}{n:Nat} (h:¬ b→dpTr c≤n):dpTrs (optL b c)≤n:=by
  unfold optL
  split
  · rw [dpTrs_nil];exact Nat.zero_le _
  · rename_i hb;rw [dpTrs_cons,dpTrs_nil];exact Nat.max_le.2 ⟨h hb,Nat.zero_le _⟩
theorem getD_l {α:Type}{a b:List α}{i:Nat}{d:α} (h:i < a.length):(a++b).getD i d=a.getD i d:=by
  rw [List.getD_eq_getElem?_getD,List.getD_eq_getElem?_getD,List.getElem?_append_left h]
theorem getD_one {α:Type}{a:List α}{x d:α}:(a ++ [x]).getD a.length d=x:=by
  rw [List.getD_eq_getElem?_getD,List.getElem?_append_right (Nat.le_refl _),Nat.sub_self]
  rfl
/-- A map of plain letters: keys that rise, children that are right. -/
theorem sh_snoc {ks:List ByteArray}{cs:List TreeD}{k:ByteArray}{c:TreeD} (h:ShT (mapTr ks cs)) (hn:ks.length+1≤300) (hl:kLt ks k=true) (ha:AscT k) (hc:ShT c):ShT (mapTr (ks ++ [k]) (cs ++ [c])):=by
  cases h with
  |map hn0 he ha0 hl0 h0=>
    refine .map (by rw [List.length_append];exact hn) (by rw [List.length_append,List.length_append,he];rfl) (fun i hi=>?_) (fun i h1 h2=>?_) (fun x hx=>?_)
    · rw [List.length_append,List.length_singleton] at hi
      by_cases e:i < ks.length
      · rw [getD_l e];exact ha0 i e
      · have e2:i=ks.length:=by omega
        subst e2
        rw [getD_one]
        exact ha
    · rw [List.length_append,List.length_singleton] at h2
      by_cases e:i < ks.length
      · rw [getD_l e,getD_l (by omega)];exact hl0 i h1 e
      · have e2:i=ks.length:=by omega
        subst e2
        rw [getD_one,getD_l (by omega)]
        exact kLt_at hl (by omega)
    · rcases List.mem_append.1 hx with hx|hx
      · exact h0 x hx
      · rw [List.mem_singleton.1 hx];exact hc
theorem sh_map0:ShT (mapTr [] []):=.map (Nat.zero_le _) rfl (fun i h=>absurd h (Nat.not_lt_zero _)) (fun i _ h=>absurd h (Nat.not_lt_zero _)) (fun x h=>by cases h)
/-- A field that may be left out. -/
theorem sh_opt {ks:List ByteArray}{cs:List TreeD}{b:Prop} [Decidable b] {k:ByteArray}{c:TreeD} (h:ShT (mapTr ks cs)) (hn:ks.length+1≤300) (hl:kLt ks k=true) (ha:AscT k) (hc:¬ b→ShT c):ShT (mapTr (ks++optL b k) (cs++optL b c)):=by
  by_cases hb:b
  · rw [optL_yes hb,optL_yes hb,List.append_nil,List.append_nil];exact h
  · rw [optL_no hb,optL_no hb];exact sh_snoc h hn hl ha (hc hb)
theorem getD_map_at {α β:Type} [Inhabited α] [Inhabited β] (f:α→β) {xs:List α}{i:Nat} (h:i < xs.length):(xs.map f).getD i default=f (xs.getD i default):=by
  rw [List.getD_eq_getElem?_getD,List.getElem?_map,List.getElem?_eq_getElem h,List.getD_eq_getElem?_getD,List.getElem?_eq_getElem h]
  rfl
theorem mem_map_at {α:Type} [Inhabited α] {P:TreeD→Prop}{f:α→TreeD}{xs:List α} (h:∀ i,i < xs.length→P (f (xs.getD i default))):∀ x ∈ xs.map f,P x:=by
  intro x hx
  obtain ⟨a,ha,rfl⟩:=List.mem_map.1 hx
  obtain ⟨i,hi,rfl⟩:=List.getElem_of_mem ha
  have:=h i hi
  rw [List.getD_eq_getElem?_getD,List.getElem?_eq_getElem hi] at this
  exact this
theorem sh_labels {ls:List LabelD} (h:labelsB ls=true):ShT (labelsTr ls):=by
  have hl:=RowW.len_lab h
  refine .map (by rw [List.length_map];omega) (by rw [List.length_map,List.length_map]) (fun i hi=>?_) (fun i h1 h2=>?_) (mem_map_at fun i hi=>sh_text (value_asc (lab_parts h hi).2))
  · rw [List.length_map] at hi
    rw [getD_map_at _ hi]
    exact key_asc (lab_parts h hi).1
  · rw [List.length_map] at h2
    rw [getD_map_at _ h2,getD_map_at _ (by omega)]
    have:=labs_next h (i:=i - 1) (by omega)
    rw [Nat.sub_add_cancel h1] at this
    exact this
theorem sz_labels {ls:List LabelD} (h:labelsB ls=true):szTr (labelsTr ls)≤7:=by
  have hl:=RowW.len_lab h
  have h2:=szTrs_bnd (b:=1) (xs:=ls.map fun l=>textTr l.value) (fun x hx=>by obtain ⟨a,_,rfl⟩:=List.mem_map.1 hx;exact Nat.le_of_eq (sz_text _))
  rw [List.length_map] at h2
  unfold labelsTr
  rw [sz_map]
  omega
theorem dp_labels (ls:List LabelD):dpTr (labelsTr ls)≤2:=by
  unfold labelsTr
  rw [dp_map]
  exact Nat.succ_le_succ (dpTrs_bnd fun x hx=>by obtain ⟨a,_,rfl⟩:=List.mem_map.1 hx;exact Nat.le_of_eq (dp_text _))
theorem wEffect_asc:AscT wEffect:=ascB_ok (by decide +kernel)
theorem wKey_asc:AscT wKey:=ascB_ok (by decide +kernel)
theorem wValue_asc:AscT wValue:=ascB_ok (by decide +kernel)
theorem wOp_asc:AscT wOp:=ascB_ok (by decide +kernel)
theorem wValues_asc:AscT wValues:=ascB_ok (by decide +kernel)
theorem sh_taint {x:TaintD} (h:taintB x=true):ShT (taintTr x):=by
  obtain ⟨hk,hv⟩:=taint_parts h
  have a:=sh_snoc sh_map0 (by decide) rfl wEffect_asc (sh_text (effW_asc x.effect.toNat))
  have b:=sh_snoc a (by decide) (by decide +kernel) wKey_asc (sh_text (key_asc hk))
  exact sh_opt b (by decide) (by decide +kernel) wValue_asc (fun _=>sh_text (value_asc hv))
theorem sh_need {n:NeedD} (h:needB n=true):ShT (needTr n):=by
  have hl:=(need_op h).2
  have a:=sh_snoc sh_map0 (by decide) rfl wKey_asc (sh_text (key_asc (need_key h)))
  have b:=sh_snoc a (by decide) (by decide +kernel) wOp_asc (sh_text (opW_asc n.op.toNat))
  exact sh_opt b (by decide) (by decide +kernel) wValues_asc (fun _=>.list (by rw [List.length_map];omega) (mem_map_at fun i hi=>sh_text (value_asc (need_val h hi))))
theorem sz_taint (x:TaintD):szTr (taintTr x)≤4:=by
  unfold taintTr
  rw [sz_map,szTrs_app,szTrs_cons,szTrs_cons,szTrs_nil,sz_text,sz_text]
  have:=szTrs_opt (b:=emptyB x.value=true) (c:=textTr x.value) (n:=1) fun _=>Nat.le_of_eq (sz_text _)
  omega
theorem dp_taint (x:TaintD):dpTr (taintTr x)≤2:=by
  unfold taintTr
  rw [dp_map,dpTrs_app,dpTrs_cons,dpTrs_cons,dpTrs_nil,dp_text,dp_text]
  have:=dpTrs_opt (b:=emptyB x.value=true) (c:=textTr x.value) (n:=1) fun _=>Nat.le_of_eq (dp_text _)
  omega
theorem sz_need {n:NeedD} (h:needB n=true):szTr (needTr n)≤8:=by
  have hl:=(need_op h).2
  have h2:=szTrs_bnd (b:=1) (xs:=n.values.map textTr) (fun x hx=>by obtain ⟨a,_,rfl⟩:=List.mem_map.1 hx;exact Nat.le_of_eq (sz_text _))
  rw [List.length_map] at h2
  unfold needTr
  rw [sz_map,szTrs_app,szTrs_cons,szTrs_cons,szTrs_nil,sz_text,sz_text]
  have:=szTrs_opt (b:=n.values.length=0) (c:=listTr (n.values.map textTr)) (n:=5) fun _=>by rw [sz_list];omega
  omega
theorem dp_need (n:NeedD):dpTr (needTr n)≤3:=by
  have h2:=dpTrs_bnd (b:=1) (xs:=n.values.map textTr) (fun x hx=>by obtain ⟨a,_,rfl⟩:=List.mem_map.1 hx;exact Nat.le_of_eq (dp_text _))
  unfold needTr
  rw [dp_map,dpTrs_app,dpTrs_cons,dpTrs_cons,dpTrs_nil,dp_text,dp_text]
  have:=dpTrs_opt (b:=n.values.length=0) (c:=listTr (n.values.map textTr)) (n:=2) fun _=>by rw [dp_list];omega
  omega
theorem toler_asc {x:TolerD} (h:tolerB x=true):AscT x.key∧AscT x.value:=by
  unfold tolerB at h
  rw [Bool.and_eq_true] at h
  have h2:=h.2
  split at h2
  · rw [Bool.and_eq_true] at h2
    exact ⟨key_asc h2.1,value_asc h2.2⟩
  · rw [Bool.and_eq_true,Bool.or_eq_true] at h2
    refine ⟨?_,by rw [eqS_eq h2.1];exact asc_0⟩
    rcases h2.2 with h4|h4
    · rw [eqS_eq h4];exact asc_0
    · exact key_asc h4
theorem optL_le {α:Type}{b:Prop} [Decidable b] {x:α}:(optL b x).length≤1:=by
  unfold optL
  split<;>simp
theorem sh_toler {x:TolerD} (h:tolerB x=true):ShT (tolerTr x):=by
  obtain ⟨hk,hv⟩:=toler_asc h
  have l1:(optL (x.effect=0) wEffect).length≤1:=optL_le
  have l2:(optL (emptyB x.key=true) wKey).length≤1:=optL_le
  have a:ShT (mapTr (optL (x.effect=0) wEffect) (optL (x.effect=0) (textTr (effW' x.effect)))):=sh_opt (b:=x.effect=0) (k:=wEffect) (c:=textTr (effW' x.effect)) sh_map0 (by decide) rfl wEffect_asc (fun _=>sh_text (effW_asc x.effect.toNat))
  have b:=sh_opt (b:=emptyB x.key=true) (k:=wKey) (c:=textTr x.key) a (by omega) (optL_kLt (by decide +kernel)) wKey_asc (fun _=>sh_text hk)
  exact sh_opt b (by rw [List.length_append];omega) (kLt_app (optL_kLt (by decide +kernel)) (optL_kLt (by decide +kernel))) wValue_asc (fun _=>sh_text hv)
theorem sz_toler (x:TolerD):szTr (tolerTr x)≤4:=by
  unfold tolerTr
  rw [sz_map,szTrs_app,szTrs_app]
  have h1:=szTrs_opt (b:=x.effect=0) (c:=textTr (effW' x.effect)) (n:=1) fun _=>Nat.le_of_eq (sz_text _)
  have h2:=szTrs_opt (b:=emptyB x.key=true) (c:=textTr x.key) (n:=1) fun _=>Nat.le_of_eq (sz_text _)
  have h3:=szTrs_opt (b:=x.equal=false) (c:=textTr x.value) (n:=1) fun _=>Nat.le_of_eq (sz_text _)
  omega
theorem dp_toler (x:TolerD):dpTr (tolerTr x)≤2:=by
  unfold tolerTr
  rw [dp_map,dpTrs_app,dpTrs_app]
  have h1:=dpTrs_opt (b:=x.effect=0) (c:=textTr (effW' x.effect)) (n:=1) fun _=>Nat.le_of_eq (dp_text _)
  have h2:=dpTrs_opt (b:=emptyB x.key=true) (c:=textTr x.key) (n:=1) fun _=>Nat.le_of_eq (dp_text _)
  have h3:=dpTrs_opt (b:=x.equal=false) (c:=textTr x.value) (n:=1) fun _=>Nat.le_of_eq (dp_text _)
  omega
/-- What pods and hosts have both. -/
theorem sh_head {kd nm:ByteArray}{ls:List LabelD}{cpu mem:Int} (hl:labelsB ls=true) (h1:AscT kd) (h2:AscT nm) (h3:AscT (amtB cpu)) (h4:AscT (amtB mem)):ShT (mapTr (headKs ls) (headCs kd nm ls cpu mem)):=by
  have l1:(optL (ls.length=0) wLabels).length≤1:=optL_le
  have a:=sh_snoc sh_map0 (by decide) rfl wCpu_asc (sh_text h3)
  have b:=sh_snoc a (by decide) (by decide +kernel) wKind_asc (sh_text h1)
  have c:=sh_opt (b:=ls.length=0) (k:=wLabels) (c:=labelsTr ls) b (by decide) (by decide +kernel) wLabels_asc (fun _=>sh_labels hl)
  have d:=sh_snoc c (by rw [List.length_append];show 2+_+1≤300;omega) (kLt_app (by decide +kernel) (optL_kLt (by decide +kernel))) wMem_asc (sh_text h4)
  have e:=sh_snoc d (by rw [List.length_append,List.length_append];show 2+_+1+1≤300;omega) (kLt_app (kLt_app (by decide +kernel) (optL_kLt (by decide +kernel))) (by decide +kernel)) wName_asc (sh_text h2)
  rw [List.append_assoc,List.append_assoc _ [textTr (amtB mem)]] at e
  exact e
theorem sz_head {kd nm:ByteArray}{ls:List LabelD}{cpu mem:Int} (hl:labelsB ls=true):szTrs (headCs kd nm ls cpu mem)≤11:=by
  unfold headCs
  rw [szTrs_app,szTrs_app,szTrs_cons,szTrs_cons,szTrs_nil,szTrs_cons,szTrs_cons,szTrs_nil,sz_text,sz_text,sz_text,sz_text]
  have:=szTrs_opt (b:=ls.length=0) (c:=labelsTr ls) (n:=7) fun _=>sz_labels hl
  omega
theorem dp_head {kd nm:ByteArray}{ls:List LabelD}{cpu mem:Int}:dpTrs (headCs kd nm ls cpu mem)≤2:=by
  unfold headCs
  rw [dpTrs_app,dpTrs_app,dpTrs_cons,dpTrs_cons,dpTrs_nil,dpTrs_cons,dpTrs_cons,dpTrs_nil,dp_text,dp_text,dp_text,dp_text]
  have:=dpTrs_opt (b:=ls.length=0) (c:=labelsTr ls) (n:=2) fun _=>dp_labels ls
  omega
theorem sh_rows {α:Type} [Inhabited α] {f:α→TreeD}{xs:List α} (hn:xs.length≤4) (h:∀ i,i < xs.length→ShT (f (xs.getD i default))):ShT (listTr (xs.map f)):=.list (by rw [List.length_map];omega) (mem_map_at h)
theorem sz_rows {α:Type} [Inhabited α] {f:α→TreeD}{xs:List α}{b:Nat} (hn:xs.length≤4) (h:∀ i,i < xs.length→szTr (f (xs.getD i default))≤b):szTr (listTr (xs.map f))≤1+b*4:=by
  have h2:=szTrs_bnd (b:=b) (xs:=xs.map f) (mem_map_at (P:=fun t=>szTr t≤b) h)
  rw [List.length_map] at h2
  rw [sz_list]
  have:=Nat.mul_le_mul_left b hn
  omega
theorem dp_rows {α:Type} [Inhabited α] {f:α→TreeD}{xs:List α}{b:Nat} (h:∀ i,i < xs.length→dpTr (f (xs.getD i default))≤b):dpTr (listTr (xs.map f))≤b+1:=by
  rw [dp_list]
  exact Nat.succ_le_succ (dpTrs_bnd (mem_map_at (P:=fun t=>dpTr t≤b) h))
theorem sh_host {x:HostD} (h:hostB x=true) (h3:AscT (amtB x.cpu)) (h4:AscT (amtB x.mem)):ShT (hostTr x):=by
  have hp:=host_p h
  have hk:=headKs_le x.labels
  have l1:(optL (x.slots=20) wSlots).length≤1:=optL_le
  have a:=sh_head (kd:=wHost) (nm:=x.name) (cpu:=x.cpu) (mem:=x.mem) hp.labels wHost_asc (name_asc hp.name) h3 h4
  have b:=sh_opt (b:=x.slots=20) (k:=wSlots) (c:=intTr x.slots) a (by omega) (headKs_lt _ (by decide +kernel)) wSlots_asc (fun _=>.int ⟨by have:=hp.slots.1;omega,by have:=hp.slots.2;omega⟩)
  exact sh_opt b (by rw [List.length_append];omega) (kLt_app (headKs_lt _ (by decide +kernel)) (optL_kLt (by decide +kernel))) wTaints_asc (fun _=>sh_rows (taints_len hp.taints) fun i hi=>sh_taint (taints_at hp.taints hi))
theorem sz_host {x:HostD} (h:hostB x=true):szTr (hostTr x)≤100:=by
  have hp:=host_p h
  unfold hostTr hostCs
  rw [sz_map,szTrs_app,szTrs_app]
  have h1:=sz_head (kd:=wHost) (nm:=x.name) (cpu:=x.cpu) (mem:=x.mem) hp.labels
  have h2:=szTrs_opt (b:=x.slots=20) (c:=intTr x.slots) (n:=1) fun _=>Nat.le_of_eq (sz_int _)
  have h3:=szTrs_opt (b:=x.taints.length=0) (c:=listTr (x.taints.map taintTr)) (n:=17) fun _=>sz_rows (b:=4) (taints_len hp.taints) fun i _=>sz_taint _
  omega
theorem dp_host (x:HostD):dpTr (hostTr x)≤5:=by
  unfold hostTr hostCs
  rw [dp_map,dpTrs_app,dpTrs_app]
  have h1:=dp_head (kd:=wHost) (nm:=x.name) (ls:=x.labels) (cpu:=x.cpu) (mem:=x.mem)
  have h2:=dpTrs_opt (b:=x.slots=20) (c:=intTr x.slots) (n:=1) fun _=>Nat.le_of_eq (dp_int _)
  have h3:=dpTrs_opt (b:=x.taints.length=0) (c:=listTr (x.taints.map taintTr)) (n:=3) fun _=>dp_rows (b:=2) fun i _=>dp_taint _
  omega
theorem sh_pod {x:PodD} (h:podB x=true) (h3:AscT (amtB x.cpu)) (h4:AscT (amtB x.mem)):ShT (podTr x):=by
  have hp:=pod_p h
  have hk:=headKs_le x.labels
  have l1:(optL (x.needs.length=0) wNeeds).length≤1:=optL_le
  have l2:(optL (x.rank=0) wRank).length≤1:=optL_le
  have a:=sh_head (kd:=wPod) (nm:=x.name) (cpu:=x.cpu) (mem:=x.mem) hp.labels wPod_asc (name_asc hp.name) h3 h4
  have b:=sh_opt (b:=x.needs.length=0) (k:=wNeeds) (c:=listTr (x.needs.map needTr)) a (by omega) (headKs_lt _ (by decide +kernel)) wNeeds_asc (fun _=>sh_rows (needs_len hp.needs) fun i hi=>sh_need (needs_at hp.needs hi))
  have c:=sh_opt (b:=x.rank=0) (k:=wRank) (c:=intTr x.rank) b (by rw [List.length_append];omega) (kLt_app (headKs_lt _ (by decide +kernel)) (optL_kLt (by decide +kernel))) wRank_asc (fun _=>.int ⟨by have:=hp.rank.1;omega,by have:=hp.rank.2;omega⟩)
  exact sh_opt c (by rw [List.length_append,List.length_append];omega) (kLt_app (kLt_app (headKs_lt _ (by decide +kernel)) (optL_kLt (by decide +kernel))) (optL_kLt (by decide +kernel))) wToler_asc (fun _=>sh_rows (tolers_len hp.tolers) fun i hi=>sh_toler (tolers_at hp.tolers hi))
theorem sz_pod {x:PodD} (h:podB x=true):szTr (podTr x)≤100:=by
  have hp:=pod_p h
  unfold podTr podCs
  rw [sz_map,szTrs_app,szTrs_app,szTrs_app]
  have h1:=sz_head (kd:=wPod) (nm:=x.name) (cpu:=x.cpu) (mem:=x.mem) hp.labels
  have h2:=szTrs_opt (b:=x.rank=0) (c:=intTr x.rank) (n:=1) fun _=>Nat.le_of_eq (sz_int _)
  have h3:=szTrs_opt (b:=x.needs.length=0) (c:=listTr (x.needs.map needTr)) (n:=33) fun _=>sz_rows (b:=8) (needs_len hp.needs) fun i hi=>sz_need (needs_at hp.needs hi)
  have h4:=szTrs_opt (b:=x.tolers.length=0) (c:=listTr (x.tolers.map tolerTr)) (n:=17) fun _=>sz_rows (b:=4) (tolers_len hp.tolers) fun i _=>sz_toler _
  omega
theorem dp_pod (x:PodD):dpTr (podTr x)≤6:=by
  unfold podTr podCs
  rw [dp_map,dpTrs_app,dpTrs_app,dpTrs_app]
  have h1:=dp_head (kd:=wPod) (nm:=x.name) (ls:=x.labels) (cpu:=x.cpu) (mem:=x.mem)
  have h2:=dpTrs_opt (b:=x.rank=0) (c:=intTr x.rank) (n:=1) fun _=>Nat.le_of_eq (dp_int _)
  have h3:=dpTrs_opt (b:=x.needs.length=0) (c:=listTr (x.needs.map needTr)) (n:=4) fun _=>dp_rows (b:=3) fun i _=>dp_need _
  have h4:=dpTrs_opt (b:=x.tolers.length=0) (c:=listTr (x.tolers.map tolerTr)) (n:=3) fun _=>dp_rows (b:=2) fun i _=>dp_toler _
  omega
theorem host_zz (x:HostD):kLt (hostKs x) wZz=true:=kLt_app (kLt_app (headKs_lt _ (by decide +kernel)) (optL_kLt (by decide +kernel))) (optL_kLt (by decide +kernel))
theorem pod_zz (x:PodD):kLt (podKs x) wZz=true:=kLt_app (kLt_app (kLt_app (headKs_lt _ (by decide +kernel)) (optL_kLt (by decide +kernel))) (optL_kLt (by decide +kernel))) (optL_kLt (by decide +kernel))
theorem sz_zz (ks:List ByteArray) (cs:List TreeD) (k:ByteArray) (n:Int):szTr (mapTr (ks ++ [k]) (cs ++ [intTr n]))=szTr (mapTr ks cs)+1:=by
  rw [sz_map,sz_map,szTrs_app,szTrs_cons,szTrs_nil,sz_int]
  omega
theorem dp_zz (ks:List ByteArray) (cs:List TreeD) (k:ByteArray) (n:Int):dpTr (mapTr (ks ++ [k]) (cs ++ [intTr n]))≤dpTr (mapTr ks cs)+1:=by
  rw [dp_map,dp_map,dpTrs_app,dpTrs_cons,dpTrs_nil,dp_int]
  omega
theorem asc_bl {s : ByteArray} (h1 : s.size ≤ 400) (h2 : ∀ b ∈ bl s, b.toNat < 128) : AscT s := ⟨h1, fun i hi => by
  obtain ⟨b,h3,h4⟩:=bytB_bl hi
  rw [h4]
  have:=h2 b (List.mem_of_getElem? h3)
  omega⟩
theorem bl_app3 (a b:ByteArray):bl (a++b)=bl a++bl b:=by unfold bl;rw [ByteArray.data_append,Array.toList_append]
theorem suf_lo (k:Nat):∀ b ∈ bl (sufB k),b.toNat < 128:=by
  have h:sufL.all (fun l=>l.all fun b=>decide (b.toNat < 128))=true:=by decide +kernel
  intro b hb
  have hb2:b ∈ sufL.getD k []:=hb
  rw [List.getD_eq_getElem?_getD] at hb2
  cases e:sufL[k]? with
  |none=>rw [e] at hb2;cases hb2
  |some l=>
    rw [e] at hb2
    have h3:=List.all_eq_true.1 h l (List.mem_of_getElem? e)
    exact of_decide_eq_true (List.all_eq_true.1 h3 b hb2)
theorem amtU_le:∀ f u,(amtU f u).1≤u:=fun f=>by
  induction f with
  |zero=>intro u;exact Nat.le_refl _
  |succ f ih=>
    intro u
    unfold amtU
    split
    · exact Nat.le_trans (ih _) (Nat.div_le_self _ _)
    · exact Nat.le_refl _
theorem amt_asc {n:Int} (h1:n≤9223372036854775807):AscT (amtB n):=by
  refine asc_bl (Nat.le_trans (amt_sz h1) (by decide)) fun b hb=>?_
  unfold amtB at hb
  split at hb
  · cases hb
  rename_i h0
  split at hb
  · rw [bl_app3,bl_ba] at hb
    rcases List.mem_append.1 hb with hb|hb
    · have:=(itoa_dig (by omega) h1).1 b hb;omega
    · rw [List.mem_singleton.1 (show b ∈ [109] from hb)];decide
  · rw [bl_app3,bl_ba] at hb
    rcases List.mem_append.1 hb with hb|hb
    · have h3:=amtU_le 4 (n.toNat / 1000)
      have:=(itoa_dig (m:=((amtU 4 (n.toNat / 1000)).1:Int)) (by omega) (by have:=Nat.div_le_self n.toNat 1000;omega)).1 b hb
      omega
    · exact suf_lo _ b hb
end Go.Proofs.YtidjjfjhmlndjaaGreatDoor
