/- Fr0 (what is wanted of them). -/
import Derived.Test.YtidjjfjhmlndjaaGreatDoorVHo2
import Derived.Test.YtidjjfjhmlndjaaGreatDoorVNe1
import Derived.Test.YtidjjfjhmlndjaaGreatDoorVDk
namespace Go.Proofs.YtidjjfjhmlndjaaGreatDoor
open Go.RowKit
set_option linter.unusedVariables false
set_option linter.unusedSimpArgs false
def mapTr (ks:List ByteArray) (cs:List TreeD):TreeD:=⟨6,false,0,⟨#[]⟩,ks,cs⟩
def textTr (s:ByteArray):TreeD:=⟨4,false,0,s, [], []⟩
def intTr (n:Int):TreeD:=⟨3,false,n,⟨#[]⟩, [], []⟩
def listTr (l:List TreeD):TreeD:=⟨5,false,0,⟨#[]⟩, [],l⟩
def wRank:ByteArray:=⟨#[114,97,110,107]⟩
def wNeeds:ByteArray:=⟨#[110,101,101,100,115]⟩
def wToler:ByteArray:=⟨#[116,111,108,101,114,97,110,99,101,115]⟩
def wPod:ByteArray:=⟨#[112,111,100]⟩
def wZz:ByteArray:=⟨#[122,122]⟩
/-- All of the keys come ahead of this one. -/
def kLt (ks:List ByteArray) (k:ByteArray):Bool:=ks.all fun x=>lessB x k
theorem kLt_at {ks:List ByteArray}{k:ByteArray} (h:kLt ks k=true) {j:Nat} (hj:j < ks.length):lessB (ks.getD j default) k=true:=by
  rw [List.getD_eq_getElem?_getD,List.getElem?_eq_getElem hj]
  exact List.all_eq_true.1 h _ (List.getElem_mem hj)
theorem kLt_app {a b:List ByteArray}{k:ByteArray} (ha:kLt a k=true) (hb:kLt b k=true):kLt (a++b) k=true:=by
  unfold kLt at *
  rw [List.all_append,ha,hb]
  rfl
/-- What may be there: a key or none, a kid or none. -/
def optL {α:Type} (b:Prop) [Decidable b] (x:α):List α:=if b then [] else [x]
theorem optL_yes {α:Type}{b:Prop} [Decidable b] {x:α} (h:b):optL b x = []:=if_pos h
theorem optL_no {α:Type}{b:Prop} [Decidable b] {x:α} (h:¬ b):optL b x = [x]:=if_neg h
theorem optL_len {α β:Type}{b:Prop} [Decidable b] {x:α}{y:β}:(optL b x).length=(optL b y).length:=by unfold optL;split<;>rfl
theorem optL_kLt {b:Prop} [Decidable b] {x k:ByteArray} (h:lessB x k=true):kLt (optL b x) k=true:=by
  unfold optL
  split
  · rfl
  · unfold kLt;rw [List.all_cons,h];rfl
def labelsTr (ls:List LabelD):TreeD:=mapTr (ls.map LabelD.key) (ls.map fun l=>textTr l.value)
def opW' (n:NeedD):ByteArray:=opsW.getD n.op.toNat default
def effW' (e:Int):ByteArray:=effW.getD e.toNat default
def needTr (n:NeedD):TreeD:=mapTr ([wKey,wOp]++optL (n.values.length=0) wValues) ([textTr n.key,textTr (opW' n)]++optL (n.values.length=0) (listTr (n.values.map textTr)))
def taintTr (x:TaintD):TreeD:=mapTr ([wEffect,wKey]++optL (emptyB x.value=true) wValue) ([textTr (effW' x.effect),textTr x.key]++optL (emptyB x.value=true) (textTr x.value))
def tolerTr (x:TolerD):TreeD:=mapTr (optL (x.effect=0) wEffect++optL (emptyB x.key=true) wKey++optL (x.equal=false) wValue) (optL (x.effect=0) (textTr (effW' x.effect))++optL (emptyB x.key=true) (textTr x.key)++optL (x.equal=false) (textTr x.value))
def headKs (ls:List LabelD):List ByteArray:= [wCpu,wKind]++optL (ls.length=0) wLabels ++ [wMem,wName]
def headCs (kd nm:ByteArray) (ls:List LabelD) (cpu mem:Int):List TreeD:= [textTr (amtB cpu),textTr kd]++optL (ls.length=0) (labelsTr ls) ++ [textTr (amtB mem),textTr nm]
def hostKs (h:HostD):List ByteArray:=headKs h.labels++optL (h.slots=20) wSlots++optL (h.taints.length=0) wTaints
def hostCs (h:HostD):List TreeD:=headCs wHost h.name h.labels h.cpu h.mem++optL (h.slots=20) (intTr h.slots)++optL (h.taints.length=0) (listTr (h.taints.map taintTr))
def hostTr (h:HostD):TreeD:=mapTr (hostKs h) (hostCs h)
def podKs (p:PodD):List ByteArray:=headKs p.labels++optL (p.needs.length=0) wNeeds++optL (p.rank=0) wRank++optL (p.tolers.length=0) wToler
def podCs (p:PodD):List TreeD:=headCs wPod p.name p.labels p.cpu p.mem++optL (p.needs.length=0) (listTr (p.needs.map needTr))++optL (p.rank=0) (intTr p.rank)++optL (p.tolers.length=0) (listTr (p.tolers.map tolerTr))
def podTr (p:PodD):TreeD:=mapTr (podKs p) (podCs p)
theorem head_len (kd nm:ByteArray) (ls:List LabelD) (cpu mem:Int):(headCs kd nm ls cpu mem).length=(headKs ls).length:=by
  unfold headCs headKs
  simp only [List.length_append,List.length_cons,List.length_nil]
  rw [optL_len (x:=labelsTr ls) (y:=wLabels)]
theorem headKs_le (ls:List LabelD):(headKs ls).length≤5:=by unfold headKs optL;split<;>decide
theorem headKs_lt (ls:List LabelD) {k:ByteArray} (h:kLt [wCpu,wKind,wLabels,wMem,wName] k=true):kLt (headKs ls) k=true:=by
  unfold headKs optL
  split
  · unfold kLt at *
    simp only [List.all_cons,Bool.and_eq_true,List.append_nil,List.cons_append,List.nil_append] at *
    exact ⟨h.1,h.2.1,h.2.2.2⟩
  · exact h
theorem textTr_fine {s:ByteArray} (h:s.size≤1048576):TFine (textTr s):=.mk h (show intOk 0 by decide) (Nat.zero_le _) (fun _=>Nat.zero_le _) (Nat.zero_le _) (fun x h=>by cases h)
theorem intTr_fine {n:Int} (h:intOk n):TFine (intTr n):=.mk (Nat.zero_le _) h (Nat.zero_le _) (fun _=>Nat.zero_le _) (Nat.zero_le _) (fun x h=>by cases h)
theorem listTr_fine {l:List TreeD} (hl:l.length≤1048576) (h:∀ x ∈ l,TFine x):TFine (listTr l):=.mk (Nat.zero_le _) (show intOk 0 by decide) (Nat.zero_le _) (fun _=>Nat.zero_le _) hl h
theorem mapTr_fine {ks : List ByteArray} {cs : List TreeD} (hk : ks.length ≤ 1048576) (hs : ∀ x ∈ ks, x.size ≤ 1048576) (hc : cs.length ≤ 1048576) (h : ∀ x ∈ cs, TFine x) : TFine (mapTr ks cs) := .mk (Nat.zero_le _) (show intOk 0 by decide) hk (fun k => by
  show (ks.getD k default).size≤1048576
  rw [List.getD_eq_getElem?_getD]
  rcases Nat.lt_or_ge k ks.length with h|h
  · rw [List.getElem?_eq_getElem h];exact hs _ (List.getElem_mem h)
  · rw [List.getElem?_eq_none h]; exact Nat.zero_le _) hc h
theorem optL_mem {α:Type}{b:Prop} [Decidable b] {x y:α} (h:y ∈ optL b x):y=x:=by
  unfold optL at h
  split at h
  · cases h
  · exact List.mem_singleton.1 h
theorem taint_eff {x:TaintD} (h:taintB x=true):1≤x.effect∧x.effect≤2:=by
  unfold taintB at h
  rw [Bool.and_eq_true,Bool.and_eq_true] at h
  have h3:=h.2.2
  unfold inB at h3
  rw [Bool.and_eq_true] at h3
  exact ⟨of_decide_eq_true h3.1,of_decide_eq_true h3.2⟩
theorem effW_at {e:Int} (h:1≤e∧e≤2):e.toNat < effW.length:=by show e.toNat < 3;omega
theorem toler_eff {x:TolerD} (h:tolerB x=true):0≤x.effect∧x.effect≤2:=by
  unfold tolerB at h
  rw [Bool.and_eq_true] at h
  have h3:=h.1
  unfold inB at h3
  rw [Bool.and_eq_true] at h3
  exact ⟨of_decide_eq_true h3.1,of_decide_eq_true h3.2⟩
theorem labs_next {ls:List LabelD} (h:labelsB ls=true) {i:Nat} (hi:i+1 < ls.length):lessB (ls.getD i default).key (ls.getD (i+1) default).key=true:=by
  unfold labelsB at h
  rw [Bool.and_eq_true] at h
  have h2:=List.all_eq_true.1 h.2 (i+1) (List.mem_range.2 hi)
  simp only [Bool.and_eq_true] at h2
  have h3:=h2.2.2
  unfold nextB at h3
  simpa using h3
theorem labs_lt {ls:List LabelD} (h:labelsB ls=true):∀ (k i:Nat),i+k+1 < ls.length→lessB (ls.getD i default).key (ls.getD (i+k+1) default).key=true
  |0,i,hi=>labs_next h hi
  |k+1,i,hi=>lessB_sto.tr _ _ _ (labs_lt h k i (by omega)) (labs_next h (i:=i+k+1) hi)
theorem labs_kLt {ls:List LabelD} (h:labelsB ls=true) {i:Nat} (hi:i < ls.length):kLt ((ls.take i).map LabelD.key) (ls.getD i default).key=true:=by
  unfold kLt
  rw [List.all_eq_true]
  intro x hx
  obtain ⟨y,hy,rfl⟩:=List.mem_map.1 hx
  obtain ⟨j,hj,e⟩:=List.getElem_of_mem hy
  rw [List.length_take] at hj
  rw [List.getElem_take] at e
  have h2:=labs_lt h (i - j - 1) j (by omega)
  rw [show j+(i - j - 1)+1=i by omega] at h2
  rw [List.getD_eq_getElem?_getD,List.getElem?_eq_getElem (show j < ls.length by omega)] at h2
  rw [← e]
  exact h2
theorem map_snoc {α β:Type} [Inhabited α] (f:α→β) {ls:List α}{i:Nat} (hi:i < ls.length):(ls.take i).map f ++ [f (ls.getD i default)]=(ls.take (i+1)).map f:=by
  rw [take_snoc ls i hi,List.map_append]
  rfl
theorem mapTr_i (ks:List ByteArray) (cs:List TreeD):(mapTr ks cs).kind=6:=rfl
theorem mapTr_f (ks:List ByteArray) (cs:List TreeD):(mapTr ks cs).flag=false:=rfl
theorem mapTr_n (ks:List ByteArray) (cs:List TreeD):(mapTr ks cs).num=0:=rfl
theorem mapTr_t (ks:List ByteArray) (cs:List TreeD):(mapTr ks cs).text=⟨#[]⟩:=rfl
theorem tolerTr_eq {x:TolerD} (a b c:Bool) (ha:decide (x.effect=0)=a) (hb:emptyB x.key=b) (hc:x.equal=c):tolerTr x=mapTr ((if a=true then [] else [wEffect])++(if b=true then [] else [wKey])++(if c=true then [wValue] else [])) ((if a=true then [] else [textTr (effW' x.effect)])++(if b=true then [] else [textTr x.key])++(if c=true then [textTr x.value] else [])):=by
  subst ha;subst hb;subst hc
  unfold tolerTr optL
  by_cases h1:x.effect=0<;>cases h2:x.equal<;>simp [h1]
theorem mapTr_k (ks:List ByteArray) (cs:List TreeD):(mapTr ks cs).keys=ks:=rfl
theorem mapTr_c (ks:List ByteArray) (cs:List TreeD):(mapTr ks cs).kids=cs:=rfl
theorem needTr_0 {n:NeedD} (h:n.values.length=0):needTr n=mapTr [wKey,wOp] [textTr n.key,textTr (opW' n)]:=by
  unfold needTr
  rw [optL_yes h,optL_yes h]
  rfl
theorem needTr_1 {n:NeedD} (h:¬ n.values.length=0):needTr n=mapTr [wKey,wOp,wValues] [textTr n.key,textTr (opW' n),listTr (n.values.map textTr)]:=by
  unfold needTr
  rw [optL_no h,optL_no h]
  rfl
theorem need_op {n:NeedD} (h:needB n=true):(1≤n.op∧n.op≤4)∧n.values.length≤4:=by
  unfold needB at h
  rw [Bool.and_eq_true,Bool.and_eq_true] at h
  have h2:=h.2.1
  unfold inB at h2
  rw [Bool.and_eq_true] at h2
  refine ⟨⟨of_decide_eq_true h2.1,of_decide_eq_true h2.2⟩,?_⟩
  have h3:=h.2.2
  split at h3
  · have:=eq_of_beq h3;omega
  · rw [Bool.and_eq_true] at h3
    have h4:=h3.1
    unfold inB at h4
    rw [Bool.and_eq_true] at h4
    have:=of_decide_eq_true h4.2
    omega
theorem opW_at2 {e:Int} (h:1≤e∧e≤4):e.toNat < opsW.length:=by show e.toNat < 5;omega
theorem keyB_sz {s:ByteArray} (h:keyB s=true):s.size≤30:=by
  unfold keyB at h
  rw [Bool.and_eq_true] at h
  exact of_decide_eq_true h.1
theorem emptyB_sz {s:ByteArray} (h:emptyB s=true):s.size=0:=by
  rw [eqS_eq h]
  rfl
theorem valueB_sz {s:ByteArray} (h:valueB s=true):s.size≤20:=by
  unfold valueB at h
  rw [Bool.or_eq_true,Bool.and_eq_true] at h
  rcases h with h|h
  · have:=emptyB_sz h;omega
  · exact of_decide_eq_true h.1
theorem need_val {n:NeedD} (h:needB n=true) {i:Nat} (hi:i < n.values.length):valueB (n.values.getD i default)=true:=by
  unfold needB at h
  rw [Bool.and_eq_true,Bool.and_eq_true] at h
  have h3:=h.2.2
  split at h3
  · have:=eq_of_beq h3;omega
  · rw [Bool.and_eq_true] at h3
    have h4:=List.all_eq_true.1 h3.2 i (List.mem_range.2 hi)
    simp only [Bool.and_eq_true] at h4
    exact h4.1
theorem need_key {n:NeedD} (h:needB n=true):keyB n.key=true:=by
  unfold needB at h
  rw [Bool.and_eq_true] at h
  exact h.1
theorem taint_parts {x:TaintD} (h:taintB x=true):keyB x.key=true∧valueB x.value=true:=by
  unfold taintB at h
  rw [Bool.and_eq_true,Bool.and_eq_true] at h
  exact ⟨h.1,h.2.1⟩
theorem toler_parts {x:TolerD} (h:tolerB x=true):x.key.size≤30∧x.value.size≤20:=by
  unfold tolerB at h
  rw [Bool.and_eq_true] at h
  have h2:=h.2
  split at h2
  · rw [Bool.and_eq_true] at h2
    exact ⟨keyB_sz h2.1,valueB_sz h2.2⟩
  · rw [Bool.and_eq_true,Bool.or_eq_true] at h2
    have h3:=emptyB_sz h2.1
    rcases h2.2 with h4|h4
    · have:=emptyB_sz h4;omega
    · have:=keyB_sz h4;omega
theorem lab_parts {ls:List LabelD} (h:labelsB ls=true) {i:Nat} (hi:i < ls.length):keyB (ls.getD i default).key=true∧valueB (ls.getD i default).value=true:=by
  unfold labelsB at h
  rw [Bool.and_eq_true] at h
  have h4:=List.all_eq_true.1 h.2 i (List.mem_range.2 hi)
  simp only [Bool.and_eq_true] at h4
  exact ⟨h4.1,h4.2.1⟩
theorem taints_at {ts:List TaintD} (h:taintsB ts=true) {i:Nat} (hi:i < ts.length):taintB (ts.getD i default)=true:=by
  unfold taintsB at h
  rw [Bool.and_eq_true] at h
  have h4:=List.all_eq_true.1 h.2 i (List.mem_range.2 hi)
  simp only [Bool.and_eq_true] at h4
  exact h4.1
theorem tolers_at {ts:List TolerD} (h:tolersB ts=true) {i:Nat} (hi:i < ts.length):tolerB (ts.getD i default)=true:=by
  unfold tolersB at h
  rw [Bool.and_eq_true] at h
  have h4:=List.all_eq_true.1 h.2 i (List.mem_range.2 hi)
  simp only [Bool.and_eq_true] at h4
  exact h4.1
theorem needs_at {ts:List NeedD} (h:needsB ts=true) {i:Nat} (hi:i < ts.length):needB (ts.getD i default)=true:=by
  unfold needsB at h
  rw [Bool.and_eq_true] at h
  have h4:=List.all_eq_true.1 h.2 i (List.mem_range.2 hi)
  simp only [Bool.and_eq_true] at h4
  exact h4.1
theorem all_at {α:Type} [Inhabited α] {P:α→Prop}{xs:List α} (h:∀ i,i < xs.length→P (xs.getD i default)):∀ x ∈ xs,P x:=by
  intro x hx
  obtain ⟨j,hj,e⟩:=List.getElem_of_mem hx
  have:=h j hj
  rw [List.getD_eq_getElem?_getD,List.getElem?_eq_getElem hj,e] at this
  exact this
/-- A right pod, taken apart. -/
structure PodP (p:PodD):Prop where
  name:nmB p.name=true
  labels:labelsB p.labels=true
  needs:needsB p.needs=true
  tolers:tolersB p.tolers=true
  cpu:0≤p.cpu
  mem:0≤p.mem
  rank:0≤p.rank∧p.rank≤1000
theorem pod_p {p:PodD} (h:podB p=true):PodP p:=by
  unfold podB at h
  simp only [Bool.and_eq_true,inB,decide_eq_true_eq] at h
  exact ⟨h.1,h.2.1,h.2.2.1,h.2.2.2.1,h.2.2.2.2.1,h.2.2.2.2.2.1,h.2.2.2.2.2.2⟩
structure HostP (p:HostD):Prop where
  name:nmB p.name=true
  labels:labelsB p.labels=true
  taints:taintsB p.taints=true
  cpu:0≤p.cpu
  mem:0≤p.mem
  slots:1≤p.slots∧p.slots≤20
theorem host_p {p:HostD} (h:hostB p=true):HostP p:=by
  unfold hostB at h
  simp only [Bool.and_eq_true,inB,decide_eq_true_eq] at h
  exact ⟨h.1,h.2.1,h.2.2.1,h.2.2.2.1,h.2.2.2.2.1,h.2.2.2.2.2⟩
theorem opW_sz (n:Nat):(opsW.getD n default).size≤100:=by
  rcases Nat.lt_or_ge n 5 with h|h
  · have:∀ k:Fin 5,(opsW.getD k.val default).size≤100:=by decide
    exact this ⟨n,h⟩
  · rw [List.getD_eq_getElem?_getD,List.getElem?_eq_none (show opsW.length≤n from h)];exact Nat.zero_le _
theorem effW_sz (n:Nat):(effW.getD n default).size≤100:=by
  rcases Nat.lt_or_ge n 3 with h|h
  · have:∀ k:Fin 3,(effW.getD k.val default).size≤100:=by decide
    exact this ⟨n,h⟩
  · rw [List.getD_eq_getElem?_getD,List.getElem?_eq_none (show effW.length≤n from h)];exact Nat.zero_le _
theorem kids_app {a b:List TreeD} (ha:∀ x ∈ a,TFine x) (hb:∀ x ∈ b,TFine x):∀ x ∈ a++b,TFine x:=fun x hx=>(List.mem_append.1 hx).elim (ha x) (hb x)
theorem kids_one {c:TreeD} (h:TFine c):∀ x ∈ [c],TFine x:=fun x hx=>by rw [List.mem_singleton.1 hx];exact h
theorem kids_two {c d:TreeD} (h:TFine c) (h2:TFine d):∀ x ∈ [c,d],TFine x:=fun x hx=>by
  rcases List.mem_cons.1 hx with rfl|hx
  · exact h
  · exact kids_one h2 x hx
theorem kids_opt {b:Prop} [Decidable b] {c:TreeD} (h:¬ b→TFine c):∀ x ∈ optL b c,TFine x:=fun x hx=>by
  unfold optL at hx
  split at hx
  · cases hx
  · rename_i hb
    rw [List.mem_singleton.1 hx];exact h hb
theorem taintTr_fine {x:TaintD} (h:taintB x=true):TFine (taintTr x):=by
  have h2:=taint_parts h
  have k1:=keyB_sz h2.1
  have k2:=valueB_sz h2.2
  have k3:=effW_sz x.effect.toNat
  refine mapTr_fine ?_ ?_ ?_ (kids_app (kids_two (textTr_fine (by unfold effW';omega)) (textTr_fine (by omega))) (kids_opt fun _=>textTr_fine (by omega)))
  · unfold optL;split<;>decide
  · intro y hy
    rcases List.mem_append.1 hy with hy|hy
    · rcases List.mem_cons.1 hy with rfl|hy
      · decide
      · rw [List.mem_singleton.1 hy];decide
    · rw [optL_mem hy];decide
  · unfold optL;split<;>(show _≤1048576;simp)
theorem tolerTr_fine {x:TolerD} (h:tolerB x=true):TFine (tolerTr x):=by
  obtain ⟨k1,k2⟩:=toler_parts h
  have k3:=effW_sz x.effect.toNat
  refine mapTr_fine ?_ ?_ ?_ (kids_app (kids_app (kids_opt fun _=>textTr_fine (by unfold effW';omega)) (kids_opt fun _=>textTr_fine (by omega))) (kids_opt fun _=>textTr_fine (by omega)))
  · unfold optL;repeat' split
    all_goals (show _≤1048576;simp)
  · intro y hy
    rcases List.mem_append.1 hy with hy|hy
    · rcases List.mem_append.1 hy with hy|hy
      · rw [optL_mem hy];decide
      · rw [optL_mem hy];decide
    · rw [optL_mem hy];decide
  · unfold optL;repeat' split
    all_goals (show _≤1048576;simp)
theorem needTr_fine {n:NeedD} (h:needB n=true):TFine (needTr n):=by
  have k1:=keyB_sz (need_key h)
  have k3:=opW_sz n.op.toNat
  have k4:=(need_op h).2
  refine mapTr_fine ?_ ?_ ?_ (kids_app (kids_two (textTr_fine (by omega)) (textTr_fine (by unfold opW';omega))) (kids_opt fun _=>listTr_fine (by rw [List.length_map];omega) (fun y hy=>?_)))
  · unfold optL;split<;>decide
  · intro y hy
    rcases List.mem_append.1 hy with hy|hy
    · rcases List.mem_cons.1 hy with rfl|hy
      · decide
      · rw [List.mem_singleton.1 hy];decide
    · rw [optL_mem hy];decide
  · unfold optL;split<;>(show _≤1048576;simp)
  · obtain ⟨v,hv,rfl⟩:=List.mem_map.1 hy
    have:=valueB_sz (all_at (P:=fun v=>valueB v=true) (fun i hi=>need_val h hi) v hv)
    exact textTr_fine (by omega)
theorem map_fine {α:Type} [Inhabited α] {f:α→TreeD}{xs:List α} (h:∀ i,i < xs.length→TFine (f (xs.getD i default))):∀ x ∈ xs.map f,TFine x:=fun x hx=>by
  obtain ⟨y,hy,rfl⟩:=List.mem_map.1 hx
  exact all_at (P:=fun y=>TFine (f y)) h y hy
theorem taints_len {ts:List TaintD} (h:taintsB ts=true):ts.length≤4:=by
  unfold taintsB at h
  rw [Bool.and_eq_true] at h
  exact of_decide_eq_true h.1
theorem tolers_len {ts:List TolerD} (h:tolersB ts=true):ts.length≤4:=by
  unfold tolersB at h
  rw [Bool.and_eq_true] at h
  exact of_decide_eq_true h.1
theorem needs_len {ts:List NeedD} (h:needsB ts=true):ts.length≤4:=by
  unfold needsB at h
  rw [Bool.and_eq_true] at h
  exact of_decide_eq_true h.1
theorem agg_tr {n m:Nat}{ks:List ByteArray}{cs:List TreeD}{t:TreeD} (ht:t=mapTr ks cs) (hn:ks.length=n) (hm:cs.length=m):D.agg [.sc (.int .i64 6),.sc (.bool false),.sc (.int .i64 0),.sc (.string ⟨#[]⟩),.sl n (strsD ks),.sl m (treesD cs)] = .agg (treeC t):=by
  subst ht;subst hn;subst hm
  rfl
end Go.Proofs.YtidjjfjhmlndjaaGreatDoor
