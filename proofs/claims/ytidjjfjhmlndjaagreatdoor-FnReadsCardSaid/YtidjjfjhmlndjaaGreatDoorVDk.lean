/- Dk, Sox (what is wanted of them). -/
import Derived.Test.YtidjjfjhmlndjaaGreatDoorVClx
import Derived.Test.YtidjjfjhmlndjaaGreatDoorVCl6
import Derived.Test.YtidjjfjhmlndjaaGreatDoorVCl3
namespace Go.Proofs.YtidjjfjhmlndjaaGreatDoor
open Go.RowKit
structure FileD.fine (f:FileD):Prop where
  n:f.name.size≤1048576
  t:f.text.size≤1048576
  lo:-9223372036854775808≤f.synced
  hi:f.synced≤9223372036854775807
/-- A disk that fits. -/
structure DiskF (fs:List FileD):Prop where
  len:fs.length≤1048580
  f:∀ k,(fs.getD k default).fine
theorem DiskF.mem {fs:List FileD} (h:DiskF fs):∀ f ∈ fs,f.fine:=fun f hf=>by
  obtain ⟨k,hk,rfl⟩:=List.getElem_of_mem hf
  have:=h.f k
  rwa [List.getD_eq_getElem?_getD,List.getElem?_eq_getElem hk] at this
theorem getD_drop {α:Type} [Inhabited α] (fs:List α) {k:Nat} (h:k < fs.length):fs.drop k=fs.getD k default::fs.drop (k+1):=by
  rw [List.drop_eq_getElem_cons h]
  simp [h]
theorem less_irr:∀ (l:List UInt8),Op.bytesLess l l=false
  | []=>rfl
  |a::l=>by simp [Op.bytesLess,less_irr l]
theorem lessB_irr (a:ByteArray):lessB a a=false:=less_irr _
theorem less_tr:∀ (a b c:List UInt8),Op.bytesLess a b=true→Op.bytesLess b c=true→Op.bytesLess a c=true
  | [], [],_,h,_=>by simp [Op.bytesLess] at h
  |_::_, [],_,h,_=>by simp [Op.bytesLess] at h
  |_,_::_, [],_,h=>by simp [Op.bytesLess] at h
  | [],_::_,_::_,_,_=>by simp [Op.bytesLess]
  |a::x,b::y,c::z,h1,h2=>by
    simp only [Op.bytesLess,Bool.or_eq_true,Bool.and_eq_true,decide_eq_true_eq,beq_iff_eq] at h1 h2 ⊢
    rcases h1 with h1|⟨h1,h3⟩
    · rcases h2 with h2|⟨h2,_⟩
      · left
        have e1:a.toNat < b.toNat:=h1
        have e2:b.toNat < c.toNat:=h2
        show a.toNat < c.toNat
        omega
      · subst h2;exact .inl h1
    · subst h1
      rcases h2 with h2|⟨h2,h4⟩
      · exact .inl h2
      · exact .inr ⟨h2,less_tr x y z h3 h4⟩
theorem lessB_tr {a b c:ByteArray} (h1:lessB a b=true) (h2:lessB b c=true):lessB a c=true:=less_tr _ _ _ h1 h2
theorem eqB_eq {a b:ByteArray} (h:eqB a b=true):a=b:=by
  unfold eqB at h
  have e:=beq_iff_eq.1 h
  rw [ByteArray.toList_eq,ByteArray.toList_eq] at e
  exact ByteArray.ext (Array.toList_inj.1 e)
theorem less_tri:∀ (a b:List UInt8),Op.bytesLess a b=false→a≠b→Op.bytesLess b a=true
  | [], [],_,h=>absurd rfl h
  | [],_::_,h,_=>by simp [Op.bytesLess] at h
  |_::_, [],_,_=>by simp [Op.bytesLess]
  |a::xs,b::ys,h,hne=>by
    simp only [Op.bytesLess,Bool.or_eq_false_iff,Bool.and_eq_false_iff,decide_eq_false_iff_not,Bool.or_eq_true,Bool.and_eq_true,decide_eq_true_eq,beq_iff_eq,beq_eq_false_iff_ne] at h ⊢
    obtain ⟨h1,h2⟩:=h
    by_cases he:a=b
    · subst he
      refine .inr ⟨rfl,less_tri xs ys (by rcases h2 with h2|h2;exact absurd rfl h2;exact h2) fun e=>hne (by rw [e])⟩
    · left
      have h3:¬ a.toNat < b.toNat:=h1
      have h4:a.toNat≠b.toNat:=fun e=>he (UInt8.toNat_inj.1 e)
      show b.toNat < a.toNat
      omega
theorem lessB_tri {a b:ByteArray} (h:lessB a b=false) (hne:eqB a b=false):lessB b a=true:=
  less_tri _ _ h (by unfold eqB at hne;simpa using hne)
/-- The disk and no more than one file more. -/
structure DiskG (fs gs:List FileD):Prop where
  f:DiskF gs
  len:gs.length≤fs.length∨gs.length≤5
theorem DiskG.trans {a b c:List FileD} (h:DiskG a b) (k:DiskG b c):DiskG a c:=⟨k.f,by rcases k.len with h1|h1<;>rcases h.len with h2|h2<;>first|(left;omega)|(right;omega)⟩
end Go.Proofs.YtidjjfjhmlndjaaGreatDoor
namespace Go.Proofs.YtidjjfjhmlndjaaGreatDoor
open Go.RowKit
theorem lessB_asym {a b:ByteArray} (h:lessB a b=true):lessB b a=false:=by
  cases h2:lessB b a with
  |false=>rfl
  |true=>have:=lessB_tr h h2;rw [lessB_irr] at this;cases this
theorem cmpB_neg (a b:ByteArray):cmpB b a=-cmpB a b:=by
  rw [cmpB_if,cmpB_if a b]
  cases h1:lessB a b with
  |true=>rw [lessB_asym h1];rfl
  |false=>cases h2:lessB b a<;>rfl
theorem cmpI_neg (a b:Int):cmpI b a=-cmpI a b:=by
  unfold cmpI
  split<;>split<;>(try split)<;>omega
theorem cmpVals_neg:∀ a b:List ByteArray,cmpVals b a=-cmpVals a b
  | [], []=>rfl
  | [],_::_=>rfl
  |_::_, []=>rfl
  |x::r,y::q=>by
    unfold cmpVals
    rw [cmpB_neg x y,cmpVals_neg r q]
    by_cases h:cmpB x y=0
    · simp [h]
    · have h2:¬ -cmpB x y=0:=by omega
      simp [h,h2]
theorem cmpNeed_neg (a b:NeedD):cmpNeed b a=-cmpNeed a b:=by
  unfold cmpNeed
  rw [or3_eq,or3_eq,cmpB_neg a.key b.key,cmpI_neg a.op b.op,cmpVals_neg a.values b.values]
  by_cases h:cmpB a.key b.key=0
  · by_cases h2:cmpI a.op b.op=0
    · simp [h,h2]
    · have h3:¬ -cmpI a.op b.op=0:=by omega
      simp [h,h2,h3]
  · have h2:¬ -cmpB a.key b.key=0:=by omega
    simp [h,h2]
/-- Needs are the same where neither comes ahead of the other. -/
def needSame (a b:NeedD):Bool:=!needLess a b&&!needLess b a
theorem cmpNeed_0 (a b:NeedD):(cmpNeed a b==0)=needSame a b:=by
  unfold needSame
  rw [← cmpNeed_lt a b,← cmpNeed_lt b a,cmpNeed_neg a b]
  generalize cmpNeed a b=c
  rw [Bool.eq_iff_iff]
  simp only [beq_iff_eq,Bool.and_eq_true,Bool.not_eq_true',decide_eq_false_iff_not]
  omega
/-- Two rows of a length, same place by place. -/
def sameRow {α:Type} [Inhabited α] (p:α→α→Bool) (a b:List α):Bool:=decide (a.length=b.length)&&allB a.length fun k=>p (a.getD k default) (b.getD k default)
theorem same_no {α:Type} [Inhabited α] {p:α→α→Bool}{a b:List α} (h:¬ a.length=b.length):sameRow p a b=false:=by unfold sameRow;rw [decide_eq_false h];rfl
theorem same_at {α:Type} [Inhabited α] {p:α→α→Bool}{a b:List α}{k:Nat} (hk:k < a.length) (h:p (a.getD k default) (b.getD k default)=false):sameRow p a b=false:=by unfold sameRow;rw [allN_no hk h,Bool.and_false]
theorem same_yes {α:Type} [Inhabited α] {p:α→α→Bool}{a b:List α}{k:Nat} (hl:a.length=b.length) (hk:a.length≤k) (h:∀ j:Nat,j < k→p (a.getD j default) (b.getD j default)=true):sameRow p a b=true:=by unfold sameRow;rw [allN_yes hk h,decide_eq_true hl];rfl
def labelSame (a b:LabelD):Bool:=eqB a.key b.key&&eqB a.value b.value
def taintSame (a b:TaintD):Bool:=eqB a.key b.key&&(eqB a.value b.value&&(a.effect==b.effect))
def tolerSame (a b:TolerD):Bool:=eqB a.key b.key&&((a.equal==b.equal)&&(eqB a.value b.value&&(a.effect==b.effect)))
def podSame (a b:PodD):Bool:=eqB a.name b.name&&(sameRow labelSame a.labels b.labels&&((a.cpu==b.cpu)&&((a.mem==b.mem)&&((a.rank==b.rank)&&(sameRow needSame a.needs b.needs&&sameRow tolerSame a.tolers b.tolers)))))
def hostSame (a b:HostD):Bool:=eqB a.name b.name&&(sameRow labelSame a.labels b.labels&&((a.cpu==b.cpu)&&((a.mem==b.mem)&&((a.slots==b.slots)&&sameRow taintSame a.taints b.taints))))
end Go.Proofs.YtidjjfjhmlndjaaGreatDoor
namespace Go.Proofs.YtidjjfjhmlndjaaGreatDoor
open Go.RowKit
/-- The same; what is there already is not laid again. -/
def insD {α:Type} (b s:α→α→Bool) (x:α):List α→List α
  | []=> [x]
  |y::r=>if b y x=true then y::insD b s x r else if s y x=true then y::r else x::y::r
theorem insD_len {α:Type} (b s:α→α→Bool) (x:α):∀ o:List α,(insD b s x o).length≤o.length+1
  | []=>Nat.le_refl _
  |y::r=>by
    have:=insD_len b s x r
    unfold insD
    split
    · simp only [List.length_cons];omega
    · split<;>simp
/-- All of a row, one behind the other. -/
def foldTo {α:Type} (ins:α→List α→List α) (xs:List α) (k:Nat):List α:=(xs.take k).foldl (fun o x=>ins x o) []
theorem fold_succ {α:Type} [Inhabited α] (ins:α→List α→List α) (xs:List α) {k:Nat} (h:k < xs.length):foldTo ins xs (k+1)=ins (xs.getD k default) (foldTo ins xs k):=by
  unfold foldTo
  rw [take_snoc xs k h,List.foldl_append]
  rfl
theorem fold_all {α:Type} (ins:α→List α→List α) (xs:List α) {k:Nat} (h:xs.length≤k):foldTo ins xs k=xs.foldl (fun o x=>ins x o) []:=by
  unfold foldTo
  rw [List.take_of_length_le h]
theorem fold_len {α:Type} [Inhabited α] {ins:α→List α→List α} (hi:∀ x o,(ins x o).length≤o.length+1) (xs:List α):∀ k,k≤xs.length→(foldTo ins xs k).length≤k
  |0,_=>Nat.le_refl _
  |k+1,h=>by
    rw [fold_succ ins xs (by omega)]
    have h1:=hi (xs.getD k default) (foldTo ins xs k)
    have h2:=fold_len hi xs k (by omega)
    omega
def insTnt (x:TaintD) (o:List TaintD):List TaintD:=insD taintLess taintSame x o
def insTol (x:TolerD) (o:List TolerD):List TolerD:=insD tolerLess tolerSame x o
def insVal (x:ByteArray) (o:List ByteArray):List ByteArray:=insD lessB eqB x o
def valsF (vs:List ByteArray):List ByteArray:=vs.foldl (fun o x=>insVal x o) []
def needN (n:NeedD):NeedD:=⟨n.key,n.op,valsF n.values⟩
def needS (a b:NeedD):Bool:=!needLess b a
def insNed (x:NeedD) (o:List NeedD):List NeedD:=insD needLess needS (needN x) o
def srtTnt (ls:List TaintD):List TaintD × Bool:=if 40 < ls.length then (ls,false) else if taintsB (ls.foldl (fun o x=>insTnt x o) [])=true then (ls.foldl (fun o x=>insTnt x o) [],true) else (ls,false)
def srtTol (ls:List TolerD):List TolerD × Bool:=if 40 < ls.length then (ls,false) else if tolersB (ls.foldl (fun o x=>insTol x o) [])=true then (ls.foldl (fun o x=>insTol x o) [],true) else (ls,false)
def srtNed (ls:List NeedD):List NeedD × Bool:=if 40 < ls.length∨(ls.any fun n=>decide (40 < n.values.length))=true then (ls,false) else if needsB (ls.foldl (fun o x=>insNed x o) [])=true then (ls.foldl (fun o x=>insNed x o) [],true) else (ls,false)
end Go.Proofs.YtidjjfjhmlndjaaGreatDoor
namespace Go.Proofs.YtidjjfjhmlndjaaGreatDoor
open Go.RowKit
set_option linter.unusedVariables false
set_option linter.unusedSimpArgs false
section
variable {α:Type} [Inhabited α] {b s:α→α→Bool}{nf:α→α}{ls o a c:List α}{i j:Nat}
end
end Go.Proofs.YtidjjfjhmlndjaaGreatDoor
namespace Go.Proofs.YtidjjfjhmlndjaaGreatDoor
open Go.RowKit
/-- A strict order in which any two things are the same, or one is less. -/
structure STO {α:Type} (lt:α→α→Bool):Prop where
  irr:∀ a,lt a a=false
  tr:∀ a b c,lt a b=true→lt b c=true→lt a c=true
  tri:∀ a b,lt a b=false→lt b a=false→a=b
theorem STO.asym {α:Type}{lt:α→α→Bool} (h:STO lt) {a b:α} (k:lt a b=true):lt b a=false:=by
  cases e:lt b a with
  |false=>rfl
  |true=>have:=h.tr a b a k e;rw [h.irr] at this;cases this
theorem STO.neg {α:Type}{lt:α→α→Bool} (h:STO lt) {a b c:α} (h1:lt a b=false) (h2:lt b c=false):lt a c=false:=by
  cases e:lt a c with
  |false=>rfl
  |true=>
    cases e2:lt c b with
    |true=>have:=h.tr a c b e e2;rw [h1] at this;cases this
    |false=>have:=h.tri b c h2 e2;subst this;rw [h1] at e;cases e
theorem lessB_sto : STO lessB := ⟨lessB_irr, fun _ _ _ => lessB_tr, fun a b h1 h2 => by
  cases e:eqB a b with
  |true=>exact eqB_eq e
  | false => have := lessB_tri h1 e; rw [h2] at this; cases this⟩
theorem eqB_refl' (a:ByteArray):eqB a a=true:=by unfold eqB;exact beq_self_eq_true _
theorem eqB_nq {a b:ByteArray} (h:eqB a b=false):a≠b:=fun e=>by subst e;rw [eqB_refl'] at h;cases h
theorem valsLess_irr:∀ a:List ByteArray,valsLess a a=false
  | []=>rfl
  |x::r=>by rw [valsLess,if_pos (eqB_refl' x)];exact valsLess_irr r
theorem valsLess_tr:∀ a b c:List ByteArray,valsLess a b=true→valsLess b c=true→valsLess a c=true
  | [], [],_,h1,_=>by cases h1
  | [],_::_, [],_,h2=>by cases h2
  | [],_::_,_::_,_,_=>rfl
  |_::_, [],_,h1,_=>by cases h1
  |x::r,y::q, [],_,h2=>by cases h2
  |x::r,y::q,z::p,h1,h2=>by
    rw [valsLess] at h1 h2 ⊢
    cases e1:eqB x y with
    |true=>
      obtain rfl:=eqB_eq e1
      rw [if_pos e1] at h1
      cases e2:eqB x z with
      |true=>rw [if_pos e2] at h2;rw [if_pos rfl];exact valsLess_tr r q p h1 h2
      |false=>rw [if_neg (by rw [e2];decide)] at h2;rw [if_neg (by decide)];exact h2
    |false=>
      rw [if_neg (by rw [e1];decide)] at h1
      cases e2:eqB y z with
      |true=>
        obtain rfl:=eqB_eq e2
        rw [if_neg (by rw [e1];decide)]
        exact h1
      |false=>
        rw [if_neg (by rw [e2];decide)] at h2
        have h3:=lessB_tr h1 h2
        cases e3:eqB x z with
        |true=>obtain rfl:=eqB_eq e3;rw [lessB_irr] at h3;cases h3
        |false=>rw [if_neg (by decide)];exact h3
theorem valsLess_tri:∀ a b:List ByteArray,valsLess a b=false→valsLess b a=false→a=b
  | [], [],_,_=>rfl
  | [],_::_,h1,_=>by cases h1
  |_::_, [],_,h2=>by cases h2
  |x::r,y::q,h1,h2=>by
    rw [valsLess] at h1 h2
    cases e:eqB x y with
    |true=>
      obtain rfl:=eqB_eq e
      rw [if_pos e] at h1 h2
      rw [valsLess_tri r q h1 h2]
    |false=>
      have e':eqB y x=false:=by
        cases e2:eqB y x with
        |false=>rfl
        |true=>obtain rfl:=eqB_eq e2;rw [eqB_refl'] at e;cases e
      rw [if_neg (by rw [e];decide)] at h1
      rw [if_neg (by rw [e'];decide)] at h2
      exact absurd (lessB_sto.tri x y h1 h2) (eqB_nq e)
theorem valsLess_sto:STO valsLess:=⟨valsLess_irr,valsLess_tr,valsLess_tri⟩
/-- By a first thing, then by a second one. -/
theorem STO.lex {α β γ:Type}{l1:β→β→Bool}{l2:γ→γ→Bool} (h1:STO l1) (h2:STO l2) (f:α→β) (g:α→γ) (hfg:∀ a b,f a=f b→g a=g b→a=b) {lt:α→α→Bool} (e:∀ a b,lt a b=true↔(l1 (f a) (f b)=true∨(f a=f b∧l2 (g a) (g b)=true))):STO lt:=by
  have no:∀ a b,lt a b=false→l1 (f a) (f b)=false∧(f a=f b→l2 (g a) (g b)=false):=fun a b h=>by
    have hn:¬ (l1 (f a) (f b)=true∨(f a=f b∧l2 (g a) (g b)=true)):=fun k=>by rw [(e a b).2 k] at h;cases h
    exact ⟨Bool.eq_false_iff.2 fun k=>hn (.inl k),fun q=>Bool.eq_false_iff.2 fun k=>hn (.inr ⟨q,k⟩)⟩
  refine ⟨fun a=>?_,fun a b c hab hbc=>?_,fun a b hab hba=>?_⟩
  · rw [Bool.eq_false_iff]
    intro k
    rcases (e a a).1 k with k|⟨_,k⟩
    · rw [h1.irr] at k;cases k
    · rw [h2.irr] at k;cases k
  · rw [e] at hab hbc ⊢
    rcases hab with p|⟨p,p2⟩
    · rcases hbc with q|⟨q,_⟩
      · exact .inl (h1.tr _ _ _ p q)
      · rw [← q];exact .inl p
    · rcases hbc with q|⟨q,q2⟩
      · rw [p];exact .inl q
      · exact .inr ⟨p.trans q,h2.tr _ _ _ p2 q2⟩
  · obtain ⟨p1,p2⟩:=no a b hab
    obtain ⟨q1,q2⟩:=no b a hba
    have hf:=h1.tri _ _ p1 q1
    exact hfg a b hf (h2.tri _ _ (p2 hf) (q2 hf.symm))
def intLess (a b:Int):Bool:=decide (a < b)
theorem intLess_sto:STO intLess:=⟨fun a=>by unfold intLess;simp,fun a b c h1 h2=>by unfold intLess at *;simp at *;omega,fun a b h1 h2=>by unfold intLess at *;simp at *;omega⟩
def opvLess (a b:Int × List ByteArray):Bool:=if a.1==b.1 then valsLess a.2 b.2 else decide (a.1 < b.1)
theorem opvLess_sto:STO opvLess:=intLess_sto.lex valsLess_sto Prod.fst Prod.snd (fun a b h1 h2=>Prod.ext h1 h2) fun a b=>by
  unfold opvLess intLess
  by_cases h:a.1=b.1
  · rw [if_pos (by simpa using h),h];simp
  · rw [if_neg (by simpa using h)];simp [h]
theorem needLess_sto : STO needLess := lessB_sto.lex opvLess_sto NeedD.key (fun n => (n.op, n.values)) (fun a b h1 h2 => by
  obtain ⟨k,o,v⟩:=a
  obtain ⟨k',o',v'⟩:=b
  injection h2 with h2 h3
  subst h1;subst h2;subst h3
  rfl) fun a b => by
  unfold needLess opvLess
  cases h:eqB a.key b.key with
  |true=>
    have h':=eqB_eq h
    rw [if_pos rfl,h',lessB_irr]
    simp
  |false=>
    rw [if_neg (by decide)]
    simp [eqB_nq h]
def SSor {α:Type} (lt:α→α→Bool) (l:List α):Prop:=l.Pairwise fun a b=>lt a b=true
theorem ssor_eq {α:Type}{lt:α→α→Bool} (h:STO lt):∀ {a b:List α},SSor lt a→SSor lt b→(∀ x,x ∈ a↔x ∈ b)→a=b
  | [], [],_,_,_=>rfl
  | [],y::q,_,_,hm=>by have:=(hm y).2 (List.mem_cons_self ..);cases this
  |x::r, [],_,_,hm=>by have:=(hm x).1 (List.mem_cons_self ..);cases this
  |x::r,y::q,ha,hb,hm=>by
    have ha':=List.pairwise_cons.1 ha
    have hb':=List.pairwise_cons.1 hb
    have e:x=y:=by
      rcases List.mem_cons.1 ((hm x).1 (List.mem_cons_self ..)) with e|e
      · exact e
      · rcases List.mem_cons.1 ((hm y).2 (List.mem_cons_self ..)) with e2|e2
        · exact e2.symm
        · have h1:=hb'.1 x e
          have h2:=ha'.1 y e2
          rw [h.asym h1] at h2
          cases h2
    subst e
    congr 1
    refine ssor_eq h ha'.2 hb'.2 fun z=>⟨fun hz=>?_,fun hz=>?_⟩
    · rcases List.mem_cons.1 ((hm z).1 (List.mem_cons_of_mem _ hz)) with e|e
      · subst e
        have:=ha'.1 _ hz
        rw [h.irr] at this;cases this
      · exact e
    · rcases List.mem_cons.1 ((hm z).2 (List.mem_cons_of_mem _ hz)) with e|e
      · subst e
        have:=hb'.1 _ hz
        rw [h.irr] at this;cases this
      · exact e
theorem insD_ok {α:Type}{lt s:α→α→Bool} (h:STO lt) (hs:∀ y x,lt y x=false→(s y x=true↔y=x)) (x:α):∀ {o:List α},SSor lt o→SSor lt (insD lt s x o)∧∀ z,z ∈ insD lt s x o↔z=x∨z ∈ o
  | [],_=>⟨List.pairwise_singleton _ _,fun z=>by simp [insD]⟩
  |y::r,ho=>by
    have ho':=List.pairwise_cons.1 ho
    obtain ⟨h1,h2⟩:=insD_ok h hs x ho'.2
    unfold insD
    split
    · rename_i hyx
      refine ⟨List.pairwise_cons.2 ⟨fun z hz=>?_,h1⟩,fun z=>?_⟩
      · rcases (h2 z).1 hz with e|e
        · subst e;exact hyx
        · exact ho'.1 z e
      · rw [List.mem_cons,h2,List.mem_cons]
        constructor<;>(rintro (e|e|e)<;>simp [e])
    · rename_i hyx
      have hyx':lt y x=false:=Bool.eq_false_iff.2 hyx
      split
      · rename_i hsy
        have e:=(hs y x hyx').1 hsy
        subst e
        exact ⟨ho,fun z=>by rw [List.mem_cons];constructor<;>(rintro e<;>simp_all)⟩
      · rename_i hsy
        have hxy:lt x y=true:=by
          cases e:lt x y with
          |true=>rfl
          |false=>exact absurd ((hs y x hyx').2 (h.tri y x hyx' e)) hsy
        refine ⟨List.pairwise_cons.2 ⟨fun z hz=>?_,ho⟩,fun z=>by rw [List.mem_cons]⟩
        rcases List.mem_cons.1 hz with e|e
        · subst e;exact hxy
        · exact h.tr _ _ _ hxy (ho'.1 z e)
theorem foldD_ok {α:Type}{lt s:α→α→Bool} (h:STO lt) (hs:∀ y x,lt y x=false→(s y x=true↔y=x)) (nf:α→α):∀ (xs o:List α),SSor lt o→SSor lt (xs.foldl (fun o x=>insD lt s (nf x) o) o)∧∀ z,z ∈ xs.foldl (fun o x=>insD lt s (nf x) o) o↔(∃ x ∈ xs,z=nf x)∨z ∈ o
  | [],o,ho=>⟨ho,fun z=>by simp⟩
  |x::r,o,ho=>by
    obtain ⟨h1,h2⟩:=insD_ok h hs (nf x) ho
    obtain ⟨h3,h4⟩:=foldD_ok h hs nf r _ h1
    refine ⟨h3,fun z=>?_⟩
    rw [List.foldl_cons,h4,h2]
    simp only [List.mem_cons]
    constructor
    · rintro (⟨y,hy,e⟩|e|e)
      · exact .inl ⟨y,.inr hy,e⟩
      · exact .inl ⟨x,.inl rfl,e⟩
      · exact .inr e
    · rintro (⟨y,hy|hy,e⟩|e)
      · subst hy;exact .inr (.inl e)
      · exact .inl ⟨y,hy,e⟩
      · exact .inr (.inr e)
def cptG {α:Type} (s:α→α→Bool):α→List α→List α
  |_, []=> []
  |p,y::r=>if s y p=true then cptG s y r else y::cptG s y r
def cptL {α:Type} (s:α→α→Bool):List α→List α
  | []=> []
  |x::r=>x::cptG s x r
theorem cptG_ok {α:Type}{lt s:α→α→Bool} (h:STO lt) (hs:∀ a b,s a b=true↔a=b):∀ {p:α}{l:List α},(p::l).Pairwise (fun a b=>lt b a=false)→SSor lt (p::cptG s p l)∧∀ z,z ∈ p::cptG s p l↔z ∈ p::l
  |p, [],_=>⟨List.pairwise_singleton _ _,fun z=>Iff.rfl⟩
  |p,y::r,hp=>by
    have hp':=List.pairwise_cons.1 hp
    obtain ⟨h1,h2⟩:=cptG_ok h hs hp'.2
    unfold cptG
    split
    · rename_i e
      have e:=(hs y p).1 e
      subst e
      exact ⟨h1,fun z=>by rw [h2];simp⟩
    · rename_i e
      have hne:y≠p:=fun k=>e ((hs y p).2 k)
      have hlt:lt p y=true:=by
        cases e2:lt p y with
        |true=>rfl
        |false=>exact absurd (h.tri p y e2 (hp'.1 y (List.mem_cons_self ..))).symm hne
      refine ⟨List.pairwise_cons.2 ⟨fun z hz=>?_,h1⟩,fun z=>by rw [List.mem_cons,h2,List.mem_cons (a:=z) (b:=p)]⟩
      rcases List.mem_cons.1 hz with k|k
      · subst k;exact hlt
      · exact h.tr _ _ _ hlt ((List.pairwise_cons.1 h1).1 z k)
/-- Sorted, then each thing once: as if each had been laid at its place. -/
theorem cpt_fold {α:Type}{lt s e:α→α→Bool} (h:STO lt) (hs:∀ y x,lt y x=false→(s y x=true↔y=x)) (he:∀ a b,e a b=true↔a=b) (nf:α→α) {xs ys:List α} (hp:ys.Perm (xs.map nf)) (hy:ys.Pairwise fun a b=>lt b a=false):cptL e ys=xs.foldl (fun o x=>insD lt s (nf x) o) []:=by
  obtain ⟨h1,h2⟩:=foldD_ok h hs nf xs [] List.Pairwise.nil
  have h3:∀ z,z ∈ ys↔∃ x ∈ xs,z=nf x:=fun z=>by rw [hp.mem_iff,List.mem_map];constructor<;>(rintro ⟨x,hx,e⟩;exact ⟨x,hx,e.symm⟩)
  match ys,hy,h3 with
  | [],_,h3=>exact ssor_eq h List.Pairwise.nil h1 fun z=>⟨fun hz=>(by cases hz),fun hz=>((h2 z).1 hz).elim (fun k=>(h3 z).2 k) fun k=>k⟩
  |p::l,hy,h3=>
    obtain ⟨h4,h5⟩:=cptG_ok h he hy
    exact ssor_eq h h4 h1 fun z=>by
      show z ∈ p::cptG e p l↔_
      rw [h5,h2,h3];simp
theorem needS_iff (y x:NeedD) (h:needLess y x=false):needS y x=true↔y=x:=by
  unfold needS
  constructor
  · intro k
    exact needLess_sto.tri y x h (by simpa using k)
  · intro k
    subst k
    rw [needLess_sto.irr];rfl
end Go.Proofs.YtidjjfjhmlndjaaGreatDoor
