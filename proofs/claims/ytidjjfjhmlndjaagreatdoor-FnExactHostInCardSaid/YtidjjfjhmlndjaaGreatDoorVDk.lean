/- Dk (what is wanted of them). -/
import Derived.Test.YtidjjfjhmlndjaaGreatDoorVClx
namespace Go.Proofs.YtidjjfjhmlndjaaGreatDoor
open Go.RowKit
structure FileD.fine (f:FileD):Prop where
  n:f.name.size≤1048576
  t:f.text.size≤1048576
  lo:-9223372036854775808≤f.synced
  hi:f.synced≤9223372036854775807
/-- A disk that fits. -/
structure DiskF (fs:List FileD):Prop where
  len:fs.length≤1048580
  f:∀ k,(fs.getD k default).fine
theorem DiskF.mem {fs:List FileD} (h:DiskF fs):∀ f ∈ fs,f.fine:=fun f hf=>by
  obtain ⟨k,hk,rfl⟩:=List.getElem_of_mem hf
  have:=h.f k
  rwa [List.getD_eq_getElem?_getD,List.getElem?_eq_getElem hk] at this
theorem getD_drop {α:Type} [Inhabited α] (fs:List α) {k:Nat} (h:k < fs.length):fs.drop k=fs.getD k default::fs.drop (k+1):=by
  rw [List.drop_eq_getElem_cons h]
  simp [h]
theorem less_irr:∀ (l:List UInt8),Op.bytesLess l l=false
  | []=>rfl
  |a::l=>by simp [Op.bytesLess,less_irr l]
theorem lessB_irr (a:ByteArray):lessB a a=false:=less_irr _
theorem less_tr:∀ (a b c:List UInt8),Op.bytesLess a b=true→Op.bytesLess b c=true→Op.bytesLess a c=true
  | [], [],_,h,_=>by simp [Op.bytesLess] at h
  |_::_, [],_,h,_=>by simp [Op.bytesLess] at h
  |_,_::_, [],_,h=>by simp [Op.bytesLess] at h
  | [],_::_,_::_,_,_=>by simp [Op.bytesLess]
  |a::x,b::y,c::z,h1,h2=>by
    simp only [Op.bytesLess,Bool.or_eq_true,Bool.and_eq_true,decide_eq_true_eq,beq_iff_eq] at h1 h2 ⊢
    rcases h1 with h1|⟨h1,h3⟩
    · rcases h2 with h2|⟨h2,_⟩
      · left
        have e1:a.toNat < b.toNat:=h1
        have e2:b.toNat < c.toNat:=h2
        show a.toNat < c.toNat
        omega
      · subst h2;exact .inl h1
    · subst h1
      rcases h2 with h2|⟨h2,h4⟩
      · exact .inl h2
      · exact .inr ⟨h2,less_tr x y z h3 h4⟩
theorem lessB_tr {a b c:ByteArray} (h1:lessB a b=true) (h2:lessB b c=true):lessB a c=true:=less_tr _ _ _ h1 h2
theorem eqB_eq {a b:ByteArray} (h:eqB a b=true):a=b:=by
  unfold eqB at h
  have e:=beq_iff_eq.1 h
  rw [ByteArray.toList_eq,ByteArray.toList_eq] at e
  exact ByteArray.ext (Array.toList_inj.1 e)
theorem less_tri:∀ (a b:List UInt8),Op.bytesLess a b=false→a≠b→Op.bytesLess b a=true
  | [], [],_,h=>absurd rfl h
  | [],_::_,h,_=>by simp [Op.bytesLess] at h
  |_::_, [],_,_=>by simp [Op.bytesLess]
  |a::xs,b::ys,h,hne=>by
    simp only [Op.bytesLess,Bool.or_eq_false_iff,Bool.and_eq_false_iff,decide_eq_false_iff_not,Bool.or_eq_true,Bool.and_eq_true,decide_eq_true_eq,beq_iff_eq,beq_eq_false_iff_ne] at h ⊢
    obtain ⟨h1,h2⟩:=h
    by_cases he:a=b
    · subst he
      refine .inr ⟨rfl,less_tri xs ys (by rcases h2 with h2|h2;exact absurd rfl h2;exact h2) fun e=>hne (by rw [e])⟩
    · left
      have h3:¬ a.toNat < b.toNat:=h1
      have h4:a.toNat≠b.toNat:=fun e=>he (UInt8.toNat_inj.1 e)
      show b.toNat < a.toNat
      omega
theorem lessB_tri {a b:ByteArray} (h:lessB a b=false) (hne:eqB a b=false):lessB b a=true:=
  less_tri _ _ h (by unfold eqB at hne;simpa using hne)
/-- The disk and no more than one file more. -/
structure DiskG (fs gs:List FileD):Prop where
  f:DiskF gs
  len:gs.length≤fs.length∨gs.length≤5
theorem DiskG.trans {a b c:List FileD} (h:DiskG a b) (k:DiskG b c):DiskG a c:=⟨k.f,by rcases k.len with h1|h1<;>rcases h.len with h2|h2<;>first|(left;omega)|(right;omega)⟩
end Go.Proofs.YtidjjfjhmlndjaaGreatDoor
