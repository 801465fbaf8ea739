/- Cl9 (what is wanted of them). -/
import Derived.Test.YtidjjfjhmlndjaaGreatDoorVCl1
import Derived.Test.YtidjjfjhmlndjaaGreatDoorVAwb
namespace Go.Proofs.YtidjjfjhmlndjaaGreatDoor
open Go.RowKit
set_option linter.unusedVariables false
set_option linter.unusedSimpArgs false
set_option maxRecDepth 100000
set_option maxHeartbeats 1000000
theorem rowD_all {z:List D}{q:D→Bool} (h:z.all q=true):∀ n,(rowD z n).all q=true
  |0=>rfl
  |n+1=>by rw [rowD,List.all_append,h,rowD_all h n];rfl
theorem setL_app:∀ (ds A B:List D),ds.length≤B.length→setL (A++B) A.length ds=A++(ds++B.drop ds.length)
  | [],A,B,_=>by simp [setL]
  |d::ds,A, [],h=>by simp at h
  |d::ds,A,b::B,h=>by
    rw [setL,List.set_append_right _ _ (Nat.le_refl _),Nat.sub_self,List.set_cons_zero]
    have:=setL_app ds (A ++ [d]) B (by simpa using h)
    rw [List.length_append,List.length_singleton,List.append_assoc,List.append_assoc] at this
    simpa using this
/-- A row of which the first k are there, the others zero: the next is stored. -/
theorem mix_set {α:Type} [Inhabited α] {cells:α→List D}{size:Nat} (hs:∀ x,(cells x).length=size) {z:List D} (hz:z.length=size) (xs:List α) (k:Nat) (h:k < xs.length):
    setL (flatD cells (xs.take k)++rowD z (xs.length - k)) (k*size) (cells (xs.getD k default))=flatD cells (xs.take (k+1))++rowD z (xs.length - (k+1)):=by
  have hl:(flatD cells (xs.take k)).length=k*size:=by rw [flat_len hs,List.length_take,Nat.min_eq_left (by omega)]
  have e:xs.length - k=(xs.length - (k+1))+1:=by omega
  have h1:=setL_app (cells (xs.getD k default)) (flatD cells (xs.take k)) (rowD z (xs.length - k)) (by rw [hs,e,rowD,List.length_append,hz];omega)
  rw [hl] at h1
  rw [h1,hs,take_snoc xs k h,flat_snoc,List.append_assoc,e,rowD,← hz,List.drop_left]
theorem mix_zero {α:Type} (cells:α→List D) (z:List D) (xs:List α):flatD cells (xs.take 0)++rowD z (xs.length - 0)=rowD z xs.length:=by rw [List.take_zero,Nat.sub_zero];rfl
theorem mix_all {α:Type} (cells:α→List D) (z:List D) (xs:List α) (k:Nat) (h:xs.length≤k):flatD cells (xs.take k)++rowD z (xs.length - k)=flatD cells xs:=by
  rw [List.take_of_length_le h,Nat.sub_eq_zero_of_le h];simp [rowD]
def strsMix (xs:List ByteArray) (k:Nat):List D:=strsD (xs.take k)++rowD [.sc (.string ⟨#[]⟩)] (xs.length - k)
def oneCell (x:ByteArray):List D:= [.sc (.string x)]
theorem strsD_flat (xs:List ByteArray):strsD xs=flatD oneCell xs:=by unfold strsD flatD oneCell;induction xs with|nil=>rfl|cons x r ih=>simpa using ih
theorem strsMix_zero (xs:List ByteArray):rowD [.sc (.string ⟨#[]⟩)] xs.length=strsMix xs 0:=by unfold strsMix;rw [strsD_flat];exact (mix_zero oneCell _ xs).symm
theorem strsMix_set (xs:List ByteArray) (k:Nat) (h:k < xs.length):setL (strsMix xs k) k [.sc (.string (xs.getD k default))]=strsMix xs (k+1):=by
  unfold strsMix
  rw [strsD_flat,strsD_flat]
  have:=mix_set (cells:=oneCell) (fun _=>rfl) (z:= [.sc (.string ⟨#[]⟩)]) rfl xs k h
  rw [Nat.mul_one] at this
  exact this
theorem strsMix_all (xs:List ByteArray) (k:Nat) (h:xs.length≤k):strsMix xs k=strsD xs:=by unfold strsMix;rw [strsD_flat,strsD_flat];exact mix_all _ _ xs k h
theorem strsMix_len (xs:List ByteArray) (k:Nat) (h:k≤xs.length):(strsMix xs k).length=xs.length:=by
  unfold strsMix
  rw [List.length_append,strsD_len,rowD_len,List.length_take,Nat.min_eq_left h]
  simp;omega
theorem strsMix_rp (xs:List ByteArray) (k:Nat):(strsMix xs k).all D.rp=true:=by unfold strsMix;rw [List.all_append,strsD_rp,rowD_all rfl];rfl
theorem strsMix_in (p:Nat→Bool) (xs:List ByteArray) (k:Nat):(strsMix xs k).all (D.in1 p)=true:=rps_in (strsMix_rp xs k) p
theorem strsMix_ren (f:Nat→Nat) (xs:List ByteArray) (k:Nat):(strsMix xs k).map (D.ren1 f)=strsMix xs k:=rps_ren (strsMix_rp xs k) f
theorem strsMix_frz (i:Nat) (x:Ob) (xs:List ByteArray) (k:Nat):(strsMix xs k).map (D.frz1 i x)=strsMix xs k:=rps_frz (strsMix_rp xs k) i x
theorem strsMix_lt (q:Nat) (xs:List ByteArray) (k:Nat):(strsMix xs k).all (D.lt1 q)=true:=rps_lt (strsMix_rp xs k) q
end Go.Proofs.YtidjjfjhmlndjaaGreatDoor
