/- Ne3 (what is wanted of them). -/
import Derived.Test.YtidjjfjhmlndjaaGreatDoorVNe1
import Derived.Test.YtidjjfjhmlndjaaGreatDoorVDw
import Derived.Test.YtidjjfjhmlndjaaGreatDoorVSox
namespace Go.Proofs.YtidjjfjhmlndjaaGreatDoor
open Go.RowKit
set_option linter.unusedVariables false
set_option linter.unusedSimpArgs false
set_option maxRecDepth 100000
set_option maxHeartbeats 4000000
section
variable {t:TreeD}{p:ByteArray}
theorem listF_len (t:TreeD) (p key:ByteArray):(listF t p key 40).1.length≤40:=by
  unfold listF
  split
  · split
    · split
      · exact Nat.zero_le _
      · show (kidT t key).kids.length≤40
        omega
    · exact Nat.zero_le _
  · exact Nat.zero_le _
theorem listF_fine {t:TreeD} (hf:TFine t) (p key:ByteArray) (m:Int) {x:TreeD} (h:x ∈ (listF t p key m).1):TFine x:=by
  unfold listF at h
  split at h
  · rename_i hh
    split at h
    · split at h
      · cases h
      · exact (hf.of hh).mem h
    · cases h
  · cases h
end
theorem needM_len (t:TreeD) (p:ByteArray):(needM t p).1.values.length≤4:=by
  unfold needM
  repeat' (split;exact Nat.zero_le _)
  show (valsF _).length≤4
  omega
theorem pathP_sz {p:ByteArray}{i:Nat} (h:i≤1048576):(pathP p (i:Int)).size≤p.size+21:=by
  unfold pathP
  have h2:=itoaN_sz (n:=i) (by omega)
  rw [ByteArray.size_append,ByteArray.size_append,ByteArray.size_append,ba_len]
  show p.size+1+_+1≤_
  omega
structure NdE (p:ByteArray) (l:List TreeD) (i:Nat) (o:List NeedD):Prop where
  r1:o++(needsE p i (l.drop i)).1=(needsE p 0 l).1
  r2:(needsE p i (l.drop i)).2=(needsE p 0 l).2
  len:o.length=i
  vals:∀ k,(o.getD k default).values.length≤4
section
variable {p:ByteArray}{l:List TreeD}{i:Nat}{o:List NeedD}
theorem NdE.go (h:NdE p l i o) (hi:i < l.length) (hc:(needM (l.getD i default) (pathP p (i:Int))).2.code=0):NdE p l (i+1) (o ++ [(needM (l.getD i default) (pathP p (i:Int))).1]):=by
  have e1:=h.r1
  have e2:=h.r2
  rw [getD_drop l hi,needsE,if_pos hc] at e1 e2
  refine ⟨by rw [List.append_assoc];exact e1,e2,by rw [List.length_append,h.len];rfl,fun k=>?_⟩
  rw [List.getD_eq_getElem?_getD,List.getElem?_append]
  split
  · rw [← List.getD_eq_getElem?_getD];exact h.vals k
  · cases hk: [(needM (l.getD i default) (pathP p (i:Int))).1][k - o.length]? with
    |none=>exact Nat.zero_le _
    |some x=>
      have:=List.mem_of_getElem? hk
      rw [List.mem_singleton] at this
      subst this
      exact needM_len _ _
theorem NdE.flt (h:NdE p l i o) (hi:i < l.length) (hc:¬ (needM (l.getD i default) (pathP p (i:Int))).2.code=0):needsR l p=([],(needM (l.getD i default) (pathP p (i:Int))).2):=by
  have e2:=h.r2
  rw [getD_drop l hi,needsE,if_neg hc] at e2
  unfold needsR
  rw [← e2,if_neg hc]
theorem NdE.fin (h:NdE p l i o) (hi:l.length≤i):needsR l p=if (srtNed o).2=true then ((srtNed o).1,noF) else ([],fltF 16 p):=by
  have e1:=h.r1
  have e2:=h.r2
  rw [List.drop_of_length_le hi,needsE] at e1 e2
  rw [List.append_nil] at e1
  unfold needsR
  rw [← e2,if_pos noF_code,← e1]
theorem NdE.no (h:NdE p l i o) (hi:l.length≤i) (hs:(srtNed o).2=false):needsR l p=([],fltF 16 p):=by rw [h.fin hi,if_neg (by rw [hs];decide)]
theorem NdE.yes (h:NdE p l i o) (hi:l.length≤i) (hs:(srtNed o).2=true):needsR l p=((srtNed o).1,noF):=by rw [h.fin hi,if_pos hs]
end
end Go.Proofs.YtidjjfjhmlndjaaGreatDoor
