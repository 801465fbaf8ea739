/- Sox (what is wanted of them). -/
import Derived.Test.YtidjjfjhmlndjaaGreatDoorVDk
import Derived.Test.YtidjjfjhmlndjaaGreatDoorVCl6
import Derived.Test.YtidjjfjhmlndjaaGreatDoorVDw
namespace Go.Proofs.YtidjjfjhmlndjaaGreatDoor
open Go.RowKit
def taintSame (a b:TaintD):Bool:=eqB a.key b.key&&(eqB a.value b.value&&(a.effect==b.effect))
end Go.Proofs.YtidjjfjhmlndjaaGreatDoor
namespace Go.Proofs.YtidjjfjhmlndjaaGreatDoor
open Go.RowKit
/-- The same; what is there already is not laid again. -/
def insD {α:Type} (b s:α→α→Bool) (x:α):List α→List α
  | []=> [x]
  |y::r=>if b y x=true then y::insD b s x r else if s y x=true then y::r else x::y::r
theorem insD_step {α:Type} [Inhabited α] {b s:α→α→Bool}{x:α}{o:List α}{k:Nat} (hk:k < o.length) (h:b (o.getD k default) x=true) (hR:o.take k++insD b s x (o.drop k)=insD b s x o):o.take (k+1)++insD b s x (o.drop (k+1))=insD b s x o:=by
  rw [← hR,getD_drop o hk,insD,if_pos h,take_snoc o k hk]
  simp
theorem insD_there {α:Type} [Inhabited α] {b s:α→α→Bool}{x:α}{o:List α}{k:Nat} (hk:k < o.length) (h:b (o.getD k default) x=false) (h2:s (o.getD k default) x=true) (hR:o.take k++insD b s x (o.drop k)=insD b s x o):o=insD b s x o:=by
  rw [← hR,getD_drop o hk,insD,if_neg (by rw [h];decide),if_pos h2,← getD_drop o hk,List.take_append_drop]
theorem insD_lay {α:Type} [Inhabited α] {b s:α→α→Bool}{x:α}{o:List α}{k:Nat} (hk:k < o.length) (h:b (o.getD k default) x=false) (h2:s (o.getD k default) x=false) (hR:o.take k++insD b s x (o.drop k)=insD b s x o):o.take k ++ [x]++o.drop k=insD b s x o:=by
  rw [← hR,getD_drop o hk,insD,if_neg (by rw [h];decide),if_neg (by rw [h2];decide)]
  simp
theorem insDup_end {α:Type}{b s:α→α→Bool}{x:α}{o:List α}{k:Nat} (hk:o.length≤k) (hR:o.take k++insD b s x (o.drop k)=insD b s x o):o.take k ++ [x]++o.drop k=insD b s x o:=by
  rw [← hR,List.drop_of_length_le hk,insD]
  simp
theorem insD_len {α:Type} (b s:α→α→Bool) (x:α):∀ o:List α,(insD b s x o).length≤o.length+1
  | []=>Nat.le_refl _
  |y::r=>by
    have:=insD_len b s x r
    unfold insD
    split
    · simp only [List.length_cons];omega
    · split<;>simp
/-- All of a row, one behind the other. -/
def foldTo {α:Type} (ins:α→List α→List α) (xs:List α) (k:Nat):List α:=(xs.take k).foldl (fun o x=>ins x o) []
theorem fold_succ {α:Type} [Inhabited α] (ins:α→List α→List α) (xs:List α) {k:Nat} (h:k < xs.length):foldTo ins xs (k+1)=ins (xs.getD k default) (foldTo ins xs k):=by
  unfold foldTo
  rw [take_snoc xs k h,List.foldl_append]
  rfl
theorem fold_all {α:Type} (ins:α→List α→List α) (xs:List α) {k:Nat} (h:xs.length≤k):foldTo ins xs k=xs.foldl (fun o x=>ins x o) []:=by
  unfold foldTo
  rw [List.take_of_length_le h]
theorem fold_len {α:Type} [Inhabited α] {ins:α→List α→List α} (hi:∀ x o,(ins x o).length≤o.length+1) (xs:List α):∀ k,k≤xs.length→(foldTo ins xs k).length≤k
  |0,_=>Nat.le_refl _
  |k+1,h=>by
    rw [fold_succ ins xs (by omega)]
    have h1:=hi (xs.getD k default) (foldTo ins xs k)
    have h2:=fold_len hi xs k (by omega)
    omega
def insTnt (x:TaintD) (o:List TaintD):List TaintD:=insD taintLess taintSame x o
def insVal (x:ByteArray) (o:List ByteArray):List ByteArray:=insD lessB eqB x o
def valsF (vs:List ByteArray):List ByteArray:=vs.foldl (fun o x=>insVal x o) []
def needN (n:NeedD):NeedD:=⟨n.key,n.op,valsF n.values⟩
def needS (a b:NeedD):Bool:=!needLess b a
def insNed (x:NeedD) (o:List NeedD):List NeedD:=insD needLess needS (needN x) o
def srtTnt (ls:List TaintD):List TaintD × Bool:=if 40 < ls.length then (ls,false) else if taintsB (ls.foldl (fun o x=>insTnt x o) [])=true then (ls.foldl (fun o x=>insTnt x o) [],true) else (ls,false)
def srtNed (ls:List NeedD):List NeedD × Bool:=if 40 < ls.length∨(ls.any fun n=>decide (40 < n.values.length))=true then (ls,false) else if needsB (ls.foldl (fun o x=>insNed x o) [])=true then (ls.foldl (fun o x=>insNed x o) [],true) else (ls,false)
end Go.Proofs.YtidjjfjhmlndjaaGreatDoor
namespace Go.Proofs.YtidjjfjhmlndjaaGreatDoor
open Go.RowKit
set_option linter.unusedVariables false
set_option linter.unusedSimpArgs false
section
variable {α:Type} [Inhabited α] {b s:α→α→Bool}{nf:α→α}{ls o a c:List α}{i j:Nat}
theorem fold_lay (hO:o=foldTo (fun x o=>insD b s (nf x) o) ls i) (hi:i < ls.length) (hR:o.take j++insD b s (nf (ls.getD i default)) (o.drop j)=insD b s (nf (ls.getD i default)) o) (hc:Cut o a c j j) (h:o.length≤j∨(b (o.getD j default) (nf (ls.getD i default))=false∧s (o.getD j default) (nf (ls.getD i default))=false)):a ++ [nf (ls.getD i default)]++c=foldTo (fun x o=>insD b s (nf x) o) ls (i+1):=by
  rw [fold_succ _ _ hi,← hO,hc.fst,hc.snd]
  rcases Nat.lt_or_ge j o.length with hj|hj
  · rcases h with h|⟨h1,h2⟩
    · omega
    · exact insD_lay hj h1 h2 hR
  · exact insDup_end hj hR
theorem fold_lay2 (hO:o=foldTo (fun x o=>insD b s (nf x) o) ls i) (hi:i < ls.length) (hR:o.take j++insD b s (nf (ls.getD i default)) (o.drop j)=insD b s (nf (ls.getD i default)) o) (hc:Cut o a c j j) (h:o.length≤j):a ++ [nf (ls.getD i default)]=foldTo (fun x o=>insD b s (nf x) o) ls (i+1):=by
  have e:=fold_lay hO hi hR hc (.inl h)
  rw [← e,hc.snd,List.drop_of_length_le h,List.append_nil]
theorem fold_there (hO:o=foldTo (fun x o=>insD b s (nf x) o) ls i) (hi:i < ls.length) (hR:o.take j++insD b s (nf (ls.getD i default)) (o.drop j)=insD b s (nf (ls.getD i default)) o) (hj:j < o.length) (h1:b (o.getD j default) (nf (ls.getD i default))=false) (h2:s (o.getD j default) (nf (ls.getD i default))=true):o=foldTo (fun x o=>insD b s (nf x) o) ls (i+1):=by
  rw [fold_succ _ _ hi,← hO]
  exact insD_there hj h1 h2 hR
theorem fold_sz (hO:o=foldTo (fun x o=>insD b s (nf x) o) ls i) (hi:i≤ls.length):o.length≤i:=by
  rw [hO]
  exact fold_len (fun x o=>insD_len b s (nf x) o) ls i hi
end
end Go.Proofs.YtidjjfjhmlndjaaGreatDoor
