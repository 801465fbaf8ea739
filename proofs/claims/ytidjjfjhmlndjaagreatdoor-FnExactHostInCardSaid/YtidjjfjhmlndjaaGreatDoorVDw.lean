/- Dw (what is wanted of them). -/
import Derived.Test.YtidjjfjhmlndjaaGreatDoorVCl2
namespace Go.Proofs.YtidjjfjhmlndjaaGreatDoor
open Go.RowKit
set_option linter.unusedVariables false
attribute [push_cast] true_or or_true true_and and_true
/-- All of a row, and at most n. -/
structure RowW {α:Type} (P:α→Prop) (n:Nat) (xs:List α):Prop where
  all:∀ x ∈ xs,P x
  len:xs.length≤n
theorem RowW.nil {α:Type}{P:α→Prop}{n:Nat}:RowW P n []:=⟨by simp,Nat.zero_le _⟩
theorem RowW.mono {α:Type}{P:α→Prop}{n m:Nat}{xs:List α} (h:RowW P n xs) (hm:n≤m):RowW P m xs:=⟨h.all,Nat.le_trans h.len hm⟩
theorem RowW.sub {α:Type}{P:α→Prop}{n m:Nat}{xs ys:List α} (h:RowW P n xs) (hs:∀ y ∈ ys,y ∈ xs) (hl:ys.length≤m):RowW P m ys:=⟨fun y hy=>h.all y (hs y hy),hl⟩
theorem RowW.app {α:Type}{P:α→Prop}{n m k:Nat}{xs ys:List α} (h:RowW P n xs) (g:RowW P m ys) (hk:n+m≤k):RowW P k (xs++ys):=⟨fun y hy=>(List.mem_append.1 hy).elim (h.all y) (g.all y),by rw [List.length_append];have:=h.len;have:=g.len;omega⟩
theorem RowW.one {α:Type}{P:α→Prop}{n:Nat}{x:α} (h:P x) (hn:1≤n):RowW P n [x]:=⟨fun y hy=>by rw [List.mem_singleton.1 hy];exact h,hn⟩
theorem RowW.take {α:Type}{P:α→Prop}{n:Nat}{xs:List α} (h:RowW P n xs) (k:Nat):RowW P n (xs.take k):=h.sub (fun _ hy=>List.mem_of_mem_take hy) (Nat.le_trans (List.length_take_le' ..) h.len)
theorem RowW.drop {α:Type}{P:α→Prop}{n:Nat}{xs:List α} (h:RowW P n xs) (k:Nat):RowW P n (xs.drop k):=h.sub (fun _ hy=>List.mem_of_mem_drop hy) (Nat.le_trans (by rw [List.length_drop];omega) h.len)
/-- One left out. -/
theorem RowW.out {α:Type}{P:α→Prop}{n k:Nat}{xs a b:List α} (h:RowW P n xs) (ha:a=xs.take k) (hb:b=xs.drop (k+1)):RowW P n (a++b):=by
  refine ⟨fun y hy=>?_,?_⟩
  · rcases List.mem_append.1 hy with hy|hy
    · rw [ha] at hy;exact h.all y (List.mem_of_mem_take hy)
    · rw [hb] at hy;exact h.all y (List.mem_of_mem_drop hy)
  · have:=h.len
    rw [List.length_append,ha,hb,List.length_take,List.length_drop]
    omega
theorem RowW.at {α:Type} [Inhabited α] {P:α→Prop}{n:Nat}{xs:List α} (h:RowW P n xs) {k:Nat} (hk:k < xs.length):P (xs.getD k default):=by
  rw [List.getD_eq_getElem?_getD,List.getElem?_eq_getElem hk]
  exact h.all _ (List.getElem_mem hk)
theorem RowW.getD {α:Type} [Inhabited α] {P:α→Prop}{n:Nat}{xs:List α} (h:RowW P n xs) (h0:P default) (k:Nat):P (xs.getD k default):=getD_of h0 h.all k
theorem RowW.set {α:Type}{P:α→Prop}{n k:Nat}{xs:List α}{x:α} (h:RowW P n xs) (hx:P x):RowW P n (xs.set k x):=by
  refine ⟨fun y hy=>?_,by rw [List.length_set];exact h.len⟩
  rcases List.mem_or_eq_of_mem_set hy with hy|hy
  · exact h.all y hy
  · rw [hy];exact hx
structure StrW (s:ByteArray):Prop where
  sz:s.size≤1000
structure LabW (x:LabelD):Prop where
  key:x.key.size≤1000
  value:x.value.size≤1000
structure TntW (x:TaintD):Prop where
  key:x.key.size≤1000
  value:x.value.size≤1000
  effect:intOk x.effect
structure TolW (x:TolerD):Prop where
  key:x.key.size≤1000
  value:x.value.size≤1000
  effect:intOk x.effect
structure NedW (x:NeedD):Prop where
  key:x.key.size≤1000
  op:intOk x.op
  values:RowW StrW 50 x.values
structure PodW (x:PodD):Prop where
  name:x.name.size≤1000
  labels:RowW LabW 41 x.labels
  cpu:intOk x.cpu
  mem:intOk x.mem
  rank:intOk x.rank
  needs:RowW NedW 41 x.needs
  tolers:RowW TolW 41 x.tolers
structure HostW (x:HostD):Prop where
  name:x.name.size≤1000
  labels:RowW LabW 41 x.labels
  cpu:intOk x.cpu
  mem:intOk x.mem
  slots:intOk x.slots
  taints:RowW TntW 41 x.taints
structure PlcW (x:PlacedD):Prop where
  pod:PodW x.pod
  on:x.on.size≤1000
  seq:intOk x.seq
/-- A cluster of few things (h hosts, p pods at most). -/
structure CluW (h p:Nat) (c:ClusterD):Prop where
  hosts:RowW HostW h c.hosts
  pods:RowW PlcW p c.pods
  next:intOk c.next
theorem StrW.zero:StrW default:=⟨by decide⟩
theorem LabW.zero:LabW default:=⟨by decide,by decide⟩
theorem TntW.zero:TntW default:=⟨by decide,by decide,by decide⟩
theorem TolW.zero:TolW default:=⟨by decide,by decide,by decide⟩
theorem NedW.zero:NedW default:=⟨by decide,by decide,.nil⟩
theorem PodW.zero:PodW default:=⟨by decide,.nil,by decide,by decide,by decide,.nil,.nil⟩
theorem HostW.zero:HostW default:=⟨by decide,.nil,by decide,by decide,by decide,.nil⟩
theorem PlcW.zero:PlcW default:=⟨.zero,by decide,by decide⟩
theorem labs_fine {ls:List LabelD} (h:RowW LabW 41 ls):labelsFine ls:=⟨by have:=h.len;omega,fun k=>by have:=(h.getD .zero k).key;show _≤_;omega,fun k=>by have:=(h.getD .zero k).value;show _≤_;omega⟩
theorem NedW.fine {n:NeedD} (h:NedW n):n.fine:=⟨by have:=h.key;show _≤_;omega,h.op,by have:=h.values.len;omega,fun k=>by have:=(h.values.getD .zero k).sz;show _≤_;omega⟩
theorem TntW.fine {t:TaintD} (h:TntW t):t.fine:=⟨by have:=h.key;show _≤_;omega,by have:=h.value;show _≤_;omega,h.effect⟩
theorem TolW.fine {t:TolerD} (h:TolW t):t.fine:=⟨by have:=h.key;show _≤_;omega,by have:=h.value;show _≤_;omega,h.effect⟩
theorem PodW.fine {p:PodD} (h:PodW p):p.fine:=⟨by have:=h.name;show _≤_;omega,labs_fine h.labels,h.cpu,h.mem,h.rank,by have:=h.needs.len;omega,fun k=>(h.needs.getD .zero k).fine,by have:=h.tolers.len;omega,fun k=>(h.tolers.getD .zero k).fine⟩
theorem HostW.fine {p:HostD} (h:HostW p):p.fine:=⟨by have:=h.name;show _≤_;omega,labs_fine h.labels,h.cpu,h.mem,h.slots,by have:=h.taints.len;omega,fun k=>(h.taints.getD .zero k).fine⟩
theorem CluW.fine {h p:Nat}{c:ClusterD} (hc:CluW h p c) (hh:h≤1000) (hp:p≤1000):c.fine:=⟨by have:=hc.hosts.len;omega,fun k=>(hc.hosts.getD .zero k).fine,by have:=hc.pods.len;omega,fun k=>(hc.pods.getD .zero k).pod.fine,fun k=>by have:=(hc.pods.getD .zero k).on;show _≤_;omega,fun k=>(hc.pods.getD .zero k).seq,hc.next⟩
/-- The first k and the rest, under names of their own. -/
structure Cut {α:Type} (xs a b:List α) (k j:Nat):Prop where
  fst:a=xs.take k
  snd:b=xs.drop j
section
variable {α:Type}{cells:α→List D}{size:Nat}
theorem flt_take (hs:∀ x,(cells x).length=size) (xs:List α) (k:Nat) (h:k≤xs.length):(flatD cells xs).take (k*size)=flatD cells (xs.take k):=flat_take hs xs k
theorem flt_tail (hs:∀ x,(cells x).length=size) (xs:List α) (k:Nat):((flatD cells xs).drop (k*size)).take ((xs.length - k)*size)=flatD cells (xs.drop k):=by
  rw [flat_drop hs xs k]
  exact List.take_of_length_le (by rw [flat_len hs,List.length_drop];exact Nat.le_refl _)
/-- The first k of a row, and what is from j on. -/
theorem flt_cut (hs:∀ x,(cells x).length=size) (xs:List α) (k j:Nat) (hk:k≤xs.length) (hj:j≤xs.length):∃ a b,Cut xs a b k j∧a.length=k∧b.length=xs.length - j∧(flatD cells xs).take (k*size)=flatD cells a∧((flatD cells xs).drop (j*size)).take ((xs.length - j)*size)=flatD cells b:=
  ⟨_,_,⟨rfl,rfl⟩,by rw [List.length_take];omega,List.length_drop,flt_take hs xs k hk,flt_tail hs xs j⟩
end
theorem taints_cut (xs:List TaintD) (k j:Nat) (hk:k≤xs.length) (hj:j≤xs.length):∃ a b,Cut xs a b k j∧a.length=k∧b.length=xs.length - j∧(taintsD xs).take (k*3)=taintsD a∧((taintsD xs).drop (j*3)).take ((xs.length - j)*3)=taintsD b:=flt_cut taintCells_len xs k j hk hj
theorem taints_app (a b:List TaintD):taintsD a++taintsD b=taintsD (a++b):=(flat_append (cells:=taintCells) a b).symm
end Go.Proofs.YtidjjfjhmlndjaaGreatDoor
