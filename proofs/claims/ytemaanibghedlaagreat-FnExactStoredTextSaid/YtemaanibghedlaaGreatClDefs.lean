/- What a valid cluster is: plain Lean (both the model and the program are to be shown to reckon these). -/
import Derived.Test.YtemaanibghedlaaGreatClData
namespace Go.Proofs.YtemaanibghedlaaGreat
open Go.RowKit

theorem placedsD_pod (xs : List PlacedD) (k : Nat) (h : k < xs.length) : ((placedsD xs).drop (k * 9)).take 7 = podCells (xs.getD k default).pod := by
  have e := placedsD_part xs k h
  have e2 : (((placedsD xs).drop (k * 9)).take 9).take 7 = podCells (xs.getD k default).pod := by rw [e]; rfl
  rw [List.take_take] at e2
  exact e2
/-- Loops that go through a row and stop at the first that is wrong. -/
def allB (n : Nat) (p : Nat → Bool) : Bool := (List.range n).all p
theorem allB_no {n : Nat} {p : Nat → Bool} {i : Int} (h0 : 0 ≤ i) (h : i < n) (hp : p i.toNat = false) : allB n p = false := by
  rw [Bool.eq_false_iff]
  intro ha
  have := List.all_eq_true.1 ha i.toNat (List.mem_range.2 (by omega))
  rw [hp] at this
  cases this
theorem allB_yes {n : Nat} {p : Nat → Bool} {i : Int} (hi : (n : Int) ≤ i) (h : ∀ k : Nat, (k : Int) < i → p k = true) : allB n p = true :=
  List.all_eq_true.2 fun k hk => h k (by have := List.mem_range.1 hk; omega)
theorem allB_zero {p : Nat → Bool} : ∀ k : Nat, (k : Int) < 0 → p k = true := fun k h => by omega
theorem allB_step {p : Nat → Bool} {i : Int} (h0 : 0 ≤ i) (h : ∀ k : Nat, (k : Int) < i → p k = true) (hp : p i.toNat = true) : ∀ k : Nat, (k : Int) < i + 1 → p k = true := by
  intro k hk
  by_cases e : k = i.toNat
  · subst e; exact hp
  · exact h k (by omega)

theorem allN_no {n k : Nat} {p : Nat → Bool} (h : k < n) (hp : p k = false) : allB n p = false := allB_no (i := (k : Int)) (by omega) (by omega) (by simpa using hp)
theorem allN_yes {n k : Nat} {p : Nat → Bool} (hk : n ≤ k) (h : ∀ j : Nat, j < k → p j = true) : allB n p = true := List.all_eq_true.2 fun j hj => h j (by have := List.mem_range.1 hj; omega)
theorem allN_zero {p : Nat → Bool} : ∀ j : Nat, j < 0 → p j = true := fun j h => by omega
theorem allN_step {p : Nat → Bool} {k : Nat} (h : ∀ j : Nat, j < k → p j = true) (hp : p k = true) : ∀ j : Nat, j < k + 1 → p j = true := by
  intro j hj
  by_cases e : j = k
  · subst e; exact hp
  · exact h j (by omega)
/-- Is there one? -/
def anyN (n : Nat) (p : Nat → Bool) : Bool := (List.range n).any p
theorem anyN_zero (p : Nat → Bool) : anyN 0 p = false := rfl
theorem anyN_succ (n : Nat) (p : Nat → Bool) : anyN (n + 1) p = (anyN n p || p n) := by simp [anyN, List.range_succ, List.any_append]

def bytB (t : ByteArray) (k : Nat) : Int := ((t.data.getD k 0).toNat : Int)
def letterB (x : Int) : Bool := ((decide (97 ≤ x) && decide (x ≤ 122)) || (decide (65 ≤ x) && decide (x ≤ 90))) || (decide (48 ≤ x) && decide (x ≤ 57))
def amongB (x : Int) (others : ByteArray) : Bool := anyN others.size fun j => x == bytB others j
def wordB (s others : ByteArray) : Bool := decide (s.size ≠ 0) && (letterB (bytB s 0) && (letterB (bytB s (s.size - 1)) && allB s.size fun k => letterB (bytB s k) || amongB (bytB s k) others))
def keyB (s : ByteArray) : Bool := decide (s.size ≤ 30) && wordB s ⟨#[45, 95, 46, 47]⟩
def eqB (a b : ByteArray) : Bool := a.toList == b.toList
theorem eqB_fold (a b : ByteArray) : (a.toList == b.toList) = eqB a b := rfl
abbrev emptyB (s : ByteArray) : Bool := eqB s ⟨#[]⟩
def valueB (s : ByteArray) : Bool := emptyB s || (decide (s.size ≤ 20) && wordB s ⟨#[45, 95, 46]⟩)
/-- a comes before b. -/
def lessB (a b : ByteArray) : Bool := Op.bytesLess a.toList b.toList
theorem lessB_fold (a b : ByteArray) : Op.bytesLess a.toList b.toList = lessB a b := rfl
/-- Each but the first comes behind the one ahead of it. -/
def nextB {α : Type} [Inhabited α] (less : α → α → Bool) (xs : List α) (i : Nat) : Bool := !decide (0 < i) || less (xs.getD (i - 1) default) (xs.getD i default)
def inB (x low high : Int) : Bool := decide (low ≤ x) && decide (x ≤ high)
def labelsB (ls : List LabelD) : Bool := decide (ls.length ≤ 6) && allB ls.length fun i => keyB (ls.getD i default).key && (valueB (ls.getD i default).value && nextB (fun a b => lessB a.key b.key) ls i)
def needB (n : NeedD) : Bool := keyB n.key && (inB n.op 1 4 && if 3 ≤ n.op then ((n.values.length : Int) == 0) else (inB n.values.length 1 4 && allB n.values.length fun i => valueB (n.values.getD i default) && nextB lessB n.values i))
def taintB (t : TaintD) : Bool := keyB t.key && (valueB t.value && inB t.effect 1 2)
def taintLess (a b : TaintD) : Bool := if eqB a.key b.key then (if eqB a.value b.value then decide (a.effect < b.effect) else lessB a.value b.value) else lessB a.key b.key
def taintsB (ts : List TaintD) : Bool := decide (ts.length ≤ 4) && allB ts.length fun i => taintB (ts.getD i default) && nextB taintLess ts i
def tolerB (t : TolerD) : Bool := inB t.effect 0 2 && if t.equal then (keyB t.key && valueB t.value) else (emptyB t.value && (emptyB t.key || keyB t.key))
def tolerLess (a b : TolerD) : Bool := if eqB a.key b.key then (if a.equal == b.equal then (if eqB a.value b.value then decide (a.effect < b.effect) else lessB a.value b.value) else b.equal) else lessB a.key b.key
def tolersB (ts : List TolerD) : Bool := decide (ts.length ≤ 4) && allB ts.length fun i => tolerB (ts.getD i default) && nextB tolerLess ts i
def valsLess : List ByteArray → List ByteArray → Bool
  | [], [] => false
  | [], _ :: _ => true
  | _ :: _, [] => false
  | x :: r, y :: q => if eqB x y then valsLess r q else lessB x y
theorem valsLess_at : ∀ {a b : List ByteArray} {k : Nat}, k < a.length → k < b.length → valsLess (a.drop k) (b.drop k) = if eqB (a.getD k default) (b.getD k default) then valsLess (a.drop (k + 1)) (b.drop (k + 1)) else lessB (a.getD k default) (b.getD k default) := by
  intro a b k ha hb
  rw [List.drop_eq_getElem_cons ha, List.drop_eq_getElem_cons hb]
  simp [valsLess, ha, hb]
theorem valsLess_end : ∀ {a b : List ByteArray} {k : Nat}, k ≤ a.length → k ≤ b.length → (a.length ≤ k ∨ b.length ≤ k) → valsLess (a.drop k) (b.drop k) = decide (a.length < b.length) := by
  intro a b k ha hb h
  rcases Nat.lt_or_ge k a.length with h1 | h1
  · rw [List.drop_of_length_le (show b.length ≤ k by omega), List.drop_eq_getElem_cons h1]
    simp [valsLess] <;> omega
  · rw [List.drop_of_length_le h1]
    rcases Nat.lt_or_ge k b.length with h2 | h2
    · rw [List.drop_eq_getElem_cons h2]
      simp [valsLess] <;> omega
    · rw [List.drop_of_length_le h2]
      simp [valsLess] <;> omega
def needLess (a b : NeedD) : Bool := if eqB a.key b.key then (if a.op == b.op then valsLess a.values b.values else decide (a.op < b.op)) else lessB a.key b.key
def needsB (ns : List NeedD) : Bool := decide (ns.length ≤ 4) && allB ns.length fun i => needB (ns.getD i default) && nextB needLess ns i
def nmB (s : ByteArray) : Bool := inB s.size 1 20 && (decide (bytB s 0 ≠ 45) && (decide (bytB s (s.size - 1) ≠ 45) && allB s.size fun k => (letterB (bytB s k) && !(decide (65 ≤ bytB s k) && decide (bytB s k ≤ 90))) || decide (bytB s k = 45)))
def podB (p : PodD) : Bool := nmB p.name && (labelsB p.labels && (needsB p.needs && (tolersB p.tolers && (decide (0 ≤ p.cpu) && (decide (0 ≤ p.mem) && inB p.rank 0 1000)))))
def hostB (h : HostD) : Bool := nmB h.name && (labelsB h.labels && (taintsB h.taints && (decide (0 ≤ h.cpu) && (decide (0 ≤ h.mem) && inB h.slots 1 20))))
/-- The first number at which p holds; -1: none. -/
def firstN (n : Nat) (p : Nat → Bool) : Int := match (List.range n).find? p with | some k => (k : Int) | none => -1
theorem firstN_hit {n k : Nat} {p : Nat → Bool} (h : k < n) (hp : p k = true) (hj : ∀ j : Nat, j < k → (!p j) = true) : firstN n p = (k : Int) := by
  unfold firstN
  rw [(List.find?_range_eq_some).2 ⟨hp, List.mem_range.2 h, fun j h => by simpa using hj j h⟩]
theorem firstN_none {n k : Nat} {p : Nat → Bool} (h : n ≤ k) (hj : ∀ j : Nat, j < k → (!p j) = true) : firstN n p = -1 := by
  unfold firstN
  rw [(List.find?_range_eq_none).2 fun j h2 => by simpa using hj j (by omega)]
theorem firstN_rng (n : Nat) (p : Nat → Bool) : -1 ≤ firstN n p ∧ firstN n p < n ∧ (0 ≤ firstN n p → p (firstN n p).toNat = true) := by
  unfold firstN
  cases h : (List.range n).find? p with
  | none => exact ⟨by simp, by simp <;> omega, fun h => by simp at h⟩
  | some k =>
    have h2 := List.find?_some h
    have h3 := List.mem_range.1 (List.mem_of_find?_eq_some h)
    exact ⟨by simp <;> omega, by simp <;> omega, fun _ => by simpa using h2⟩
/-- The place of the first host of a name, -1 if there is none. -/
def hostAtB (hs : List HostD) (nm : ByteArray) : Int := firstN hs.length fun k => eqB (hs.getD k default).name nm
/-- Sums that do not go over. -/
def addB (a b : Int) : Option Int := if a < 0 ∨ b < 0 ∨ 9223372036854775807 - b < a then none else some (a + b)
def sumN (f : Nat → Int) : Nat → Option Int
  | 0 => some 0
  | k + 1 => (sumN f k).bind fun s => addB s (f k)
theorem sumN_none {f : Nat → Int} {k : Nat} (hk : sumN f k = none) : ∀ n, k ≤ n → sumN f n = none := by
  intro n h
  induction n with
  | zero => obtain rfl : k = 0 := by omega
            exact hk
  | succ n ih =>
    by_cases e : k = n + 1
    · subst e; exact hk
    · show (sumN f n).bind _ = none
      rw [ih (by omega)]
      rfl
theorem addB_rng {a b s : Int} (h : addB a b = some s) : 0 ≤ s ∧ s ≤ 9223372036854775807 ∧ s = a + b ∧ 0 ≤ a ∧ 0 ≤ b := by
  unfold addB at h
  split at h
  · cases h
  · injection h with h; omega
def sumL (ns : List Int) : Option Int := sumN (fun k => ns.getD k default) ns.length
def boundB (ps : List PlacedD) (nm : ByteArray) : List PlacedD := if emptyB nm then [] else ps.filter fun p => eqB p.on nm
theorem take_snoc {α : Type} [Inhabited α] (xs : List α) (k : Nat) (h : k < xs.length) : xs.take (k + 1) = xs.take k ++ [xs.getD k default] := by
  rw [List.take_add_one, List.getElem?_eq_getElem h]
  simp [h]
theorem boundB_snoc {ps : List PlacedD} {nm : ByteArray} {k : Nat} (h : k < ps.length) : boundB (ps.take (k + 1)) nm = boundB (ps.take k) nm ++ (if !emptyB nm && eqB (ps.getD k default).on nm then [ps.getD k default] else []) := by
  unfold boundB
  cases h1 : emptyB nm
  · rw [take_snoc _ _ h, List.filter_append]
    cases h2 : eqB (ps.getD k default).on nm <;> simp [h2, -List.getD_eq_getElem?_getD]
  · simp
theorem boundB_end {ps : List PlacedD} {nm : ByteArray} {k : Nat} (h : ps.length ≤ k ∨ emptyB nm = true) : boundB (ps.take k) nm = boundB ps nm := by
  rcases h with h | h
  · rw [List.take_of_length_le h]
  · simp [boundB, h]
theorem takeMap_snoc {α β : Type} [Inhabited α] (f : α → β) (xs : List α) (k : Nat) (h : k < xs.length) : (xs.take k).map f ++ [f (xs.getD k default)] = (xs.take (k + 1)).map f := by rw [take_snoc xs k h]; simp
theorem takeMap_len {α β : Type} (f : α → β) (xs : List α) (k : Nat) (h : k ≤ xs.length) : ((xs.take k).map f).length = k := by simp; omega
theorem takeMap_all {α β : Type} (f : α → β) (xs : List α) (k : Nat) (h : xs.length ≤ k) : (xs.take k).map f = xs.map f := by rw [List.take_of_length_le h]
/-- What the pods on a host use: cpu, mem, how many; none: too much to reckon. -/
def sumsB (ps : List PodD) : Option (Int × Int) := match sumL (ps.map (·.cpu)), sumL (ps.map (·.mem)) with | some c, some m => some (c, m) | _, _ => none
def usedB (ps : List PlacedD) (nm : ByteArray) : Option (Int × Int × Int) := (sumsB ((boundB ps nm).map (·.pod))).map fun cm => (cm.1, cm.2, ((boundB ps nm).length : Int))
def fitsB (ps : List PlacedD) (h : HostD) : Bool := match usedB ps h.name with | some (c, m, n) => decide (c ≤ h.cpu) && (decide (m ≤ h.mem) && decide (n ≤ h.slots)) | none => false
def placedB (c : ClusterD) (i : Nat) : Bool :=
  let p := c.pods.getD i default
  podB p.pod && (nextB (fun a b => lessB a.pod.name b.pod.name) c.pods i && (inB p.seq 1 (c.next - 1) && ((emptyB p.on || decide (0 ≤ hostAtB c.hosts p.on)) && allB i fun k => !((c.pods.getD k default).seq == p.seq))))
def clusterB (c : ClusterD) : Bool := decide (c.hosts.length ≤ 8) && (decide (c.pods.length ≤ 12) && (inB c.next 1 1000000000 && ((inB c.w1 0 10 && (inB c.w2 0 10 && inB c.w3 0 10)) &&
  ((allB c.hosts.length fun i => hostB (c.hosts.getD i default) && (nextB (fun a b => lessB a.name b.name) c.hosts i && fitsB c.pods (c.hosts.getD i default))) && allB c.pods.length (placedB c)))))
/-! Within bounds. -/
theorem getD_of {α : Type} [Inhabited α] {xs : List α} {P : α → Prop} (h0 : P default) (h : ∀ x, x ∈ xs → P x) (j : Nat) : P (xs.getD j default) := by
  rw [List.getD_eq_getElem?_getD]
  cases e : xs[j]? with
  | none => exact h0
  | some x => exact h x (List.mem_of_getElem? e)
theorem mem_getD {α : Type} [Inhabited α] {xs : List α} {x : α} (h : x ∈ xs) : ∃ k, x = xs.getD k default := by
  obtain ⟨k, hk, rfl⟩ := List.getElem_of_mem h
  exact ⟨k, by simp [hk]⟩
abbrev strOk (s : ByteArray) : Prop := s.size ≤ 1048576
abbrev intOk (n : Int) : Prop := -9223372036854775808 ≤ n ∧ n ≤ 9223372036854775807
structure labelsFine (ls : List LabelD) : Prop where
  len : ls.length ≤ 1048576
  key : ∀ k, strOk (ls.getD k default).key
  value : ∀ k, strOk (ls.getD k default).value
structure NeedD.fine (n : NeedD) : Prop where
  key : strOk n.key
  op : intOk n.op
  len : n.values.length ≤ 1048576
  value : ∀ k, strOk (n.values.getD k default)
structure TaintD.fine (t : TaintD) : Prop where
  key : strOk t.key
  value : strOk t.value
  effect : intOk t.effect
structure TolerD.fine (t : TolerD) : Prop where
  key : strOk t.key
  value : strOk t.value
  effect : intOk t.effect
structure PodD.fine (p : PodD) : Prop where
  name : strOk p.name
  labels : labelsFine p.labels
  cpu : intOk p.cpu
  mem : intOk p.mem
  rank : intOk p.rank
  nlen : p.needs.length ≤ 1048576
  need : ∀ k, (p.needs.getD k default).fine
  tlen : p.tolers.length ≤ 1048576
  toler : ∀ k, (p.tolers.getD k default).fine
structure HostD.fine (p : HostD) : Prop where
  name : strOk p.name
  labels : labelsFine p.labels
  cpu : intOk p.cpu
  mem : intOk p.mem
  slots : intOk p.slots
  tlen : p.taints.length ≤ 1048576
  taint : ∀ k, (p.taints.getD k default).fine
structure ClusterD.fine (c : ClusterD) : Prop where
  hlen : c.hosts.length ≤ 1048576
  host : ∀ k, (c.hosts.getD k default).fine
  plen : c.pods.length ≤ 1048576
  pod : ∀ k, (c.pods.getD k default).pod.fine
  on : ∀ k, strOk (c.pods.getD k default).on
  seq : ∀ k, intOk (c.pods.getD k default).seq
  next : intOk c.next
theorem bound_le {c : ClusterD} (hc : c.fine) (k : Nat) (nm : ByteArray) : ∀ j, (((boundB (c.pods.take k) nm).map PlacedD.pod).getD j default).cpu ≤ 9223372036854775807 ∧ (((boundB (c.pods.take k) nm).map PlacedD.pod).getD j default).mem ≤ 9223372036854775807 := by
  refine getD_of (P := fun p : PodD => p.cpu ≤ 9223372036854775807 ∧ p.mem ≤ 9223372036854775807) (by decide) fun x hx => ?_
  obtain ⟨y, hy, rfl⟩ := List.mem_map.1 hx
  have h2 : y ∈ c.pods := by
    unfold boundB at hy
    split at hy
    · cases hy
    · exact List.mem_of_mem_take (List.mem_filter.1 hy).1
  obtain ⟨i, rfl⟩ := mem_getD h2
  exact ⟨(hc.pod i).cpu.2, (hc.pod i).mem.2⟩
theorem bound_len (ps : List PlacedD) (k : Nat) (nm : ByteArray) : (boundB (ps.take k) nm).length ≤ ps.length := by
  unfold boundB
  split
  · simp
  · exact Nat.le_trans (List.length_filter_le _ _) (by simp; omega)
end Go.Proofs.YtemaanibghedlaaGreat
