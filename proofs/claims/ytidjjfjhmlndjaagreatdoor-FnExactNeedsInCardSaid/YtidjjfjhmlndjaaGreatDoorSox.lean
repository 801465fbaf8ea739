/- Sox: Sw, So, one behind the other. -/
import Derived.Test.YtidjjfjhmlndjaaGreatDoorDk
import Derived.Test.YtidjjfjhmlndjaaGreatDoorCl6
import Derived.Test.YtidjjfjhmlndjaaGreatDoorDw
namespace Go.Proofs.YtidjjfjhmlndjaaGreatDoor
open Go.RowKit

theorem lessB_asym {a b : ByteArray} (h : lessB a b = true) : lessB b a = false := by
  cases h2 : lessB b a with
  | false => rfl
  | true => have := lessB_tr h h2; rw [lessB_irr] at this; cases this
theorem cmpB_neg (a b : ByteArray) : cmpB b a = -cmpB a b := by
  rw [cmpB_if, cmpB_if a b]
  cases h1 : lessB a b with
  | true => rw [lessB_asym h1]; rfl
  | false => cases h2 : lessB b a <;> rfl
theorem cmpI_neg (a b : Int) : cmpI b a = -cmpI a b := by
  unfold cmpI
  split <;> split <;> (try split) <;> omega
theorem cmpVals_neg : ∀ a b : List ByteArray, cmpVals b a = -cmpVals a b
  | [], [] => rfl
  | [], _ :: _ => rfl
  | _ :: _, [] => rfl
  | x :: r, y :: q => by
    unfold cmpVals
    rw [cmpB_neg x y, cmpVals_neg r q]
    by_cases h : cmpB x y = 0
    · simp [h]
    · have h2 : ¬ -cmpB x y = 0 := by omega
      simp [h, h2]
theorem cmpNeed_neg (a b : NeedD) : cmpNeed b a = -cmpNeed a b := by
  unfold cmpNeed
  rw [or3_eq, or3_eq, cmpB_neg a.key b.key, cmpI_neg a.op b.op, cmpVals_neg a.values b.values]
  by_cases h : cmpB a.key b.key = 0
  · by_cases h2 : cmpI a.op b.op = 0
    · simp [h, h2]
    · have h3 : ¬ -cmpI a.op b.op = 0 := by omega
      simp [h, h2, h3]
  · have h2 : ¬ -cmpB a.key b.key = 0 := by omega
    simp [h, h2]
/-- Needs are the same where neither comes ahead of the other. -/
def needSame (a b : NeedD) : Bool := !needLess a b && !needLess b a
theorem cmpNeed_0 (a b : NeedD) : (cmpNeed a b == 0) = needSame a b := by
  unfold needSame
  rw [← cmpNeed_lt a b, ← cmpNeed_lt b a, cmpNeed_neg a b]
  generalize cmpNeed a b = c
  rw [Bool.eq_iff_iff]
  simp only [beq_iff_eq, Bool.and_eq_true, Bool.not_eq_true', decide_eq_false_iff_not]
  omega
/-- Two rows of a length, same place by place. -/
def sameRow {α : Type} [Inhabited α] (p : α → α → Bool) (a b : List α) : Bool := decide (a.length = b.length) && allB a.length fun k => p (a.getD k default) (b.getD k default)
theorem same_no {α : Type} [Inhabited α] {p : α → α → Bool} {a b : List α} (h : ¬ a.length = b.length) : sameRow p a b = false := by unfold sameRow; rw [decide_eq_false h]; rfl
theorem same_at {α : Type} [Inhabited α] {p : α → α → Bool} {a b : List α} {k : Nat} (hk : k < a.length) (h : p (a.getD k default) (b.getD k default) = false) : sameRow p a b = false := by unfold sameRow; rw [allN_no hk h, Bool.and_false]
theorem same_yes {α : Type} [Inhabited α] {p : α → α → Bool} {a b : List α} {k : Nat} (hl : a.length = b.length) (hk : a.length ≤ k) (h : ∀ j : Nat, j < k → p (a.getD j default) (b.getD j default) = true) : sameRow p a b = true := by unfold sameRow; rw [allN_yes hk h, decide_eq_true hl]; rfl
def labelSame (a b : LabelD) : Bool := eqB a.key b.key && eqB a.value b.value
def taintSame (a b : TaintD) : Bool := eqB a.key b.key && (eqB a.value b.value && (a.effect == b.effect))
def tolerSame (a b : TolerD) : Bool := eqB a.key b.key && ((a.equal == b.equal) && (eqB a.value b.value && (a.effect == b.effect)))
def podSame (a b : PodD) : Bool := eqB a.name b.name && (sameRow labelSame a.labels b.labels && ((a.cpu == b.cpu) && ((a.mem == b.mem) && ((a.rank == b.rank) && (sameRow needSame a.needs b.needs && sameRow tolerSame a.tolers b.tolers)))))
def hostSame (a b : HostD) : Bool := eqB a.name b.name && (sameRow labelSame a.labels b.labels && ((a.cpu == b.cpu) && ((a.mem == b.mem) && ((a.slots == b.slots) && sameRow taintSame a.taints b.taints))))
def placedSame (a b : PlacedD) : Bool := eqB a.on b.on && ((a.seq == b.seq) && podSame a.pod b.pod)
def clSame (a b : ClusterD) : Bool := sameRow hostSame a.hosts b.hosts && (sameRow placedSame a.pods b.pods && ((a.next == b.next) && ((a.w1 == b.w1) && ((a.w2 == b.w2) && (a.w3 == b.w3)))))
end Go.Proofs.YtidjjfjhmlndjaaGreatDoor
namespace Go.Proofs.YtidjjfjhmlndjaaGreatDoor
open Go.RowKit

theorem flt_drop {α : Type} {cells : α → List D} {size : Nat} (hs : ∀ x, (cells x).length = size) (xs : List α) (k : Nat) (h : k ≤ xs.length) : (flatD cells xs).drop (k * size) = flatD cells (xs.drop k) := by
  have hl : (flatD cells (xs.take k)).length = k * size := by rw [flat_len hs, List.length_take, Nat.min_eq_left h]
  have e : flatD cells xs = flatD cells (xs.take k) ++ flatD cells (xs.drop k) := by
    unfold flatD
    rw [← List.flatMap_append, List.take_append_drop]
  rw [e, ← hl, List.drop_left]
theorem flt_app {α : Type} (cells : α → List D) (a b : List α) : flatD cells a ++ flatD cells b = flatD cells (a ++ b) := by
  unfold flatD
  rw [List.flatMap_append]
theorem strs_take (xs : List ByteArray) (k : Nat) : (strsD xs).take k = strsD (xs.take k) := by simp [strsD, List.map_take]
theorem strs_tail (xs : List ByteArray) (k : Nat) : ((strsD xs).drop k).take (xs.length - k) = strsD (xs.drop k) := by
  rw [show (strsD xs).drop k = strsD (xs.drop k) by simp [strsD, List.map_drop]]
  exact List.take_of_length_le (by rw [strsD_len, List.length_drop]; exact Nat.le_refl _)
/-- The first k and the rest, under names of their own. -/
theorem cut_ex {α : Type} {row : List α → List D} {size : Nat} (h1 : ∀ (xs : List α) (k : Nat), k ≤ xs.length → (row xs).take (k * size) = row (xs.take k)) (h2 : ∀ (xs : List α) (k : Nat), k ≤ xs.length → ((row xs).drop (k * size)).take ((xs.length - k) * size) = row (xs.drop k)) (xs : List α) (k : Nat) (h : k ≤ xs.length) :
    ∃ a b, Hid (a = xs.take k ∧ b = xs.drop k) ∧ a.length = k ∧ b.length = xs.length - k ∧ (row xs).take (k * size) = row a ∧ ((row xs).drop (k * size)).take ((xs.length - k) * size) = row b :=
  ⟨_, _, ⟨rfl, rfl⟩, by rw [List.length_take]; omega, List.length_drop, h1 xs k h, h2 xs k h⟩
/-! Laid behind all that come ahead of it. -/
def insU {α : Type} (b : α → α → Bool) (x : α) : List α → List α
  | [] => [x]
  | y :: r => if b y x = true then y :: insU b x r else x :: y :: r
/-- The same; what is there already is not laid again. -/
def insD {α : Type} (b s : α → α → Bool) (x : α) : List α → List α
  | [] => [x]
  | y :: r => if b y x = true then y :: insD b s x r else if s y x = true then y :: r else x :: y :: r
theorem insU_step {α : Type} [Inhabited α] {b : α → α → Bool} {x : α} {o : List α} {k : Nat} (hk : k < o.length) (h : b (o.getD k default) x = true) (hR : o.take k ++ insU b x (o.drop k) = insU b x o) : o.take (k + 1) ++ insU b x (o.drop (k + 1)) = insU b x o := by
  rw [← hR, getD_drop o hk, insU, if_pos h, take_snoc o k hk]
  simp
theorem insU_lay {α : Type} [Inhabited α] {b : α → α → Bool} {x : α} {o : List α} {k : Nat} (hk : k < o.length) (h : b (o.getD k default) x = false) (hR : o.take k ++ insU b x (o.drop k) = insU b x o) : o.take k ++ [x] ++ o.drop k = insU b x o := by
  rw [← hR, getD_drop o hk, insU, if_neg (by rw [h]; decide)]
  simp
theorem insU_end {α : Type} {b : α → α → Bool} {x : α} {o : List α} {k : Nat} (hk : o.length ≤ k) (hR : o.take k ++ insU b x (o.drop k) = insU b x o) : o.take k ++ [x] ++ o.drop k = insU b x o := by
  rw [← hR, List.drop_of_length_le hk, insU]
  simp
theorem insD_step {α : Type} [Inhabited α] {b s : α → α → Bool} {x : α} {o : List α} {k : Nat} (hk : k < o.length) (h : b (o.getD k default) x = true) (hR : o.take k ++ insD b s x (o.drop k) = insD b s x o) : o.take (k + 1) ++ insD b s x (o.drop (k + 1)) = insD b s x o := by
  rw [← hR, getD_drop o hk, insD, if_pos h, take_snoc o k hk]
  simp
theorem insD_there {α : Type} [Inhabited α] {b s : α → α → Bool} {x : α} {o : List α} {k : Nat} (hk : k < o.length) (h : b (o.getD k default) x = false) (h2 : s (o.getD k default) x = true) (hR : o.take k ++ insD b s x (o.drop k) = insD b s x o) : o = insD b s x o := by
  rw [← hR, getD_drop o hk, insD, if_neg (by rw [h]; decide), if_pos h2, ← getD_drop o hk, List.take_append_drop]
theorem insD_lay {α : Type} [Inhabited α] {b s : α → α → Bool} {x : α} {o : List α} {k : Nat} (hk : k < o.length) (h : b (o.getD k default) x = false) (h2 : s (o.getD k default) x = false) (hR : o.take k ++ insD b s x (o.drop k) = insD b s x o) : o.take k ++ [x] ++ o.drop k = insD b s x o := by
  rw [← hR, getD_drop o hk, insD, if_neg (by rw [h]; decide), if_neg (by rw [h2]; decide)]
  simp
theorem insDup_end {α : Type} {b s : α → α → Bool} {x : α} {o : List α} {k : Nat} (hk : o.length ≤ k) (hR : o.take k ++ insD b s x (o.drop k) = insD b s x o) : o.take k ++ [x] ++ o.drop k = insD b s x o := by
  rw [← hR, List.drop_of_length_le hk, insD]
  simp
theorem insU_len {α : Type} (b : α → α → Bool) (x : α) : ∀ o : List α, (insU b x o).length = o.length + 1
  | [] => rfl
  | y :: r => by
    unfold insU
    split
    · rw [List.length_cons, insU_len b x r, List.length_cons]
    · simp
theorem insD_len {α : Type} (b s : α → α → Bool) (x : α) : ∀ o : List α, (insD b s x o).length ≤ o.length + 1
  | [] => Nat.le_refl _
  | y :: r => by
    have := insD_len b s x r
    unfold insD
    split
    · simp only [List.length_cons]; omega
    · split <;> simp
theorem insU_mem {α : Type} {b : α → α → Bool} {x : α} : ∀ {o : List α} {y : α}, y ∈ insU b x o → y = x ∨ y ∈ o
  | [], y, h => .inl (by simpa [insU] using h)
  | z :: r, y, h => by
    unfold insU at h
    split at h
    · rcases List.mem_cons.1 h with h | h
      · exact .inr (by rw [h]; simp)
      · rcases insU_mem h with h | h
        · exact .inl h
        · exact .inr (List.mem_cons_of_mem _ h)
    · rcases List.mem_cons.1 h with h | h
      · exact .inl h
      · exact .inr h
theorem insD_mem {α : Type} {b s : α → α → Bool} {x : α} : ∀ {o : List α} {y : α}, y ∈ insD b s x o → y = x ∨ y ∈ o
  | [], y, h => .inl (by simpa [insD] using h)
  | z :: r, y, h => by
    unfold insD at h
    split at h
    · rcases List.mem_cons.1 h with h | h
      · exact .inr (by rw [h]; simp)
      · rcases insD_mem h with h | h
        · exact .inl h
        · exact .inr (List.mem_cons_of_mem _ h)
    · split at h
      · exact .inr h
      · rcases List.mem_cons.1 h with h | h
        · exact .inl h
        · exact .inr h
/-- All of a row, one behind the other. -/
def foldTo {α : Type} (ins : α → List α → List α) (xs : List α) (k : Nat) : List α := (xs.take k).foldl (fun o x => ins x o) []
theorem fold_zero {α : Type} (ins : α → List α → List α) (xs : List α) : foldTo ins xs 0 = [] := rfl
theorem fold_succ {α : Type} [Inhabited α] (ins : α → List α → List α) (xs : List α) {k : Nat} (h : k < xs.length) : foldTo ins xs (k + 1) = ins (xs.getD k default) (foldTo ins xs k) := by
  unfold foldTo
  rw [take_snoc xs k h, List.foldl_append]
  rfl
theorem fold_all {α : Type} (ins : α → List α → List α) (xs : List α) {k : Nat} (h : xs.length ≤ k) : foldTo ins xs k = xs.foldl (fun o x => ins x o) [] := by
  unfold foldTo
  rw [List.take_of_length_le h]
theorem fold_len {α : Type} [Inhabited α] {ins : α → List α → List α} (hi : ∀ x o, (ins x o).length ≤ o.length + 1) (xs : List α) : ∀ k, k ≤ xs.length → (foldTo ins xs k).length ≤ k
  | 0, _ => Nat.le_refl _
  | k + 1, h => by
    rw [fold_succ ins xs (by omega)]
    have h1 := hi (xs.getD k default) (foldTo ins xs k)
    have h2 := fold_len hi xs k (by omega)
    omega
theorem fold_mem {α : Type} [Inhabited α] {ins : α → List α → List α} (hi : ∀ x o y, y ∈ ins x o → y = x ∨ y ∈ o) (xs : List α) : ∀ k, k ≤ xs.length → ∀ y ∈ foldTo ins xs k, y ∈ xs
  | 0, _, y, hy => by simp [foldTo] at hy
  | k + 1, h, y, hy => by
    rw [fold_succ ins xs (by omega)] at hy
    rcases hi _ _ _ hy with hy | hy
    · rw [hy, List.getD_eq_getElem?_getD, List.getElem?_eq_getElem (show k < xs.length by omega)]
      exact List.getElem_mem _
    · exact fold_mem hi xs k (by omega) y hy
/-! What is sorted. -/
def labB (a b : LabelD) : Bool := !lessB b.key a.key
def insLab (x : LabelD) (o : List LabelD) : List LabelD := insU labB x o
def insTnt (x : TaintD) (o : List TaintD) : List TaintD := insD taintLess taintSame x o
def insTol (x : TolerD) (o : List TolerD) : List TolerD := insD tolerLess tolerSame x o
def insVal (x : ByteArray) (o : List ByteArray) : List ByteArray := insD lessB eqB x o
def valsF (vs : List ByteArray) : List ByteArray := vs.foldl (fun o x => insVal x o) []
def needN (n : NeedD) : NeedD := ⟨n.key, n.op, valsF n.values⟩
def needS (a b : NeedD) : Bool := !needLess b a
def insNed (x : NeedD) (o : List NeedD) : List NeedD := insD needLess needS (needN x) o
def srtLab (ls : List LabelD) : List LabelD × Bool := if 6 < ls.length then (ls, false) else if labelsB (ls.foldl (fun o x => insLab x o) []) = true then (ls.foldl (fun o x => insLab x o) [], true) else (ls, false)
def srtTnt (ls : List TaintD) : List TaintD × Bool := if 40 < ls.length then (ls, false) else if taintsB (ls.foldl (fun o x => insTnt x o) []) = true then (ls.foldl (fun o x => insTnt x o) [], true) else (ls, false)
def srtTol (ls : List TolerD) : List TolerD × Bool := if 40 < ls.length then (ls, false) else if tolersB (ls.foldl (fun o x => insTol x o) []) = true then (ls.foldl (fun o x => insTol x o) [], true) else (ls, false)
def srtNed (ls : List NeedD) : List NeedD × Bool := if 40 < ls.length ∨ (ls.any fun n => decide (40 < n.values.length)) = true then (ls, false) else if needsB (ls.foldl (fun o x => insNed x o) []) = true then (ls.foldl (fun o x => insNed x o) [], true) else (ls, false)
end Go.Proofs.YtidjjfjhmlndjaaGreatDoor
