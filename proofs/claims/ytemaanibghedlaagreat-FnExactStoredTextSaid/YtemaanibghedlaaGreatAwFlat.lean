/- Rows of things whose cells are only read: one law for all kinds. -/
import Derived.Test.YtemaanibghedlaaGreatAwO
namespace Go.Proofs.YtemaanibghedlaaGreat
open Go.RowKit

theorem rp_in1 {c : D} (h : c.rp = true) (p : Nat → Bool) : D.in1 p c = true := by cases c <;> first | rfl | cases h
theorem rp_ren1 {c : D} (h : c.rp = true) (f : Nat → Nat) : D.ren1 f c = c := by cases c <;> first | rfl | cases h
theorem rp_frz1 {c : D} (h : c.rp = true) (i : Nat) (x : Ob) : D.frz1 i x c = c := by cases c <;> first | rfl | cases h
theorem rp_lt1 {c : D} (h : c.rp = true) (n : Nat) : D.lt1 n c = true := by cases c <;> first | rfl | cases h
theorem rps_in {cs : List D} (h : cs.all D.rp = true) (p : Nat → Bool) : cs.all (D.in1 p) = true := by
  rw [List.all_eq_true] at h ⊢
  exact fun c hc => rp_in1 (h c hc) p
theorem rps_lt {cs : List D} (h : cs.all D.rp = true) (n : Nat) : cs.all (D.lt1 n) = true := by
  rw [List.all_eq_true] at h ⊢
  exact fun c hc => rp_lt1 (h c hc) n
theorem rps_ren {cs : List D} (h : cs.all D.rp = true) (f : Nat → Nat) : cs.map (D.ren1 f) = cs := by
  rw [List.all_eq_true] at h
  exact (List.map_congr_left fun c hc => rp_ren1 (h c hc) f).trans (List.map_id' cs)
theorem rps_frz {cs : List D} (h : cs.all D.rp = true) (i : Nat) (x : Ob) : cs.map (D.frz1 i x) = cs := by
  rw [List.all_eq_true] at h
  exact (List.map_congr_left fun c hc => rp_frz1 (h c hc) i x).trans (List.map_id' cs)

/-- The cells of xs one behind the other. -/
def flatD {α : Type} (cells : α → List D) (xs : List α) : List D := xs.flatMap cells
section
variable {α : Type} {cells : α → List D} {size : Nat}
theorem flat_len (hs : ∀ x, (cells x).length = size) (xs : List α) : (flatD cells xs).length = xs.length * size := by
  induction xs with
  | nil => simp [flatD]
  | cons x r ih =>
    have e : flatD cells (x :: r) = cells x ++ flatD cells r := rfl
    rw [e, List.length_append, ih, hs, List.length_cons, Nat.add_mul, Nat.one_mul, Nat.add_comm]
theorem flat_rp (h1 : ∀ x, (cells x).all D.rp = true) (xs : List α) : (flatD cells xs).all D.rp = true := by
  induction xs with
  | nil => rfl
  | cons x r ih =>
    have e : flatD cells (x :: r) = cells x ++ flatD cells r := rfl
    rw [e, List.all_append, h1, ih]; rfl
theorem flat_snoc (xs : List α) (x : α) : flatD cells (xs ++ [x]) = flatD cells xs ++ cells x := by simp [flatD]
theorem flat_append (xs ys : List α) : flatD cells (xs ++ ys) = flatD cells xs ++ flatD cells ys := by simp [flatD]
theorem flat_drop (hs : ∀ x, (cells x).length = size) : ∀ (xs : List α) (k : Nat), (flatD cells xs).drop (k * size) = flatD cells (xs.drop k)
  | [], k => by simp [flatD]
  | x :: r, 0 => by simp
  | x :: r, k + 1 => by
    have e : flatD cells (x :: r) = cells x ++ flatD cells r := rfl
    rw [e, show (k + 1) * size = (cells x).length + k * size by rw [hs, Nat.add_mul, Nat.one_mul, Nat.add_comm], ← List.drop_drop, List.drop_left, flat_drop hs r k]
    rfl
theorem flat_take (hs : ∀ x, (cells x).length = size) : ∀ (xs : List α) (k : Nat), (flatD cells xs).take (k * size) = flatD cells (xs.take k)
  | [], k => by simp [flatD]
  | x :: r, 0 => by simp [flatD]
  | x :: r, k + 1 => by
    have e : flatD cells (x :: r) = cells x ++ flatD cells r := rfl
    rw [e, show (k + 1) * size = (cells x).length + k * size by rw [hs, Nat.add_mul, Nat.one_mul, Nat.add_comm], List.take_length_add_append, flat_take hs r k]
    rfl
/-- The k-th thing, as a whole. -/
theorem flat_part [Inhabited α] (hs : ∀ x, (cells x).length = size) (xs : List α) (k : Nat) (h : k < xs.length) : ((flatD cells xs).drop (k * size)).take size = cells (xs.getD k default) := by
  rw [flat_drop hs, List.drop_eq_getElem_cons h]
  have e : flatD cells (xs[k] :: xs.drop (k + 1)) = cells xs[k] ++ flatD cells (xs.drop (k + 1)) := rfl
  rw [e, ← hs xs[k], List.take_left]
  simp [h]
/-- One cell of the k-th thing. -/
theorem flat_cell [Inhabited α] (hs : ∀ x, (cells x).length = size) (xs : List α) (k j : Nat) (h : k < xs.length) (hj : j < size) : (flatD cells xs)[k * size + j]? = (cells (xs.getD k default))[j]? := by
  rw [← flat_part hs xs k h, List.getElem?_take_of_lt hj, List.getElem?_drop]
theorem flat_set (hs : ∀ x, (cells x).length = size) : ∀ (xs : List α) (k : Nat) (x : α), k < xs.length → (flatD cells xs).take (k * size) ++ cells x ++ (flatD cells xs).drop (k * size + size) = flatD cells (xs.set k x) := by
  intro xs k x h
  rw [flat_take hs, show k * size + size = (k + 1) * size by rw [Nat.add_mul, Nat.one_mul], flat_drop hs, List.set_eq_take_append_cons_drop, if_pos h, flat_append]
  simp [flatD]
end
end Go.Proofs.YtemaanibghedlaaGreat
