/- Disks: plain Lean (both the model and the program are shown to reckon these). -/
import Derived.Test.YtidjjfjhmlndjaaGreatDoorClx
namespace Go.Proofs.YtidjjfjhmlndjaaGreatDoor
open Go.RowKit

structure FileD.fine (f : FileD) : Prop where
  n : f.name.size ≤ 1048576
  t : f.text.size ≤ 1048576
  lo : -9223372036854775808 ≤ f.synced
  hi : f.synced ≤ 9223372036854775807
/-- A disk that fits. -/
structure DiskF (fs : List FileD) : Prop where
  len : fs.length ≤ 1048580
  f : ∀ k, (fs.getD k default).fine
theorem fileD_def : FileD.fine default := ⟨Nat.zero_le _, Nat.zero_le _, by show _ ≤ (0 : Int); decide, by show (0 : Int) ≤ _; decide⟩
theorem diskF_mem {fs : List FileD} (h1 : fs.length ≤ 1048580) (h : ∀ f ∈ fs, f.fine) : DiskF fs := ⟨h1, fun k => by
  rw [List.getD_eq_getElem?_getD]
  cases e : fs[k]? with
  | none => exact fileD_def
  | some f => exact h f (List.mem_of_getElem? e)⟩
theorem DiskF.mem {fs : List FileD} (h : DiskF fs) : ∀ f ∈ fs, f.fine := fun f hf => by
  obtain ⟨k, hk, rfl⟩ := List.getElem_of_mem hf
  have := h.f k
  rwa [List.getD_eq_getElem?_getD, List.getElem?_eq_getElem hk] at this
/-- The place of the first file of a name, -1 if there is none. -/
def fileB (fs : List FileD) (nm : ByteArray) : Int := firstN fs.length fun k => eqB (fs.getD k default).name nm
def txtB (fs : List FileD) (nm : ByteArray) : ByteArray := if fileB fs nm < 0 then ⟨#[]⟩ else (fs.getD (fileB fs nm).toNat default).text
def fileOkB (fs : List FileD) (k : Nat) : Bool := nmB (fs.getD k default).name && (nextB (fun a b : FileD => lessB a.name b.name) fs k && (decide ((fs.getD k default).text.size ≤ 20000) && inB (fs.getD k default).synced 0 (fs.getD k default).text.size))
def diskB (fs : List FileD) : Bool := decide (fs.length ≤ 4) && allB fs.length (fileOkB fs)
theorem fileB_rng (fs : List FileD) (nm : ByteArray) : -1 ≤ fileB fs nm ∧ fileB fs nm < fs.length := ⟨(firstN_rng _ _).1, (firstN_rng _ _).2.1⟩
theorem getD_drop {α : Type} [Inhabited α] (fs : List α) {k : Nat} (h : k < fs.length) : fs.drop k = fs.getD k default :: fs.drop (k + 1) := by
  rw [List.drop_eq_getElem_cons h]
  simp [h]
/-- A file laid at its place. -/
def putF (f : FileD) : List FileD → List FileD
  | [] => [f]
  | x :: r => if lessB x.name f.name = true then x :: putF f r else if eqB x.name f.name = true then f :: r else f :: x :: r
theorem putF_less {f : FileD} {fs a : List FileD} {k : Nat} (hk : k < fs.length) (h : lessB (fs.getD k default).name f.name = true) (hR : a ++ putF f (fs.drop k) = putF f fs) : (a ++ [fs.getD k default]) ++ putF f (fs.drop (k + 1)) = putF f fs := by
  rw [← hR, getD_drop fs hk, putF, if_pos h]
  simp
theorem putF_same {f : FileD} {fs a : List FileD} {k : Nat} (hk : k < fs.length) (h : lessB (fs.getD k default).name f.name = false) (he : eqB (fs.getD k default).name f.name = true) (hR : a ++ putF f (fs.drop k) = putF f fs) : a ++ [f] ++ fs.drop (k + 1) = putF f fs := by
  rw [← hR, getD_drop fs hk, putF, if_neg (by rw [h]; decide), if_pos he]
  simp
theorem putF_other {f : FileD} {fs a : List FileD} {k : Nat} (hk : k < fs.length) (h : lessB (fs.getD k default).name f.name = false) (he : eqB (fs.getD k default).name f.name = false) (hR : a ++ putF f (fs.drop k) = putF f fs) : a ++ [f] ++ fs.drop k = putF f fs := by
  rw [← hR, getD_drop fs hk, putF, if_neg (by rw [h]; decide), if_neg (by rw [he]; decide)]
  simp
theorem putF_end {f : FileD} {fs a : List FileD} {k : Nat} (hk : fs.length ≤ k) (hR : a ++ putF f (fs.drop k) = putF f fs) : a ++ [f] ++ fs.drop k = putF f fs := by
  rw [← hR, List.drop_of_length_le hk, putF]
  simp
theorem putF_len (f : FileD) : ∀ fs : List FileD, (putF f fs).length ≤ fs.length + 1
  | [] => Nat.le_refl _
  | x :: r => by
    have ih := putF_len f r
    unfold putF
    split
    · simp only [List.length_cons]; omega
    · split <;> simp
theorem putF_mem (f : FileD) : ∀ (fs : List FileD), ∀ x ∈ putF f fs, x = f ∨ x ∈ fs
  | [], x, h => .inl (by simpa [putF] using h)
  | y :: r, x, h => by
    have ih := putF_mem f r x
    unfold putF at h
    split at h
    · rcases List.mem_cons.1 h with h | h
      · exact .inr (by rw [h]; simp)
      · rcases ih h with h | h
        · exact .inl h
        · exact .inr (List.mem_cons_of_mem _ h)
    · split at h
      · rcases List.mem_cons.1 h with h | h
        · exact .inl h
        · exact .inr (List.mem_cons_of_mem _ h)
      · rcases List.mem_cons.1 h with h | h
        · exact .inl h
        · exact .inr h
theorem putF_fine {f : FileD} {fs : List FileD} (h : DiskF fs) (hl : fs.length ≤ 1048576) (hf : f.fine) : DiskF (putF f fs) :=
  diskF_mem (Nat.le_trans (putF_len f fs) (by omega)) fun x hx => by
    rcases putF_mem f fs x hx with rfl | hx
    · exact hf
    · exact h.mem x hx
/-! The program's way to lay a file. -/
def withF (f : FileD) : Bool → List FileD → List FileD
  | done, [] => if done = true then [] else [f]
  | done, x :: r =>
    if done = false ∧ lessB x.name f.name = false then f :: (if eqB x.name f.name = true then withF f true r else x :: withF f true r)
    else if eqB x.name f.name = true then withF f done r else x :: withF f done r
theorem less_irr : ∀ (l : List UInt8), Op.bytesLess l l = false
  | [] => rfl
  | a :: l => by simp [Op.bytesLess, less_irr l]
theorem lessB_irr (a : ByteArray) : lessB a a = false := less_irr _
theorem less_tr : ∀ (a b c : List UInt8), Op.bytesLess a b = true → Op.bytesLess b c = true → Op.bytesLess a c = true
  | [], [], _, h, _ => by simp [Op.bytesLess] at h
  | _ :: _, [], _, h, _ => by simp [Op.bytesLess] at h
  | _, _ :: _, [], _, h => by simp [Op.bytesLess] at h
  | [], _ :: _, _ :: _, _, _ => by simp [Op.bytesLess]
  | a :: x, b :: y, c :: z, h1, h2 => by
    simp only [Op.bytesLess, Bool.or_eq_true, Bool.and_eq_true, decide_eq_true_eq, beq_iff_eq] at h1 h2 ⊢
    rcases h1 with h1 | ⟨h1, h3⟩
    · rcases h2 with h2 | ⟨h2, _⟩
      · left
        have e1 : a.toNat < b.toNat := h1
        have e2 : b.toNat < c.toNat := h2
        show a.toNat < c.toNat
        omega
      · subst h2; exact .inl h1
    · subst h1
      rcases h2 with h2 | ⟨h2, h4⟩
      · exact .inl h2
      · exact .inr ⟨h2, less_tr x y z h3 h4⟩
theorem lessB_tr {a b c : ByteArray} (h1 : lessB a b = true) (h2 : lessB b c = true) : lessB a c = true := less_tr _ _ _ h1 h2
theorem eqB_eq {a b : ByteArray} (h : eqB a b = true) : a = b := by
  unfold eqB at h
  have e := beq_iff_eq.1 h
  rw [ByteArray.toList_eq, ByteArray.toList_eq] at e
  exact ByteArray.ext (Array.toList_inj.1 e)
theorem less_tri : ∀ (a b : List UInt8), Op.bytesLess a b = false → a ≠ b → Op.bytesLess b a = true
  | [], [], _, h => absurd rfl h
  | [], _ :: _, h, _ => by simp [Op.bytesLess] at h
  | _ :: _, [], _, _ => by simp [Op.bytesLess]
  | a :: xs, b :: ys, h, hne => by
    simp only [Op.bytesLess, Bool.or_eq_false_iff, Bool.and_eq_false_iff, decide_eq_false_iff_not, Bool.or_eq_true, Bool.and_eq_true, decide_eq_true_eq, beq_iff_eq, beq_eq_false_iff_ne] at h ⊢
    obtain ⟨h1, h2⟩ := h
    by_cases he : a = b
    · subst he
      refine .inr ⟨rfl, less_tri xs ys (by rcases h2 with h2 | h2; exact absurd rfl h2; exact h2) fun e => hne (by rw [e])⟩
    · left
      have h3 : ¬ a.toNat < b.toNat := h1
      have h4 : a.toNat ≠ b.toNat := fun e => he (UInt8.toNat_inj.1 e)
      show b.toNat < a.toNat
      omega
theorem lessB_tri {a b : ByteArray} (h : lessB a b = false) (hne : eqB a b = false) : lessB b a = true :=
  less_tri _ _ h (by unfold eqB at hne; simpa using hne)
/-- The names ascend. -/
def Asc (fs : List FileD) : Prop := fs.Pairwise fun a b => lessB a.name b.name = true
theorem withF_rest {f : FileD} : ∀ {fs : List FileD}, (∀ x ∈ fs, lessB f.name x.name = true) → withF f true fs = fs
  | [], _ => rfl
  | x :: r, h => by
    have hx := h x (by simp)
    have hne : eqB x.name f.name = false := by
      cases e : eqB x.name f.name with
      | false => rfl
      | true => rw [eqB_eq e, lessB_irr] at hx; cases hx
    unfold withF
    rw [if_neg (by simp), if_neg (by rw [hne]; decide), withF_rest fun y hy => h y (List.mem_cons_of_mem _ hy)]
theorem withF_put {f : FileD} : ∀ {fs : List FileD}, Asc fs → withF f false fs = putF f fs
  | [], _ => rfl
  | x :: r, h => by
    obtain ⟨h1, h2⟩ := List.pairwise_cons.1 h
    unfold withF putF
    cases hl : lessB x.name f.name with
    | true =>
      have hne : eqB x.name f.name = false := by
        cases e : eqB x.name f.name with
        | false => rfl
        | true => rw [eqB_eq e, lessB_irr] at hl; cases hl
      simp only [Bool.true_eq_false, and_false, if_false, if_true, hne, Bool.false_eq_true]
      rw [withF_put h2]
    | false =>
      simp only [and_self, if_true, Bool.false_eq_true, if_false]
      cases he : eqB x.name f.name with
      | true =>
        simp only [if_true]
        rw [withF_rest fun y hy => by have := h1 y hy; rwa [eqB_eq he] at this]
      | false =>
        simp only [Bool.false_eq_true, if_false]
        rw [withF_rest fun y hy => lessB_tr (lessB_tri hl he) (h1 y hy)]
theorem withF_len (f : FileD) : ∀ (b : Bool) (fs : List FileD), (withF f b fs).length ≤ fs.length + cond b 0 1
  | b, [] => by cases b <;> simp [withF]
  | b, x :: r => by
    have i1 := withF_len f true r
    have i2 := withF_len f b r
    simp only [cond_true] at i1
    cases b
    · simp only [cond_false] at i2 ⊢
      unfold withF
      split
      · split <;> simp only [List.length_cons] <;> omega
      · split <;> simp only [List.length_cons] <;> omega
    · unfold withF
      rw [if_neg (by simp)]
      simp only [cond_true]
      split <;> simp only [List.length_cons] <;> omega
theorem asc_of {fs : List FileD} (h : diskB fs = true) : Asc fs := by
  unfold diskB at h
  simp only [Bool.and_eq_true, decide_eq_true_eq] at h
  have hn : ∀ i, i + 1 < fs.length → lessB (fs.getD i default).name (fs.getD (i + 1) default).name = true := by
    intro i hi
    have h1 := List.all_eq_true.1 h.2 (i + 1) (List.mem_range.2 hi)
    unfold fileOkB at h1
    simp only [Bool.and_eq_true] at h1
    have h2 := h1.2.1
    unfold nextB at h2
    simpa using h2
  have key : ∀ d i, i + d + 1 < fs.length → lessB (fs.getD i default).name (fs.getD (i + d + 1) default).name = true := by
    intro d
    induction d with
    | zero => intro i hi; exact hn i hi
    | succ d ih => intro i hi; exact lessB_tr (ih i (by omega)) (hn (i + d + 1) hi)
  refine List.pairwise_iff_getElem.2 fun i j hi hj hij => ?_
  have := key (j - i - 1) i (by omega)
  rw [show i + (j - i - 1) + 1 = j by omega] at this
  rw [List.getD_eq_getElem?_getD, List.getD_eq_getElem?_getD, List.getElem?_eq_getElem hi, List.getElem?_eq_getElem hj] at this
  exact this
theorem disk_small {fs : List FileD} (h : diskB fs = true) : fs.length ≤ 4 := by
  unfold diskB at h
  simp only [Bool.and_eq_true, decide_eq_true_eq] at h
  exact h.1
theorem with_lay {f : FileD} {fs a : List FileD} {k : Nat} (hk : k < fs.length) (h : lessB (fs.getD k default).name f.name = false) (he : eqB (fs.getD k default).name f.name = false) (hR : a ++ withF f false (fs.drop k) = withF f false fs) : a ++ [f] ++ [fs.getD k default] ++ withF f true (fs.drop (k + 1)) = withF f false fs := by
  rw [← hR, getD_drop fs hk]
  conv => rhs; unfold withF
  rw [if_pos ⟨rfl, h⟩, if_neg (by rw [he]; decide)]
  simp
theorem with_over {f : FileD} {fs a : List FileD} {k : Nat} (hk : k < fs.length) (h : lessB (fs.getD k default).name f.name = false) (he : eqB (fs.getD k default).name f.name = true) (hR : a ++ withF f false (fs.drop k) = withF f false fs) : a ++ [f] ++ withF f true (fs.drop (k + 1)) = withF f false fs := by
  rw [← hR, getD_drop fs hk]
  conv => rhs; unfold withF
  rw [if_pos ⟨rfl, h⟩, if_pos he]
  simp
theorem with_no {b c : Bool} (h : b = true ∨ c = true) : ¬ (b = false ∧ c = false) := by
  rintro ⟨rfl, rfl⟩
  rcases h with h | h <;> cases h
theorem with_skip {f : FileD} {fs a : List FileD} {k : Nat} {b : Bool} (hk : k < fs.length) (h : b = true ∨ lessB (fs.getD k default).name f.name = true) (he : eqB (fs.getD k default).name f.name = true) (hR : a ++ withF f b (fs.drop k) = withF f false fs) : a ++ withF f b (fs.drop (k + 1)) = withF f false fs := by
  rw [← hR, getD_drop fs hk]
  conv => rhs; unfold withF
  rw [if_neg (with_no h), if_pos he]
theorem with_keep {f : FileD} {fs a : List FileD} {k : Nat} {b : Bool} (hk : k < fs.length) (h : b = true ∨ lessB (fs.getD k default).name f.name = true) (he : eqB (fs.getD k default).name f.name = false) (hR : a ++ withF f b (fs.drop k) = withF f false fs) : a ++ [fs.getD k default] ++ withF f b (fs.drop (k + 1)) = withF f false fs := by
  rw [← hR, getD_drop fs hk]
  conv => rhs; unfold withF
  rw [if_neg (with_no h), if_neg (by rw [he]; decide)]
  simp
theorem with_end {f : FileD} {fs a : List FileD} {k : Nat} (hk : fs.length ≤ k) (hR : a ++ withF f true (fs.drop k) = withF f false fs) : a = withF f false fs := by
  rw [← hR, List.drop_of_length_le hk]
  simp [withF]
theorem with_end2 {f : FileD} {fs a : List FileD} {k : Nat} (hk : fs.length ≤ k) (hR : a ++ withF f false (fs.drop k) = withF f false fs) : a ++ [f] = withF f false fs := by
  rw [← hR, List.drop_of_length_le hk]
  simp [withF]
/-! The acts. -/
def wrR (fs : List FileD) (nm tx : ByteArray) : List FileD × Int :=
  if diskB fs = true ∧ nmB nm = true ∧ tx.size ≤ 20000 then (if fileB fs nm < 0 ∧ 4 ≤ fs.length then (fs, 3) else (putF ⟨nm, tx, 0⟩ fs, 0)) else (fs, 1)
def syF (fs : List FileD) (k : Nat) : List FileD := fs.set k ⟨(fs.getD k default).name, (fs.getD k default).text, (fs.getD k default).text.size⟩
def syR (fs : List FileD) (nm : ByteArray) : List FileD × Int := if diskB fs = true then (if fileB fs nm < 0 then (fs, 2) else (syF fs (fileB fs nm).toNat, 0)) else (fs, 1)
def mvF (fs : List FileD) (k : Nat) (nm : ByteArray) : List FileD := putF ⟨nm, (fs.getD k default).text, (fs.getD k default).synced⟩ (fs.eraseIdx k)
def mvR (fs : List FileD) (fr nm : ByteArray) : List FileD × Int := if diskB fs = true ∧ nmB nm = true then (if fileB fs fr < 0 then (fs, 2) else (mvF fs (fileB fs fr).toNat nm, 0)) else (fs, 1)
def rmR (fs : List FileD) (nm : ByteArray) : List FileD × Int := if diskB fs = true then (if fileB fs nm < 0 then (fs, 2) else (fs.eraseIdx (fileB fs nm).toNat, 0)) else (fs, 1)
def newNm : ByteArray := ⟨#[115, 116, 97, 116, 101, 45, 110, 101, 119]⟩
def stNm : ByteArray := ⟨#[115, 116, 97, 116, 101]⟩
def stepR (fs : List FileD) (tx : ByteArray) (st : Int) : List FileD × Int := if st = 0 then wrR fs newNm tx else if st = 1 then syR fs newNm else if st = 2 then mvR fs newNm stNm else (fs, 12)
/-- n more steps from step i on, as long as they go well. -/
def stepsR (tx : ByteArray) : Nat → Int → List FileD → List FileD × Int
  | 0, _, fs => (fs, 0)
  | n + 1, i, fs => if (stepR fs tx i).2 = 0 then stepsR tx n (i + 1) (stepR fs tx i).1 else stepR fs tx i
def tillR (fs : List FileD) (tx : ByteArray) (steps : Int) : List FileD × Int := stepsR tx (min steps 3).toNat 0 fs
theorem steps_go {tx : ByteArray} {fs : List FileD} {n : Nat} {i : Int} {R : List FileD × Int} (hR : stepsR tx (n + 1) i fs = R) (h : (stepR fs tx i).2 = 0) : stepsR tx n (i + 1) (stepR fs tx i).1 = R := by
  rw [← hR, stepsR, if_pos h]
theorem steps_no {tx : ByteArray} {fs : List FileD} {n : Nat} {i : Int} {R : List FileD × Int} (hR : stepsR tx (n + 1) i fs = R) (h : (stepR fs tx i).2 ≠ 0) : stepR fs tx i = R := by
  rw [← hR, stepsR, if_neg h]
theorem steps_end {tx : ByteArray} {fs : List FileD} {i : Int} {R : List FileD × Int} (hR : stepsR tx 0 i fs = R) : (fs, 0) = R := hR
theorem set_fine {fs : List FileD} (h : DiskF fs) (k : Nat) {f : FileD} (hf : f.fine) : DiskF (fs.set k f) := diskF_mem (by rw [List.length_set]; exact h.len) fun x hx => by
  rcases List.mem_or_eq_of_mem_set hx with hx | rfl
  · exact h.mem x hx
  · exact hf
theorem erase_fine {fs : List FileD} (h : DiskF fs) (k : Nat) : DiskF (fs.eraseIdx k) := diskF_mem (Nat.le_trans (List.length_eraseIdx_le fs k) h.len) fun x hx => h.mem x ((List.eraseIdx_sublist fs k).subset hx)
/-- The disk and no more than one file more. -/
structure DiskG (fs gs : List FileD) : Prop where
  f : DiskF gs
  len : gs.length ≤ fs.length ∨ gs.length ≤ 5
theorem wr_fine {fs : List FileD} (h : DiskF fs) {nm tx : ByteArray} (h1 : nm.size ≤ 1048576) : DiskG fs (wrR fs nm tx).1 := by
  unfold wrR
  split
  · rename_i hc
    have := disk_small hc.1
    split
    · exact ⟨h, .inl (Nat.le_refl _)⟩
    · exact ⟨putF_fine h (by omega) ⟨h1, by show tx.size ≤ _; omega, by show _ ≤ (0 : Int); decide, by show (0 : Int) ≤ _; decide⟩, .inr (Nat.le_trans (putF_len _ _) (by omega))⟩
  · exact ⟨h, .inl (Nat.le_refl _)⟩
theorem sy_fine {fs : List FileD} (h : DiskF fs) {nm : ByteArray} : DiskG fs (syR fs nm).1 := by
  unfold syR
  split
  · split
    · exact ⟨h, .inl (Nat.le_refl _)⟩
    · have := (h.f (fileB fs nm).toNat).t
      exact ⟨set_fine h _ ⟨(h.f _).n, this, by show _ ≤ ((ByteArray.size _ : Nat) : Int); omega, by show ((ByteArray.size _ : Nat) : Int) ≤ _; omega⟩, .inl (by show (List.set _ _ _).length ≤ _; rw [List.length_set]; exact Nat.le_refl _)⟩
  · exact ⟨h, .inl (Nat.le_refl _)⟩
theorem mv_fine {fs : List FileD} (h : DiskF fs) {fr nm : ByteArray} (h1 : nm.size ≤ 1048576) : DiskG fs (mvR fs fr nm).1 := by
  unfold mvR
  split
  · rename_i hc
    have := disk_small hc.1
    have h4 := List.length_eraseIdx_le fs (fileB fs fr).toNat
    split
    · exact ⟨h, .inl (Nat.le_refl _)⟩
    · exact ⟨putF_fine (erase_fine h _) (by omega) ⟨h1, (h.f _).t, (h.f _).lo, (h.f _).hi⟩, .inr (Nat.le_trans (putF_len _ _) (by omega))⟩
  · exact ⟨h, .inl (Nat.le_refl _)⟩
theorem rm_fine {fs : List FileD} (h : DiskF fs) {nm : ByteArray} : DiskG fs (rmR fs nm).1 := by
  unfold rmR
  split
  · split
    · exact ⟨h, .inl (Nat.le_refl _)⟩
    · exact ⟨erase_fine h _, .inl (List.length_eraseIdx_le fs _)⟩
  · exact ⟨h, .inl (Nat.le_refl _)⟩
theorem step_fine {fs : List FileD} (h : DiskF fs) {tx : ByteArray} {st : Int} : DiskG fs (stepR fs tx st).1 := by
  unfold stepR
  split
  · exact wr_fine h (by decide)
  · split
    · exact sy_fine h
    · split
      · exact mv_fine h (by decide)
      · exact ⟨h, .inl (Nat.le_refl _)⟩
theorem DiskG.trans {a b c : List FileD} (h : DiskG a b) (k : DiskG b c) : DiskG a c := ⟨k.f, by rcases k.len with h1 | h1 <;> rcases h.len with h2 | h2 <;> first | (left; omega) | (right; omega)⟩
theorem steps_fine {tx : ByteArray} : ∀ (n : Nat) (i : Int) {fs : List FileD}, DiskF fs → DiskG fs (stepsR tx n i fs).1
  | 0, _, fs, h => ⟨h, .inl (Nat.le_refl _)⟩
  | n + 1, i, fs, h => by
    unfold stepsR
    have h1 := step_fine h (tx := tx) (st := i)
    split
    · exact h1.trans (steps_fine n (i + 1) h1.f)
    · exact h1
/-! Falling. -/
def brB (n least most : Int) : Int := if most < least ∨ n < least then least else if most < n then most else n
def fallN (f : FileD) (q : Int) : Int := f.synced + brB q 0 (f.text.size - f.synced)
def fallF (f : FileD) (q : Int) : FileD := ⟨f.name, f.text.extract 0 (fallN f q).toNat, fallN f q⟩
def fallR (ks : List Int) : Nat → List FileD → List FileD
  | _, [] => []
  | i, f :: r => fallF f (ks.getD i 0) :: fallR ks (i + 1) r
def fallenR (fs : List FileD) (ks : List Int) : List FileD := if diskB fs = true then fallR ks 0 fs else fs
end Go.Proofs.YtidjjfjhmlndjaaGreatDoor
