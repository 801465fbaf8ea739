/- Functions of Go's library as contracts over data: strings.Join, slices.Equal; names. -/
import Derived.Test.YtepachoampdhiaaDoorShelf2
import Derived.Test.YtepachoampdhiaaDoorHex
namespace Go.Proofs.YtepachoampdhiaaDoor
open Go.RowKit

def strsD (ss : List ByteArray) : List D := ss.map fun b => .sc (.string b)
theorem strsD_len (ss : List ByteArray) : (strsD ss).length = ss.length := by simp [strsD]
theorem sl_cells {ro : Nat → Prop} {w : World} {n : Nat} {cs : List D} {u : Value} (h : RepP ro w (.sl n cs) u) : ∃ (A : Option Addr) (c : Nat) (us : List Value), u = .slice A n c ∧ us.length = cs.length ∧ n ≤ c ∧ c ≤ maxLen ∧ (∀ (j : Nat) (v : Value), us[j]? = some v → ∃ b o, A = some ⟨b, o, none⟩ ∧ ro b ∧ w.cell? ⟨b, o + j, none⟩ = some v) ∧ ∀ (j : Nat) (d : D) (v : Value), cs[j]? = some d → us[j]? = some v → RepP ro w d v := by
  cases h with
  | sl _ _ A c us hl hn hc hcell hrep => exact ⟨A, c, us, rfl, hl, hn, hc, hcell, hrep⟩
theorem sl_flat {ro : Nat → Prop} {w : World} {vs : List Value} {u : Value} (h : RepP ro w (.sl vs.length (vs.map .sc)) u) (h0 : 0 < vs.length) : ∃ b o c, u = .slice (some ⟨b, o, none⟩) vs.length c ∧ vs.length ≤ c ∧ ro b ∧ ∀ (j : Nat) (v : Value), vs[j]? = some v → w.cell? ⟨b, o + j, none⟩ = some v := by
  obtain ⟨A, c, us, rfl, hl, hn, hc, hcell, hrep⟩ := sl_cells h
  rw [List.length_map] at hl
  obtain ⟨b, o, rfl, hb, _⟩ := hcell 0 (us[0]'(by omega)) (List.getElem?_eq_getElem _)
  refine ⟨b, o, c, rfl, hn, hb, fun j v hv => ?_⟩
  have hj : j < us.length := by rw [hl]; exact (List.getElem?_eq_some_iff.1 hv).1
  obtain ⟨b', o', e, _, h5⟩ := hcell j us[j] (List.getElem?_eq_getElem hj)
  injection e with e
  injection e with e1 e2
  subst e1; subst e2
  have h6 := hrep j (.sc v) us[j] (by rw [List.getElem?_map, hv]; rfl) (List.getElem?_eq_getElem hj)
  rw [h5, repP_sc h6]
def joinB (xs : List ByteArray) (sep : ByteArray) : ByteArray := ⟨(Lib.join (xs.map (·.data.toList)) sep.data.toList).toArray⟩
theorem args2 {args : Array Value} (h : args.size = 2) : ∃ a b, args = #[a, b] := by
  obtain ⟨l⟩ := args
  match l, h with
  | [a, b], _ => exact ⟨a, b, rfl⟩
theorem args1 {args : Array Value} (h : args.size = 1) : ∃ a, args = #[a] := by
  obtain ⟨l⟩ := args
  match l, h with
  | [a], _ => exact ⟨a, rfl⟩
theorem join_D (xs : List ByteArray) (sep : ByteArray) (hlen : (joinB xs sep).size ≤ 140737488355328) (hN : xs.length ≤ 140737488355328) : Spec Tryd.prog 36 [.sl xs.length (strsD xs), .sc (.string sep)] (fun d => d = .sc (.string (joinB xs sep))) := by
  refine ⟨callable Tryd.func36 rfl (by kernel_rfl), fun ro w args hro hsz hrep => ?_⟩
  obtain ⟨a0, a1, rfl⟩ := args2 hsz
  have h0 : RepP ro w (.sl xs.length (strsD xs)) a0 := hrep 0 _ rfl
  obtain rfl : a1 = .string sep := (hrep 1 _ rfl).1
  rcases Nat.eq_zero_or_pos xs.length with h | h
  · obtain rfl : xs = [] := List.eq_nil_of_length_eq_zero h
    obtain ⟨A, c, us, rfl, _⟩ := sl_cells h0
    refine (Tryd.strings_Join_none A c sep w).mono ?_
    rintro e w' ⟨rfl, rfl⟩
    exact ⟨_, _, rfl, rfl, ⟨rfl, rfl⟩, Below.refl _ _⟩
  · have e : strsD xs = (xs.map Value.string).map D.sc := by simp [strsD, Function.comp_def]
    rw [e, ← List.length_map (f := Value.string)] at h0
    obtain ⟨b, o, c, rfl, hc, hb, hcell⟩ := sl_flat h0 (by simpa using h)
    rw [List.length_map] at hc ⊢
    refine (Tryd.strings_Join b o c xs sep w (fun j x hx => hcell j _ (by rw [List.getElem?_map, hx]; rfl)) (hro b hb) hN hc (by simpa [joinB, ByteArray.size] using hlen)).mono ?_
    rintro e w' ⟨rfl, hbel⟩
    exact ⟨_, _, rfl, rfl, ⟨rfl, rfl⟩, hbel⟩
theorem equal_D (ks js : List Int) (hk : ks.length ≤ 1048576) (hj : js.length ≤ 1048576) : Spec Tryd.prog 49 [.sl ks.length (intsD ks), .sl js.length (intsD js)] (fun d => d = .sc (.bool (ks == js))) := by
  refine ⟨callable Tryd.func49 rfl (by kernel_rfl), fun ro w args hro hsz hrep => ?_⟩
  obtain ⟨a0, a1, rfl⟩ := args2 hsz
  have h0 : RepP ro w (.sl ks.length (intsD ks)) a0 := hrep 0 _ rfl
  have h1 : RepP ro w (.sl js.length (intsD js)) a1 := hrep 1 _ rfl
  have ek : ∀ l : List Int, intsD l = (l.map (Value.int .i64)).map D.sc := fun l => by simp [intsD, Function.comp_def]
  by_cases hl : ks.length = js.length
  · rcases Nat.eq_zero_or_pos ks.length with h | h
    · obtain rfl : ks = [] := List.eq_nil_of_length_eq_zero h
      obtain ⟨A, c, us, rfl, _⟩ := sl_cells h0
      obtain ⟨B, c2, us2, rfl, _⟩ := sl_cells h1
      refine (Tryd.slices_Equal_int_empty A B c js.length c2 w (by omega)).mono ?_
      rintro e w' ⟨rfl, rfl⟩
      have : js = [] := List.eq_nil_of_length_eq_zero (by rw [← hl]; rfl)
      subst this
      exact ⟨_, _, rfl, rfl, ⟨rfl, rfl⟩, Below.refl _ _⟩
    · rw [ek, ← List.length_map (f := Value.int .i64)] at h0 h1
      obtain ⟨b, o, c, rfl, hc, hb, hcell⟩ := sl_flat h0 (by simpa using h)
      obtain ⟨b2, o2, c2, rfl, hc2, hb2, hcell2⟩ := sl_flat h1 (by simp; omega)
      rw [List.length_map, List.length_map]
      refine (Tryd.slices_Equal_int b o ks.length c b2 o2 js.length c2 ks js w (Nat.le_refl _) (Nat.le_refl _) (by omega) (by omega) (fun j hj => hcell j _ (by simp [hj])) (fun j hj => hcell2 j _ (by simp [hj]))).mono ?_
      rintro e w' ⟨rfl, q, rfl⟩
      rw [List.take_length, List.take_length]
      exact ⟨_, _, rfl, rfl, ⟨rfl, rfl⟩, drwN (Below.refl _ _) q⟩
  · obtain ⟨A, c, us, rfl, _⟩ := sl_cells h0
    obtain ⟨B, c2, us2, rfl, _⟩ := sl_cells h1
    refine (Tryd.slices_Equal_int_lens A B ks.length c js.length c2 w hl).mono ?_
    rintro e w' ⟨rfl, rfl⟩
    refine ⟨_, _, rfl, rfl, ⟨?_, rfl⟩, Below.refl _ _⟩
    rw [eq_len hl]
noncomputable def nameB (s : ByteArray) : Bool := @decide (NameP s) (Classical.propDecidable _)
theorem nameB_iff (s : ByteArray) : nameB s = true ↔ NameP s := by unfold nameB; exact @decide_eq_true_iff _ (Classical.propDecidable _)
theorem specName_D (s : ByteArray) (hs : s.size ≤ 9223372036854775807) : Spec Tryd.prog 27 [.sc (.string s)] (fun d => d = .sc (.bool (nameB s))) := by
  refine ⟨callable Tryd.func27 rfl (by kernel_rfl), fun ro w args hro hsz hrep => ?_⟩
  obtain ⟨a0, rfl⟩ := args1 hsz
  obtain rfl : a0 = .string s := (hrep 0 _ rfl).1
  refine (specNameOk_any s (by unfold maxLen; omega) _ (nameB_iff s) w).mono ?_
  rintro e w' ⟨rfl, rfl⟩
  exact ⟨_, _, rfl, rfl, ⟨rfl, rfl⟩, Below.refl _ _⟩
theorem implName_D (s : ByteArray) (hs : s.size ≤ 9223372036854775807) : Spec Tryd.prog 34 [.sc (.string s)] (fun d => d = .sc (.bool (nameB s))) := by
  refine ⟨callable Tryd.func34 rfl (by kernel_rfl), fun ro w args hro hsz hrep => ?_⟩
  obtain ⟨a0, rfl⟩ := args1 hsz
  obtain rfl : a0 = .string s := (hrep 0 _ rfl).1
  refine (implNameOk_any s (by unfold maxLen; omega) _ (nameB_iff s) w).mono ?_
  rintro e w' ⟨rfl, rfl⟩
  exact ⟨_, _, rfl, rfl, ⟨rfl, rfl⟩, Below.refl _ _⟩
end Go.Proofs.YtepachoampdhiaaDoor
