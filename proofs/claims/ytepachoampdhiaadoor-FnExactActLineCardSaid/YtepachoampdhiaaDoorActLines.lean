/- The line of an act: what both forms of it reckon (plain law), and weaker readings of what a call is given. -/
import Derived.Test.YtepachoampdhiaaDoorActs2
namespace Go.Proofs.YtepachoampdhiaaDoor
open Go.RowKit

/-- What reads as d reads as d' too. -/
def Sub (d d' : D) : Prop := ∀ (E : Env) (w : World) (v : Value), Rep E w d v → Rep E w d' v
theorem Sub.refl (d : D) : Sub d d := fun _ _ _ h => h
def Sub1 (d d' : D) : Prop := d' = d ∨ (d = .sc (.slice none 0 0) ∧ d' = .sl 0 [])
theorem Sub1.rep1 {d d' : D} (h : Sub1 d d') {E : Env} {w : World} {v : Value} (hr : Rep1 E w d v) : Rep1 E w d' v := by
  rcases h with rfl | ⟨rfl, rfl⟩
  · exact hr
  · obtain ⟨rfl, _⟩ := hr
    exact .sl 0 [] none 0 [] rfl (Nat.le_refl _) (Nat.zero_le _) (fun j u h => by simp at h) (fun j d u h => by simp at h)
theorem Sub.agg {cs cs' : List D} (hl : cs.length = cs'.length) (h : ∀ (j : Nat) (d d' : D), cs[j]? = some d → cs'[j]? = some d' → Sub1 d d') : Sub (.agg cs) (.agg cs') := by
  rintro E w v ⟨us, h1, h2, h3⟩
  refine ⟨us, h1, h2.trans hl, fun j d' u hd' hu => ?_⟩
  cases hc : cs[j]? with
  | none =>
    have := List.getElem?_eq_none_iff.1 hc
    have h4 : j < cs'.length := (List.getElem?_eq_some_iff.1 hd').1
    omega
  | some d => exact ⟨(h j d d' hc hd').rep1 (h3 j d u hc hu).1, (h3 j d u hc hu).2⟩
theorem Spec.res {P : Program} {f : FuncId} {ds : List D} {d d' : D} (h : Spec P f ds fun x => x = d) (hs : Sub d d') : Spec P f ds fun x => x = d' :=
  ⟨h.1, fun ro w args h1 h2 h3 => (h.2 ro w args h1 h2 h3).mono fun _ _ ⟨_, v, h4, h5, h6, h7⟩ => ⟨d', v, rfl, h5, hs _ _ _ (h4 ▸ h6), h7⟩⟩
theorem Spec.args {P : Program} {f : FuncId} {ds ds' : List D} {Q : D → Prop} (h : Spec P f ds' Q) (hl : ds.length = ds'.length) (hs : ∀ (j : Nat) (d d' : D), ds[j]? = some d → ds'[j]? = some d' → Sub d d') : Spec P f ds Q := by
  refine ⟨h.1, fun ro w args h1 h2 h3 => h.2 ro w args h1 (h2.trans hl) fun j d' hd' => ?_⟩
  cases hc : ds[j]? with
  | none =>
    have := List.getElem?_eq_none_iff.1 hc
    have h4 : j < ds'.length := (List.getElem?_eq_some_iff.1 hd').1
    omega
  | some d => exact hs j d d' hc hd' _ _ _ (h3 j d hc)

theorem sub_tail (pre : List D) : Sub (.agg (pre ++ [.sc (.slice none 0 0)])) (.agg (pre ++ [.sl 0 []])) := by
  refine Sub.agg (by simp) fun j d d' h h' => ?_
  by_cases hj : j < pre.length
  · rw [List.getElem?_append_left hj] at h h'
    exact .inl (Option.some.inj (h'.symm.trans h))
  · rw [List.getElem?_append_right (by omega)] at h h'
    cases hk : j - pre.length with
    | zero => rw [hk] at h h'; exact .inr ⟨(Option.some.inj h).symm, (Option.some.inj h').symm⟩
    | succ k => rw [hk] at h; simp at h

theorem joinB_one (x sep : ByteArray) : joinB [x] sep = x := by
  simp [joinB, Lib.join_one]
theorem joinB_app (x : ByteArray) (r : List ByteArray) (y sep : ByteArray) : joinB (x :: r ++ [y]) sep = (joinB (x :: r) sep ++ sep) ++ y := by
  refine ByteArray.ext (Array.toList_inj.1 ?_)
  simp [joinB, Lib.join_cons, Lib.joinTail, ByteArray.data_append]

def inN (n : Int) : Bool := decide (0 ≤ n) && decide (n ≤ 1000000000)
def lineN (s : ByteArray) : List Int → ByteArray
  | [] => if s.size ≤ 600 then s else ⟨#[]⟩
  | n :: r => if inN n = true then lineN ((s ++ ⟨#[32]⟩) ++ numeral n) r else ⟨#[]⟩
theorem inN_rng {n : Int} (h : inN n = true) : -9223372036854775808 ≤ n ∧ n ≤ 9223372036854775807 := by
  simp [inN] at h
  omega
theorem inN_size {n : Int} (h : inN n = true) : (numeral n).size ≤ 21 := numeral_size n (inN_rng h).1 (inN_rng h).2
theorem drop_at {ns : List Int} {i : Int} (h0 : 0 ≤ i) (h : i < ns.length) : ns.drop i.toNat = ns.getD i.toNat 0 :: ns.drop (i + 1).toNat := by
  rw [List.drop_eq_getElem_cons (show i.toNat < ns.length by omega), show (i + 1).toNat = i.toNat + 1 by omega]
  simp [show i.toNat < ns.length by omega]
/-- Under way: the numbers from the i-th on are still to come behind s. -/
def LineI (B : Nat) (base s : ByteArray) (ns : List Int) (i : Int) : Prop := (0 ≤ i ∧ i ≤ ns.length) ∧ (s.size : Int) ≤ B + 22 * i ∧ lineN s (ns.drop i.toNat) = lineN base ns
theorem inN_nf {n : Int} (h : (!(decide (0 ≤ n) && decide (n ≤ 1000000000))) = false) : inN n = true := by simpa [inN] using h
theorem inN_nt {n : Int} (h : (!(decide (0 ≤ n) && decide (n ≤ 1000000000))) = true) : inN n = false := by
  cases hb : inN n
  · rfl
  · unfold inN at hb; rw [hb] at h; exact h.symm
theorem not_f {b : Bool} (h : (!b) = false) : b = true := by simpa using h
theorem not_n {b : Bool} (h : (!b) = true) : ¬ b = true := by simpa using h
theorem intsD_cons (x : Int) (r : List Int) : intsD (x :: r) = .sc (.int .i64 x) :: intsD r := rfl
theorem LineI.init (base : ByteArray) (ns : List Int) {B : Nat} (hB : base.size ≤ B) : LineI B base base ns 0 := ⟨by omega, by omega, rfl⟩
theorem LineI.init2 {base s : ByteArray} {ns : List Int} {B : Nat} (h : base = s) (hB : s.size ≤ B) : LineI B base s ns 0 := h ▸ LineI.init s ns hB
theorem LineI.step {B : Nat} {base s : ByteArray} {ns : List Int} {i : Int} (h : LineI B base s ns i) (hi : i < ns.length) (hin : inN (ns.getD i.toNat 0) = true) : LineI B base ((s ++ ⟨#[32]⟩) ++ numeral (ns.getD i.toNat 0)) ns (i + 1) := by
  obtain ⟨h1, h2, h3⟩ := h
  have := inN_size hin
  refine ⟨by omega, ?_, ?_⟩
  · simp only [ByteArray.size_append, ba_size, List.size_toArray, List.length_cons, List.length_nil]
    omega
  · rw [← h3, drop_at h1.1 hi, lineN, if_pos hin]
theorem LineI.out {B : Nat} {base s : ByteArray} {ns : List Int} {i : Int} (h : LineI B base s ns i) (hi : i < ns.length) (hin : inN (ns.getD i.toNat 0) = false) : lineN base ns = ⟨#[]⟩ := by
  obtain ⟨h1, h2, h3⟩ := h
  rw [← h3, drop_at h1.1 hi, lineN, if_neg (by rw [hin]; exact Bool.false_ne_true)]
theorem LineI.fin {B : Nat} {base s : ByteArray} {ns : List Int} {i : Int} (h : LineI B base s ns i) (hi : (ns.length : Int) ≤ i) : lineN base ns = if s.size ≤ 600 then s else ⟨#[]⟩ := by
  obtain ⟨h1, h2, h3⟩ := h
  rw [← h3, List.drop_of_length_le (by omega), lineN]
theorem sameB_comm (a b : ActD) : sameB a b = sameB b a := by
  unfold sameB
  simp only [Bool.beq_comm]
structure ActD.ok (a : ActD) : Prop where
  name : a.name.size ≤ 1048576
theorem actOk_facts {a : ActD} (h : actOkB a = true) : a.text.size ≤ 20000 ∧ (0 ≤ a.format ∧ a.format ≤ 9) ∧ a.keeps.length ≤ 4 := by
  simp [actOkB] at h
  omega
theorem hexB_size (t : ByteArray) (h : t.size ≤ 20000) : (hexB t).size ≤ 40000 := by
  have := hexNs_len t t.size
  simp only [hexB, strOf_size, this]
  omega
end Go.Proofs.YtepachoampdhiaaDoor
