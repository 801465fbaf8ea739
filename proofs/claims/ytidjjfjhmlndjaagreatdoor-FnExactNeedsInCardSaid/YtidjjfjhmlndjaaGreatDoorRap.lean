/- Words of a line that tells an act; what two readers make of them: plain Lean. -/
import Derived.Test.YtidjjfjhmlndjaaGreatDoorClx
import Derived.Lib.Fields
import Derived.Lib.ItoaNum
import Derived.Lib.ItoaMem
namespace Go.Proofs.YtidjjfjhmlndjaaGreatDoor
open Go.RowKit
set_option linter.unusedVariables false

abbrev By := List UInt8
def bl (s : ByteArray) : By := s.data.toList
def ba (l : By) : ByteArray := ⟨l.toArray⟩
/-- A word: not empty, no white space in it. -/
structure IsWd (w : By) : Prop where
  ne : w ≠ []
  ns : ∀ b ∈ w, Lib.isSp b = false
def joinW : List By → By
  | [] => []
  | [w] => w
  | w :: v :: r => w ++ 32 :: joinW (v :: r)
theorem fgo_app : ∀ (w cur l : By), (∀ b ∈ w, Lib.isSp b = false) → Lib.fieldsGo cur (w ++ l) = Lib.fieldsGo (cur ++ w) l
  | [], cur, l, _ => by simp
  | b :: w, cur, l, h => by
    rw [List.cons_append, Lib.fieldsGo_more cur b (w ++ l) (h b (List.mem_cons_self ..)), fgo_app w _ l fun x hx => h x (List.mem_cons_of_mem _ hx), List.append_assoc]
    rfl
theorem fields_join : ∀ ws : List By, (∀ w ∈ ws, IsWd w) → Lib.fields (joinW ws) = ws
  | [], _ => rfl
  | [w], h => by
    have hw := h w (List.mem_cons_self ..)
    show Lib.fieldsGo [] w = _
    have := fgo_app w [] [] hw.ns
    rw [List.append_nil, List.nil_append] at this
    rw [this]
    unfold Lib.fieldsGo
    rw [if_neg (by simpa using hw.ne)]
  | w :: v :: r, h => by
    have hw := h w (List.mem_cons_self ..)
    show Lib.fieldsGo [] (w ++ 32 :: joinW (v :: r)) = _
    rw [fgo_app w [] _ hw.ns, List.nil_append, Lib.fieldsGo_end w 32 _ (by decide) hw.ne]
    show w :: Lib.fields (joinW (v :: r)) = _
    rw [fields_join (v :: r) fun x hx => h x (List.mem_cons_of_mem _ hx)]
theorem fgo_wd : ∀ (l cur : By), (∀ b ∈ cur, Lib.isSp b = false) → ∀ w ∈ Lib.fieldsGo cur l, IsWd w
  | [], cur, hc, w, hw => by
    unfold Lib.fieldsGo at hw
    split at hw
    · cases hw
    · rename_i hne
      rw [List.mem_singleton.1 hw]
      exact ⟨by simpa using hne, hc⟩
  | b :: l, cur, hc, w, hw => by
    cases hb : Lib.isSp b with
    | false =>
      rw [Lib.fieldsGo_more cur b l hb] at hw
      refine fgo_wd l _ (fun x hx => ?_) w hw
      rcases List.mem_append.1 hx with hx | hx
      · exact hc x hx
      · rw [List.mem_singleton.1 hx]; exact hb
    | true =>
      by_cases he : cur = []
      · subst he
        rw [Lib.fieldsGo_sp b l hb] at hw
        exact fgo_wd l [] (fun _ h => by cases h) w hw
      · rw [Lib.fieldsGo_end cur b l hb he] at hw
        rcases List.mem_cons.1 hw with rfl | hw
        · exact ⟨he, hc⟩
        · exact fgo_wd l [] (fun _ h => by cases h) w hw
theorem fields_wd (s : By) : ∀ w ∈ Lib.fields s, IsWd w := fgo_wd s [] (fun _ h => by cases h)

/-! Numbers in words. -/
/-- What a reader of a number makes of a word. -/
structure NumR (t : By) (n : Int) (ok : Bool) : Prop where
  yes : ok = true → t = Lib.itoa n ∧ 0 ≤ n ∧ n ≤ 1000000000
  no : ok = false → n = 0 ∧ ∀ m : Int, 0 ≤ m → m ≤ 1000000000 → t ≠ Lib.itoa m
def decVal (l : By) : Nat := l.foldl (fun n b => 10 * n + (b.toNat - 48)) 0
theorem decVal_snoc (l : By) (b : UInt8) : decVal (l ++ [b]) = 10 * decVal l + (b.toNat - 48) := by simp [decVal]
theorem decVal_dec : ∀ (k u : Nat), u < 10 ^ (k + 1) → decVal (Lib.decDigits u) = u
  | 0, u, h => by
    rw [Lib.decDigits_one (by omega)]
    show 10 * 0 + ((UInt8.ofNat (48 + u)).toNat - 48) = u
    have : (UInt8.ofNat (48 + u)).toNat = 48 + u := by rw [UInt8.toNat_ofNat']; omega
    omega
  | k + 1, u, h => by
    by_cases h10 : u < 10
    · exact decVal_dec 0 u (by omega)
    · rw [Lib.decDigits, dif_neg h10, decVal_snoc, decVal_dec k (u / 10) (by rw [Nat.div_lt_iff_lt_mul (by decide), ← Nat.pow_succ]; exact h)]
      have : (UInt8.ofNat (48 + u % 10)).toNat = 48 + u % 10 := by rw [UInt8.toNat_ofNat']; omega
      omega
theorem itoa_inj {n m : Int} (hn : 0 ≤ n ∧ n ≤ 1000000000) (hm : 0 ≤ m ∧ m ≤ 1000000000) (h : Lib.itoa n = Lib.itoa m) : n = m := by
  obtain ⟨a, rfl⟩ := Int.eq_ofNat_of_zero_le hn.1
  obtain ⟨b, rfl⟩ := Int.eq_ofNat_of_zero_le hm.1
  rw [Lib.itoa_nonneg, Lib.itoa_nonneg] at h
  have e := congrArg decVal h
  rw [decVal_dec 10 a (by omega), decVal_dec 10 b (by omega)] at e
  rw [e]
theorem NumR.same {t : By} {n m : Int} {ok ok2 : Bool} (h : NumR t n ok) (g : NumR t m ok2) : n = m ∧ ok = ok2 := by
  cases ok <;> cases ok2
  · exact ⟨(h.no rfl).1.trans (g.no rfl).1.symm, rfl⟩
  · obtain ⟨e, g0, g1⟩ := g.yes rfl
    exact absurd e ((h.no rfl).2 m g0 g1)
  · obtain ⟨e, h0, h1⟩ := h.yes rfl
    exact absurd e ((g.no rfl).2 n h0 h1)
  · obtain ⟨e, h0, h1⟩ := h.yes rfl
    obtain ⟨e2, g0, g1⟩ := g.yes rfl
    exact ⟨itoa_inj ⟨h0, h1⟩ ⟨g0, g1⟩ (e.symm.trans e2), rfl⟩
theorem numR_itoa {n : Int} (h0 : 0 ≤ n) (h1 : n ≤ 1000000000) : NumR (Lib.itoa n) n true := ⟨fun _ => ⟨rfl, h0, h1⟩, fun h => by cases h⟩
theorem numR_ex (t : By) : ∃ n ok, NumR t n ok := by
  by_cases h : ∃ n : Int, 0 ≤ n ∧ n ≤ 1000000000 ∧ t = Lib.itoa n
  · obtain ⟨n, h0, h1, rfl⟩ := h
    exact ⟨n, true, numR_itoa h0 h1⟩
  · exact ⟨0, false, fun e => (by cases e), fun _ => ⟨rfl, fun m h0 h1 e => h ⟨m, h0, h1, e⟩⟩⟩
noncomputable def numV (t : By) : Int := (numR_ex t).choose
noncomputable def numO (t : By) : Bool := (numR_ex t).choose_spec.choose
theorem num_r (t : By) : NumR t (numV t) (numO t) := (numR_ex t).choose_spec.choose_spec
theorem NumR.eq {t : By} {n : Int} {ok : Bool} (h : NumR t n ok) : n = numV t ∧ ok = numO t := h.same (num_r t)
theorem numV_itoa {n : Int} (h0 : 0 ≤ n) (h1 : n ≤ 1000000000) : numV (Lib.itoa n) = n ∧ numO (Lib.itoa n) = true := by
  have := (numR_itoa h0 h1).eq
  exact ⟨this.1.symm, this.2.symm⟩
theorem dec_dig : ∀ (k u : Nat), u < 10 ^ (k + 1) → Lib.decDigits u ≠ [] ∧ ∀ b ∈ Lib.decDigits u, 48 ≤ b.toNat ∧ b.toNat ≤ 57
  | 0, u, h => by
    rw [Lib.decDigits_one (by omega)]
    refine ⟨by simp, fun b hb => ?_⟩
    rw [List.mem_singleton.1 hb, UInt8.toNat_ofNat']
    omega
  | k + 1, u, h => by
    by_cases h10 : u < 10
    · exact dec_dig 0 u (by omega)
    · have ih := dec_dig k (u / 10) (by rw [Nat.div_lt_iff_lt_mul (by decide), ← Nat.pow_succ]; exact h)
      rw [Lib.decDigits, dif_neg h10]
      refine ⟨by simp, fun b hb => ?_⟩
      rcases List.mem_append.1 hb with hb | hb
      · exact ih.2 b hb
      · rw [List.mem_singleton.1 hb, UInt8.toNat_ofNat']
        omega
theorem sp_of {b : UInt8} (h : 33 ≤ b.toNat ∧ b.toNat ≤ 126) : Lib.isSp b = false := by
  have key : ∀ n : Fin 256, 33 ≤ n.val → n.val ≤ 126 → Lib.isSp (UInt8.ofNat n.val) = false := by decide +kernel
  have := key ⟨b.toNat, b.toNat_lt⟩ h.1 h.2
  rwa [show UInt8.ofNat b.toNat = b from UInt8.ofNat_toNat] at this
theorem wd_itoa {n : Int} (h0 : 0 ≤ n) (h1 : n ≤ 1000000000) : IsWd (Lib.itoa n) := by
  obtain ⟨a, rfl⟩ := Int.eq_ofNat_of_zero_le h0
  rw [Lib.itoa_nonneg]
  have := dec_dig 10 a (by omega)
  exact ⟨this.1, fun b hb => sp_of (by have := this.2 b hb; omega)⟩

/-! Bytes in figures. -/
def figB (x : Nat) : UInt8 := UInt8.ofNat (if x < 10 then 48 + x else 87 + x)
def valB (b : UInt8) : Option Nat := if 48 ≤ b.toNat ∧ b.toNat ≤ 57 then some (b.toNat - 48) else if 97 ≤ b.toNat ∧ b.toNat ≤ 102 then some (b.toNat - 87) else none
theorem val_fig : ∀ n : Fin 16, valB (figB n.val) = some n.val := by decide +kernel
theorem fig_in : ∀ n : Fin 16, 33 ≤ (figB n.val).toNat ∧ (figB n.val).toNat ≤ 126 := by decide +kernel
def hexL : By → By
  | [] => []
  | b :: r => figB (b.toNat / 16) :: figB (b.toNat % 16) :: hexL r
def unhexG : By → Option By
  | [] => some []
  | [_] => none
  | x :: y :: r => match valB x, valB y, unhexG r with
    | some h, some l, some t => some (UInt8.ofNat (16 * h + l) :: t)
    | _, _, _ => none
def unhexL (s : By) : By := if s.length ≤ 40000 then (unhexG s).getD [] else []
theorem unhex_hex : ∀ t : By, unhexG (hexL t) = some t
  | [] => rfl
  | b :: r => by
    have hb := b.toNat_lt
    have h1 := val_fig ⟨b.toNat / 16, by omega⟩
    have h2 := val_fig ⟨b.toNat % 16, by omega⟩
    unfold hexL unhexG
    rw [h1, h2, unhex_hex r]
    show some (UInt8.ofNat (16 * (b.toNat / 16) + b.toNat % 16) :: r) = _
    rw [show 16 * (b.toNat / 16) + b.toNat % 16 = b.toNat by omega, UInt8.ofNat_toNat]
theorem hexL_len : ∀ t : By, (hexL t).length = 2 * t.length
  | [] => rfl
  | b :: r => by show (hexL r).length + 1 + 1 = 2 * (r.length + 1); rw [hexL_len r]; omega
theorem hexL_in : ∀ (t : By), ∀ b ∈ hexL t, 33 ≤ b.toNat ∧ b.toNat ≤ 126
  | [], b, h => by cases h
  | x :: r, b, h => by
    have hx := x.toNat_lt
    unfold hexL at h
    rcases List.mem_cons.1 h with rfl | h
    · exact fig_in ⟨x.toNat / 16, by omega⟩
    rcases List.mem_cons.1 h with rfl | h
    · exact fig_in ⟨x.toNat % 16, by omega⟩
    · exact hexL_in r b h
theorem unhexL_hex {t : By} (h : t.length ≤ 20000) : unhexL (hexL t) = t := by
  unfold unhexL
  rw [if_pos (by rw [hexL_len]; omega), unhex_hex]; rfl

/-! Acts. -/
structure ActD where
  kind : Int
  format : Int
  text : By
  name : By
  w1 : Int
  w2 : Int
  w3 : Int
  schema : Int
  steps : Int
  keeps : List Int
def wordK (k : Int) : By := match k with
  | 1 => [97, 112, 112, 108, 121]
  | 2 => [100, 114, 111, 112]
  | 3 => [100, 101, 108, 101, 116, 101]
  | 4 => [112, 108, 97, 99, 101]
  | 5 => [110, 101, 120, 116]
  | 6 => [119, 101, 105, 103, 104, 116, 115]
  | 7 => [115, 97, 118, 101]
  | 8 => [114, 101, 115, 116, 111, 114, 101]
  | 9 => [99, 114, 97, 115, 104]
  | 10 => [102, 97, 108, 108]
  | _ => []
def kindW (w : By) : Int := if w = wordK 1 then 1 else if w = wordK 2 then 2 else if w = wordK 3 then 3 else if w = wordK 4 then 4 else if w = wordK 5 then 5 else if w = wordK 6 then 6 else if w = wordK 7 then 7 else if w = wordK 8 then 8 else if w = wordK 9 then 9 else if w = wordK 10 then 10 else 0
def toldA (a : ActD) : ActD :=
  if a.kind = 1 then ⟨1, a.format, a.text, [], 0, 0, 0, 0, 0, []⟩
  else if a.kind = 2 ∨ a.kind = 3 ∨ a.kind = 4 then ⟨a.kind, 0, [], a.name, 0, 0, 0, 0, 0, []⟩
  else if a.kind = 6 then ⟨6, 0, [], [], a.w1, a.w2, a.w3, 0, 0, []⟩
  else if a.kind = 7 then ⟨7, 0, [], [], 0, 0, 0, a.schema, 0, []⟩
  else if a.kind = 9 then ⟨9, 0, [], [], 0, 0, 0, a.schema, a.steps, a.keeps⟩
  else if a.kind = 10 then ⟨10, 0, [], [], 0, 0, 0, 0, 0, a.keeps⟩
  else ⟨a.kind, 0, [], [], 0, 0, 0, 0, 0, []⟩
def partsT (a : ActD) : List By := wordK a.kind ::
  (if a.kind = 1 then [Lib.itoa a.format, if a.text = [] then [45] else hexL a.text]
  else if a.kind = 2 ∨ a.kind = 3 ∨ a.kind = 4 then [a.name]
  else if a.kind = 6 then [Lib.itoa a.w1, Lib.itoa a.w2, Lib.itoa a.w3]
  else if a.kind = 7 then [Lib.itoa a.schema]
  else if a.kind = 9 then Lib.itoa a.schema :: Lib.itoa a.steps :: a.keeps.map Lib.itoa
  else if a.kind = 10 then a.keeps.map Lib.itoa
  else [])
structure NumP (n : Int) : Prop where
  lo : 0 ≤ n
  hi : n ≤ 1000000000
/-- An act that a line tells whole. -/
structure LineOk (a : ActD) : Prop where
  kind : 1 ≤ a.kind ∧ a.kind ≤ 10
  text : a.text.length ≤ 20000
  format : 0 ≤ a.format ∧ a.format ≤ 9
  schema : 0 ≤ a.schema ∧ a.schema ≤ 9
  steps : 0 ≤ a.steps ∧ a.steps ≤ 9
  keep : a.keeps.length ≤ 4
  told : toldA a = a
  name : (a.kind = 2 ∨ a.kind = 3 ∨ a.kind = 4) → nmB (ba a.name) = true
  wts : NumP a.w1 ∧ NumP a.w2 ∧ NumP a.w3
  keeps : ∀ n ∈ a.keeps, NumP n
  len : (joinW (partsT a)).length ≤ 600
open Classical in
noncomputable def lineT (a : ActD) : By := if LineOk a then joinW (partsT a) else []
noncomputable def numAt (p : List By) (i : Nat) : Int := if i < p.length then numV (p.getD i []) else 0
/-- What the model reads. -/
noncomputable def rdS (p : List By) : ActD :=
  let k := kindW (p.getD 0 [])
  if k = 1 then ⟨1, numAt p 1, unhexL (p.getD 2 []), [], 0, 0, 0, 0, 0, []⟩
  else if k = 2 ∨ k = 3 ∨ k = 4 then ⟨k, 0, [], p.getD 1 [], 0, 0, 0, 0, 0, []⟩
  else if k = 6 then ⟨6, 0, [], [], numAt p 1, numAt p 2, numAt p 3, 0, 0, []⟩
  else if k = 7 then ⟨7, 0, [], [], 0, 0, 0, numAt p 1, 0, []⟩
  else if k = 9 then ⟨9, 0, [], [], 0, 0, 0, numAt p 1, numAt p 2, (p.drop 3).map numV⟩
  else if k = 10 then ⟨10, 0, [], [], 0, 0, 0, 0, 0, (p.drop 1).map numV⟩
  else ⟨k, 0, [], [], 0, 0, 0, 0, 0, []⟩
noncomputable def numsI (r : List By) : List Int := (r.takeWhile numO).map numV
noncomputable def rdK (k : Int) (r : List By) (ns : List Int) : ActD :=
  if k = 1 ∧ r.length = 2 ∧ 0 < ns.length then ⟨k, ns.getD 0 0, unhexL (r.getD 1 []), [], 0, 0, 0, 0, 0, []⟩
  else if (k = 2 ∨ k = 3 ∨ k = 4) ∧ r.length = 1 then ⟨k, 0, [], r.getD 0 [], 0, 0, 0, 0, 0, []⟩
  else if k = 6 ∧ ns.length = 3 then ⟨k, 0, [], [], ns.getD 0 0, ns.getD 1 0, ns.getD 2 0, 0, 0, []⟩
  else if k = 7 ∧ ns.length = 1 then ⟨k, 0, [], [], 0, 0, 0, ns.getD 0 0, 0, []⟩
  else if k = 9 ∧ 2 ≤ ns.length then ⟨k, 0, [], [], 0, 0, 0, ns.getD 0 0, ns.getD 1 0, ns.drop 2⟩
  else if k = 10 then ⟨k, 0, [], [], 0, 0, 0, 0, 0, ns⟩
  else ⟨k, 0, [], [], 0, 0, 0, 0, 0, []⟩
/-- What the program reads. -/
noncomputable def rdI (w : By) (r : List By) : ActD := rdK (kindW w) r (numsI r)
theorem kind_word {k : Int} (h : 1 ≤ k ∧ k ≤ 10) : kindW (wordK k) = k := by
  have : k = 1 ∨ k = 2 ∨ k = 3 ∨ k = 4 ∨ k = 5 ∨ k = 6 ∨ k = 7 ∨ k = 8 ∨ k = 9 ∨ k = 10 := by omega
  rcases this with rfl | rfl | rfl | rfl | rfl | rfl | rfl | rfl | rfl | rfl <;> decide
theorem numsI_itoa : ∀ ns : List Int, (∀ n ∈ ns, NumP n) → numsI (ns.map Lib.itoa) = ns
  | [], _ => rfl
  | n :: r, h => by
    have hn := h n (List.mem_cons_self ..)
    have e := numV_itoa hn.lo hn.hi
    unfold numsI
    rw [List.map_cons, List.takeWhile_cons, e.2, if_pos rfl, List.map_cons, e.1]
    exact congrArg _ (numsI_itoa r fun m hm => h m (List.mem_cons_of_mem _ hm))
theorem nums_itoa (ns : List Int) (h : ∀ n ∈ ns, NumP n) : (ns.map Lib.itoa).map numV = ns := by
  rw [List.map_map]
  refine (List.map_congr_left fun n hn => ?_).trans (List.map_id ns)
  exact (numV_itoa (h n hn).lo (h n hn).hi).1
theorem numAt_of {p : List By} {i : Nat} {n : Int} (hi : p[i]? = some (Lib.itoa n)) (hn : NumP n) : numAt p i = n := by
  obtain ⟨h, e⟩ := List.getElem?_eq_some_iff.1 hi
  unfold numAt
  rw [if_pos h, List.getD_eq_getElem?_getD, hi]
  exact (numV_itoa hn.lo hn.hi).1
theorem np9 {n : Int} (h : 0 ≤ n ∧ n ≤ 9) : NumP n := ⟨h.1, by omega⟩
theorem unhex_of {t : By} (h : t.length ≤ 20000) : unhexL (if t = [] then [45] else hexL t) = t := by
  by_cases e : t = []
  · subst e; rfl
  · rw [if_neg e]; exact unhexL_hex h
theorem rdS_parts {a : ActD} (h : LineOk a) : rdS (partsT a) = a := by
  have hk := kind_word h.kind
  obtain ⟨k, f, t, n, w1, w2, w3, s, st, ks⟩ := a
  have h1 := h.kind
  have e : k = 1 ∨ k = 2 ∨ k = 3 ∨ k = 4 ∨ k = 5 ∨ k = 6 ∨ k = 7 ∨ k = 8 ∨ k = 9 ∨ k = 10 := by have := h.kind; simp only at this; omega
  have ht := h.told
  have hx := unhex_of h.text
  have f1 := np9 h.format
  have f2 := np9 h.schema
  have f3 := np9 h.steps
  have hks := nums_itoa ks h.keeps
  rcases e with rfl | rfl | rfl | rfl | rfl | rfl | rfl | rfl | rfl | rfl <;> injection ht with e1 e2 e3 e4 e5 e6 e7 e8 e9 e10 <;> subst_vars
  · show ActD.mk 1 (numAt _ 1) (unhexL _) [] 0 0 0 0 0 [] = _
    rw [numAt_of rfl f1]
    exact congrArg (fun t => ActD.mk 1 f t [] 0 0 0 0 0 []) hx
  · rfl
  · rfl
  · rfl
  · rfl
  · show ActD.mk 6 0 [] [] (numAt _ 1) (numAt _ 2) (numAt _ 3) 0 0 [] = _
    rw [numAt_of rfl h.wts.1, numAt_of rfl h.wts.2.1, numAt_of rfl h.wts.2.2]
  · show ActD.mk 7 0 [] [] 0 0 0 (numAt _ 1) 0 [] = _
    rw [numAt_of rfl f2]
  · rfl
  · show ActD.mk 9 0 [] [] 0 0 0 (numAt _ 1) (numAt _ 2) ((ks.map Lib.itoa).map numV) = _
    rw [numAt_of rfl f2, numAt_of rfl f3, hks]
  · show ActD.mk 10 0 [] [] 0 0 0 0 0 ((ks.map Lib.itoa).map numV) = _
    rw [hks]
theorem numsI_cons {n : Int} {r : List By} (h : NumP n) : numsI (Lib.itoa n :: r) = n :: numsI r := by
  have e := numV_itoa h.lo h.hi
  unfold numsI
  rw [List.takeWhile_cons, e.2, if_pos rfl, List.map_cons, e.1]
theorem rdI_parts {a : ActD} (h : LineOk a) : rdI (wordK a.kind) (partsT a).tail = a := by
  obtain ⟨k, f, t, n, w1, w2, w3, s, st, ks⟩ := a
  have e : k = 1 ∨ k = 2 ∨ k = 3 ∨ k = 4 ∨ k = 5 ∨ k = 6 ∨ k = 7 ∨ k = 8 ∨ k = 9 ∨ k = 10 := by have := h.kind; simp only at this; omega
  have ht := h.told
  have hx := unhex_of h.text
  have f1 := np9 h.format
  have f2 := np9 h.schema
  have f3 := np9 h.steps
  have hks := numsI_itoa ks h.keeps
  unfold rdI
  rw [kind_word h.kind]
  have no : ∀ {p q : Prop}, ¬ p → ¬ (p ∧ q) := fun h g => h g.1
  rcases e with rfl | rfl | rfl | rfl | rfl | rfl | rfl | rfl | rfl | rfl <;> injection ht with e1 e2 e3 e4 e5 e6 e7 e8 e9 e10 <;> subst_vars
  · show rdK 1 [Lib.itoa f, if t = [] then [45] else hexL t] (numsI [Lib.itoa f, if t = [] then [45] else hexL t]) = _
    rw [numsI_cons f1]
    unfold rdK
    rw [if_pos ⟨rfl, rfl, by simp⟩]
    exact congrArg (fun t => ActD.mk 1 f t [] 0 0 0 0 0 []) hx
  · rfl
  · rfl
  · rfl
  · rfl
  · have e := numsI_itoa [w1, w2, w3] (by intro m hm; rcases List.mem_cons.1 hm with rfl | hm; exact h.wts.1; rcases List.mem_cons.1 hm with rfl | hm; exact h.wts.2.1; rw [List.mem_singleton.1 hm]; exact h.wts.2.2)
    show rdK 6 [Lib.itoa w1, Lib.itoa w2, Lib.itoa w3] (numsI ([w1, w2, w3].map Lib.itoa)) = _
    rw [e]
    rfl
  · have e := numsI_itoa [s] (by intro m hm; rw [List.mem_singleton.1 hm]; exact f2)
    show rdK 7 [Lib.itoa s] (numsI ([s].map Lib.itoa)) = _
    rw [e]
    rfl
  · rfl
  · show rdK 9 (Lib.itoa s :: Lib.itoa st :: ks.map Lib.itoa) (numsI (Lib.itoa s :: Lib.itoa st :: ks.map Lib.itoa)) = _
    rw [numsI_cons f2, numsI_cons f3, hks]
    unfold rdK
    rw [if_neg (no (by decide)), if_neg (no (by decide)), if_neg (no (by decide)), if_neg (no (by decide)), if_pos ⟨rfl, by simp⟩]
    rfl
  · show rdK 10 (ks.map Lib.itoa) (numsI (ks.map Lib.itoa)) = _
    rw [hks]
    unfold rdK
    rw [if_neg (no (by decide)), if_neg (no (by decide)), if_neg (no (by decide)), if_neg (no (by decide)), if_neg (no (by decide)), if_pos rfl]
theorem wd_of {w : By} (hne : w ≠ []) (h : ∀ b ∈ w, 33 ≤ b.toNat ∧ b.toNat ≤ 126) : IsWd w := ⟨hne, fun b hb => sp_of (h b hb)⟩
theorem allB_all {n : Nat} {p : Nat → Bool} : allB n p = true ↔ ∀ k, k < n → p k = true := by
  unfold allB
  rw [List.all_eq_true]
  exact ⟨fun h k hk => h k (List.mem_range.2 hk), fun h k hk => h k (List.mem_range.1 hk)⟩
/-- A word whose bytes are all shown. -/
structure AsW (w : By) : Prop where
  ne : w ≠ []
  asc : ∀ b ∈ w, 33 ≤ b.toNat ∧ b.toNat ≤ 126
theorem AsW.wd {w : By} (h : AsW w) : IsWd w := wd_of h.ne h.asc
theorem nm_as {w : By} (h : nmB (ba w) = true) : AsW w := by
  unfold nmB at h
  simp only [Bool.and_eq_true] at h
  obtain ⟨h1, _, _, h2⟩ := h
  have hz : (ba w).size = w.length := by unfold ba; rw [ByteArray.size, List.size_toArray]
  rw [hz] at h1 h2
  refine ⟨fun e => ?_, fun b hb => ?_⟩
  · subst e
    simp [inB] at h1
  · obtain ⟨k, hk, e⟩ := List.getElem_of_mem hb
    have h3 := allB_all.1 h2 k hk
    have e2 : bytB (ba w) k = (b.toNat : Int) := by
      unfold bytB ba
      rw [Array.getD_eq_getD_getElem?]
      simp [hk, e]
    rw [e2] at h3
    simp [letterB] at h3
    omega
theorem hex_as {t : By} : AsW (if t = [] then [45] else hexL t) := by
  by_cases e : t = []
  · rw [if_pos e]; exact ⟨by decide, by decide⟩
  · rw [if_neg e]
    refine ⟨?_, hexL_in t⟩
    cases t with
    | nil => exact absurd rfl e
    | cons b r => unfold hexL; simp
theorem num_as {n : Int} (h : NumP n) : AsW (Lib.itoa n) := by
  obtain ⟨a, rfl⟩ := Int.eq_ofNat_of_zero_le h.lo
  have h1 := h.hi
  rw [Lib.itoa_nonneg]
  have := dec_dig 10 a (by omega)
  exact ⟨this.1, fun b hb => by have := this.2 b hb; omega⟩
theorem word_as {k : Int} (h : 1 ≤ k ∧ k ≤ 10) : AsW (wordK k) := by
  have : k = 1 ∨ k = 2 ∨ k = 3 ∨ k = 4 ∨ k = 5 ∨ k = 6 ∨ k = 7 ∨ k = 8 ∨ k = 9 ∨ k = 10 := by omega
  rcases this with rfl | rfl | rfl | rfl | rfl | rfl | rfl | rfl | rfl | rfl <;> exact ⟨by decide, by decide⟩
theorem parts_as {a : ActD} (h : LineOk a) : ∀ w ∈ partsT a, AsW w := by
  have hnum : ∀ {n : Int}, NumP n → AsW (Lib.itoa n) := fun h => num_as h
  have hks : ∀ w ∈ a.keeps.map Lib.itoa, AsW w := fun w hw => by
    obtain ⟨n, hn, rfl⟩ := List.mem_map.1 hw
    exact hnum (h.keeps n hn)
  intro w hw
  unfold partsT at hw
  rcases List.mem_cons.1 hw with rfl | hw
  · exact word_as h.kind
  split at hw
  · simp only [List.mem_cons, List.not_mem_nil, or_false] at hw
    rcases hw with rfl | rfl
    · exact hnum (np9 h.format)
    · exact hex_as
  split at hw
  · rename_i hk
    rw [List.mem_singleton.1 hw]; exact nm_as (h.name hk)
  split at hw
  · simp only [List.mem_cons, List.not_mem_nil, or_false] at hw
    rcases hw with rfl | rfl | rfl
    · exact hnum h.wts.1
    · exact hnum h.wts.2.1
    · exact hnum h.wts.2.2
  split at hw
  · rw [List.mem_singleton.1 hw]; exact hnum (np9 h.schema)
  split at hw
  · rcases List.mem_cons.1 hw with rfl | hw
    · exact hnum (np9 h.schema)
    rcases List.mem_cons.1 hw with rfl | hw
    · exact hnum (np9 h.steps)
    · exact hks w hw
  split at hw
  · exact hks w hw
  · cases hw
theorem parts_wd {a : ActD} (h : LineOk a) : ∀ w ∈ partsT a, IsWd w := fun w hw => (parts_as h w hw).wd
theorem join_as : ∀ ws : List By, (∀ w ∈ ws, AsW w) → ∀ b ∈ joinW ws, 32 ≤ b.toNat ∧ b.toNat ≤ 126
  | [], _, b, hb => by cases hb
  | [w], h, b, hb => by have := (h w (List.mem_cons_self ..)).asc b hb; omega
  | w :: v :: r, h, b, hb => by
    rcases List.mem_append.1 (show b ∈ w ++ 32 :: joinW (v :: r) from hb) with hb | hb
    · have := (h w (List.mem_cons_self ..)).asc b hb; omega
    rcases List.mem_cons.1 hb with rfl | hb
    · exact ⟨by decide, by decide⟩
    · exact join_as (v :: r) (fun x hx => h x (List.mem_cons_of_mem _ hx)) b hb
theorem parts_len {a : ActD} (h : LineOk a) : (partsT a).length ≤ 12 := by
  have := h.keep
  unfold partsT
  rw [List.length_cons]
  split <;> (try split) <;> (try split) <;> (try split) <;> (try split) <;> (try split) <;> simp <;> omega
open Classical in
noncomputable def partsOf (s : By) : Option (List By) := if s.length ≤ 600 ∧ (∀ b ∈ s, 32 ≤ b.toNat ∧ b.toNat ≤ 126) ∧ (Lib.fields s).length ≤ 12 then some (Lib.fields s) else none
theorem partsOf_line {a : ActD} (h : LineOk a) : partsOf (lineT a) = some (partsT a) := by
  unfold lineT
  rw [if_pos h]
  unfold partsOf
  rw [fields_join _ (parts_wd h), if_pos ⟨h.len, join_as _ (parts_as h), parts_len h⟩]
theorem partsOf_wd {s : By} {p : List By} (h : partsOf s = some p) : ∀ w ∈ p, IsWd w := by
  unfold partsOf at h
  split at h
  · injection h with e; subst e; exact fields_wd s
  · cases h
theorem join_ne {w : By} {r : List By} (h : IsWd w) : joinW (w :: r) ≠ [] := by
  cases r with
  | nil => exact h.ne
  | cons v r => show w ++ _ ≠ []; simp
theorem line_of {a : ActD} (h : lineT a ≠ []) : LineOk a := by
  unfold lineT at h
  by_cases e : LineOk a
  · exact e
  · rw [if_neg e] at h; exact absurd rfl h
/-- Both readers take the same lines, and read the same in them. -/
theorem read_same {s : By} {w : By} {r : List By} (hp : partsOf s = some (w :: r)) : (partsOf (lineT (rdI w r)) = some (w :: r) → lineT (rdS (w :: r)) = joinW (w :: r) ∧ lineT (rdS (w :: r)) ≠ [] ∧ rdS (w :: r) = rdI w r) ∧ (lineT (rdS (w :: r)) = joinW (w :: r) → partsOf (lineT (rdI w r)) = some (w :: r) ∧ rdI w r = rdS (w :: r)) := by
  have hwd := partsOf_wd hp
  have hw := hwd w (List.mem_cons_self ..)
  constructor
  · intro h
    have hl : LineOk (rdI w r) := by
      refine line_of fun e => ?_
      rw [e] at h
      unfold partsOf at h
      split at h
      · injection h with h; cases h
      · cases h
    have e := Option.some.inj ((partsOf_line hl).symm.trans h)
    have e2 : rdS (w :: r) = rdI w r := by rw [← e]; exact rdS_parts hl
    have e3 : lineT (rdI w r) = joinW (w :: r) := by unfold lineT; rw [if_pos hl, e]
    exact ⟨by rw [e2]; exact e3, by rw [e2, e3]; exact join_ne hw, e2⟩
  · intro h
    have hl : LineOk (rdS (w :: r)) := line_of (by rw [h]; exact join_ne hw)
    have h2 := partsOf_line hl
    have e : partsT (rdS (w :: r)) = w :: r := by
      have h3 : Lib.fields (joinW (partsT (rdS (w :: r)))) = partsT (rdS (w :: r)) := fields_join _ (parts_wd hl)
      have h4 : lineT (rdS (w :: r)) = joinW (partsT (rdS (w :: r))) := by unfold lineT; rw [if_pos hl]
      rw [← h4, h, fields_join _ hwd] at h3
      exact h3.symm
    have h5 := rdI_parts hl
    have e6 : wordK (rdS (w :: r)).kind = w := by
      have : (partsT (rdS (w :: r))).head? = some w := by rw [e]; rfl
      exact Option.some.inj this
    rw [e, e6] at h5
    have h6 : rdI w r = rdS (w :: r) := h5
    exact ⟨by rw [h6, h2, e], h6⟩

end Go.Proofs.YtidjjfjhmlndjaaGreatDoor
