/- Figures, numbers and words, as the model reckons them. -/
import Derived.Test.YtidjjfjhmlndjaaGreatDoorCl1
import Derived.Test.YtidjjfjhmlndjaaGreatDoorRap
import Derived.Test.YtidjjfjhmlndjaaGreatDoorNo
namespace Go.Proofs.YtidjjfjhmlndjaaGreatDoor
open Go.RowKit
set_option linter.unusedVariables false
set_option linter.unusedSimpArgs false
set_option maxRecDepth 100000
set_option maxHeartbeats 1000000

theorem ba_bl (s : ByteArray) : ba (bl s) = s := by unfold ba bl; rw [Array.toArray_toList]
theorem bl_ba (l : By) : bl (ba l) = l := rfl
theorem bl_len (s : ByteArray) : (bl s).length = s.size := by unfold bl; rw [Array.length_toList]; rfl
theorem ba_len (l : By) : (ba l).size = l.length := by unfold ba; rw [ByteArray.size, List.size_toArray]
def nsB (l : By) : List Int := l.map fun b => (b.toNat : Int)
theorem nsB_len (l : By) : (nsB l).length = l.length := by simp [nsB]
theorem nsB_app (a b : By) : nsB (a ++ b) = nsB a ++ nsB b := by simp [nsB]
theorem strGo (l : By) : ∀ r : ByteArray, ((nsB l).foldl (fun r n => r.push (UInt8.ofNat n.toNat)) r).data.toList = r.data.toList ++ l := by
  induction l with
  | nil => intro r; simp [nsB]
  | cons b t ih =>
    intro r
    show ((nsB t).foldl _ (r.push (UInt8.ofNat ((b.toNat : Int).toNat)))).data.toList = _
    rw [ih, Int.toNat_natCast, UInt8.ofNat_toNat]
    show (r.data.push b).toList ++ t = _
    rw [Array.toList_push, List.append_assoc]; rfl
theorem strOf_ns (l : By) : strOf (nsB l) = ba l := by
  have h := strGo l ByteArray.empty
  have e : (strOf (nsB l)).data.toList = l := h
  rw [← ba_bl (strOf (nsB l))]
  unfold bl
  rw [e]
theorem bytB_bl {s : ByteArray} {k : Nat} (h : k < s.size) : ∃ b, (bl s)[k]? = some b ∧ bytB s k = (b.toNat : Int) := by
  have h2 : k < s.data.size := h
  refine ⟨s.data[k], ?_, ?_⟩
  · unfold bl; rw [Array.getElem?_toList, Array.getElem?_eq_getElem h2]
  · unfold bytB; rw [Array.getD_eq_getD_getElem?, Array.getElem?_eq_getElem h2]; rfl
theorem bytB_rng (s : ByteArray) (k : Nat) : 0 ≤ bytB s k ∧ bytB s k ≤ 255 := by
  unfold bytB
  have := (s.data.getD k 0).toNat_lt
  omega
theorem u8E {a b : Int} (h : IntKind.u8.wrap a = b) : D.sc (.int .u8 (IntKind.u8.wrap a)) = D.sc (.int .u8 b) := by rw [h]
theorem wr8q {x : Int} (h : 0 ≤ x ∧ x < 256) : IntKind.u8.wrap x = x := by show x % 256 = x; omega
theorem i64E {a b : Int} (h : a = b) : D.sc (.int .i64 a) = D.sc (.int .i64 b) := by rw [h]
theorem byt_d (s : ByteArray) (k : Nat) : (bytB s k).tdiv 16 = bytB s k / 16 := Int.tdiv_eq_ediv_of_nonneg (bytB_rng s k).1
theorem byt_m (s : ByteArray) (k : Nat) : (bytB s k).tmod 16 = bytB s k % 16 := Int.tmod_eq_emod_of_nonneg (bytB_rng s k).1
theorem u8D_app (a b : List Int) : u8D a ++ u8D b = u8D (a ++ b) := by simp [u8D]
theorem u8D_two (ns : List Int) (x y : Int) : u8D ns ++ [.sc (.int .u8 x), .sc (.int .u8 y)] = u8D (ns ++ [x, y]) := by simp [u8D]
def figI (x : Int) : Int := if x < 10 then 48 + x else 87 + x
def valI (x : Int) : Int := if 48 ≤ x ∧ x ≤ 57 then x - 48 else if 97 ≤ x ∧ x ≤ 102 then x - 87 else -1
theorem hexL_snoc : ∀ (l : By) (b : UInt8), hexL (l ++ [b]) = hexL l ++ [figB (b.toNat / 16), figB (b.toNat % 16)]
  | [], b => rfl
  | x :: r, b => by show figB _ :: figB _ :: hexL (r ++ [b]) = _; rw [hexL_snoc r b]; rfl
theorem fig_nat {n : Nat} (h : n < 16) : ((figB n).toNat : Int) = figI n := by
  unfold figB figI
  by_cases h2 : n < 10
  · rw [if_pos h2, if_pos (by omega), UInt8.toNat_ofNat']; omega
  · rw [if_neg h2, if_neg (by omega), UInt8.toNat_ofNat']; omega
theorem hexN_go {s : ByteArray} {i : Nat} (h : i < s.size) : nsB (hexL ((bl s).take i)) ++ [figI (bytB s i / 16), figI (bytB s i % 16)] = nsB (hexL ((bl s).take (i + 1))) := by
  obtain ⟨b, h1, h2⟩ := bytB_bl h
  have hb := b.toNat_lt
  obtain ⟨h3, h4⟩ := List.getElem?_eq_some_iff.1 h1
  rw [List.take_succ_eq_append_getElem h3, h4, hexL_snoc, nsB_app, h2]
  congr 1
  show _ = [((figB (b.toNat / 16)).toNat : Int), ((figB (b.toNat % 16)).toNat : Int)]
  rw [fig_nat (by omega), fig_nat (by omega)]
  rfl
/-! Digits, one at a time. -/
def digs (u : Nat) : By := if u = 0 then [] else Lib.decDigits u
theorem digs_step (u : Nat) (h : u ≠ 0) : digs u = digs (u / 10) ++ [UInt8.ofNat (48 + u % 10)] := by
  unfold digs
  rw [if_neg h]
  by_cases h10 : u < 10
  · have h1 : u / 10 = 0 := by omega
    have h2 : u % 10 = u := by omega
    rw [Lib.decDigits_one h10, if_pos h1, h2]
    rfl
  · rw [if_neg (by omega : ¬ u / 10 = 0)]
    rw [Lib.decDigits, dif_neg h10]

theorem figure_A (x : Int) (hx : 0 ≤ x ∧ x < 16) : Spec Tryz.prog 199 [.sc (.int .i64 x)] (fun d => d = .sc (.int .u8 (figI x))) := by
  refine sp_ (rs := [.tmp 2]) (nt := 12) Tryz.func199 rfl fun X hX => ?_
  refine nm_ ?_
  repeat' ((first | contradiction | (with_reducible exact tt_) | ((with_reducible show Wk (AwStep _ _ _ _ _)); first | (refine pln_ ?_)) | ((with_reducible show Wk (boolK _ _ _ _)); first | (refine bk_ (fun h h' => ?_) (fun h h' => ?_))) | ((with_reducible show Wk (_ ∧ _)); first | (refine and_ ?_ ?_)) | fail) <;> (try refine nm_ ?_))
  all_goals (refine ⟨?_⟩)
  all_goals first | contradiction | (exfalso; omega) | (refine u8E ?_; show _ % 256 = _; unfold figI; split <;> omega) | trace_state

theorem unhexG_two (x y : UInt8) (r : By) : unhexG (x :: y :: r) = (match valB x, valB y, unhexG r with | some h, some l, some t => some (UInt8.ofNat (16 * h + l) :: t) | _, _, _ => none) := rfl
theorem unhexG_app : ∀ (n : Nat) (l r : By), l.length = 2 * n → unhexG (l ++ r) = (match unhexG l, unhexG r with | some a, some b => some (a ++ b) | _, _ => none)
  | 0, l, r, h => by
    obtain rfl : l = [] := List.eq_nil_of_length_eq_zero (by omega)
    show unhexG r = (match some [], unhexG r with | some a, some b => some (a ++ b) | _, _ => none)
    cases unhexG r <;> rfl
  | n + 1, l, r, h => by
    match l, h with
    | x :: y :: t, h =>
      have ht : t.length = 2 * n := by simp only [List.length_cons] at h; omega
      show unhexG (x :: y :: (t ++ r)) = _
      rw [unhexG_two, unhexG_two, unhexG_app n t r ht]
      cases valB x <;> cases valB y <;> cases unhexG t <;> cases unhexG r <;> rfl
theorem unhexG_odd : ∀ (n : Nat) (l : By), l.length = 2 * n + 1 → unhexG l = none
  | 0, l, h => by
    match l, h with
    | [x], _ => rfl
  | n + 1, l, h => by
    match l, h with
    | x :: y :: t, h =>
      have ht : t.length = 2 * n + 1 := by simp only [List.length_cons] at h; omega
      rw [unhexG_two, unhexG_odd n t ht]
      cases valB x <;> cases valB y <;> rfl
theorem val_i (b : UInt8) : (valB b = none ∧ valI (b.toNat : Int) = -1) ∨ ∃ n : Nat, n < 16 ∧ valB b = some n ∧ valI (b.toNat : Int) = (n : Int) := by
  unfold valB valI
  by_cases h1 : 48 ≤ b.toNat ∧ b.toNat ≤ 57
  · refine .inr ⟨b.toNat - 48, by omega, if_pos h1, ?_⟩
    rw [if_pos (by omega)]; omega
  · by_cases h2 : 97 ≤ b.toNat ∧ b.toNat ≤ 102
    · refine .inr ⟨b.toNat - 87, by omega, ?_, ?_⟩
      · rw [if_neg h1, if_pos h2]
      · rw [if_neg (by omega), if_pos (by omega)]; omega
    · refine .inl ⟨?_, ?_⟩
      · rw [if_neg h1, if_neg h2]
      · rw [if_neg (by omega), if_neg (by omega)]
theorem valI_rng (x : Int) : -1 ≤ valI x ∧ valI x ≤ 15 := by unfold valI; split <;> (try split) <;> omega
/-- What is read of the first i figures. -/
structure UnG (s : ByteArray) (i : Nat) (ns : List Int) : Prop where
  ex : ∃ u, unhexG ((bl s).take i) = some u ∧ ns = nsB u ∧ 2 * u.length = i
theorem unG_0 (s : ByteArray) : UnG s 0 [] := ⟨[], rfl, rfl, rfl⟩
theorem UnG.len {s : ByteArray} {i : Nat} {ns : List Int} (h : UnG s i ns) : 2 * ns.length = i := by
  obtain ⟨u, _, rfl, h3⟩ := h.ex
  rw [nsB_len]; exact h3
theorem two_at {s : ByteArray} {i : Nat} (hi : i + 1 < s.size) : ∃ x y, (bl s) = (bl s).take i ++ (x :: y :: (bl s).drop (i + 2)) ∧ bytB s i = (x.toNat : Int) ∧ bytB s (i + 1) = (y.toNat : Int) := by
  obtain ⟨x, h1, h2⟩ := bytB_bl (s := s) (k := i) (by omega)
  obtain ⟨y, h3, h4⟩ := bytB_bl (s := s) (k := i + 1) hi
  obtain ⟨a, ha⟩ := List.getElem?_eq_some_iff.1 h1
  obtain ⟨b, hb⟩ := List.getElem?_eq_some_iff.1 h3
  refine ⟨x, y, ?_, h2, h4⟩
  conv => lhs; rw [← List.take_append_drop i (bl s)]
  rw [List.drop_eq_getElem_cons a, List.drop_eq_getElem_cons b, ha, hb]
theorem unG_go {s : ByteArray} {i : Nat} {ns : List Int} (h : UnG s i ns) (hi : i + 1 < s.size) (ha : 0 ≤ valI (bytB s i)) (hb : 0 ≤ valI (bytB s (i + 1))) : UnG s (i + 2) (ns ++ [16 * valI (bytB s i) + valI (bytB s (i + 1))]) := by
  obtain ⟨u, h1, h2, h3⟩ := h.ex
  obtain ⟨x, y, e, hx, hy⟩ := two_at hi
  rw [hx] at ha ⊢
  rw [hy] at hb ⊢
  rcases val_i x with ⟨_, e1⟩ | ⟨n, n0, e1, e2⟩
  · rw [e1] at ha; omega
  rcases val_i y with ⟨_, e3⟩ | ⟨m, m0, e3, e4⟩
  · rw [e3] at hb; omega
  have hl : ((bl s).take i).length = 2 * u.length := by rw [List.length_take, bl_len]; omega
  have ht : (bl s).take (i + 2) = (bl s).take i ++ [x, y] := by
    conv => lhs; rw [e]
    rw [List.take_append, List.length_take, bl_len, Nat.min_eq_left (by omega), List.take_take, Nat.min_eq_right (by omega), show i + 2 - i = 2 by omega]
    rfl
  refine ⟨u ++ [UInt8.ofNat (16 * n + m)], ?_, ?_, ?_⟩
  · rw [ht, unhexG_app u.length _ _ hl, h1]
    rw [unhexG_two, e1, e3]
    rfl
  · rw [h2, nsB_app, e2, e4]
    congr 1
    show _ = [((UInt8.ofNat (16 * n + m)).toNat : Int)]
    rw [UInt8.toNat_ofNat', Nat.mod_eq_of_lt (by omega)]
    push_cast <;> rfl
  · rw [List.length_append]; show 2 * (u.length + 1) = i + 2; omega
theorem unG_no {s : ByteArray} {i : Nat} {ns : List Int} (h : UnG s i ns) (hi : i + 1 < s.size) (hn : valI (bytB s i) < 0 ∨ valI (bytB s (i + 1)) < 0) : unhexL (bl s) = [] := by
  obtain ⟨u, h1, h2, h3⟩ := h.ex
  obtain ⟨x, y, e, hx, hy⟩ := two_at hi
  have hl : ((bl s).take i).length = 2 * u.length := by rw [List.length_take, bl_len]; omega
  have e5 : unhexG (bl s) = none := by
    rw [e, unhexG_app u.length _ _ hl, h1]
    rw [unhexG_two]
    rw [hx, hy] at hn
    rcases val_i x with ⟨e1, _⟩ | ⟨n, _, e1, e2⟩
    · rw [e1]
    · rcases val_i y with ⟨e3, _⟩ | ⟨m, _, e3, e4⟩
      · rw [e1, e3]
      · rw [e2, e4] at hn; omega
  unfold unhexL
  rw [e5]
  split <;> rfl
theorem unG_end {s : ByteArray} {i : Nat} {ns : List Int} (h : UnG s i ns) (hi : s.size ≤ i) (hz : s.size ≤ 40000) : strOf ns = ba (unhexL (bl s)) := by
  obtain ⟨u, h1, rfl, h3⟩ := h.ex
  rw [List.take_of_length_le (by rw [bl_len]; exact hi)] at h1
  unfold unhexL
  rw [if_pos (by rw [bl_len]; exact hz), h1, strOf_ns]; rfl
theorem unhex_big {s : ByteArray} (h : 40000 < s.size) : unhexL (bl s) = [] := by
  unfold unhexL
  rw [if_neg (by rw [bl_len]; omega)]
theorem unhex_odd {s : ByteArray} (h : ¬ ((s.size : Int).tmod 2 = 0)) : unhexL (bl s) = [] := by
  rw [Int.tmod_eq_emod_of_nonneg (by omega)] at h
  unfold unhexL
  rw [unhexG_odd (s.size / 2) (bl s) (by rw [bl_len]; omega)]
  split <;> rfl
theorem unN {s : ByteArray} {q : Bool} (h : unhexL (bl s) = []) : ∃ q2, D.tup [.sc (.string ⟨#[]⟩), .sc (.bool q)] = D.tup [.sc (.string (ba (unhexL (bl s)))), .sc (.bool q2)] := by
  rw [h]; exact ⟨_, rfl⟩

theorem dec_len : ∀ (k u : Nat), u < 10 ^ (k + 1) → (Lib.decDigits u).length ≤ k + 1
  | 0, u, h => by rw [Lib.decDigits_one (by omega)]; exact Nat.le_refl _
  | k + 1, u, h => by
    by_cases h10 : u < 10
    · rw [Lib.decDigits_one h10]; simp
    · have ih := dec_len k (u / 10) (by rw [Nat.div_lt_iff_lt_mul (by decide), ← Nat.pow_succ]; exact h)
      rw [Lib.decDigits, dif_neg h10, List.length_append]
      show _ + 1 ≤ _
      omega
theorem digs_len {u : Nat} (h : u ≤ 9223372036854775807) : (digs u).length ≤ 20 := by
  unfold digs
  split
  · simp
  · have := dec_len 18 u (by omega); omega
/-- What is told of the number, and what is still to tell. -/
structure DecG (n u : Nat) (r : ByteArray) : Prop where
  eq : digs n = digs u ++ bl r
theorem DecG.size {n u : Nat} {r : ByteArray} (h : DecG n u r) (hn : n ≤ 9223372036854775807) : r.size ≤ 20 := by
  have := congrArg List.length h.eq
  rw [List.length_append, bl_len] at this
  have := digs_len hn
  omega
theorem decG_go {n u : Nat} {r : ByteArray} (h : DecG n u r) (hu : u ≠ 0) : DecG n (u / 10) (strOf [figI ((u % 10 : Nat) : Int)] ++ r) := by
  refine ⟨?_⟩
  rw [h.eq, digs_step u hu, List.append_assoc]
  congr 1
  have e : strOf [figI ((u % 10 : Nat) : Int)] = ba [UInt8.ofNat (48 + u % 10)] := by
    rw [← strOf_ns]
    congr 1
    show _ = [((UInt8.ofNat (48 + u % 10)).toNat : Int)]
    rw [UInt8.toNat_ofNat', Nat.mod_eq_of_lt (show 48 + u % 10 < 256 by omega)]
    unfold figI
    rw [if_pos (by omega)]
    push_cast <;> rfl
  rw [e]
  unfold bl ba
  rw [ByteArray.data_append, Array.toList_append]
theorem decG_end {n : Nat} {r : ByteArray} (h : DecG n 0 r) (hn : n ≠ 0) : r = ba (Lib.decDigits n) := by
  have e := h.eq
  unfold digs at e
  rw [if_neg hn, if_pos rfl, List.nil_append] at e
  rw [e, ba_bl]
theorem t10 (u : Nat) : ((u : Int)).tmod 10 = ((u % 10 : Nat) : Int) ∧ ((u : Int)).tdiv 10 = ((u / 10 : Nat) : Int) := by
  rw [Int.tmod_eq_emod_of_nonneg (by omega), Int.tdiv_eq_ediv_of_nonneg (by omega)]
  push_cast <;> exact ⟨rfl, rfl⟩
theorem t10m (u : Nat) : ((u : Int)).tmod 10 = ((u % 10 : Nat) : Int) := (t10 u).1
theorem t10d (u : Nat) : ((u : Int)).tdiv 10 = ((u / 10 : Nat) : Int) := (t10 u).2
theorem str1A (x : Int) : (strOf [x]).size = 1 := by rw [strOf_size]; rfl

theorem spec_Decimal_A (n : Nat) (hn : n ≤ 9223372036854775807) : Spec Tryz.prog 103 [.sc (.int .i64 (n : Int))] (fun d => d = .sc (.string (ba (Lib.decDigits n)))) := by
  have ex0 := @t10m; have ex1 := @t10d; have ex2 := @str1A
  refine sp_ (rs := [.tmp 2]) (nt := 30) Tryz.func103 rfl fun X hX => ?_
  refine nm_ ?_
  repeat' ((first | contradiction | (with_reducible exact tt_) | ((with_reducible show Wk (AwStepF _ _ _ _ _ _ _)); first | (refine cl_ rfl _ _ (figure_A ((u % 10 : Nat) : Int) (by omega)) rfl rfl ?_; rintro _ rfl) | (refine byt_ rfl ?_)) | ((with_reducible show Wk (AwStep _ _ _ _ _)); first | (refine pln_ ?_)) | ((with_reducible show Wk (AwCode _ _ _ _ _)); first | (refine lpK_ (ι := Nat × ByteArray) [] [] 0x19 (fun ⟨u, r⟩ => [(0, .sc (.int .i64 (u : Int))), (3, .sc (.bool false)), (4, .sc (.string r))]) (fun ⟨u, r⟩ => []) (fun ⟨u, r⟩ => u ≤ n ∧ DecG n u r) (fun ⟨u, r⟩ => u) (n, ⟨#[]⟩) ?_ ?_; (focus (exact ⟨Nat.le_refl _, ⟨(List.append_nil _).symm⟩⟩)); rintro _ hN0 ⟨u, r⟩ hinv; (try dsimp only at hinv); obtain ⟨hu, hD⟩ := hinv; have hrz := hD.size hn; have hm : u % 10 < 10 := (Nat.mod_lt _ (by decide)); have hd : u / 10 ≤ u := (Nat.div_le_self _ _); replace hD := Lib.hid hD; skip)) | ((with_reducible show Wk (boolK _ _ _ _)); first | (refine bk_ (fun h h' => ?_) (fun h h' => ?_))) | ((with_reducible show Wk (_ ∧ _)); first | (refine and_ ?_ ?_)) | (refine hN0.run ((u / 10, strOf [figI ((u % 10 : Nat) : Int)] ++ r)) [] [] ?_ ?_; (focus (exact ⟨by show u / 10 ≤ n; omega, decG_go hD.out (by omega)⟩)); (focus (show u / 10 < u; omega))) | fail) <;> (try refine nm_ ?_))
  all_goals clear ex0 ex1 ex2
  all_goals (refine ⟨?_⟩)
  all_goals first | contradiction | (exfalso; omega) | (have e9 : n = 0 := (by omega); subst e9; rw [Lib.decDigits_one (by decide)]; rfl) | (have e9 : u = 0 := (by omega); subst e9; rw [decG_end hD.out (by omega)]) | trace_state

theorem eqS_rfl (a : ByteArray) : eqB a a = true := by unfold eqB; exact beq_self_eq_true _
theorem eqS_eq {a b : ByteArray} (h : eqB a b = true) : a = b := by
  unfold eqB at h
  have e := beq_iff_eq.1 h
  rw [ByteArray.toList_eq, ByteArray.toList_eq] at e
  exact ByteArray.ext (Array.toList_inj.1 e)
/-- The figures of the first i bytes. -/
structure RdG (s : ByteArray) (i : Nat) (n : Int) : Prop where
  val : n = (decVal ((bl s).take i) : Int)
  dig : ∀ b ∈ (bl s).take i, 48 ≤ b.toNat ∧ b.toNat ≤ 57
theorem decVal_lt : ∀ (k : Nat) (l : By), l.length ≤ k → (∀ b ∈ l, 48 ≤ b.toNat ∧ b.toNat ≤ 57) → decVal l < 10 ^ k := by
  intro k
  induction k with
  | zero => intro l h _; obtain rfl : l = [] := List.eq_nil_of_length_eq_zero (by omega); decide
  | succ k ih =>
    intro l h hd
    rcases List.eq_nil_or_concat l with rfl | ⟨m, b, rfl⟩
    · exact Nat.pow_pos (by decide)
    · rw [List.concat_eq_append] at h hd ⊢
      rw [List.length_append] at h
      have h1 := ih m (by simp at h; omega) fun x hx => hd x (List.mem_append_left _ hx)
      have h2 := hd b (by simp)
      rw [decVal_snoc, Nat.pow_succ]
      omega
theorem rdG_0 (s : ByteArray) : RdG s 0 0 := ⟨rfl, fun b h => by cases h⟩
theorem RdG.rng {s : ByteArray} {i : Nat} {n : Int} (h : RdG s i n) (hi : i ≤ 10) : 0 ≤ n ∧ n < 10000000000 := by
  have := decVal_lt 10 ((bl s).take i) (by rw [List.length_take]; omega) h.dig
  rw [h.val]
  omega
theorem rdG_go {s : ByteArray} {i : Nat} {n : Int} (h : RdG s i n) (hi : i < s.size) (hb : 48 ≤ bytB s i ∧ bytB s i ≤ 57) : RdG s (i + 1) (10 * n + bytB s i - 48) := by
  obtain ⟨b, h1, h2⟩ := bytB_bl hi
  obtain ⟨h3, h4⟩ := List.getElem?_eq_some_iff.1 h1
  rw [h2] at hb
  have e : (bl s).take (i + 1) = (bl s).take i ++ [b] := by rw [List.take_succ_eq_append_getElem h3, h4]
  refine ⟨?_, fun x hx => ?_⟩
  · rw [e, decVal_snoc, h.val, h2]; omega
  · rw [e] at hx
    rcases List.mem_append.1 hx with hx | hx
    · exact h.dig x hx
    · rw [List.mem_singleton.1 hx]; omega
theorem itoa_facts {m : Int} (h0 : 0 ≤ m) (h1 : m ≤ 1000000000) : (Lib.itoa m).length ≤ 10 ∧ (∀ b ∈ Lib.itoa m, 48 ≤ b.toNat ∧ b.toNat ≤ 57) ∧ decVal (Lib.itoa m) = m.toNat ∧ Lib.itoa m = Lib.decDigits m.toNat := by
  obtain ⟨a, rfl⟩ := Int.eq_ofNat_of_zero_le h0
  rw [Lib.itoa_nonneg]
  exact ⟨dec_len 9 a (by omega), (dec_dig 10 a (by omega)).2, decVal_dec 10 a (by omega), rfl⟩
theorem numR_big {s : ByteArray} (h : 10 < s.size) : NumR (bl s) 0 false := ⟨fun e => (by cases e), fun _ => ⟨rfl, fun m h0 h1 e => by
  have := (itoa_facts h0 h1).1
  rw [← e, bl_len] at this
  omega⟩⟩
theorem numR_byte {s : ByteArray} {i : Nat} (hi : i < s.size) (hb : bytB s i < 48 ∨ 57 < bytB s i) : NumR (bl s) 0 false := ⟨fun e => (by cases e), fun _ => ⟨rfl, fun m h0 h1 e => by
  obtain ⟨b, h2, h3⟩ := bytB_bl hi
  have hm : b ∈ Lib.itoa m := by rw [← e]; exact List.mem_of_getElem? h2
  have := (itoa_facts h0 h1).2.1 b hm
  omega⟩⟩
theorem numR_end {s : ByteArray} {i : Nat} {n : Int} (h : RdG s i n) (hi : s.size ≤ i) (hn : 1000000000 < n ∨ eqB (ba (Lib.decDigits n.toNat)) s = false) : NumR (bl s) 0 false := ⟨fun e => (by cases e), fun _ => ⟨rfl, fun m h0 h1 e => by
  have f := itoa_facts h0 h1
  have e1 : n = m := by
    rw [h.val, List.take_of_length_le (by rw [bl_len]; exact hi), e, f.2.2.1]; omega
  subst e1
  rcases hn with hn | hn
  · omega
  · rw [← f.2.2.2, ← e, ba_bl] at hn
    rw [eqS_rfl] at hn
    cases hn⟩⟩
theorem numR_yes {s : ByteArray} {i : Nat} {n : Int} (h : RdG s i n) (h0 : 0 ≤ n) (hn : n ≤ 1000000000) (he : eqB (ba (Lib.decDigits n.toNat)) s = true) : NumR (bl s) n true := ⟨fun _ => ⟨by
  rw [← eqS_eq he, bl_ba, (itoa_facts h0 hn).2.2.2], h0, hn⟩, fun e => by cases e⟩
theorem dec_of {n : Int} (h : 0 ≤ n ∧ n ≤ 9223372036854775807) : Spec Tryz.prog 103 [.sc (.int .i64 n)] (fun d => d = .sc (.string (ba (Lib.decDigits n.toNat)))) := by
  have := spec_Decimal_A n.toNat (by omega)
  rwa [Int.toNat_of_nonneg h.1] at this

end Go.Proofs.YtidjjfjhmlndjaaGreatDoor
