/- Functions of Go's library as contracts over data: strconv.Itoa, strconv.Atoi, strings.Fields, strings.Join, slices.Equal; an error against nil. -/
import Derived.Test.YtidjjfjhmlndjaaDoorRa1
import Derived.Test.YtidjjfjhmlndjaaDoorShelf
import Derived.Test.YtidjjfjhmlndjaaDoorShelf2
import Derived.Lib.AtoiAllCases
import Derived.WideLaws
namespace Go.Proofs.YtidjjfjhmlndjaaDoor
open Go.RowKit
set_option linter.unusedVariables false

theorem args2 {args : Array Value} (h : args.size = 2) : ∃ a b, args = #[a, b] := by
  obtain ⟨l⟩ := args
  match l, h with
  | [a, b], _ => exact ⟨a, b, rfl⟩
theorem args1 {args : Array Value} (h : args.size = 1) : ∃ a, args = #[a] := by
  obtain ⟨l⟩ := args
  match l, h with
  | [a], _ => exact ⟨a, rfl⟩
theorem itoa_D (n : Int) (h0 : -9223372036854775808 ≤ n) (h1 : n ≤ 9223372036854775807) : Spec Tryd.prog 50 [.sc (.int .i64 n)] (fun d => d = .sc (.string (ba (Lib.itoa n)))) := by
  refine ⟨callable Tryd.func50 rfl (by kernel_rfl), fun ro w args hro hsz hrep => ?_⟩
  obtain ⟨v, rfl⟩ := args1 hsz
  have h2 : v = .int .i64 n := (hrep 0 _ rfl).1
  subst h2
  refine (Tryd.strconv_Itoa n h0 h1 w hro.tt.tab).mono ?_
  rintro e w' ⟨rfl, k, os, rfl⟩
  refine ⟨_, _, rfl, rfl, ⟨rfl, rfl⟩, ⟨rfl, rfl, rfl, by simp [Sort.grow, World.drewN], fun b hb => ?_⟩⟩
  show (w.heap ++ os)[b]? = _
  rw [Array.getElem?_append_left hb]
/-- What Atoi hands back: a number, and an error or none; none where the text spells a number. -/
structure AtR (s : ByteArray) (n : Int) (e : Value) : Prop where
  rng : -9223372036854775808 ≤ n ∧ n ≤ 9223372036854775807
  er : e = .nilIface ∨ ∃ t p, e = .iface t p
  it : ∀ m, Lib.atoiAll s.data.toList = .ok m → n = m ∧ e = .nilIface
theorem atoi_D (s : ByteArray) (hs : s.size ≤ 281474976710656) : Spec Tryd.prog 58 [.sc (.string s)] (fun d => ∃ n e, AtR s n e ∧ d = .tup [.sc (.int .i64 n), .sc e]) := by
  refine ⟨callable Tryd.func58 rfl (by kernel_rfl), fun ro w args hro hsz hrep => ?_⟩
  obtain ⟨v, rfl⟩ := args1 hsz
  have h2 : v = .string s := (hrep 0 _ rfl).1
  subst h2
  have two : ∀ (n : Int) (e : Value) (W : World), e.oneCell' = true → Rep (roEnv fun b => ro b ∨ (w.heap.size ≤ b ∧ b < W.heap.size)) W (.tup [.sc (.int .i64 n), .sc e]) (.tuple #[.int .i64 n, e]) := fun n e W h1 => by
    refine ⟨[.int .i64 n, e], rfl, rfl, fun j d v hd hv => ?_⟩
    match j, hd, hv with
    | 0, hd, hv => injection hd with hd; injection hv with hv; subst hd; subst hv; exact ⟨rfl, rfl⟩
    | 1, hd, hv => injection hd with hd; injection hv with hv; subst hd; subst hv; exact ⟨rfl, h1⟩
    | j + 2, hd, hv => cases hd
  rcases h : Lib.atoiAll s.data.toList with v | _ | _
  · refine (Tryd.strconv_Atoi_ok s (by omega) v h w).mono ?_
    rintro e w' ⟨rfl, hw⟩
    refine ⟨_, _, ⟨v, .nilIface, ⟨Lib.atoiAll_bounds h, .inl rfl, fun m hm => ?_⟩, rfl⟩, rfl, two _ _ _ rfl, ?_⟩
    · rw [h] at hm; injection hm with hm; exact ⟨hm, rfl⟩
    · rcases hw with rfl | ⟨t, rfl⟩
      · exact Below.refl _ _
      · exact Lib.bytesWorld_below _ _ _
  · obtain ⟨ev, hv, hev⟩ := hro.tt.t3.1.is
    refine (Tryd.strconv_Atoi_other s hs (fun v hc => by rw [h] at hc; cases hc) (fun hc => by rw [h] at hc; cases hc) ev w hv hev).mono ?_
    rintro e w' ⟨N, rfl, _, _, hb⟩
    exact ⟨_, _, ⟨0, _, ⟨⟨by decide, by decide⟩, .inr ⟨_, _, rfl⟩, fun m hm => by rw [h] at hm; cases hm⟩, rfl⟩, rfl, two _ _ _ rfl, hb⟩
  · obtain ⟨ev, hv, hev⟩ := hro.tt.t3.2.is
    refine (Tryd.strconv_Atoi_range s hs h ev w hv hev).mono ?_
    rintro e w' ⟨N, rfl, _, _, hb⟩
    exact ⟨_, _, ⟨Lib.atoiSat s.data.toList, _, ⟨Lib.atoiSat_bounds _, .inr ⟨_, _, rfl⟩, fun m hm => by rw [h] at hm; cases hm⟩, rfl⟩, rfl, two _ _ _ rfl, hb⟩
theorem fgo_len : ∀ (l cur : By), (Lib.fieldsGo cur l).length ≤ l.length + 1
  | [], cur => by unfold Lib.fieldsGo; split <;> simp
  | b :: l, cur => by
    cases hb : Lib.isSp b with
    | false => rw [Lib.fieldsGo_more cur b l hb]; have := fgo_len l (cur ++ [b]); rw [List.length_cons]; omega
    | true =>
      by_cases he : cur = []
      · subst he; rw [Lib.fieldsGo_sp b l hb]; have := fgo_len l []; rw [List.length_cons]; omega
      · rw [Lib.fieldsGo_end cur b l hb he, List.length_cons, List.length_cons]; have := fgo_len l []; omega
def fieldsS (s : ByteArray) : List ByteArray := (Lib.fields (bl s)).map ba
theorem fields_D (s : ByteArray) (hs : s.size < 4294967281) (ha : ∀ b ∈ bl s, b.toNat < 128) : Spec Tryd.prog 32 [.sc (.string s)] (fun d => d = .sl (fieldsS s).length (strsD (fieldsS s))) := by
  refine ⟨callable Tryd.func32 rfl (by kernel_rfl), fun ro w args hro hsz hrep => ?_⟩
  obtain ⟨v, rfl⟩ := args1 hsz
  have h2 : v = .string s := (hrep 0 _ rfl).1
  subst h2
  refine (Tryd.strings_Fields s w hs (fun j b hb => ha b (List.mem_of_getElem? hb)) hro.tt.spc).mono ?_
  rintro e w' ⟨rfl, rfl⟩
  have hl : (Lib.fields s.data.toList).length = (fieldsS s).length := by unfold fieldsS bl; rw [List.length_map]
  have hn : (fieldsS s).length ≤ maxLen := by
    rw [← hl]
    have h3 := fgo_len s.data.toList []
    have h4 : s.data.toList.length = s.size := bl_len s
    unfold Lib.fields maxLen
    omega
  refine ⟨_, _, rfl, rfl, ?_, (Below.refl _ _).alloc (Nat.le_refl _) _⟩
  rw [hl]
  refine .sl _ _ (some ⟨w.heap.size, 0, none⟩) _ ((Lib.fields s.data.toList).map fun l => Value.string ⟨l.toArray⟩) (by simp [strsD, fieldsS, bl]) (Nat.le_refl _) hn (fun j u hu => ?_) fun j d u hd hu => ?_
  · refine ⟨w.heap.size, 0, rfl, .inr ⟨Nat.le_refl _, by show w.heap.size < (w.heap.push _).size; rw [Array.size_push]; exact Nat.lt_succ_self _⟩, ?_⟩
    rw [Nat.zero_add, World.cell?_alloc_new, List.getElem?_toArray, hu]
  · unfold strsD fieldsS at hd
    rw [List.getElem?_map] at hu
    rw [List.getElem?_map, List.getElem?_map] at hd
    unfold bl at hd
    cases hx : (Lib.fields s.data.toList)[j]? with
    | none => rw [hx] at hu; cases hu
    | some x =>
      rw [hx] at hu hd
      injection hu with hu
      injection hd with hd
      subst hu; subst hd
      exact .sc _ rfl
theorem eq_len {α : Type} [BEq α] [LawfulBEq α] {ks js : List α} (h : ks.length ≠ js.length) : (ks == js) = false := by
  rw [beq_eq_false_iff_ne]
  intro e; subst e; exact h rfl
theorem sl_cells {ro : Nat → Prop} {w : World} {n : Nat} {cs : List D} {u : Value} (h : RepP ro w (.sl n cs) u) : ∃ (A : Option Addr) (c : Nat) (us : List Value), u = .slice A n c ∧ us.length = cs.length ∧ n ≤ c ∧ c ≤ maxLen ∧ (∀ (j : Nat) (v : Value), us[j]? = some v → ∃ b o, A = some ⟨b, o, none⟩ ∧ ro b ∧ w.cell? ⟨b, o + j, none⟩ = some v) ∧ ∀ (j : Nat) (d : D) (v : Value), cs[j]? = some d → us[j]? = some v → RepP ro w d v := by
  cases h with
  | sl _ _ A c us hl hn hc hcell hrep => exact ⟨A, c, us, rfl, hl, hn, hc, hcell, hrep⟩
theorem sl_flat {ro : Nat → Prop} {w : World} {vs : List Value} {u : Value} (h : RepP ro w (.sl vs.length (vs.map .sc)) u) (h0 : 0 < vs.length) : ∃ b o c, u = .slice (some ⟨b, o, none⟩) vs.length c ∧ vs.length ≤ c ∧ ro b ∧ ∀ (j : Nat) (v : Value), vs[j]? = some v → w.cell? ⟨b, o + j, none⟩ = some v := by
  obtain ⟨A, c, us, rfl, hl, hn, hc, hcell, hrep⟩ := sl_cells h
  rw [List.length_map] at hl
  obtain ⟨b, o, rfl, hb, _⟩ := hcell 0 (us[0]'(by omega)) (List.getElem?_eq_getElem _)
  refine ⟨b, o, c, rfl, hn, hb, fun j v hv => ?_⟩
  have hj : j < us.length := by rw [hl]; exact (List.getElem?_eq_some_iff.1 hv).1
  obtain ⟨b', o', e, _, h5⟩ := hcell j us[j] (List.getElem?_eq_getElem hj)
  injection e with e
  injection e with e1 e2
  subst e1; subst e2
  have h6 := hrep j (.sc v) us[j] (by rw [List.getElem?_map, hv]; rfl) (List.getElem?_eq_getElem hj)
  rw [h5, repP_sc h6]
def joinB (xs : List ByteArray) (sep : ByteArray) : ByteArray := ⟨(Lib.join (xs.map (·.data.toList)) sep.data.toList).toArray⟩
theorem join_D (xs : List ByteArray) (sep : ByteArray) (hlen : (joinB xs sep).size ≤ 140737488355328) (hN : xs.length ≤ 140737488355328) : Spec Tryd.prog 41 [.sl xs.length (strsD xs), .sc (.string sep)] (fun d => d = .sc (.string (joinB xs sep))) := by
  refine ⟨callable Tryd.func41 rfl (by kernel_rfl), fun ro w args hro hsz hrep => ?_⟩
  obtain ⟨a0, a1, rfl⟩ := args2 hsz
  have h0 : RepP ro w (.sl xs.length (strsD xs)) a0 := hrep 0 _ rfl
  obtain rfl : a1 = .string sep := (hrep 1 _ rfl).1
  rcases Nat.eq_zero_or_pos xs.length with h | h
  · obtain rfl : xs = [] := List.eq_nil_of_length_eq_zero h
    obtain ⟨A, c, us, rfl, _⟩ := sl_cells h0
    refine (Tryd.strings_Join_none A c sep w).mono ?_
    rintro e w' ⟨rfl, rfl⟩
    exact ⟨_, _, rfl, rfl, ⟨rfl, rfl⟩, Below.refl _ _⟩
  · have e : strsD xs = (xs.map Value.string).map D.sc := by simp [strsD, Function.comp_def]
    rw [e, ← List.length_map (f := Value.string)] at h0
    obtain ⟨b, o, c, rfl, hc, hb, hcell⟩ := sl_flat h0 (by simpa using h)
    rw [List.length_map] at hc ⊢
    refine (Tryd.strings_Join b o c xs sep w (fun j x hx => hcell j _ (by rw [List.getElem?_map, hx]; rfl)) (hro b hb) hN hc (by simpa [joinB, ByteArray.size] using hlen)).mono ?_
    rintro e w' ⟨rfl, hbel⟩
    exact ⟨_, _, rfl, rfl, ⟨rfl, rfl⟩, hbel⟩
theorem equal_D (ks js : List Int) (hk : ks.length ≤ 1048576) (hj : js.length ≤ 1048576) : Spec Tryd.prog 56 [.sl ks.length (intsD ks), .sl js.length (intsD js)] (fun d => d = .sc (.bool (ks == js))) := by
  refine ⟨callable Tryd.func56 rfl (by kernel_rfl), fun ro w args hro hsz hrep => ?_⟩
  obtain ⟨a0, a1, rfl⟩ := args2 hsz
  have h0 : RepP ro w (.sl ks.length (intsD ks)) a0 := hrep 0 _ rfl
  have h1 : RepP ro w (.sl js.length (intsD js)) a1 := hrep 1 _ rfl
  have ek : ∀ l : List Int, intsD l = (l.map (Value.int .i64)).map D.sc := fun l => by simp [intsD, Function.comp_def]
  by_cases hl : ks.length = js.length
  · rcases Nat.eq_zero_or_pos ks.length with h | h
    · obtain rfl : ks = [] := List.eq_nil_of_length_eq_zero h
      obtain ⟨A, c, us, rfl, _⟩ := sl_cells h0
      obtain ⟨B, c2, us2, rfl, _⟩ := sl_cells h1
      refine (Tryd.slices_Equal_int_empty A B c js.length c2 w (by omega)).mono ?_
      rintro e w' ⟨rfl, rfl⟩
      have : js = [] := List.eq_nil_of_length_eq_zero (by rw [← hl]; rfl)
      subst this
      exact ⟨_, _, rfl, rfl, ⟨rfl, rfl⟩, Below.refl _ _⟩
    · rw [ek, ← List.length_map (f := Value.int .i64)] at h0 h1
      obtain ⟨b, o, c, rfl, hc, hb, hcell⟩ := sl_flat h0 (by simpa using h)
      obtain ⟨b2, o2, c2, rfl, hc2, hb2, hcell2⟩ := sl_flat h1 (by simp; omega)
      rw [List.length_map, List.length_map]
      refine (Tryd.slices_Equal_int b o ks.length c b2 o2 js.length c2 ks js w (Nat.le_refl _) (Nat.le_refl _) (by omega) (by omega) (fun j hj => hcell j _ (by simp [hj])) (fun j hj => hcell2 j _ (by simp [hj]))).mono ?_
      rintro e w' ⟨rfl, q, rfl⟩
      rw [List.take_length, List.take_length]
      exact ⟨_, _, rfl, rfl, ⟨rfl, rfl⟩, drwN (Below.refl _ _) q⟩
  · obtain ⟨A, c, us, rfl, _⟩ := sl_cells h0
    obtain ⟨B, c2, us2, rfl, _⟩ := sl_cells h1
    refine (Tryd.slices_Equal_int_lens A B ks.length c js.length c2 w hl).mono ?_
    rintro e w' ⟨rfl, rfl⟩
    refine ⟨_, _, rfl, rfl, ⟨?_, rfl⟩, Below.refl _ _⟩
    rw [eq_len hl]
theorem equalS_D (ks js : List ByteArray) (hk : ks.length ≤ 1048576) (hj : js.length ≤ 1048576) : Spec Tryd.prog 18 [.sl ks.length (strsD ks), .sl js.length (strsD js)] (fun d => d = .sc (.bool (decide (ks = js)))) := by
  refine ⟨callable Tryd.func18 rfl (by kernel_rfl), fun ro w args hro hsz hrep => ?_⟩
  obtain ⟨a0, a1, rfl⟩ := args2 hsz
  have h0 : RepP ro w (.sl ks.length (strsD ks)) a0 := hrep 0 _ rfl
  have h1 : RepP ro w (.sl js.length (strsD js)) a1 := hrep 1 _ rfl
  have ek : ∀ l : List ByteArray, strsD l = (l.map (Value.string)).map D.sc := fun l => by simp [strsD, Function.comp_def]
  by_cases hl : ks.length = js.length
  · rcases Nat.eq_zero_or_pos ks.length with h | h
    · obtain rfl : ks = [] := List.eq_nil_of_length_eq_zero h
      obtain ⟨A, c, us, rfl, _⟩ := sl_cells h0
      obtain ⟨B, c2, us2, rfl, _⟩ := sl_cells h1
      refine (Tryd.slices_Equal_string_empty A B c js.length c2 w (by omega)).mono ?_
      rintro e w' ⟨rfl, rfl⟩
      have : js = [] := List.eq_nil_of_length_eq_zero (by rw [← hl]; rfl)
      subst this
      exact ⟨_, _, rfl, rfl, ⟨rfl, rfl⟩, Below.refl _ _⟩
    · rw [ek, ← List.length_map (f := Value.string)] at h0 h1
      obtain ⟨b, o, c, rfl, hc, hb, hcell⟩ := sl_flat h0 (by simpa using h)
      obtain ⟨b2, o2, c2, rfl, hc2, hb2, hcell2⟩ := sl_flat h1 (by simp; omega)
      rw [List.length_map, List.length_map]
      refine (Tryd.slices_Equal_string b o ks.length c b2 o2 js.length c2 ks js w (Nat.le_refl _) (Nat.le_refl _) (by omega) (by omega) (fun j hj => hcell j _ (by simp [hj])) (fun j hj => hcell2 j _ (by simp [hj]))).mono ?_
      rintro e w' ⟨rfl, q, rfl⟩
      rw [List.take_length, List.take_length]
      exact ⟨_, _, rfl, rfl, ⟨rfl, rfl⟩, drwN (Below.refl _ _) q⟩
  · obtain ⟨A, c, us, rfl, _⟩ := sl_cells h0
    obtain ⟨B, c2, us2, rfl, _⟩ := sl_cells h1
    refine (Tryd.slices_Equal_string_lens A B ks.length c js.length c2 w hl).mono ?_
    rintro e w' ⟨rfl, rfl⟩
    refine ⟨_, _, rfl, rfl, ⟨?_, rfl⟩, Below.refl _ _⟩
    rw [decide_eq_false (fun e => hl (congrArg List.length e))]
/-! An error against nil. -/
def niG (s : St) (o : Oper) : D → Option St
  | .sc .nilIface => some (s.put o.dst (.sc (.bool false)))
  | .sc (.iface _ _) => some (s.put o.dst (.sc (.bool true)))
  | _ => none
theorem niG_n (s : St) (o : Oper) : niG s o (.sc .nilIface) = some (s.put o.dst (.sc (.bool false))) := rfl
theorem niG_i (s : St) (o : Oper) (t : TypeId) (p : Value) : niG s o (.sc (.iface t p)) = some (s.put o.dst (.sc (.bool true))) := rfl
theorem niF_ {X : Ctx} {P : Program} {o : Oper} {s : St} {wr : List Nat} {nb : Nat} {t u : TypeId} {x : Operand} {K : St → Prop} (ho : o.op = .binOp .neq t x (.const .nilIface) u) (ht : P.underlying t = some (.interface (P.methodsAt t))) (h : Wk (stepK (niG s o (s.ev x)) K False)) : Wk (AwStepF X P o s wr nb K) := by
  refine ⟨⟨fun E a w K' R hr hK => ?_⟩⟩
  have hxv := hr.ev x
  have h1 := h.out
  generalize s.ev x = d at h1 hxv
  unfold Oper.wp
  match d, h1, hxv with
  | .sc .nilIface, h1, hxv =>
    have hx1 : a.eval x = .nilIface := hxv.1
    have hrun : (execOp a.eval o).run P w = .ok (.value (.bool false)) w := by
      have hg : (eqGuard .neq t x (.const .nilIface) .nilIface .nilIface).run P w = .ok () w := by unfold eqGuard; simp
      have hb : (binOp .neq t .nilIface .nilIface).run P w = .ok (.bool false) w := run_neq_nil_nil w t ht
      simp only [execOp, ho, hx1, show a.eval (.const .nilIface) = .nilIface from rfl, Sem.run_bind, hg, hb, Result.andThen_ok, Sem.run_pure]
    rw [hrun]
    exact hK _ _ _ _ h1 (hr.put o.dst ⟨rfl, rfl⟩) (FrT.of (.same _ _ _))
  | .sc (.iface te pe), h1, hxv =>
    have hx1 : a.eval x = .iface te pe := hxv.1
    have hrun : (execOp a.eval o).run P w = .ok (.value (.bool true)) w := by
      have hg : (eqGuard .neq t x (.const .nilIface) (.iface te pe) .nilIface).run P w = .ok () w := by unfold eqGuard; simp
      have hb : (binOp .neq t (.iface te pe) .nilIface).run P w = .ok (.bool true) w := run_neq_held_nil w t te pe ht
      simp only [execOp, ho, hx1, show a.eval (.const .nilIface) = .nilIface from rfl, Sem.run_bind, hg, hb, Result.andThen_ok, Sem.run_pure]
    rw [hrun]
    exact hK _ _ _ _ h1 (hr.put o.dst ⟨rfl, rfl⟩) (FrT.of (.same _ _ _))
end Go.Proofs.YtidjjfjhmlndjaaDoor
