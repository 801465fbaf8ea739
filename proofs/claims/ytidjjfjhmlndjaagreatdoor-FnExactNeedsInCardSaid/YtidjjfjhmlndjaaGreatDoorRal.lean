/- Functions of Go's library as contracts over data: strconv.Itoa, strconv.Atoi, strings.Fields, strings.Join, slices.Equal; an error against nil. -/
import Derived.Test.YtidjjfjhmlndjaaGreatDoorRa1
import Derived.Test.YtidjjfjhmlndjaaGreatDoorShelf
import Derived.Test.YtidjjfjhmlndjaaGreatDoorShelf2
import Derived.Lib.AtoiAllCases
import Derived.WideLaws
namespace Go.Proofs.YtidjjfjhmlndjaaGreatDoor
open Go.RowKit
set_option linter.unusedVariables false

theorem args2 {args : Array Value} (h : args.size = 2) : ∃ a b, args = #[a, b] := by
  obtain ⟨l⟩ := args
  match l, h with
  | [a, b], _ => exact ⟨a, b, rfl⟩
theorem args1 {args : Array Value} (h : args.size = 1) : ∃ a, args = #[a] := by
  obtain ⟨l⟩ := args
  match l, h with
  | [a], _ => exact ⟨a, rfl⟩
theorem itoa_D (n : Int) (h0 : -9223372036854775808 ≤ n) (h1 : n ≤ 9223372036854775807) : Spec Tryz.prog 203 [.sc (.int .i64 n)] (fun d => d = .sc (.string (ba (Lib.itoa n)))) := by
  refine ⟨callable Tryz.func203 rfl (by kernel_rfl), fun ro w args hro hsz hrep => ?_⟩
  obtain ⟨v, rfl⟩ := args1 hsz
  have h2 : v = .int .i64 n := (hrep 0 _ rfl).1
  subst h2
  refine (Tryz.strconv_Itoa n h0 h1 w hro.tt.tab).mono ?_
  rintro e w' ⟨rfl, k, os, rfl⟩
  refine ⟨_, _, rfl, rfl, ⟨rfl, rfl⟩, ⟨rfl, rfl, rfl, by simp [Sort.grow, World.drewN], fun b hb => ?_⟩⟩
  show (w.heap ++ os)[b]? = _
  rw [Array.getElem?_append_left hb]
theorem eq_len {α : Type} [BEq α] [LawfulBEq α] {ks js : List α} (h : ks.length ≠ js.length) : (ks == js) = false := by
  rw [beq_eq_false_iff_ne]
  intro e; subst e; exact h rfl
theorem sl_cells {ro : Nat → Prop} {w : World} {n : Nat} {cs : List D} {u : Value} (h : RepP ro w (.sl n cs) u) : ∃ (A : Option Addr) (c : Nat) (us : List Value), u = .slice A n c ∧ us.length = cs.length ∧ n ≤ c ∧ c ≤ maxLen ∧ (∀ (j : Nat) (v : Value), us[j]? = some v → ∃ b o, A = some ⟨b, o, none⟩ ∧ ro b ∧ w.cell? ⟨b, o + j, none⟩ = some v) ∧ ∀ (j : Nat) (d : D) (v : Value), cs[j]? = some d → us[j]? = some v → RepP ro w d v := by
  cases h with
  | sl _ _ A c us hl hn hc hcell hrep => exact ⟨A, c, us, rfl, hl, hn, hc, hcell, hrep⟩
theorem sl_flat {ro : Nat → Prop} {w : World} {vs : List Value} {u : Value} (h : RepP ro w (.sl vs.length (vs.map .sc)) u) (h0 : 0 < vs.length) : ∃ b o c, u = .slice (some ⟨b, o, none⟩) vs.length c ∧ vs.length ≤ c ∧ ro b ∧ ∀ (j : Nat) (v : Value), vs[j]? = some v → w.cell? ⟨b, o + j, none⟩ = some v := by
  obtain ⟨A, c, us, rfl, hl, hn, hc, hcell, hrep⟩ := sl_cells h
  rw [List.length_map] at hl
  obtain ⟨b, o, rfl, hb, _⟩ := hcell 0 (us[0]'(by omega)) (List.getElem?_eq_getElem _)
  refine ⟨b, o, c, rfl, hn, hb, fun j v hv => ?_⟩
  have hj : j < us.length := by rw [hl]; exact (List.getElem?_eq_some_iff.1 hv).1
  obtain ⟨b', o', e, _, h5⟩ := hcell j us[j] (List.getElem?_eq_getElem hj)
  injection e with e
  injection e with e1 e2
  subst e1; subst e2
  have h6 := hrep j (.sc v) us[j] (by rw [List.getElem?_map, hv]; rfl) (List.getElem?_eq_getElem hj)
  rw [h5, repP_sc h6]
def joinB (xs : List ByteArray) (sep : ByteArray) : ByteArray := ⟨(Lib.join (xs.map (·.data.toList)) sep.data.toList).toArray⟩
theorem join_D (xs : List ByteArray) (sep : ByteArray) (hlen : (joinB xs sep).size ≤ 140737488355328) (hN : xs.length ≤ 140737488355328) : Spec Tryz.prog 52 [.sl xs.length (strsD xs), .sc (.string sep)] (fun d => d = .sc (.string (joinB xs sep))) := by
  refine ⟨callable Tryz.func52 rfl (by kernel_rfl), fun ro w args hro hsz hrep => ?_⟩
  obtain ⟨a0, a1, rfl⟩ := args2 hsz
  have h0 : RepP ro w (.sl xs.length (strsD xs)) a0 := hrep 0 _ rfl
  obtain rfl : a1 = .string sep := (hrep 1 _ rfl).1
  rcases Nat.eq_zero_or_pos xs.length with h | h
  · obtain rfl : xs = [] := List.eq_nil_of_length_eq_zero h
    obtain ⟨A, c, us, rfl, _⟩ := sl_cells h0
    refine (Tryz.strings_Join_none A c sep w).mono ?_
    rintro e w' ⟨rfl, rfl⟩
    exact ⟨_, _, rfl, rfl, ⟨rfl, rfl⟩, Below.refl _ _⟩
  · have e : strsD xs = (xs.map Value.string).map D.sc := by simp [strsD, Function.comp_def]
    rw [e, ← List.length_map (f := Value.string)] at h0
    obtain ⟨b, o, c, rfl, hc, hb, hcell⟩ := sl_flat h0 (by simpa using h)
    rw [List.length_map] at hc ⊢
    refine (Tryz.strings_Join b o c xs sep w (fun j x hx => hcell j _ (by rw [List.getElem?_map, hx]; rfl)) (hro b hb) hN hc (by simpa [joinB, ByteArray.size] using hlen)).mono ?_
    rintro e w' ⟨rfl, hbel⟩
    exact ⟨_, _, rfl, rfl, ⟨rfl, rfl⟩, hbel⟩
/-! An error against nil. -/
def niG (s : St) (o : Oper) : D → Option St
  | .sc .nilIface => some (s.put o.dst (.sc (.bool false)))
  | .sc (.iface _ _) => some (s.put o.dst (.sc (.bool true)))
  | _ => none
theorem niG_n (s : St) (o : Oper) : niG s o (.sc .nilIface) = some (s.put o.dst (.sc (.bool false))) := rfl
theorem niG_i (s : St) (o : Oper) (t : TypeId) (p : Value) : niG s o (.sc (.iface t p)) = some (s.put o.dst (.sc (.bool true))) := rfl
theorem niF_ {X : Ctx} {P : Program} {o : Oper} {s : St} {wr : List Nat} {nb : Nat} {t u : TypeId} {x : Operand} {K : St → Prop} (ho : o.op = .binOp .neq t x (.const .nilIface) u) (ht : P.underlying t = some (.interface (P.methodsAt t))) (h : Wk (stepK (niG s o (s.ev x)) K False)) : Wk (AwStepF X P o s wr nb K) := by
  refine ⟨⟨fun E a w K' R hr hK => ?_⟩⟩
  have hxv := hr.ev x
  have h1 := h.out
  generalize s.ev x = d at h1 hxv
  unfold Oper.wp
  match d, h1, hxv with
  | .sc .nilIface, h1, hxv =>
    have hx1 : a.eval x = .nilIface := hxv.1
    have hrun : (execOp a.eval o).run P w = .ok (.value (.bool false)) w := by
      have hg : (eqGuard .neq t x (.const .nilIface) .nilIface .nilIface).run P w = .ok () w := by unfold eqGuard; simp
      have hb : (binOp .neq t .nilIface .nilIface).run P w = .ok (.bool false) w := run_neq_nil_nil w t ht
      simp only [execOp, ho, hx1, show a.eval (.const .nilIface) = .nilIface from rfl, Sem.run_bind, hg, hb, Result.andThen_ok, Sem.run_pure]
    rw [hrun]
    exact hK _ _ _ _ h1 (hr.put o.dst ⟨rfl, rfl⟩) (FrT.of (.same _ _ _))
  | .sc (.iface te pe), h1, hxv =>
    have hx1 : a.eval x = .iface te pe := hxv.1
    have hrun : (execOp a.eval o).run P w = .ok (.value (.bool true)) w := by
      have hg : (eqGuard .neq t x (.const .nilIface) (.iface te pe) .nilIface).run P w = .ok () w := by unfold eqGuard; simp
      have hb : (binOp .neq t (.iface te pe) .nilIface).run P w = .ok (.bool true) w := run_neq_held_nil w t te pe ht
      simp only [execOp, ho, hx1, show a.eval (.const .nilIface) = .nilIface from rfl, Sem.run_bind, hg, hb, Result.andThen_ok, Sem.run_pure]
    rw [hrun]
    exact hK _ _ _ _ h1 (hr.put o.dst ⟨rfl, rfl⟩) (FrT.of (.same _ _ _))
end Go.Proofs.YtidjjfjhmlndjaaGreatDoor
