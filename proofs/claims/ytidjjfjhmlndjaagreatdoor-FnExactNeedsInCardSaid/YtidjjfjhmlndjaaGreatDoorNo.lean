/- Calls that hand out memory and only read what belongs to the caller. -/
import Derived.Test.YtidjjfjhmlndjaaGreatDoorNn
import Derived.Test.YtidjjfjhmlndjaaGreatDoorAwc
namespace Go.Proofs.YtidjjfjhmlndjaaGreatDoor
open Go.RowKit
set_option maxRecDepth 100000
theorem ite_ {c : Prop} [Decidable c] {f : D → St} {x y : Option D} {k : St → Prop} {e : Prop} (h1 : c → Wk (stepK (Option.map f x) k e)) (h2 : ¬ c → Wk (stepK (Option.map f y) k e)) : Wk (stepK (Option.map f (if c then x else y)) k e) := by
  split
  · rename_i h
    exact h1 h
  · rename_i h
    exact h2 h
theorem gpos2 {c : Prop} [Decidable c] {α : Type} {a b : α} (h : c) : (if c then some a else some b) = some a := if_pos h
theorem gneg2 {c : Prop} [Decidable c] {α : Type} {a b : α} (h : ¬ c) : (if c then some a else some b) = some b := if_neg h
theorem bleT_ {n m : Nat} (h : n ≤ m) : Nat.ble n m = true := Nat.ble_eq_true_of_le h
theorem bleF_ {n m : Nat} (h : m < n) : Nat.ble n m = false := by
  cases e : Nat.ble n m with
  | false => rfl
  | true => have := Nat.le_of_ble_eq_true e; omega
attribute [push_cast] gpos2 gneg2 bleT_ bleF_
theorem tps_dry {cs : List D} (h : cs.all D.tp = true) : cs.all D.dryC = true := all_to h fun d h => by cases d <;> first | rfl | cases h
theorem dryO_ {os : List (Nat × Ob)} (h : dryO os = true := by first | rfl | (simp [dryO, tps_dry (strsD_tp _), tps_dry (intsD_tp _), tps_dry (u8D_tp _), tps_dry (treesT_tp _), tps_dry (labelsD_tp _), tps_dry (filesD_tp _), tps_dry (taintsD_tp _), tps_dry (tolersD_tp _), tps_dry (needsT_tp _), tps_dry (hostsT_tp _), tps_dry (placedsT_tp _), D.dryC] <;> fail)) : dryO os = true := h
theorem boH_ {X : Ctx} {P : Program} {o : Oper} {s : St} {wr : List Nat} {nb : Nat} {f : FuncId} {xs : Array Operand} {ats : Array TypeId} {K : St → Prop} (ho : o.op = .call { callee := .value (.func f), args := xs, argTypes := ats }) (gs : List Gop) {ds : List D} {Q : D → List (Nat × Ob) → Nat → Prop} (hs : SpecH P f ds [] 0 Q)
    (hk : ∀ d os' nb', Q d os' nb' → (d.dryT = true ∧ dryO os' = true) ∧ Wk (K ((s.back [] os' nb').put o.dst (d.ren (tau [] s.nb))))) (hds : xs.toList.map (gops s gs).ev = ds := by first | exact nme_ rfl | exact rfl) (hok : gopsOk s gs = true := by first | rfl | exact cal2_ rfl | exact gok2_) (hno : ds.all D.noid = true := by rfl) : Wk (AwStepF X P o s wr nb K) := ⟨awborHF gs hok ho ds Q hs hds hno fun d os' nb' h => ⟨(hk d os' nb' h).1, (hk d os' nb' h).2.out⟩⟩
theorem mn2_ {X : Ctx} {P : Program} {o : Oper} {s : St} {wr : List Nat} {nb : Nat} {x y : Operand} {ats : Array TypeId} {K : St → Prop} {k : IntKind} {m n : Int} (ho : o.op = .call { callee := .builtin .min, args := #[x, y], argTypes := ats }) (h : Wk (K (s.put o.dst (.sc (.int k (if n < m then n else m)))))) (hx : s.ev x = .sc (.int k m) := by first | exact nme_ rfl | exact rfl) (hy : s.ev y = .sc (.int k n) := by first | exact nme_ rfl | exact rfl) : Wk (AwStepF X P o s wr nb K) := ⟨minF ho hx hy h.out⟩
theorem mx2_ {X : Ctx} {P : Program} {o : Oper} {s : St} {wr : List Nat} {nb : Nat} {x y : Operand} {ats : Array TypeId} {K : St → Prop} {k : IntKind} {m n : Int} (ho : o.op = .call { callee := .builtin .max, args := #[x, y], argTypes := ats }) (h : Wk (K (s.put o.dst (.sc (.int k (if m < n then n else m)))))) (hx : s.ev x = .sc (.int k m) := by first | exact nme_ rfl | exact rfl) (hy : s.ev y = .sc (.int k n) := by first | exact nme_ rfl | exact rfl) : Wk (AwStepF X P o s wr nb K) := ⟨maxF ho hx hy h.out⟩
end Go.Proofs.YtidjjfjhmlndjaaGreatDoor
