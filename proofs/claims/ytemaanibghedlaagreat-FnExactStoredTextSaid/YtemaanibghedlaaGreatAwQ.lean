/- The logic over data: loops by what turns in them; calls of functions for which the model stands in. -/
import Derived.Test.YtemaanibghedlaaGreatAwFn
import Derived.Lib.Bytealg
namespace Go.Proofs.YtemaanibghedlaaGreat
open Go.RowKit

def updL (tm : List D) (ch : List (Nat × D)) : List D := ch.foldl (fun tm p => tm.set p.1 p.2) tm
theorem updL_nil (tm : List D) : updL tm [] = tm := rfl
theorem updL_cons (tm : List D) (i : Nat) (d : D) (r : List (Nat × D)) : updL tm ((i, d) :: r) = updL (tm.set i d) r := rfl
def setCs' (os : List (Nat × Ob)) (i : Nat) (x : Ob) : List (Nat × Ob) := os.map fun p => cond (p.1 == i) (i, x) p
/-- As awloop: of the slots those in ch turn; the objects stay. -/
theorem awloopU {X : Ctx} {P : Program} {c : Code} {s : St} {Q : Exit → St → Prop} {ι : Type} {tm : ι → List D} (ch : ι → List (Nat × D)) (_htm : ∀ i, updL s.tm (ch i) = tm i) (I : ι → Prop) (μ : ι → Nat) (hnb : X.nb ≤ s.nb) (i0 : ι) (hI : I i0) (h0 : Fit s ⟨tm i0, s.os, s.nb⟩)
    (round : ∀ i, I i → WCode X P c (thenQ (fun s' => ∃ j, I j ∧ μ j < μ i ∧ Fit s' ⟨tm j, s.os, s.nb⟩) Q) ⟨tm i, s.os, s.nb⟩) : AwCode X P (.loop c) s Q :=
  awloop (fun i => ⟨tm i, s.os, s.nb⟩) I μ (fun _ => hnb) i0 hI h0 round
def updO (os : List (Nat × Ob)) (ch : List (Nat × Ob)) : List (Nat × Ob) := ch.foldl (fun os p => setCs' os p.1 p.2) os
theorem updO_nil (os : List (Nat × Ob)) : updO os [] = os := rfl
theorem updO_cons (os : List (Nat × Ob)) (i : Nat) (x : Ob) (r : List (Nat × Ob)) : updO os ((i, x) :: r) = updO (setCs' os i x) r := rfl
/-- As awloopZ: of the slots and the objects (as they are ahead of the loop, frozen and renumbered) those in ch and cho turn. -/
theorem awloopV {X : Ctx} {P : Program} {c : Code} {s : St} {Q : Exit → St → Prop} {ι : Type} (is0 ρ0 : List Nat) {tm0 : List D} {os0 : List (Nat × Ob)} {tm : ι → List D} {os : ι → List (Nat × Ob)} (ch : ι → List (Nat × D)) (cho : ι → List (Nat × Ob))
    (_h1 : (frzs s is0).tm.map (D.ren (sg ρ0)) = tm0) (_h2 : handOs (frzs s is0).os (sg ρ0) ρ0 = os0) (_h3 : ∀ i, updL tm0 (ch i) = tm i) (_h4 : ∀ i, updO os0 (cho i) = os i)
    (I : ι → Prop) (μ : ι → Nat) (i0 : ι) (hI : I i0) (hf : frzsOk s is0 = true) (h0 : FitR X.nb ρ0 (frzs s is0) ⟨tm i0, os i0, ρ0.length⟩)
    (round : ∀ i, I i → WCode X P c (thenQ (fun s' => ∃ j is ρ, I j ∧ μ j < μ i ∧ frzsOk s' is = true ∧ FitR X.nb ρ (frzs s' is) ⟨tm j, os j, ρ0.length⟩) Q) ⟨tm i, os i, ρ0.length⟩) : AwCode X P (.loop c) s Q :=
  awloopZ (fun i => ⟨tm i, os i, ρ0.length⟩) I μ i0 hI ⟨is0, ρ0, hf, h0⟩ round
theorem ibeq_t (a b : Int) : ((a == b) = true) = (a ≤ b ∧ b ≤ a) := by rw [beq_iff_eq]; exact propext ⟨fun h => by omega, fun h => by omega⟩
theorem ibne_f (a b : Int) : ((a != b) = false) = (a ≤ b ∧ b ≤ a) := by rw [bne_eq_false_iff_eq]; exact propext ⟨fun h => by omega, fun h => by omega⟩
/-- A call of a function for which the model stands in: it yields a value at once. -/
theorem awext {X : Ctx} {P : Program} {o : Oper} {s : St} {f : FuncId} {xs : Array Operand} {ats : Array TypeId} {K : St → Prop} (ho : o.op = .call { callee := .value (.func f), args := xs, argTypes := ats }) (vs : List Value) (v : Value) (h1 : v.oneCell' = true)
    (hs : ∀ w, (callFunc f vs.toArray).run P w = .ok (.value v) w) (hds : xs.toList.map s.ev = vs.map .sc) (hk : K (s.put o.dst (.sc v))) : AwStep X P o s K := by
  refine ⟨fun E a w K' R hr hK => ?_⟩
  have hargs : xs.map a.eval = vs.toArray := by
    apply Array.ext'
    rw [Array.toList_map]
    apply List.ext_getElem?
    intro j
    have h2 := congrArg (fun l : List D => l[j]?) hds
    simp only [List.getElem?_map] at h2 ⊢
    cases hx : xs.toList[j]? with
    | none =>
      rw [hx] at h2
      cases hv : vs[j]? with
      | none => simp
      | some u => rw [hv] at h2; simp at h2
    | some x =>
      rw [hx] at h2
      cases hv : vs[j]? with
      | none => rw [hv] at h2; simp at h2
      | some u =>
        rw [hv] at h2
        have h3 : s.ev x = .sc u := by simpa using h2
        have h4 := hr.ev x
        rw [h3] at h4
        have h5 : a.eval x = u := h4.1
        simp [h5]
  have hrun : (execOp a.eval o).run P w = .ok (.value v) w := by
    rw [show execOp a.eval o = callFunc f (#[] ++ xs.map a.eval ++ #[]) by simp only [execOp, ho]; rfl]
    rw [hargs]
    simpa using hs w
  unfold Oper.wp
  rw [hrun]
  exact hK _ _ _ _ hk (hr.put o.dst ⟨rfl, h1⟩)
theorem toNat_pred (k : Nat) : ((k : Int) - 1).toNat = k - 1 := by omega
end Go.Proofs.YtemaanibghedlaaGreat
