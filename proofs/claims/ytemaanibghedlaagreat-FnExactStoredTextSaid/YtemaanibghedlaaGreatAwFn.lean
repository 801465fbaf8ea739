/- Function literals that hold what is only read: made, and called. -/
import Derived.Test.YtemaanibghedlaaGreatAwMap
namespace Go.Proofs.YtemaanibghedlaaGreat
open Go.RowKit

def D.held : D → Bool
  | .sc _ | .sl .. | .cptr .. => true
  | _ => false
theorem cap_of {E : Env} {w : World} {d : D} {v : Value} (h : Rep E w d v) (hd : d.held = true) : Cap1 E w d v := by
  cases d <;> first | exact h | cases hd
theorem of_cap {E : Env} {w : World} {d : D} {v : Value} (h : Cap1 E w d v) (hd : d.held = true) : Rep (roEnv E.ro) w d v := by
  cases d with
  | sc u => exact h
  | sl n cs => exact RepP.keep h (fun _ hb => hb) fun _ _ => rfl
  | cptr cs k => exact h
  | _ => cases hd
theorem awfnF {X : Ctx} {P : Program} {o : Oper} {s : St} {wr : List Nat} {nb : Nat} {f : FuncId} {caps : Array Operand} {K : St → Prop} (ho : o.op = .makeFunc (.func f) #[] caps)
    (hc : (caps.toList.map s.ev).all D.held = true) (h : K (s.put o.dst (.fn f (caps.toList.map s.ev)))) : AwStepF X P o s wr nb K :=
  ⟨fun E a w K' R hr hk => by
    unfold Oper.wp
    have hrun : (execOp a.eval o).run P w = .ok (.value (.func (.func f) #[] (caps.map a.eval))) w := by
      simp [execOp, ho, Instr.makeFunc]
    rw [hrun]
    refine hk _ _ _ _ h (hr.put o.dst ⟨(caps.map a.eval).toList, rfl, by simp, fun j d v hd hv => ?_⟩) ⟨.refl _, Nat.le_refl _, fun b hb _ hne => rfl, fun i l h1 h2 => (by rw [h1] at h2; cases h2), fun b h1 h2 => absurd h1 h2⟩
    have h4 := List.all_eq_true.1 hc _ (List.mem_of_getElem? hd)
    rw [List.getElem?_map] at hd
    rw [Array.toList_map, List.getElem?_map] at hv
    cases hx : caps.toList[j]? with
    | none => rw [hx] at hd; cases hd
    | some x =>
      rw [hx] at hd hv
      injection hd with hd; injection hv with hv
      subst hd; subst hv
      exact cap_of (hr.ev x) h4⟩
theorem awfn {X : Ctx} {P : Program} {o : Oper} {s : St} {f : FuncId} {caps : Array Operand} {K : St → Prop} (ho : o.op = .makeFunc (.func f) #[] caps)
    (hc : (caps.toList.map s.ev).all D.held = true) (h : K (s.put o.dst (.fn f (caps.toList.map s.ev)))) : AwStep X P o s K := (awfnF (wr := []) (nb := 0) ho hc h).plain
theorem awcallCF {X : Ctx} {P : Program} {o : Oper} {s : St} {wr : List Nat} {nb : Nat} {t : Tmp} {f : FuncId} {cap : List D} {xs : Array Operand} {ats : Array TypeId} {K : St → Prop} (ho : o.op = .call { callee := .value (.tmp t), args := xs, argTypes := ats })
    (hf : s.get t = .fn f cap) (ds : List D) (Q : D → Prop) (hs : Spec P f ds Q) (hds : xs.toList.map s.ev ++ cap = ds) (hno : (xs.toList.map s.ev).all D.noid = true) (hcap : cap.all D.held = true) (hk : ∀ d, Q d → K (s.put o.dst d)) : AwStepF X P o s wr nb K := by
  refine ⟨fun E a w K' R hr hK => ?_⟩
  have hv : Rep E w (.fn f cap) (a.eval (.tmp t)) := by
    have := hr.ev (.tmp t)
    rw [show s.ev (.tmp t) = .fn f cap from hf] at this
    exact this
  obtain ⟨us, h1, h2, h3⟩ := hv
  have hrun : (execOp a.eval o).run P w = .ok (.enter f (xs.map a.eval ++ us.toArray)) w := by
    rw [show execOp a.eval o = callFunc f (#[] ++ xs.map a.eval ++ us.toArray) by simp only [execOp, ho, resolve, h1]; rfl]
    rw [hs.1]
    simp
  unfold Oper.wp
  rw [hrun]
  show Calls P f _ w _
  subst hds
  refine (hs.2 E.ro w (xs.map a.eval ++ us.toArray) hr.sr.rolt (by simp [h2]) fun j d hd => ?_).mono ?_
  · by_cases hj : j < xs.size
    · rw [List.getElem?_append_left (by simpa using hj)] at hd
      rw [Array.getD_eq_getD_getElem?, Array.getElem?_append_left (by simpa using hj), ← Array.getD_eq_getD_getElem?]
      exact args_of hr hno j d hd
    · rw [List.getElem?_append_right (by simpa using hj)] at hd
      rw [Array.getD_eq_getD_getElem?, Array.getElem?_append_right (by simpa using hj)]
      simp only [List.length_map, Array.length_toList] at hd
      simp only [Array.size_map, List.getElem?_toArray]
      have hjl : j - xs.size < us.length := by rw [h2]; exact (List.getElem?_eq_some_iff.1 hd).1
      rw [List.getElem?_eq_getElem hjl]
      exact of_cap (h3 _ d _ hd (List.getElem?_eq_getElem hjl)) (List.all_eq_true.1 hcap _ (List.mem_of_getElem? hd))
  · intro e w' h
    obtain ⟨v, rfl, h2⟩ := after_call hr hk hK e w' h
    exact h2
theorem awcallC {X : Ctx} {P : Program} {o : Oper} {s : St} {t : Tmp} {f : FuncId} {cap : List D} {xs : Array Operand} {ats : Array TypeId} {K : St → Prop} (ho : o.op = .call { callee := .value (.tmp t), args := xs, argTypes := ats })
    (hf : s.get t = .fn f cap) (ds : List D) (Q : D → Prop) (hs : Spec P f ds Q) (hds : xs.toList.map s.ev ++ cap = ds) (hno : (xs.toList.map s.ev).all D.noid = true) (hcap : cap.all D.held = true) (hk : ∀ d, Q d → K (s.put o.dst d)) : AwStep X P o s K :=
  (awcallCF (wr := []) (nb := 0) ho hf ds Q hs hds hno hcap hk).plain
end Go.Proofs.YtemaanibghedlaaGreat
