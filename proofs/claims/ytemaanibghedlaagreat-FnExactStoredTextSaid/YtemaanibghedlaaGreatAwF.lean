/- The logic over data: a function's body, loops, old contracts. -/
import Derived.Test.YtemaanibghedlaaGreatAwE
namespace Go.Proofs.YtemaanibghedlaaGreat
open Go.RowKit

theorem load_run {X : Ctx} {P : Program} {s : St} {E : Env} {a : Act} {w : World} (hr : Rel X s E a w) {t : TypeId} {x : Operand} {d : D} (h : loadD P t s (s.ev x) = some d) :
    ∃ ad v, a.eval x = .pointer (some ad) ∧ (loadVar t ad).run P w = .ok v w ∧ Rep E w d v := by
  have hx := hr.ev x
  have key : ∀ (ad : Addr) v, (Instr.loadAt t (.pointer (some ad))).run P w = .ok v w → (loadVar t ad).run P w = .ok v w := fun ad v h => by simpa [Instr.loadAt, Instr.sureAddr] using h
  cases hd : s.ev x with
  | ptr i q =>
    rw [hd] at h hx
    obtain ⟨l, hl, hp⟩ := hx
    simp only [loadD] at h
    cases hob : s.ob i with
    | none => rw [hob] at h; cases h
    | some ob =>
      rw [hob] at h
      obtain ⟨us, e1, e2, e3⟩ := hr.cells (St.ob_some hob).2 (mem_of_lookup (St.ob_some hob).1) hl 0 ob.cs.length (by omega)
      obtain ⟨v, h1, h2⟩ := load_part (P := P) (E := E) (w := w) (t := t) (cs := ob.cs) (o := q) (g := l.g) (oo := 0) us e1 (fun j e v he hv => e3 j e v (by simpa using he) hv) h
      replace h1 := h1 w e2
      rw [Nat.zero_add] at h1
      exact ⟨_, v, hp, key _ _ h1, h2⟩
  | cptr cs q =>
    rw [hd] at h hx
    obtain ⟨b, oo, us, hp, hro, e1, e2, e3⟩ := hx
    obtain ⟨v, h1, h2⟩ := load_part (g := b) (oo := oo) us e1 (fun j e v he hv => (e3 j e v he hv).to1) h
    replace h1 := h1 w e2
    exact ⟨_, v, hp, key _ _ h1, h2⟩
  | _ => rw [hd] at h; cases h

/-- What is handed back for one result. -/
def resF (tmps : Array Value) : ResultVar → Sem Value
  | .tmp t => pure (tmps.getD t undef)
  | .cell k t => do loadVar t (← asAddr (tmps.getD k undef))
theorem results_eq (fn : Func) (tmps : Array Value) : results fn tmps = (do let vs ← fn.results.mapM (resF tmps); pure (if h : vs.size = 1 then vs[0] else .tuple vs)) := rfl
theorem run_resAll {X : Ctx} {P : Program} {s : St} {E : Env} {a : Act} {w : World} (hr : Rel X s E a w) : ∀ {rs : List ResultVar} {ds : List D}, resAll P s rs = some ds →
    ∃ us : List Value, (rs.mapM (resF a.tmps)).run P w = .ok us w ∧ us.length = ds.length ∧ ∀ (j : Nat) (d : D) (u : Value), ds[j]? = some d → us[j]? = some u → Rep E w d u
  | [], ds, h => by
    injection h with h
    subst h
    exact ⟨[], by simp, rfl, fun j d u hd => by simp at hd⟩
  | r :: rs, ds, h => by
    unfold resAll at h
    split at h
    · rename_i d ds' h1 h2
      injection h with h
      subst h
      obtain ⟨us, h5, h6, h7⟩ := run_resAll hr h2
      have fin : ∀ v, Rep E w d v → ∀ (j : Nat) (e : D) (u : Value), (d :: ds')[j]? = some e → (v :: us)[j]? = some u → Rep E w e u := by
        intro v h4 j e u he hu
        rcases j with _ | j
        · simp only [List.getElem?_cons_zero, Option.some.injEq] at he hu
          subst he; subst hu
          exact h4
        · exact h7 j e u (by simpa using he) (by simpa using hu)
      cases r with
      | tmp t =>
        have h1' : s.get t = d := by injection h1
        subst h1'
        refine ⟨a.tmps.getD t undef :: us, ?_, by simp [h6], fin _ (hr.ev (.tmp t))⟩
        rw [List.mapM_cons, Sem.run_bind, show (resF a.tmps (.tmp t)).run P w = .ok (a.tmps.getD t undef) w from rfl, Result.andThen_ok, Sem.run_bind, h5, Result.andThen_ok, Sem.run_pure]
      | cell k t =>
        obtain ⟨ad, v, h3, h4, h8⟩ := load_run hr (x := .tmp k) (show loadD P t s (s.ev (.tmp k)) = some d from h1)
        have h3' : a.tmps.getD k undef = .pointer (some ad) := h3
        refine ⟨v :: us, ?_, by simp [h6], fin _ h8⟩
        rw [List.mapM_cons, Sem.run_bind]
        have : (resF a.tmps (.cell k t)).run P w = .ok v w := by
          unfold resF
          simp only [h3']
          simpa [asAddr] using h4
        rw [this, Result.andThen_ok, Sem.run_bind, h5, Result.andThen_ok, Sem.run_pure]
    · cases h

theorem run_results {X : Ctx} {P : Program} {s : St} {E : Env} {a : Act} {w : World} (hr : Rel X s E a w) {fn : Func} {ds : List D} (h : resAll P s fn.results.toList = some ds) (hn : (tupD ds).noid = true) :
    ∃ v, (results fn a.tmps).run P w = .ok v w ∧ Rep E w (tupD ds) v := by
  obtain ⟨us, h1, h2, h3⟩ := run_resAll hr h
  have hrun : (results fn a.tmps).run P w = .ok (if h : us.toArray.size = 1 then us.toArray[0] else .tuple us.toArray) w := by
    rw [results_eq, Array.mapM_eq_mapM_toList]
    simp only [Sem.run_bind, map_eq_pure_bind]
    rw [h1]
    simp
  refine ⟨_, hrun, ?_⟩
  rcases ds with _ | ⟨d, _ | ⟨d', ds⟩⟩
  · have : us = [] := List.eq_nil_of_length_eq_zero h2
    subst this
    exact ⟨[], rfl, rfl, fun j d v hd => by simp at hd⟩
  · obtain ⟨u, rfl⟩ : ∃ u, us = [u] := List.length_eq_one_iff.1 h2
    exact h3 0 d u rfl rfl
  · have hl : ¬ us.toArray.size = 1 := by simp; simp at h2; omega
    rw [dif_neg hl]
    refine ⟨us, rfl, h2, fun j e v he hv => ?_⟩
    have h4 := h3 j e v he hv
    have hmem : e ∈ d :: d' :: ds := List.mem_of_getElem? he
    have hna : e.noidA = true := List.all_eq_true.1 (show (d :: d' :: ds).all D.noidA = true from hn) e hmem
    by_cases ht : ∀ cs, e ≠ .tup cs
    · rwa [rep_of ht] at h4
    · obtain ⟨cs, ht⟩ := Classical.not_forall.1 ht
      obtain rfl := Classical.not_not.1 ht
      cases hna

end Go.Proofs.YtemaanibghedlaaGreat
