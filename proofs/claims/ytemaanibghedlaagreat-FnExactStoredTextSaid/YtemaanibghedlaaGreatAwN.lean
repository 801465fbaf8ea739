/- The logic over data: a loop whose objects get new numbers in a round. -/
import Derived.Test.YtemaanibghedlaaGreatAwM
namespace Go.Proofs.YtemaanibghedlaaGreat
open Go.RowKit

def fitTmR (ρ : List Nat) : List D → List D → Prop
  | [], [] => True
  | d :: ds, e :: es => (e = .none ∨ (d.inn ρ.contains = true ∧ e = d.ren (sg ρ))) ∧ fitTmR ρ ds es
  | _, _ => False
theorem fitTmR_at {ρ : List Nat} : ∀ {ds es : List D}, fitTmR ρ ds es → ds.length = es.length ∧ ∀ (t : Nat) (e : D), es[t]? = some e → e = .none ∨ ∃ d, ds[t]? = some d ∧ d.inn ρ.contains = true ∧ e = d.ren (sg ρ)
  | [], [], _ => ⟨rfl, fun t e h => by simp at h⟩
  | d :: ds, e :: es, h => by
    obtain ⟨h1, h2⟩ := fitTmR_at h.2
    refine ⟨by simp [h1], fun t e' he => ?_⟩
    rcases t with _ | t
    · simp only [List.getElem?_cons_zero, Option.some.injEq] at he
      subst he
      rcases h.1 with h3 | h3
      · exact .inl h3
      · exact .inr ⟨d, by simp, h3⟩
    · rcases h2 t e' (by simpa using he) with h3 | ⟨d', h3, h4⟩
      · exact .inl h3
      · exact .inr ⟨d', by simpa using h3, h4⟩
  | [], _ :: _, h => h.elim
  | _ :: _, [], h => h.elim
/-- s' says no more than s, with the objects ρ under the numbers 0, 1, .. (the first k keep theirs). -/
def FitR (k : Nat) (ρ : List Nat) (s s' : St) : Prop :=
  (ρ.Nodup ∧ (∀ i, i < k → ρ[i]? = some i) ∧ insOk s.os ρ true = true) ∧ fitTmR ρ s.tm s'.tm ∧ (∀ p ∈ s'.os, p ∈ handOs s.os (sg ρ) ρ) ∧ (s'.os.map (·.1)).Nodup ∧ s'.nb = ρ.length ∧ k ≤ ρ.length
theorem fitR_sound {X : Ctx} {ρ : List Nat} {s s' : St} (h : FitR X.nb ρ s s') {E : Env} {a : Act} {w : World} (hr : Rel X s E a w) : Rel X s' (E.hand ρ) a w := by
  obtain ⟨⟨h1, h2, h3⟩, h4, h5, h6, h7, h8⟩ := h
  obtain ⟨hl, hat⟩ := fitTmR_at h4
  have hsr := hand_sr (W' := X.W) hr.sr ρ h1 h3 (fun j x l _ _ _ hw => hw) (fun _ _ _ _ _ hw => hw)
  refine ⟨hr.sz.trans hl, fun t e he => ?_, hr.df, ⟨fun i x hi => hsr.obs i x (h5 _ hi), fun i hi => hsr.new i (by omega), hsr.rolt, fun i x j y hi hj => hsr.apart i x j y (h5 _ hi) (h5 _ hj), h6, hsr.tr.keep rfl (fun b k p _ e1 e2 e3 e4 => ⟨e1, rfl, e2, e3, fun j y l hj hl => e4 j y l (h5 _ hj) hl⟩) fun k x' hx j ty sz n cs hj => ⟨x', h5 _ hx, hj, fun l hl => ⟨hl, rfl⟩⟩⟩, ?_⟩
  · rcases hat t e he with rfl | ⟨d, h9, h10, rfl⟩
    · trivial
    · exact (hr.tm t d h9).ren h10 (E.hand_via ρ)
  · refine ⟨⟨fun i l hl' => ?_, fun b hb => hr.st.le.ro b hb⟩, hr.st.os, hr.st.tape, hr.st.output, hr.st.size, hr.st.block, hr.st.ro, by omega⟩
    have hi : i < X.nb := by
      rcases Nat.lt_or_ge i X.nb with h | h
      · exact h
      · rw [X.new i h] at hl'; cases hl'
    exact (Env.hand_of (h2 i hi)).trans (hr.st.le.at_ i l hl')
/-- As awloop; behind a round the objects may be renumbered. -/
theorem awloopR {X : Ctx} {P : Program} {c : Code} {s : St} {Q : Exit → St → Prop} {ι : Type} (st : ι → St) (I : ι → Prop) (μ : ι → Nat) (i0 : ι) (hI : I i0) (h0 : ∃ ρ, FitR X.nb ρ s (st i0))
    (round : ∀ i, I i → WCode X P c (thenQ (fun s' => ∃ j ρ, I j ∧ μ j < μ i ∧ FitR X.nb ρ s' (st j)) Q) (st i)) : AwCode X P (.loop c) s Q := by
  refine ⟨fun E a w R hr hk => ?_⟩
  have key : ∀ n i, μ i < n → I i → ∀ E a w, Rel X (st i) E a w → Code.rounds P c R n a w := by
    intro n
    induction n with
    | zero => intro i h; omega
    | succ n ih =>
      intro i hn hi E a w hr
      rw [rounds_succ]
      refine wcode_go (round i hi) E a w _ hr fun e s' E' a' w' hq hr' => ?_
      cases e with
      | normal =>
        obtain ⟨j, ρ, h1, h2, h3⟩ := hq
        exact ih j (by omega) h1 _ _ _ (fitR_sound h3 hr')
      | _ => exact hk _ _ _ _ _ hq hr'
  obtain ⟨ρ, h0⟩ := h0
  exact wp_loop_rounds (μ i0 + 1) (key _ i0 (by omega) hI _ _ _ (fitR_sound h0 hr))
end Go.Proofs.YtemaanibghedlaaGreat
