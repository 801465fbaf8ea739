/- A join: what comes behind a piece of code is walked once, from a state that every way through it comes to (the objects renumbered, what is not wanted forgotten). -/
import Derived.Test.YtnicgfeajdjimaaGreatAwb

namespace Go.Proofs.YtnicgfeajdjimaaGreat
open Go.RowKit
theorem awjoin {X : Ctx} {P : Program} {c : Code} {s S : St} {Q Q' : Exit → St → Prop} (hd : AwCode X P c s Q') (hj : ∀ s', Q' .normal s' → ∃ ρ, FitR X.nb ρ s' S) (ho : ∀ e s', e ≠ .normal → Q' e s' → Q e s') (hn : Q .normal S) : AwCode X P c s Q := by
  refine ⟨fun E a w R hr hk => hd.out E a w R hr fun e s' E' a' w' hq hr' => ?_⟩
  by_cases he : e = .normal
  · subst he
    obtain ⟨ρ, h⟩ := hj s' hq
    exact hk _ _ _ _ _ hn (fitR_sound h hr')
  · exact hk _ _ _ _ _ (ho e s' he hq) hr'
end Go.Proofs.YtnicgfeajdjimaaGreat
