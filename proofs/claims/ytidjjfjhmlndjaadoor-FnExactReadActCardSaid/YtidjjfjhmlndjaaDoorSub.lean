/- Nil slices where empty ones are asked for. -/
import Derived.Test.YtidjjfjhmlndjaaDoorAwb
namespace Go.Proofs.YtidjjfjhmlndjaaDoor
open Go.RowKit

/-- What reads as d reads as d' too. -/
def ASub (d d' : D) : Prop := ∀ (E : Env) (w : World) (v : Value), Rep E w d v → Rep E w d' v
def ASub1 (d d' : D) : Prop := d' = d ∨ (d = .sc (.slice none 0 0) ∧ d' = .sl 0 [])
theorem ASub1.rep1 {d d' : D} (h : ASub1 d d') {E : Env} {w : World} {v : Value} (hr : Rep1 E w d v) : Rep1 E w d' v := by
  rcases h with rfl | ⟨rfl, rfl⟩
  · exact hr
  · obtain ⟨rfl, _⟩ := hr
    exact .sl 0 [] none 0 [] rfl (Nat.le_refl _) (Nat.zero_le _) (fun j u h => by simp at h) (fun j d u h => by simp at h)
theorem ASub.agg {cs cs' : List D} (hl : cs.length = cs'.length) (h : ∀ (j : Nat) (d d' : D), cs[j]? = some d → cs'[j]? = some d' → ASub1 d d') : ASub (.agg cs) (.agg cs') := by
  rintro E w v ⟨us, h1, h2, h3⟩
  refine ⟨us, h1, h2.trans hl, fun j d' u hd' hu => ?_⟩
  cases hc : cs[j]? with
  | none =>
    have := List.getElem?_eq_none_iff.1 hc
    have h4 : j < cs'.length := (List.getElem?_eq_some_iff.1 hd').1
    omega
  | some d => exact ⟨(h j d d' hc hd').rep1 (h3 j d u hc hu).1, (h3 j d u hc hu).2⟩
theorem Spec.argsA {P : Program} {f : FuncId} {ds ds' : List D} {Q : D → Prop} (h : Spec P f ds' Q) (hl : ds.length = ds'.length) (hs : ∀ (j : Nat) (d d' : D), ds[j]? = some d → ds'[j]? = some d' → ASub d d') : Spec P f ds Q := by
  refine ⟨h.1, fun ro w args h1 h2 h3 => h.2 ro w args h1 (h2.trans hl) fun j d' hd' => ?_⟩
  cases hc : ds[j]? with
  | none =>
    have := List.getElem?_eq_none_iff.1 hc
    have h4 : j < ds'.length := (List.getElem?_eq_some_iff.1 hd').1
    omega
  | some d => exact hs j d d' hc hd' _ _ _ (h3 j d hc)
theorem Spec.nil2 {P : Program} {f : FuncId} {ds : List D} {Q : D → Prop} (h : Spec P f ds fun d => Q d ∨ ∃ v, d = .tup [.sc (.slice none 0 0), .sc v] ∧ Q (.tup [.sl 0 [], .sc v])) : Spec P f ds Q := by
  refine ⟨h.1, fun ro w args h1 h2 h3 => (h.2 ro w args h1 h2 h3).mono ?_⟩
  rintro e w' ⟨d, v, hq, he, hr, hb⟩
  rcases hq with hq | ⟨x, rfl, hq⟩
  · exact ⟨d, v, hq, he, hr, hb⟩
  obtain ⟨us, rfl, hl, hu⟩ := hr
  refine ⟨_, _, hq, he, ⟨us, rfl, hl, fun j d u hd hj => ?_⟩, hb⟩
  match j, hd with
  | 0, hd =>
    injection hd with hd
    subst hd
    have h5 := hu 0 _ u rfl hj
    obtain rfl : u = .slice none 0 0 := h5.1
    exact .sl 0 [] none 0 [] rfl (Nat.le_refl _) (Nat.zero_le _) (fun j u h => by cases h) fun j d u h => by cases h
  | 1, hd => exact hu 1 _ u hd hj
  | j + 2, hd => cases hd
theorem SpecH.imp {P : Program} {f : FuncId} {ds : List D} {os : List (Nat × Ob)} {k : Nat} {Q Q' : D → List (Nat × Ob) → Nat → Prop} (h : SpecH P f ds os k Q) (hq : ∀ d os' nb', Q d os' nb' → Q' d os' nb') : SpecH P f ds os k Q' :=
  ⟨h.1, fun E M w args h1 h2 h3 => (h.2 E M w args h1 h2 h3).mono fun _ _ ⟨d, os', nb', E', v, h4, h5⟩ => ⟨d, os', nb', E', v, hq _ _ _ h4, h5⟩⟩
end Go.Proofs.YtidjjfjhmlndjaaDoor
