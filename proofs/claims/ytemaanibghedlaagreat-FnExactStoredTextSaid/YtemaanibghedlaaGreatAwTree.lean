/- The logic over data: a region that draws its order, two operations at most being ready at a time that are not taken first: all orders are gone through. -/
import Derived.Test.YtemaanibghedlaaGreatAwP
namespace Go.Proofs.YtemaanibghedlaaGreat
open Go.RowKit

/-- A tree of orders. early: taken first; one: it comes up alone; two: either of two comes up. -/
inductive Ordr where
  | done
  | early (i : Nat) (r : Ordr)
  | one (i : Nat) (r : Ordr)
  | two (i : Nat) (r : Ordr) (j : Nat) (q : Ordr)
def treeOk (ops : Array Oper) : Ordr → Array Bool → Bool
  | .done, l => (Region.ready .any ops l).isEmpty
  | .early i r, l => decide (i < ops.size) && (Region.free .any ops l i && (Region.ready .any ops l).contains i) && treeOk ops r (l.setIfInBounds i true)
  | .one i r, l => decide (i < ops.size) && (Region.ready .any ops l == [i]) && treeOk ops r (l.setIfInBounds i true)
  | .two i r j q, l => (decide (i < ops.size) && decide (j < ops.size)) && (Region.ready .any ops l == [i, j]) && (treeOk ops r (l.setIfInBounds i true) && treeOk ops q (l.setIfInBounds j true))
def Ordr.depth : Ordr → Nat
  | .done => 0
  | .early _ r => r.depth + 1
  | .one _ r => r.depth + 1
  | .two _ r _ q => Nat.max r.depth q.depth + 1
def TGo (X : Ctx) (P : Program) (wr ids : List Nat) (nb : Nat) (fr e : Bool) (k : St → Prop) (o : Oper) (s : St) : Prop :=
  if e then earlyOk s wr ids fr o = true ∧ stepK (stepV P s o) k False else lateOk s wr nb o = true ∧ stepK (stepOp P s o) k (AwStepF X P o s wr nb k)
def TSkip (k : St → Prop) (o : Oper) (s : St) : Prop := k (s.put o.dst (.tup []))
def TAt (ops : List Oper) (go skip : Oper → St → Prop) (o : Oper) (s : St) : Prop := match o.guard with
  | none => go o s
  | some (j, b) => guardK (guardD ops j s) (skip o) (if b then go o else skip o) (if b then skip o else go o) s
def WTree (X : Ctx) (P : Program) (ops : List Oper) (wr ids : List Nat) (nb : Nat) (Q : St → Prop) : Ordr → Bool → St → Prop
  | .done, _, s => Q s
  | .early i r, fr, s => opK (ops[i]?) (TAt ops (TGo X P wr ids nb fr true (WTree X P ops wr ids nb Q r fr)) (TSkip (WTree X P ops wr ids nb Q r fr))) s
  | .one i r, fr, s => opK (ops[i]?) (TAt ops (TGo X P wr ids nb fr false (WTree X P ops wr ids nb Q r false)) (TSkip (WTree X P ops wr ids nb Q r fr))) s
  | .two i r j q, fr, s => opK (ops[i]?) (TAt ops (TGo X P wr ids nb fr false (WTree X P ops wr ids nb Q r false)) (TSkip (WTree X P ops wr ids nb Q r fr))) s ∧
      opK (ops[j]?) (TAt ops (TGo X P wr ids nb fr false (WTree X P ops wr ids nb Q q false)) (TSkip (WTree X P ops wr ids nb Q q fr))) s
section
variable (X : Ctx) (P : Program) (ops : List Oper) (wr ids : List Nat) (nb : Nat) (Q : St → Prop) (fr : Bool) (s : St) (r q : Ordr) (i j : Nat) (k : St → Prop) (o : Oper) (go skip : Oper → St → Prop)
theorem wt_done : WTree X P ops wr ids nb Q .done fr s = Q s := rfl
theorem wt_early : WTree X P ops wr ids nb Q (.early i r) fr s = opK (ops[i]?) (TAt ops (TGo X P wr ids nb fr true (WTree X P ops wr ids nb Q r fr)) (TSkip (WTree X P ops wr ids nb Q r fr))) s := rfl
theorem wt_one : WTree X P ops wr ids nb Q (.one i r) fr s = opK (ops[i]?) (TAt ops (TGo X P wr ids nb fr false (WTree X P ops wr ids nb Q r false)) (TSkip (WTree X P ops wr ids nb Q r fr))) s := rfl
theorem wt_two : WTree X P ops wr ids nb Q (.two i r j q) fr s = (opK (ops[i]?) (TAt ops (TGo X P wr ids nb fr false (WTree X P ops wr ids nb Q r false)) (TSkip (WTree X P ops wr ids nb Q r fr))) s ∧
      opK (ops[j]?) (TAt ops (TGo X P wr ids nb fr false (WTree X P ops wr ids nb Q q false)) (TSkip (WTree X P ops wr ids nb Q q fr))) s) := rfl
theorem tgo_early : TGo X P wr ids nb fr true k o s = earlyK (earlyOk s wr ids fr o) (stepV P s o) k := rfl
theorem tgo_late : TGo X P wr ids nb fr false k o s = lateK (lateOk s wr nb o) (stepOp P s o) k (AwStepF X P o s wr nb k) := rfl
theorem tskip : TSkip k o s = k (s.put o.dst (.tup [])) := rfl
theorem tat_plain (dst : Option Tmp) (op : Op) (t : TypeId) (pos : String) (af : Array Edge) : TAt ops go skip { dst := dst, op := op, type := t, pos := pos, after := af, guard := none } s = go { dst := dst, op := op, type := t, pos := pos, after := af, guard := none } s := rfl
theorem tat_true (dst : Option Tmp) (op : Op) (t : TypeId) (pos : String) (af : Array Edge) (g : Nat) : TAt ops go skip { dst := dst, op := op, type := t, pos := pos, after := af, guard := some (g, true) } s = guardK (guardD ops g s) (skip { dst := dst, op := op, type := t, pos := pos, after := af, guard := some (g, true) }) (go { dst := dst, op := op, type := t, pos := pos, after := af, guard := some (g, true) }) (skip { dst := dst, op := op, type := t, pos := pos, after := af, guard := some (g, true) }) s := rfl
theorem tat_false (dst : Option Tmp) (op : Op) (t : TypeId) (pos : String) (af : Array Edge) (g : Nat) : TAt ops go skip { dst := dst, op := op, type := t, pos := pos, after := af, guard := some (g, false) } s = guardK (guardD ops g s) (skip { dst := dst, op := op, type := t, pos := pos, after := af, guard := some (g, false) }) (skip { dst := dst, op := op, type := t, pos := pos, after := af, guard := some (g, false) }) (go { dst := dst, op := op, type := t, pos := pos, after := af, guard := some (g, false) }) s := rfl
end
theorem wtree_sound {X : Ctx} {P : Program} (hm : P.follows .mixedOrders = true) {id : Nat} {ops : Array Oper} {Q : Exit → St → Prop} {s0 : St} (wr : List Nat) (order : Ordr) (hdep : order.depth ≤ ops.size) (hns : Region.noSelect ops = true)
    (hok : treeOk ops order (Array.replicate ops.size false) = true) (hwr : ∀ i, wr.contains i = true → (s0.os.map (·.1)).contains i = true) (h : WTree X P ops.toList wr (s0.os.map (·.1)) s0.nb (Q .normal) order true s0) : AwCode X P (.region id ops true) s0 Q := by
  refine ⟨fun E0 a0 w00 R hr0 hk => ?_⟩
  have hr0 : Rel X s0 E0 a0 { w00 with drawn := w00.drawn + 1 } := by
    obtain ⟨h1, h2, h3, h4, h5⟩ := hr0
    exact ⟨h1, fun t d hd => (h2 t d hd).keep (.refl _) fun _ _ => rfl, h3, ⟨fun i x hi => (h4.obs i x hi).keep (.refl _) (fun _ _ => rfl) fun l hl => ⟨rfl, by
      rcases (h4.obs i x hi).2 with ⟨h5, _⟩ | ⟨m', h5, _, h6, _⟩
      · rw [hl] at h5; cases h5
      · rw [hl] at h5; injection h5 with h5; injection h5 with h5; subst h5; exact h6⟩, h4.new, h4.rolt, h4.apart, h4.nodup, h4.tr.keep rfl (fun b k p _ e1 e2 e3 e4 => ⟨e1, rfl, e2, e3, e4⟩) fun k x' hx j ty sz n cs hj => ⟨x', hx, hj, fun l hl => ⟨hl, rfl⟩⟩⟩, ⟨h5.le, h5.os, h5.tape, h5.output, h5.size, h5.block, h5.ro, h5.nb⟩⟩
  generalize hw0 : ({ w00 with drawn := w00.drawn + 1 } : World) = w0 at hr0
  let Sb : Nat → Prop := fun b => E0.ro b ∨ ∃ j x l, (j, x) ∈ s0.os ∧ wr.contains j = false ∧ E0.at_ j = some (some l) ∧ l.g = b
  let S : World → Prop := fun w => ∀ b, Sb b → w.heap[b]? = w0.heap[b]?
  let R' : Exit → Act → World → Prop := fun e a w => e = .normal ∧ R .normal a w
  have hSlt : ∀ b, Sb b → b < w0.heap.size := by
    rintro b (hb | ⟨j, x, l, hj, _, hl, rfl⟩)
    · exact hr0.sr.rolt b hb
    · exact hr0.sr.lt hj hl
  refine wp_mono (Q := R') (wp_region_held (S := S) hm ?_) (by rintro e a w ⟨rfl, h⟩; exact h)
  rw [hw0]
  have early : ∀ (r : Ordr) (_ : (∀ (fr : Bool) (listed : Array Bool) (fuel : Nat) (s : St) (E : Env) (a : Act) (w : World), r.depth ≤ fuel → treeOk ops r listed = true → WTree X P ops.toList wr (s0.os.map (·.1)) s0.nb (Q .normal) r fr s → Rel X s E a w → E0.le E → w0.heap.size ≤ w.heap.size → ((∀ i l, E0.at_ i = none → E.at_ i = some (some l) → ¬ Sb l.g) ∧ ∀ b, Sb b → E.tg b = none) → (fr = true → E = E0) → S w → wpAnyH P .any ops R' S fuel listed a w)) (i : Nat) (fr : Bool) (listed : Array Bool) (fuel : Nat) (s : St) (E : Env) (a : Act) (w : World), r.depth ≤ fuel → (hi : i < ops.size) → (Region.free .any ops listed i = true ∧ (Region.ready .any ops listed).contains i = true) → treeOk ops r (listed.setIfInBounds i true) = true → opK (ops.toList[i]?) (TAt ops.toList (TGo X P wr (s0.os.map (·.1)) s0.nb fr true (WTree X P ops.toList wr (s0.os.map (·.1)) s0.nb (Q .normal) r fr)) (TSkip (WTree X P ops.toList wr (s0.os.map (·.1)) s0.nb (Q .normal) r fr))) s → Rel X s E a w → E0.le E → w0.heap.size ≤ w.heap.size → ((∀ i l, E0.at_ i = none → E.at_ i = some (some l) → ¬ Sb l.g) ∧ ∀ b, Sb b → E.tg b = none) → (fr = true → E = E0) → S w → wpAnyH P .any ops R' S (fuel + 1) listed a w := by
    intro r ih i fr listed fuel s E a w hfuel hi hd1 hd2 hq hr hle hsz hnew hfr hS
    have hio : ops[i]? = some ops[i] := Array.getElem?_eq_getElem hi
    have hil : ops.toList[i]? = some ops[i] := by rw [Array.getElem?_toList, hio]
    rw [hil, opK_some] at hq
    have skip : Region.wanted ops[i] (yielded ops a.tmps) = false → WTree X P ops.toList wr (s0.os.map (·.1)) s0.nb (Q .normal) r fr (s.put ops[i].dst (.tup [])) → wpAnyH P .any ops R' S (fuel + 1) listed a w := by
      intro hw hq
      have hrest := ih fr (listed.setIfInBounds i true) fuel _ E _ w hfuel hd2 hq (hr.skip ops[i].dst) hle hsz hnew hfr hS
      exact wpAnyH_take hio hns hd1.1 hd1.2 (fun c a w h => by cases h.1) (.inr ⟨hw, rfl⟩) hS hrest
    have go : Region.wanted ops[i] (yielded ops a.tmps) = true → (earlyOk s wr (s0.os.map (·.1)) fr ops[i] = true ∧ stepK (stepV P s ops[i]) (WTree X P ops.toList wr (s0.os.map (·.1)) s0.nb (Q .normal) r fr) False) → wpAnyH P .any ops R' S (fuel + 1) listed a w := by
      intro hw hq
      obtain ⟨he, hq⟩ := hq
      unfold stepK at hq
      split at hq
      · rename_i s' hv0
        obtain ⟨d, hv, rfl⟩ : ∃ d, valOp P s ops[i] = some d ∧ s' = s.put ops[i].dst d := by
          unfold stepV at hv0
          cases hv : valOp P s ops[i] with
          | none => rw [hv] at hv0; cases hv0
          | some d => rw [hv] at hv0; injection hv0 with hv0; exact ⟨d, rfl, hv0.symm⟩
        obtain ⟨v, h1, h2⟩ := val_sound (X := X) hv E a w hr
        refine wpAnyH_take hio hns hd1.1 hd1.2 (fun c a w h => by cases h.1) (v := v) (.inl ⟨hw, fun w1 hS1 => h2 w1 ⟨fun hrc b hb => ?_, fun k l hk hl => ?_⟩⟩) hS
          (ih fr (listed.setIfInBounds i true) fuel _ E _ w hfuel hd2 hq (hr.put _ h1) hle hsz hnew hfr hS)
        · have hfr' : fr = true := by
            unfold rcOf at hrc
            unfold earlyOk at he
            split at hrc
            · rename_i t x ho
              split at hrc
              · rename_i cs k hx
                simp only [ho, hx] at he
                exact he
              · cases hrc
            · cases hrc
          rw [hfr hfr'] at hb
          exact (hS1 b (.inl hb)).trans (hS b (.inl hb)).symm
        · have hk' : wr.contains k = false ∧ (s0.os.map (·.1)).contains k = true := by
            unfold rdOf at hk
            unfold earlyOk at he
            split at hk
            · rename_i t x ho
              split at hk
              · rename_i k' q hx
                injection hk with hk
                subst hk
                simp only [ho, hx, Bool.and_eq_true, Bool.not_eq_true'] at he
                exact he
              · cases hk
            · cases hk
          obtain ⟨p, hp, hpk⟩ := List.mem_map.1 (List.contains_iff_mem.1 hk'.2)
          obtain ⟨k0, x⟩ := p
          simp only at hpk
          subst hpk
          have hl0 : E0.at_ k0 = some (some l) := by
            rcases (hr0.sr.obs _ x hp).2 with ⟨h5, _⟩ | ⟨m', h5, _⟩
            · rw [hle.at_ _ _ h5] at hl; cases hl
            · have := hle.at_ _ _ h5
              rw [this] at hl
              rw [h5, hl]
          have hb : Sb l.g := .inr ⟨_, x, l, hp, hk'.1, hl0, rfl⟩
          exact (hS1 _ hb).trans (hS _ hb).symm
      · exact hq.elim
    unfold TAt at hq
    cases hg : ops[i].guard with
    | none =>
      rw [hg] at hq
      exact go (by simp [Region.wanted, hg]) hq
    | some jb =>
      obtain ⟨j, b⟩ := jb
      rw [hg] at hq
      simp only at hq
      unfold guardK at hq
      cases hsk : skipD (guardD ops.toList j s) with
      | true =>
        rw [hsk] at hq
        exact skip (by simp [Region.wanted, hg, yielded_skip hr (skipD_ hsk)]) hq
      | false =>
      rw [hsk] at hq
      simp only [cond_false] at hq
      unfold boolK at hq
      split at hq
      · rename_i t ht
        have hy := yielded_of hr ht
        obtain ⟨hq1, hq2⟩ := hq
        cases t <;> cases b
        · exact go (by simp [Region.wanted, hg, hy]) (hq2 rfl)
        · exact skip (by simp [Region.wanted, hg, hy]) (hq2 rfl)
        · exact skip (by simp [Region.wanted, hg, hy]) (hq1 rfl)
        · exact go (by simp [Region.wanted, hg, hy]) (hq1 rfl)
      · exact hq.elim
  have late : ∀ (r : Ordr) (_ : (∀ (fr : Bool) (listed : Array Bool) (fuel : Nat) (s : St) (E : Env) (a : Act) (w : World), r.depth ≤ fuel → treeOk ops r listed = true → WTree X P ops.toList wr (s0.os.map (·.1)) s0.nb (Q .normal) r fr s → Rel X s E a w → E0.le E → w0.heap.size ≤ w.heap.size → ((∀ i l, E0.at_ i = none → E.at_ i = some (some l) → ¬ Sb l.g) ∧ ∀ b, Sb b → E.tg b = none) → (fr = true → E = E0) → S w → wpAnyH P .any ops R' S fuel listed a w)) (i : Nat) (fr : Bool) (listed : Array Bool) (fuel : Nat) (s : St) (E : Env) (a : Act) (w : World), r.depth ≤ fuel → (hi : i < ops.size) → treeOk ops r (listed.setIfInBounds i true) = true → opK (ops.toList[i]?) (TAt ops.toList (TGo X P wr (s0.os.map (·.1)) s0.nb fr false (WTree X P ops.toList wr (s0.os.map (·.1)) s0.nb (Q .normal) r false)) (TSkip (WTree X P ops.toList wr (s0.os.map (·.1)) s0.nb (Q .normal) r fr))) s → Rel X s E a w → E0.le E → w0.heap.size ≤ w.heap.size → ((∀ i l, E0.at_ i = none → E.at_ i = some (some l) → ¬ Sb l.g) ∧ ∀ b, Sb b → E.tg b = none) → (fr = true → E = E0) → S w → wpOp P ops R' i (fun a' w' => S w' ∧ wpAnyH P .any ops R' S fuel (listed.setIfInBounds i true) a' w') a w := by
    intro r ih i fr listed fuel s E a w hfuel hi hd2 hq hr hle hsz hnew hfr hS
    have hio : ops[i]? = some ops[i] := Array.getElem?_eq_getElem hi
    have hil : ops.toList[i]? = some ops[i] := by rw [Array.getElem?_toList, hio]
    rw [hil, opK_some] at hq
    have skip : Region.wanted ops[i] (yielded ops a.tmps) = false → WTree X P ops.toList wr (s0.os.map (·.1)) s0.nb (Q .normal) r fr (s.put ops[i].dst (.tup [])) → wpOp P ops R' i (fun a' w' => S w' ∧ wpAnyH P .any ops R' S fuel (listed.setIfInBounds i true) a' w') a w := by
      intro hw hq
      have hrest := ih fr (listed.setIfInBounds i true) fuel _ E _ w hfuel hd2 hq (hr.skip ops[i].dst) hle hsz hnew hfr hS
      unfold wpOp
      rw [hio]
      simp only [hw, Bool.false_eq_true, if_false]
      exact ⟨hS, hrest⟩
    have go : Region.wanted ops[i] (yielded ops a.tmps) = true → (lateOk s wr s0.nb ops[i] = true ∧ stepK (stepOp P s ops[i]) (WTree X P ops.toList wr (s0.os.map (·.1)) s0.nb (Q .normal) r false) (AwStepF X P ops[i] s wr s0.nb (WTree X P ops.toList wr (s0.os.map (·.1)) s0.nb (Q .normal) r false))) → wpOp P ops R' i (fun a' w' => S w' ∧ wpAnyH P .any ops R' S fuel (listed.setIfInBounds i true) a' w') a w := by
      intro hw hq
      obtain ⟨hl, hq⟩ := hq
      unfold wpOp
      rw [hio]
      simp only [hw, if_true]
      refine .inl ?_
      have fin : ∀ (T : Nat → Prop) s' E' a' w', (∀ i l, T i → E.at_ i = some (some l) → ∀ b, Sb b → l.g ≠ b) → WTree X P ops.toList wr (s0.os.map (·.1)) s0.nb (Q .normal) r false s' → Rel X s' E' a' w' → FrT T E w E' w' → S w' ∧ wpAnyH P .any ops R' S fuel (listed.setIfInBounds i true) a' w' := by
        intro T s' E' a' w' htg hq hr' hf
        have hS' : S w' := fun b hb => (hf.block b (Nat.lt_of_lt_of_le (hSlt b hb) hsz) (hnew.2 b hb) fun i l h1 h2 => htg i l h1 h2 b hb).trans (hS b hb)
        refine ⟨hS', ih false _ fuel s' E' a' w' hfuel hd2 hq hr' (hle.trans hf.le) (Nat.le_trans hsz hf.size) ⟨fun i l h1 h2 => ?_, fun b hb => ?_⟩ (fun h => by cases h) hS'⟩
        · cases hE : E.at_ i with
          | none =>
            intro hb
            rcases hf.new i l hE h2 with h3 | ⟨k', m, h3, h4, h5⟩ | h3
            · have := hSlt _ hb; omega
            · exact htg k' m h3 h4 _ hb h5
            · exact h3 (hnew.2 _ hb)
          | some m =>
            have := hf.le.at_ _ _ hE
            rw [this] at h2
            injection h2 with h2
            subst h2
            exact hnew.1 i l h1 hE
        · cases hE' : E'.tg b with
          | none => rfl
          | some q =>
            exfalso
            rcases hf.tag b (hnew.2 b hb) (by rw [hE']; simp) with h3 | ⟨k', m, h3, h4, h5⟩
            · have := hSlt _ hb; omega
            · exact htg k' m h3 h4 _ hb h5
      have apart : ∀ i l, wr.contains i = true ∨ s0.nb ≤ i → E.at_ i = some (some l) → ∀ b, Sb b → l.g ≠ b := by
        intro i l hc h2 b hb
        rcases hc with hc | hc
        · obtain ⟨p, hp, hpk⟩ := List.mem_map.1 (List.contains_iff_mem.1 (hwr i hc))
          obtain ⟨k0, x⟩ := p
          simp only at hpk
          subst hpk
          have hl0 : E0.at_ k0 = some (some l) ∧ ¬ E0.ro l.g := by
            rcases (hr0.sr.obs _ x hp).2 with ⟨h5, _⟩ | ⟨m', h5, _, h6, _⟩
            · rw [hle.at_ _ _ h5] at h2; cases h2
            · have := hle.at_ _ _ h5
              rw [this] at h2
              injection h2 with h2
              injection h2 with h2
              subst h2
              exact ⟨h5, h6⟩
          rcases hb with hb | ⟨j, y, m, hj, hjw, hm', rfl⟩
          · intro e; subst e; exact hl0.2 hb
          · exact hr0.sr.apart _ x j y hp hj (fun e => by subst e; rw [hc] at hjw; cases hjw) l m hl0.1 hm'
        · intro e; subst e
          exact hnew.1 i l (hr0.sr.new i hc) h2 hb
      unfold stepK at hq
      split at hq
      · rename_i s' hs
        refine stepOp_sound hs E a w _ _ hr fun E' a' w' hr' hf => fin _ s' E' a' w' (fun i l h1 h2 b hb => ?_) hq hr' hf.toT
        refine apart i l ?_ h2 b hb
        unfold tgt at h1
        unfold lateOk at hl
        split at h1
        · rename_i t x y ho
          split at h1
          · rename_i i' q hx
            injection h1 with h1
            subst h1
            simp only [ho, hx, Bool.or_eq_true, decide_eq_true_eq] at hl
            exact hl
          · cases h1
        · cases h1
      · exact hq.out E a w _ _ hr fun s' E' a' w' hq' hr' hf => fin _ s' E' a' w' apart hq' hr' hf
    unfold TAt at hq
    cases hg : ops[i].guard with
    | none =>
      rw [hg] at hq
      exact go (by simp [Region.wanted, hg]) hq
    | some jb =>
      obtain ⟨j, b⟩ := jb
      rw [hg] at hq
      simp only at hq
      unfold guardK at hq
      cases hsk : skipD (guardD ops.toList j s) with
      | true =>
        rw [hsk] at hq
        exact skip (by simp [Region.wanted, hg, yielded_skip hr (skipD_ hsk)]) hq
      | false =>
      rw [hsk] at hq
      simp only [cond_false] at hq
      unfold boolK at hq
      split at hq
      · rename_i t ht
        have hy := yielded_of hr ht
        obtain ⟨hq1, hq2⟩ := hq
        cases t <;> cases b
        · exact go (by simp [Region.wanted, hg, hy]) (hq2 rfl)
        · exact skip (by simp [Region.wanted, hg, hy]) (hq2 rfl)
        · exact skip (by simp [Region.wanted, hg, hy]) (hq1 rfl)
        · exact go (by simp [Region.wanted, hg, hy]) (hq1 rfl)
      · exact hq.elim
  have key : ∀ r : Ordr, (∀ (fr : Bool) (listed : Array Bool) (fuel : Nat) (s : St) (E : Env) (a : Act) (w : World), r.depth ≤ fuel → treeOk ops r listed = true → WTree X P ops.toList wr (s0.os.map (·.1)) s0.nb (Q .normal) r fr s → Rel X s E a w → E0.le E → w0.heap.size ≤ w.heap.size → ((∀ i l, E0.at_ i = none → E.at_ i = some (some l) → ¬ Sb l.g) ∧ ∀ b, Sb b → E.tg b = none) → (fr = true → E = E0) → S w → wpAnyH P .any ops R' S fuel listed a w) := by
    intro r
    induction r with
    | done =>
      intro fr listed fuel s E a w _ hd hq hr _ _ _ _ _
      have hready : Region.ready .any ops listed = [] := by simpa [treeOk] using hd
      exact wpAnyH_done hready ⟨rfl, hk _ _ _ _ _ hq hr⟩ fuel
    | early i r ih =>
      intro fr listed fuel s E a w hfuel hd hq hr hle hsz hnew hfr hS
      obtain ⟨fuel, rfl⟩ : ∃ n, fuel = n + 1 := ⟨fuel - 1, by simp only [Ordr.depth] at hfuel; omega⟩
      simp only [treeOk, Bool.and_eq_true, decide_eq_true_eq] at hd
      exact early r ih i fr listed fuel s E a w (by simp only [Ordr.depth] at hfuel; omega) hd.1.1 hd.1.2 hd.2 hq hr hle hsz hnew hfr hS
    | one i r ih =>
      intro fr listed fuel s E a w hfuel hd hq hr hle hsz hnew hfr hS
      obtain ⟨fuel, rfl⟩ : ∃ n, fuel = n + 1 := ⟨fuel - 1, by simp only [Ordr.depth] at hfuel; omega⟩
      simp only [treeOk, Bool.and_eq_true, decide_eq_true_eq, beq_iff_eq] at hd
      refine wpAnyH_all hd.1.2 (by simp) fun k hk => ?_
      obtain rfl : k = i := by simpa using hk
      exact late r ih k fr listed fuel s E a w (by simp only [Ordr.depth] at hfuel; omega) hd.1.1 hd.2 hq hr hle hsz hnew hfr hS
    | two i r j q ih1 ih2 =>
      intro fr listed fuel s E a w hfuel hd hq hr hle hsz hnew hfr hS
      obtain ⟨fuel, rfl⟩ : ∃ n, fuel = n + 1 := ⟨fuel - 1, by simp only [Ordr.depth] at hfuel; omega⟩
      simp only [treeOk, Bool.and_eq_true, decide_eq_true_eq, beq_iff_eq] at hd
      have h1 : r.depth ≤ Nat.max r.depth q.depth := Nat.le_max_left ..
      have h2 : q.depth ≤ Nat.max r.depth q.depth := Nat.le_max_right ..
      refine wpAnyH_all hd.1.2 (by simp) fun k hk => ?_
      rcases (by simpa using hk : k = i ∨ k = j) with rfl | rfl
      · exact late r ih1 k fr listed fuel s E a w (by simp only [Ordr.depth] at hfuel; omega) hd.1.1.1 hd.2.1 hq.1 hr hle hsz hnew hfr hS
      · exact late q ih2 k fr listed fuel s E a w (by simp only [Ordr.depth] at hfuel; omega) hd.1.1.2 hd.2.2 hq.2 hr hle hsz hnew hfr hS
  exact key order true _ ops.size s0 E0 a0 w0 (by omega) hok h hr0 (.refl _) (Nat.le_refl _) ⟨fun i l h1 h2 => (by rw [h1] at h2; cases h2), fun b hb => by
    cases ht : E0.tg b with
    | none => rfl
    | some q =>
      exfalso
      obtain ⟨_, _, e3, e4⟩ := hr0.sr.tr.blk b q.1 q.2 ht
      rcases hb with hb | ⟨j, x, l, h1, _, h2, h3⟩
      · exact e3 hb
      · exact e4 j x l h1 h2 h3⟩ (fun _ => rfl) (fun b _ => rfl)
end Go.Proofs.YtemaanibghedlaaGreat
