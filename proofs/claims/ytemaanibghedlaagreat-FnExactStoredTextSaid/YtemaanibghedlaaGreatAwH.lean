/- The logic over data: a region that draws its order. -/
import Derived.Test.YtemaanibghedlaaGreatAwG
import Derived.OrdersHeld
namespace Go.Proofs.YtemaanibghedlaaGreat
open Go.RowKit

/-- Is the order one that serves for all? (i, true): number i is taken first; (i, false): it comes up alone. -/
def drawOk (ops : Array Oper) : List (Nat × Bool) → Array Bool → Bool
  | [], listed => (Region.ready .any ops listed).isEmpty
  | (i, e) :: rest, listed => decide (i < ops.size) && (if e then Region.free .any ops listed i && (Region.ready .any ops listed).contains i else Region.ready .any ops listed == [i]) && drawOk ops rest (listed.setIfInBounds i true)

def earlyOk (s : St) (wr ids : List Nat) (fr : Bool) (o : Oper) : Bool := match o.op with
  | .load _ x => match s.ev x with | .ptr i _ => !wr.contains i && ids.contains i | .cptr .. => fr | _ => false
  | _ => true
def lateOk (s : St) (wr : List Nat) (nb : Nat) (o : Oper) : Bool := match o.op with
  | .store _ x _ => match s.ev x with | .ptr i _ => wr.contains i || decide (nb ≤ i) | _ => false
  | _ => true
def stepV (P : Program) (s : St) (o : Oper) : Option St := (valOp P s o).map fun d => s.put o.dst d
def opK (o : Option Oper) (k : Oper → St → Prop) (s : St) : Prop := match o with | some o => k o s | none => False
theorem opK_some (o : Oper) (k : Oper → St → Prop) (s : St) : opK (some o) k s = k o s := rfl

/-- A region in that order. wr: the objects that it stores into; ids, nb: those that were there. -/
def WOrd (X : Ctx) (P : Program) (ops : List Oper) (wr ids : List Nat) (nb : Nat) (Q : St → Prop) : List (Nat × Bool) → Bool → St → Prop
  | [], _, s => Q s
  | (i, e) :: rest, fr, s => opK (ops[i]?) (fun o s => match o.guard with
      | none => if e then earlyOk s wr ids fr o = true ∧ stepK (stepV P s o) (WOrd X P ops wr ids nb Q rest fr) False else lateOk s wr nb o = true ∧ stepK (stepOp P s o) (WOrd X P ops wr ids nb Q rest false) (AwStepF X P o s wr nb (WOrd X P ops wr ids nb Q rest false))
      | some (j, b) => guardK (guardD ops j s) (fun s => WOrd X P ops wr ids nb Q rest fr (s.put o.dst (.tup []))) (if b then fun s => if e then earlyOk s wr ids fr o = true ∧ stepK (stepV P s o) (WOrd X P ops wr ids nb Q rest fr) False else lateOk s wr nb o = true ∧ stepK (stepOp P s o) (WOrd X P ops wr ids nb Q rest false) (AwStepF X P o s wr nb (WOrd X P ops wr ids nb Q rest false)) else fun s => WOrd X P ops wr ids nb Q rest fr (s.put o.dst (.tup [])))
          (if b then fun s => WOrd X P ops wr ids nb Q rest fr (s.put o.dst (.tup [])) else fun s => if e then earlyOk s wr ids fr o = true ∧ stepK (stepV P s o) (WOrd X P ops wr ids nb Q rest fr) False else lateOk s wr nb o = true ∧ stepK (stepOp P s o) (WOrd X P ops wr ids nb Q rest false) (AwStepF X P o s wr nb (WOrd X P ops wr ids nb Q rest false))) s) s
/-- It is carried out. -/
def WOGo (X : Ctx) (P : Program) (ops : List Oper) (wr ids : List Nat) (nb : Nat) (Q : St → Prop) (e : Bool) (rest : List (Nat × Bool)) (fr : Bool) (o : Oper) (s : St) : Prop :=
  if e then earlyOk s wr ids fr o = true ∧ stepK (stepV P s o) (WOrd X P ops wr ids nb Q rest fr) False else lateOk s wr nb o = true ∧ stepK (stepOp P s o) (WOrd X P ops wr ids nb Q rest false) (AwStepF X P o s wr nb (WOrd X P ops wr ids nb Q rest false))
def WOSkip (X : Ctx) (P : Program) (ops : List Oper) (wr ids : List Nat) (nb : Nat) (Q : St → Prop) (rest : List (Nat × Bool)) (fr : Bool) (o : Oper) (s : St) : Prop := WOrd X P ops wr ids nb Q rest fr (s.put o.dst (.tup []))
def WOAt (X : Ctx) (P : Program) (ops : List Oper) (wr ids : List Nat) (nb : Nat) (Q : St → Prop) (e : Bool) (rest : List (Nat × Bool)) (fr : Bool) (o : Oper) (s : St) : Prop :=
  match o.guard with
  | none => WOGo X P ops wr ids nb Q e rest fr o s
  | some (j, b) => guardK (guardD ops j s) (WOSkip X P ops wr ids nb Q rest fr o) (if b then WOGo X P ops wr ids nb Q e rest fr o else WOSkip X P ops wr ids nb Q rest fr o) (if b then WOSkip X P ops wr ids nb Q rest fr o else WOGo X P ops wr ids nb Q e rest fr o) s
theorem word_nil (X : Ctx) (P : Program) (ops : List Oper) (wr ids : List Nat) (nb : Nat) (Q : St → Prop) (fr : Bool) (s : St) : WOrd X P ops wr ids nb Q [] fr s = Q s := rfl
theorem word_cons (X : Ctx) (P : Program) (ops : List Oper) (wr ids : List Nat) (nb : Nat) (Q : St → Prop) (i : Nat) (e : Bool) (rest : List (Nat × Bool)) (fr : Bool) (s : St) :
    WOrd X P ops wr ids nb Q ((i, e) :: rest) fr s = opK (ops[i]?) (WOAt X P ops wr ids nb Q e rest fr) s := rfl
theorem woat_plain (X : Ctx) (P : Program) (ops : List Oper) (wr ids : List Nat) (nb : Nat) (Q : St → Prop) (e : Bool) (rest : List (Nat × Bool)) (fr : Bool) (dst : Option Tmp) (op : Op) (t : TypeId) (pos : String) (af : Array Edge) (s : St) :
    WOAt X P ops wr ids nb Q e rest fr { dst := dst, op := op, type := t, pos := pos, after := af, guard := none } s = WOGo X P ops wr ids nb Q e rest fr { dst := dst, op := op, type := t, pos := pos, after := af, guard := none } s := rfl
theorem woat_true (X : Ctx) (P : Program) (ops : List Oper) (wr ids : List Nat) (nb : Nat) (Q : St → Prop) (e : Bool) (rest : List (Nat × Bool)) (fr : Bool) (dst : Option Tmp) (op : Op) (t : TypeId) (pos : String) (af : Array Edge) (j : Nat) (s : St) :
    WOAt X P ops wr ids nb Q e rest fr { dst := dst, op := op, type := t, pos := pos, after := af, guard := some (j, true) } s = guardK (guardD ops j s) (WOSkip X P ops wr ids nb Q rest fr { dst := dst, op := op, type := t, pos := pos, after := af, guard := some (j, true) }) (WOGo X P ops wr ids nb Q e rest fr { dst := dst, op := op, type := t, pos := pos, after := af, guard := some (j, true) }) (WOSkip X P ops wr ids nb Q rest fr { dst := dst, op := op, type := t, pos := pos, after := af, guard := some (j, true) }) s := rfl
theorem woat_false (X : Ctx) (P : Program) (ops : List Oper) (wr ids : List Nat) (nb : Nat) (Q : St → Prop) (e : Bool) (rest : List (Nat × Bool)) (fr : Bool) (dst : Option Tmp) (op : Op) (t : TypeId) (pos : String) (af : Array Edge) (j : Nat) (s : St) :
    WOAt X P ops wr ids nb Q e rest fr { dst := dst, op := op, type := t, pos := pos, after := af, guard := some (j, false) } s = guardK (guardD ops j s) (WOSkip X P ops wr ids nb Q rest fr { dst := dst, op := op, type := t, pos := pos, after := af, guard := some (j, false) }) (WOSkip X P ops wr ids nb Q rest fr { dst := dst, op := op, type := t, pos := pos, after := af, guard := some (j, false) }) (WOGo X P ops wr ids nb Q e rest fr { dst := dst, op := op, type := t, pos := pos, after := af, guard := some (j, false) }) s := rfl

theorem wogo_eq (X : Ctx) (P : Program) (ops : List Oper) (wr ids : List Nat) (nb : Nat) (Q : St → Prop) (e : Bool) (rest : List (Nat × Bool)) (fr : Bool) (o : Oper) (s : St) :
    WOGo X P ops wr ids nb Q e rest fr o s = if e then earlyOk s wr ids fr o = true ∧ stepK (stepV P s o) (WOrd X P ops wr ids nb Q rest fr) False else lateOk s wr nb o = true ∧ stepK (stepOp P s o) (WOrd X P ops wr ids nb Q rest false) (AwStepF X P o s wr nb (WOrd X P ops wr ids nb Q rest false)) := rfl
/-! The same as tail calls (a simp goes through the rest once only). -/
def earlyK (b : Bool) (r : Option St) (k : St → Prop) : Prop := b = true ∧ stepK r k False
def lateK (b : Bool) (r : Option St) (k : St → Prop) (e : Prop) : Prop := b = true ∧ stepK r k e
theorem earlyK_go (s : St) (k : St → Prop) : earlyK true (some s) k = k s := by simp [earlyK, stepK]
theorem lateK_go (s : St) (k : St → Prop) (e : Prop) : lateK true (some s) k e = k s := by simp [lateK, stepK]
theorem lateK_none (k : St → Prop) (e : Prop) : lateK true none k e = e := by simp [lateK, stepK]
theorem wogo_early (X : Ctx) (P : Program) (ops : List Oper) (wr ids : List Nat) (nb : Nat) (Q : St → Prop) (rest : List (Nat × Bool)) (fr : Bool) (o : Oper) (s : St) :
    WOGo X P ops wr ids nb Q true rest fr o s = earlyK (earlyOk s wr ids fr o) (stepV P s o) (WOrd X P ops wr ids nb Q rest fr) := rfl
theorem wogo_late (X : Ctx) (P : Program) (ops : List Oper) (wr ids : List Nat) (nb : Nat) (Q : St → Prop) (rest : List (Nat × Bool)) (fr : Bool) (o : Oper) (s : St) :
    WOGo X P ops wr ids nb Q false rest fr o s = lateK (lateOk s wr nb o) (stepOp P s o) (WOrd X P ops wr ids nb Q rest false) (AwStepF X P o s wr nb (WOrd X P ops wr ids nb Q rest false)) := rfl
theorem woskip_eq (X : Ctx) (P : Program) (ops : List Oper) (wr ids : List Nat) (nb : Nat) (Q : St → Prop) (rest : List (Nat × Bool)) (fr : Bool) (o : Oper) (s : St) : WOSkip X P ops wr ids nb Q rest fr o s = WOrd X P ops wr ids nb Q rest fr (s.put o.dst (.tup [])) := rfl
theorem yielded_of {X : Ctx} {s : St} {E : Env} {a : Act} {w : World} (hr : Rel X s E a w) {ops : Array Oper} {j : Nat} {t : Bool} (ht : guardD ops.toList j s = .sc (.bool t)) : yielded ops a.tmps j = some t := by
  unfold guardD at ht
  split at ht
  · rename_i oj hoj
    split at ht
    · rename_i d hd
      have hv : a.tmps.getD d undef = .bool t := by
        have := hr.ev (.tmp d)
        rw [show s.ev (.tmp d) = s.get d from rfl, ht] at this
        exact this.1
      have hlt : d < a.tmps.size := by
        unfold St.get at ht
        cases hg : s.tm[d]? with
        | none => rw [hg] at ht; cases ht
        | some e => rw [hr.sz]; exact (List.getElem?_eq_some_iff.1 hg).1
      rw [Array.getD_eq_getD_getElem?, Array.getElem?_eq_getElem hlt] at hv
      simp only [Option.getD_some] at hv
      rw [Array.getElem?_toList] at hoj
      simp [yielded, hoj, hd, hlt, hv]
    · cases ht
  · cases ht

theorem word_sound {X : Ctx} {P : Program} (hm : P.follows .mixedOrders = true) {id : Nat} {ops : Array Oper} {Q : Exit → St → Prop} {s0 : St} (wr : List Nat) (order : List (Nat × Bool)) (hlen : order.length = ops.size) (hns : Region.noSelect ops = true)
    (hok : drawOk ops order (Array.replicate ops.size false) = true) (hwr : ∀ i, wr.contains i = true → (s0.os.map (·.1)).contains i = true) (h : WOrd X P ops.toList wr (s0.os.map (·.1)) s0.nb (Q .normal) order true s0) : AwCode X P (.region id ops true) s0 Q := by
  refine ⟨fun E0 a0 w00 R hr0 hk => ?_⟩
  have hr0 : Rel X s0 E0 a0 { w00 with drawn := w00.drawn + 1 } := by
    obtain ⟨h1, h2, h3, h4, h5⟩ := hr0
    exact ⟨h1, fun t d hd => (h2 t d hd).keep (.refl _) fun _ _ => rfl, h3, ⟨fun i x hi => (h4.obs i x hi).keep (.refl _) (fun _ _ => rfl) fun l hl => ⟨rfl, by
      rcases (h4.obs i x hi).2 with ⟨h5, _⟩ | ⟨m', h5, _, h6, _⟩
      · rw [hl] at h5; cases h5
      · rw [hl] at h5; injection h5 with h5; injection h5 with h5; subst h5; exact h6⟩, h4.new, h4.rolt, h4.apart, h4.nodup, h4.tr.keep rfl (fun b k p _ e1 e2 e3 e4 => ⟨e1, rfl, e2, e3, e4⟩) fun k x' hx j ty sz n cs hj => ⟨x', hx, hj, fun l hl => ⟨hl, rfl⟩⟩⟩, ⟨h5.le, h5.os, h5.tape, h5.output, h5.size, h5.block, h5.ro, h5.nb⟩⟩
  generalize hw0 : ({ w00 with drawn := w00.drawn + 1 } : World) = w0 at hr0
  let Sb : Nat → Prop := fun b => E0.ro b ∨ ∃ j x l, (j, x) ∈ s0.os ∧ wr.contains j = false ∧ E0.at_ j = some (some l) ∧ l.g = b
  let S : World → Prop := fun w => ∀ b, Sb b → w.heap[b]? = w0.heap[b]?
  let R' : Exit → Act → World → Prop := fun e a w => e = .normal ∧ R .normal a w
  have hSlt : ∀ b, Sb b → b < w0.heap.size := by
    rintro b (hb | ⟨j, x, l, hj, _, hl, rfl⟩)
    · exact hr0.sr.rolt b hb
    · exact hr0.sr.lt hj hl
  refine wp_mono (Q := R') (wp_region_held (S := S) hm ?_) (by rintro e a w ⟨rfl, h⟩; exact h)
  rw [hw0]
  have key : ∀ (order : List (Nat × Bool)) (fr : Bool) (listed : Array Bool) (fuel : Nat) (s : St) (E : Env) (a : Act) (w : World), order.length ≤ fuel → drawOk ops order listed = true →
      WOrd X P ops.toList wr (s0.os.map (·.1)) s0.nb (Q .normal) order fr s → Rel X s E a w → E0.le E → w0.heap.size ≤ w.heap.size → ((∀ i l, E0.at_ i = none → E.at_ i = some (some l) → ¬ Sb l.g) ∧ ∀ b, Sb b → E.tg b = none) → (fr = true → E = E0) → S w →
      wpAnyH P .any ops R' S fuel listed a w := by
    intro order
    induction order with
    | nil =>
      intro fr listed fuel s E a w _ hd hq hr _ _ _ _ _
      have hready : Region.ready .any ops listed = [] := by simpa [drawOk] using hd
      exact wpAnyH_done hready ⟨rfl, hk _ _ _ _ _ hq hr⟩ fuel
    | cons p rest ih =>
      intro fr listed fuel s E a w hfuel hd hq hr hle hsz hnew hfr hS
      obtain ⟨i, e⟩ := p
      obtain ⟨fuel, rfl⟩ : ∃ n, fuel = n + 1 := ⟨fuel - 1, by simp at hfuel; omega⟩
      have hfuel' : rest.length ≤ fuel := by simpa using hfuel
      simp only [drawOk, Bool.and_eq_true, decide_eq_true_eq] at hd
      obtain ⟨⟨hi, hd1⟩, hd2⟩ := hd
      have hio : ops[i]? = some ops[i] := Array.getElem?_eq_getElem hi
      have hil : ops.toList[i]? = some ops[i] := by rw [Array.getElem?_toList, hio]
      unfold WOrd at hq
      rw [hil, opK_some] at hq
      -- an operation that is passed over
      have skip : Region.wanted ops[i] (yielded ops a.tmps) = false → WOrd X P ops.toList wr (s0.os.map (·.1)) s0.nb (Q .normal) rest fr (s.put ops[i].dst (.tup [])) → wpAnyH P .any ops R' S (fuel + 1) listed a w := by
        intro hw hq
        have hrest := ih fr (listed.setIfInBounds i true) fuel _ E _ w hfuel' hd2 hq (hr.skip ops[i].dst) hle hsz hnew hfr hS
        cases e with
        | true =>
          simp only [if_true, Bool.and_eq_true] at hd1
          exact wpAnyH_take hio hns hd1.1 hd1.2 (fun c a w h => by cases h.1) (.inr ⟨hw, rfl⟩) hS hrest
        | false =>
          simp only [Bool.false_eq_true, if_false, beq_iff_eq] at hd1
          refine wpAnyH_all hd1 (by simp) fun k hk => ?_
          obtain rfl : k = i := by simpa using hk
          unfold wpOp
          rw [hio]
          simp only [hw, Bool.false_eq_true, if_false]
          exact ⟨hS, hrest⟩
      -- one that is carried out
      have go : Region.wanted ops[i] (yielded ops a.tmps) = true → (if e then earlyOk s wr (s0.os.map (·.1)) fr ops[i] = true ∧ stepK (stepV P s ops[i]) (WOrd X P ops.toList wr (s0.os.map (·.1)) s0.nb (Q .normal) rest fr) False else lateOk s wr s0.nb ops[i] = true ∧ stepK (stepOp P s ops[i]) (WOrd X P ops.toList wr (s0.os.map (·.1)) s0.nb (Q .normal) rest false) (AwStepF X P ops[i] s wr s0.nb (WOrd X P ops.toList wr (s0.os.map (·.1)) s0.nb (Q .normal) rest false))) → wpAnyH P .any ops R' S (fuel + 1) listed a w := by
        intro hw hq
        cases e with
        | true =>
          simp only [if_true, Bool.and_eq_true] at hd1
          simp only [if_true] at hq
          obtain ⟨he, hq⟩ := hq
          unfold stepK at hq
          split at hq
          · rename_i s' hv0
            obtain ⟨d, hv, rfl⟩ : ∃ d, valOp P s ops[i] = some d ∧ s' = s.put ops[i].dst d := by
              unfold stepV at hv0
              cases hv : valOp P s ops[i] with
              | none => rw [hv] at hv0; cases hv0
              | some d => rw [hv] at hv0; injection hv0 with hv0; exact ⟨d, rfl, hv0.symm⟩
            obtain ⟨v, h1, h2⟩ := val_sound (X := X) hv E a w hr
            refine wpAnyH_take hio hns hd1.1 hd1.2 (fun c a w h => by cases h.1) (v := v) (.inl ⟨hw, fun w1 hS1 => h2 w1 ⟨fun hrc b hb => ?_, fun k l hk hl => ?_⟩⟩) hS
              (ih fr (listed.setIfInBounds i true) fuel _ E _ w hfuel' hd2 hq (hr.put _ h1) hle hsz hnew hfr hS)
            · have hfr' : fr = true := by
                unfold rcOf at hrc
                unfold earlyOk at he
                split at hrc
                · rename_i t x ho
                  split at hrc
                  · rename_i cs k hx
                    simp only [ho, hx] at he
                    exact he
                  · cases hrc
                · cases hrc
              rw [hfr hfr'] at hb
              exact (hS1 b (.inl hb)).trans (hS b (.inl hb)).symm
            · have hk' : wr.contains k = false ∧ (s0.os.map (·.1)).contains k = true := by
                unfold rdOf at hk
                unfold earlyOk at he
                split at hk
                · rename_i t x ho
                  split at hk
                  · rename_i k' q hx
                    injection hk with hk
                    subst hk
                    simp only [ho, hx, Bool.and_eq_true, Bool.not_eq_true'] at he
                    exact he
                  · cases hk
                · cases hk
              obtain ⟨p, hp, hpk⟩ := List.mem_map.1 (List.contains_iff_mem.1 hk'.2)
              obtain ⟨k0, x⟩ := p
              simp only at hpk
              subst hpk
              have hl0 : E0.at_ k0 = some (some l) := by
                rcases (hr0.sr.obs _ x hp).2 with ⟨h5, _⟩ | ⟨m', h5, _⟩
                · rw [hle.at_ _ _ h5] at hl; cases hl
                · have := hle.at_ _ _ h5
                  rw [this] at hl
                  rw [h5, hl]
              have hb : Sb l.g := .inr ⟨_, x, l, hp, hk'.1, hl0, rfl⟩
              exact (hS1 _ hb).trans (hS _ hb).symm
          · exact hq.elim
        | false =>
          simp only [Bool.false_eq_true, if_false, beq_iff_eq] at hd1
          simp only [Bool.false_eq_true, if_false] at hq
          obtain ⟨hl, hq⟩ := hq
          refine wpAnyH_all hd1 (by simp) fun k hk => ?_
          obtain rfl : k = i := by simpa using hk
          unfold wpOp
          rw [hio]
          simp only [hw, if_true]
          refine .inl ?_
          have fin : ∀ (T : Nat → Prop) s' E' a' w', (∀ i l, T i → E.at_ i = some (some l) → ∀ b, Sb b → l.g ≠ b) → WOrd X P ops.toList wr (s0.os.map (·.1)) s0.nb (Q .normal) rest false s' → Rel X s' E' a' w' → FrT T E w E' w' → S w' ∧ wpAnyH P .any ops R' S fuel (listed.setIfInBounds k true) a' w' := by
            intro T s' E' a' w' htg hq hr' hf
            have hS' : S w' := fun b hb => (hf.block b (Nat.lt_of_lt_of_le (hSlt b hb) hsz) (hnew.2 b hb) fun i l h1 h2 => htg i l h1 h2 b hb).trans (hS b hb)
            refine ⟨hS', ih false _ fuel s' E' a' w' hfuel' hd2 hq hr' (hle.trans hf.le) (Nat.le_trans hsz hf.size) ⟨fun i l h1 h2 => ?_, fun b hb => ?_⟩ (fun h => by cases h) hS'⟩
            · cases hE : E.at_ i with
              | none =>
                intro hb
                rcases hf.new i l hE h2 with h3 | ⟨k', m, h3, h4, h5⟩ | h3
                · have := hSlt _ hb; omega
                · exact htg k' m h3 h4 _ hb h5
                · exact h3 (hnew.2 _ hb)
              | some m =>
                have := hf.le.at_ _ _ hE
                rw [this] at h2
                injection h2 with h2
                subst h2
                exact hnew.1 i l h1 hE
            · cases hE' : E'.tg b with
              | none => rfl
              | some q =>
                exfalso
                rcases hf.tag b (hnew.2 b hb) (by rw [hE']; simp) with h3 | ⟨k', m, h3, h4, h5⟩
                · have := hSlt _ hb; omega
                · exact htg k' m h3 h4 _ hb h5
          have apart : ∀ i l, wr.contains i = true ∨ s0.nb ≤ i → E.at_ i = some (some l) → ∀ b, Sb b → l.g ≠ b := by
            intro i l hc h2 b hb
            rcases hc with hc | hc
            · obtain ⟨p, hp, hpk⟩ := List.mem_map.1 (List.contains_iff_mem.1 (hwr i hc))
              obtain ⟨k0, x⟩ := p
              simp only at hpk
              subst hpk
              have hl0 : E0.at_ k0 = some (some l) ∧ ¬ E0.ro l.g := by
                rcases (hr0.sr.obs _ x hp).2 with ⟨h5, _⟩ | ⟨m', h5, _, h6, _⟩
                · rw [hle.at_ _ _ h5] at h2; cases h2
                · have := hle.at_ _ _ h5
                  rw [this] at h2
                  injection h2 with h2
                  injection h2 with h2
                  subst h2
                  exact ⟨h5, h6⟩
              rcases hb with hb | ⟨j, y, m, hj, hjw, hm', rfl⟩
              · intro e; subst e; exact hl0.2 hb
              · exact hr0.sr.apart _ x j y hp hj (fun e => by subst e; rw [hc] at hjw; cases hjw) l m hl0.1 hm'
            · intro e; subst e
              exact hnew.1 i l (hr0.sr.new i hc) h2 hb
          unfold stepK at hq
          split at hq
          · rename_i s' hs
            refine stepOp_sound hs E a w _ _ hr fun E' a' w' hr' hf => fin _ s' E' a' w' (fun i l h1 h2 b hb => ?_) hq hr' hf.toT
            refine apart i l ?_ h2 b hb
            unfold tgt at h1
            unfold lateOk at hl
            split at h1
            · rename_i t x y ho
              split at h1
              · rename_i i' q hx
                injection h1 with h1
                subst h1
                simp only [ho, hx, Bool.or_eq_true, decide_eq_true_eq] at hl
                exact hl
              · cases h1
            · cases h1
          · exact hq.out E a w _ _ hr fun s' E' a' w' hq' hr' hf => fin _ s' E' a' w' apart hq' hr' hf
      cases hg : ops[i].guard with
      | none =>
        rw [hg] at hq
        exact go (by simp [Region.wanted, hg]) hq
      | some jb =>
        obtain ⟨j, b⟩ := jb
        rw [hg] at hq
        simp only at hq
        unfold guardK at hq
        cases hsk : skipD (guardD ops.toList j s) with
        | true =>
          rw [hsk] at hq
          exact skip (by simp [Region.wanted, hg, yielded_skip hr (skipD_ hsk)]) hq
        | false =>
        rw [hsk] at hq
        simp only [cond_false] at hq
        unfold boolK at hq
        split at hq
        · rename_i t ht
          have hy := yielded_of hr ht
          obtain ⟨hq1, hq2⟩ := hq
          cases t <;> cases b
          · exact go (by simp [Region.wanted, hg, hy]) (hq2 rfl)
          · exact skip (by simp [Region.wanted, hg, hy]) (hq2 rfl)
          · exact skip (by simp [Region.wanted, hg, hy]) (hq1 rfl)
          · exact go (by simp [Region.wanted, hg, hy]) (hq1 rfl)
        · exact hq.elim
  exact key order true _ ops.size s0 E0 a0 w0 (by omega) hok h hr0 (.refl _) (Nat.le_refl _) ⟨fun i l h1 h2 => (by rw [h1] at h2; cases h2), fun b hb => by
    cases ht : E0.tg b with
    | none => rfl
    | some q =>
      exfalso
      obtain ⟨_, _, e3, e4⟩ := hr0.sr.tr.blk b q.1 q.2 ht
      rcases hb with hb | ⟨j, x, l, h1, _, h2, h3⟩
      · exact e3 hb
      · exact e4 j x l h1 h2 h3⟩ (fun _ => rfl) (fun b _ => rfl)
end Go.Proofs.YtemaanibghedlaaGreat
