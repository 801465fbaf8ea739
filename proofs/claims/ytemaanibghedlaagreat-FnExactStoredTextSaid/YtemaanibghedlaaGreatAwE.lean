/- The logic over data: regions, code, calls, a function's contract. -/
import Derived.Test.YtemaanibghedlaaGreatAwD
namespace Go.Proofs.YtemaanibghedlaaGreat
open Go.RowKit

/-- An operation leads from s to a state of which Q holds. -/
structure AwStep (X : Ctx) (P : Program) (o : Oper) (s : St) (Q : St → Prop) : Prop where
  out : ∀ E a w (K : Act → World → Prop) (R : Exit → Act → World → Prop), Rel X s E a w → (∀ s' E' a' w', Q s' → Rel X s' E' a' w' → K a' w') → o.wp P a w K R
/-- Of what was there the objects T alone may have turned; new objects lie in new blocks or in those of T. -/
structure FrT (T : Nat → Prop) (E : Env) (w : World) (E' : Env) (w' : World) : Prop where
  le : E.le E'
  size : w.heap.size ≤ w'.heap.size
  block : ∀ b, b < w.heap.size → E.tg b = none → (∀ i l, T i → E.at_ i = some (some l) → l.g ≠ b) → w'.heap[b]? = w.heap[b]?
  new : ∀ i l, E.at_ i = none → E'.at_ i = some (some l) → w.heap.size ≤ l.g ∨ (∃ k m, T k ∧ E.at_ k = some (some m) ∧ m.g = l.g) ∨ E.tg l.g ≠ none
  tag : ∀ b, E.tg b = none → E'.tg b ≠ none → w.heap.size ≤ b ∨ ∃ k m, T k ∧ E.at_ k = some (some m) ∧ m.g = b
theorem Fr.toT {tg : Option Nat} {E : Env} {w : World} {E' : Env} {w' : World} (h : Fr tg E w E' w') : FrT (fun i => tg = some i) E w E' w' :=
  ⟨h.le, h.size, fun b h1 _ => h.block b h1, fun i l h1 h2 => .inl (h.new i l h1 h2), fun b h1 h2 => absurd (by rw [h.tgs]; exact h1) h2⟩
theorem FrT.of {T : Nat → Prop} {E : Env} {w : World} {E' : Env} {w' : World} (h : Fr none E w E' w') : FrT T E w E' w' :=
  ⟨h.le, h.size, fun b hb _ _ => h.block b hb (fun i l h1 => by cases h1), fun i l h1 h2 => .inl (h.new i l h1 h2), fun b h1 h2 => absurd (by rw [h.tgs]; exact h1) h2⟩
/-- As AwStep, and of what was there the objects wr alone, and those from nb on, may have turned. -/
structure AwStepF (X : Ctx) (P : Program) (o : Oper) (s : St) (wr : List Nat) (nb : Nat) (Q : St → Prop) : Prop where
  out : ∀ E a w (K : Act → World → Prop) (R : Exit → Act → World → Prop), Rel X s E a w → (∀ s' E' a' w', Q s' → Rel X s' E' a' w' → FrT (fun i => wr.contains i = true ∨ nb ≤ i) E w E' w' → K a' w') → o.wp P a w K R
theorem AwStepF.plain {X : Ctx} {P : Program} {o : Oper} {s : St} {wr : List Nat} {nb : Nat} {Q : St → Prop} (h : AwStepF X P o s wr nb Q) : AwStep X P o s Q :=
  ⟨fun E a w K R hr hk => h.out E a w K R hr fun s' E' a' w' hq hr' _ => hk s' E' a' w' hq hr'⟩
structure AwCode (X : Ctx) (P : Program) (c : Code) (s : St) (Q : Exit → St → Prop) : Prop where
  out : ∀ E a w (R : Exit → Act → World → Prop), Rel X s E a w → (∀ e s' E' a' w', Q e s' → Rel X s' E' a' w' → R e a' w') → c.wp P R a w

/-- What goes on behind a step. (No binder: so that a simp does not look behind a step that it has not taken.) -/
def stepK (r : Option St) (k : St → Prop) (e : Prop) : Prop := match r with | some s => k s | none => e
theorem stepK_some (s : St) (k : St → Prop) (e : Prop) : stepK (some s) k e = k s := rfl
theorem stepK_none (k : St → Prop) (e : Prop) : stepK none k e = e := rfl
def boolK (d : D) (A B : St → Prop) (s : St) : Prop := match d with | .sc (.bool t) => (t = true → A s) ∧ (t = false → B s) | _ => False
theorem boolK_bool (t : Bool) (A B : St → Prop) (s : St) : boolK (.sc (.bool t)) A B s = ((t = true → A s) ∧ (t = false → B s)) := rfl
theorem boolK_true (A B : St → Prop) (s : St) : boolK (.sc (.bool true)) A B s = A s := by simp [boolK]
theorem boolK_false (A B : St → Prop) (s : St) : boolK (.sc (.bool false)) A B s = B s := by simp [boolK]
theorem boolK_intro {t : Bool} {A B : St → Prop} {s : St} (h1 : t = true → A s) (h2 : t = false → B s) : boolK (.sc (.bool t)) A B s := ⟨h1, h2⟩
def skipD : D → Bool
  | .tup [] => true
  | _ => false
theorem skipD_ {d : D} (h : skipD d = true) : d = .tup [] := by
  unfold skipD at h
  split at h
  · rfl
  · cases h
/-- Behind a guard: k if the guard itself was skipped. -/
def guardK (d : D) (k A B : St → Prop) (s : St) : Prop := cond (skipD d) (k s) (boolK d A B s)
theorem guardK_tup (k A B : St → Prop) (s : St) : guardK (.tup []) k A B s = k s := rfl
theorem guardK_sc (v : Value) (k A B : St → Prop) (s : St) : guardK (.sc v) k A B s = boolK (.sc v) A B s := rfl
def guardD (ops : List Oper) (j : Nat) (s : St) : D := match ops[j]? with | some o => (match o.dst with | some d => s.get d | none => .none) | none => .none
def WOps (X : Ctx) (P : Program) (ops : List Oper) (Q : St → Prop) : List Oper → St → Prop
  | [], s => Q s
  | o :: rest, s =>
    match o.guard with
    | none => stepK (stepOp P s o) (WOps X P ops Q rest) (AwStep X P o s (WOps X P ops Q rest))
    | some (j, b) => guardK (guardD ops j s) (fun s => WOps X P ops Q rest (s.put o.dst (.tup []))) (if b then fun s => stepK (stepOp P s o) (WOps X P ops Q rest) (AwStep X P o s (WOps X P ops Q rest)) else fun s => WOps X P ops Q rest (s.put o.dst (.tup [])))
        (if b then fun s => WOps X P ops Q rest (s.put o.dst (.tup [])) else fun s => stepK (stepOp P s o) (WOps X P ops Q rest) (AwStep X P o s (WOps X P ops Q rest))) s
def WGo (X : Ctx) (P : Program) (ops : List Oper) (Q : St → Prop) (o : Oper) (rest : List Oper) (s : St) : Prop := stepK (stepOp P s o) (WOps X P ops Q rest) (AwStep X P o s (WOps X P ops Q rest))
def WSkip (X : Ctx) (P : Program) (ops : List Oper) (Q : St → Prop) (o : Oper) (rest : List Oper) (s : St) : Prop := WOps X P ops Q rest (s.put o.dst (.tup []))
theorem wgo_eq (X : Ctx) (P : Program) (ops : List Oper) (Q : St → Prop) (o : Oper) (rest : List Oper) (s : St) : WGo X P ops Q o rest s = stepK (stepOp P s o) (WOps X P ops Q rest) (AwStep X P o s (WOps X P ops Q rest)) := rfl
theorem wskip_eq (X : Ctx) (P : Program) (ops : List Oper) (Q : St → Prop) (o : Oper) (rest : List Oper) (s : St) : WSkip X P ops Q o rest s = WOps X P ops Q rest (s.put o.dst (.tup [])) := rfl
theorem wops_nil (X : Ctx) (P : Program) (ops : List Oper) (Q : St → Prop) (s : St) : WOps X P ops Q [] s = Q s := rfl
theorem wops_plain (X : Ctx) (P : Program) (ops : List Oper) (Q : St → Prop) (dst : Option Tmp) (op : Op) (t : TypeId) (pos : String) (af : Array Edge) (rest : List Oper) (s : St) :
    WOps X P ops Q ({ dst := dst, op := op, type := t, pos := pos, after := af, guard := none } :: rest) s = WGo X P ops Q { dst := dst, op := op, type := t, pos := pos, after := af, guard := none } rest s := rfl
theorem wops_true (X : Ctx) (P : Program) (ops : List Oper) (Q : St → Prop) (dst : Option Tmp) (op : Op) (t : TypeId) (pos : String) (af : Array Edge) (j : Nat) (rest : List Oper) (s : St) :
    WOps X P ops Q ({ dst := dst, op := op, type := t, pos := pos, after := af, guard := some (j, true) } :: rest) s = guardK (guardD ops j s) (WSkip X P ops Q { dst := dst, op := op, type := t, pos := pos, after := af, guard := some (j, true) } rest) (WGo X P ops Q { dst := dst, op := op, type := t, pos := pos, after := af, guard := some (j, true) } rest) (WSkip X P ops Q { dst := dst, op := op, type := t, pos := pos, after := af, guard := some (j, true) } rest) s := rfl
theorem wops_false (X : Ctx) (P : Program) (ops : List Oper) (Q : St → Prop) (dst : Option Tmp) (op : Op) (t : TypeId) (pos : String) (af : Array Edge) (j : Nat) (rest : List Oper) (s : St) :
    WOps X P ops Q ({ dst := dst, op := op, type := t, pos := pos, after := af, guard := some (j, false) } :: rest) s = guardK (guardD ops j s) (WSkip X P ops Q { dst := dst, op := op, type := t, pos := pos, after := af, guard := some (j, false) } rest) (WSkip X P ops Q { dst := dst, op := op, type := t, pos := pos, after := af, guard := some (j, false) } rest) (WGo X P ops Q { dst := dst, op := op, type := t, pos := pos, after := af, guard := some (j, false) } rest) s := rfl

theorem Rel.skip {X : Ctx} {s : St} {E : Env} {a : Act} {w : World} (h : Rel X s E a w) (dst : Option Tmp) : Rel X (s.put dst (.tup [])) E (a.put dst Go.undef) w := h.put dst ⟨[], rfl, rfl, fun j d v hd => by simp at hd⟩
theorem yielded_skip {X : Ctx} {s : St} {E : Env} {a : Act} {w : World} (hr : Rel X s E a w) {ops : Array Oper} {j : Nat} (ht : guardD ops.toList j s = .tup []) : yielded ops a.tmps j = none := by
  unfold guardD at ht
  split at ht
  · rename_i oj hoj
    split at ht
    · rename_i d hd
      have hv : a.tmps.getD d undef = .tuple #[] := by
        have := hr.ev (.tmp d)
        rw [show s.ev (.tmp d) = s.get d from rfl, ht] at this
        obtain ⟨us, h1, h2, _⟩ := this
        obtain rfl := List.eq_nil_of_length_eq_zero h2
        exact h1
      rw [Array.getElem?_toList] at hoj
      by_cases hlt : d < a.tmps.size
      · rw [Array.getD_eq_getD_getElem?, Array.getElem?_eq_getElem hlt] at hv
        simp only [Option.getD_some] at hv
        simp [yielded, hoj, hd, hlt, hv]
      · simp [yielded, hoj, hd, Array.getElem?_eq_none (Nat.le_of_not_lt hlt)]
    · cases ht
  · cases ht

theorem wops_sound {X : Ctx} {P : Program} {ops : Array Oper} {Q : St → Prop} : ∀ {l : List Oper} {s : St}, WOps X P ops.toList Q l s → ∀ E a w (R : Exit → Act → World → Prop), Rel X s E a w →
    (∀ s' E' a' w', Q s' → Rel X s' E' a' w' → R .normal a' w') → wpList P ops R l a w
  | [], s, h, E, a, w, R, hr, hk => hk _ _ _ _ h hr
  | o :: rest, s, h, E, a, w, R, hr, hk => by
    have step : stepK (stepOp P s o) (WOps X P ops.toList Q rest) (AwStep X P o s (WOps X P ops.toList Q rest)) → o.wp P a w (wpList P ops R rest) R := by
      intro h
      unfold stepK at h
      split at h
      · rename_i s' hs
        exact stepOp_sound hs E a w _ _ hr fun E' a' w' hr' _ => wops_sound h E' a' w' R hr' hk
      · exact h.out E a w _ _ hr fun s' E' a' w' hq hr' => wops_sound hq E' a' w' R hr' hk
    unfold WOps at h
    show (if Region.wanted o (yielded ops a.tmps) then o.wp P a w (wpList P ops R rest) R ∨ (o.asks P a w ∧ LetsOut R) else wpList P ops R rest (a.put o.dst undef) w)
    split at h
    · rename_i hg
      rw [if_pos (by simp [Region.wanted, hg])]
      exact .inl (step h)
    · rename_i j b hg
      unfold guardK at h
      cases hsk : skipD (guardD ops.toList j s) with
      | true =>
        rw [hsk] at h
        have hy := yielded_skip hr (skipD_ hsk)
        rw [if_neg (by simp [Region.wanted, hg, hy])]
        exact wops_sound h E _ w R (hr.skip o.dst) hk
      | false =>
      rw [hsk] at h
      simp only [cond_false] at h
      unfold boolK at h
      split at h
      · rename_i t ht
        have hy : yielded ops a.tmps j = some t := by
          unfold guardD at ht
          split at ht
          · rename_i oj hoj
            split at ht
            · rename_i d hd
              have hv : a.tmps.getD d undef = .bool t := by
                have := hr.ev (.tmp d)
                rw [show s.ev (.tmp d) = s.get d from rfl, ht] at this
                exact this.1
              have hlt : d < a.tmps.size := by
                unfold St.get at ht
                cases hg : s.tm[d]? with
                | none => rw [hg] at ht; cases ht
                | some e => rw [hr.sz]; exact (List.getElem?_eq_some_iff.1 hg).1
              rw [Array.getD_eq_getD_getElem?, Array.getElem?_eq_getElem hlt] at hv
              simp only [Option.getD_some] at hv
              rw [Array.getElem?_toList] at hoj
              simp [yielded, hoj, hd, hlt, hv]
            · cases ht
          · cases ht
        obtain ⟨h1, h2⟩ := h
        by_cases hb : t = b
        · subst hb
          rw [if_pos (by simp [Region.wanted, hg, hy])]
          cases t
          · exact .inl (step (h2 rfl))
          · exact .inl (step (h1 rfl))
        · rw [if_neg (by simp [Region.wanted, hg, hy, hb])]
          cases t <;> cases b <;> first | exact absurd rfl hb | skip
          · exact wops_sound (h2 rfl) E _ w R (hr.skip o.dst) hk
          · exact wops_sound (h1 rfl) E _ w R (hr.skip o.dst) hk
      · exact h.elim

def thenQ (K : St → Prop) (Q : Exit → St → Prop) : Exit → St → Prop
  | .normal, s => K s
  | e, s => Q e s
def blockQ (id : Nat) (Q : Exit → St → Prop) : Exit → St → Prop
  | .exit i, s => if i = id then Q .normal s else Q (.exit i) s
  | e, s => Q e s

def WCode (X : Ctx) (P : Program) : Code → (Exit → St → Prop) → St → Prop
  | .skip, Q, s => Q .normal s
  | .label _, Q, s => Q .normal s
  | .seq a b, Q, s => WCode X P a (thenQ (WCode X P b Q) Q) s
  | .cond c x y, Q, s => boolK (s.ev c) (WCode X P x Q) (WCode X P y Q) s
  | .block id c, Q, s => WCode X P c (blockQ id Q) s
  | .exit id, Q, s => Q (.exit id) s
  | .ret, Q, s => Q .ret s
  | .region _ ops false, Q, s => WOps X P ops.toList (Q .normal) ops.toList s
  | .region id ops true, Q, s => AwCode X P (.region id ops true) s Q
  | .loop c, Q, s => AwCode X P (.loop c) s Q
  | c, Q, s => AwCode X P c s Q

section
variable (X : Ctx) (P : Program) (Q : Exit → St → Prop) (K : St → Prop) (s : St) (a b c : Code) (i : Nat)
theorem wc_skip : WCode X P .skip Q s = Q .normal s := rfl
theorem wc_label : WCode X P (.label i) Q s = Q .normal s := rfl
theorem wc_seq : WCode X P (.seq a b) Q s = WCode X P a (thenQ (WCode X P b Q) Q) s := rfl
theorem wc_cond (x : Operand) : WCode X P (.cond x a b) Q s = boolK (s.ev x) (WCode X P a Q) (WCode X P b Q) s := rfl
theorem wc_block : WCode X P (.block i c) Q s = WCode X P c (blockQ i Q) s := rfl
theorem wc_exit : WCode X P (.exit i) Q s = Q (.exit i) s := rfl
theorem wc_ret : WCode X P .ret Q s = Q .ret s := rfl
theorem wc_region (ops : Array Oper) : WCode X P (.region i ops false) Q s = WOps X P ops.toList (Q .normal) ops.toList s := rfl
theorem wc_draw (ops : Array Oper) : WCode X P (.region i ops true) Q s = AwCode X P (.region i ops true) s Q := rfl
theorem wc_loop : WCode X P (.loop c) Q s = AwCode X P (.loop c) s Q := rfl
theorem tq_normal : thenQ K Q .normal s = K s := rfl
theorem tq_exit : thenQ K Q (.exit i) s = Q (.exit i) s := rfl
theorem tq_ret : thenQ K Q .ret s = Q .ret s := rfl
theorem bq_normal : blockQ i Q .normal s = Q .normal s := rfl
theorem bq_exit (j : Nat) : blockQ i Q (.exit j) s = if j = i then Q .normal s else Q (.exit j) s := rfl
theorem bq_ret : blockQ i Q .ret s = Q .ret s := rfl
end
theorem wcode_go {X : Ctx} {P : Program} : ∀ {c : Code} {Q : Exit → St → Prop} {s : St}, WCode X P c Q s → ∀ E a w (R : Exit → Act → World → Prop), Rel X s E a w → (∀ e s' E' a' w', Q e s' → Rel X s' E' a' w' → R e a' w') → c.wp P R a w
  | .skip, Q, s, h => fun E a w R hr hk => wp_skip (hk _ _ _ _ _ h hr)
  | .label l, Q, s, h => fun E a w R hr hk => wp_label (hk _ _ _ _ _ h hr)
  | .seq x y, Q, s, h => fun E a w R hr hk => wp_seq (wcode_go (c := x) h E a w _ hr fun e s' E' a' w' hq hr' => by
      cases e with
      | normal => exact wcode_go (c := y) hq E' a' w' R hr' hk
      | _ => exact hk _ _ _ _ _ hq hr')
  | .cond c x y, Q, s, h => fun E a w R hr hk => by
    unfold WCode boolK at h
    split at h
    · rename_i t ht
      have hc := hr.ev c
      rw [ht] at hc
      exact wp_cond_split (t := t) hc.1 (fun ht => wcode_go (h.1 ht) E a w R hr hk) (fun ht => wcode_go (h.2 ht) E a w R hr hk)
    · exact h.elim
  | .block id c, Q, s, h => fun E a w R hr hk => wp_block (wcode_go (c := c) h E a w _ hr fun e s' E' a' w' hq hr' => by
      cases e with
      | exit i =>
        show (if i = id then R .normal a' w' else R (.exit i) a' w')
        have hq' : (if i = id then Q .normal s' else Q (.exit i) s') := hq
        split at hq'
        · rename_i hi; rw [if_pos hi]; exact hk _ _ _ _ _ hq' hr'
        · rename_i hi; rw [if_neg hi]; exact hk _ _ _ _ _ hq' hr'
      | _ => exact hk _ _ _ _ _ hq hr')
  | .exit id, Q, s, h => fun E a w R hr hk => wp_exit (hk _ _ _ _ _ h hr)
  | .ret, Q, s, h => fun E a w R hr hk => wp_ret (hk _ _ _ _ _ h hr)
  | .region id ops false, Q, s, h => fun E a w R hr hk => wp_region_list (wops_sound (Q := Q .normal) h E a w R hr fun s' E' a' w' hq hr' => hk _ _ _ _ _ hq hr')
  | .region id ops true, Q, s, h => h.out
  | .loop c, Q, s, h => h.out
  | .rangeFunc .., Q, s, h => h.out
  | .scope _, Q, s, h => h.out
  | .goto _, Q, s, h => h.out
  | .refuse _, Q, s, h => h.out
theorem wcode_sound {X : Ctx} {P : Program} {c : Code} {Q : Exit → St → Prop} {s : St} (h : WCode X P c Q s) : AwCode X P c s Q := ⟨wcode_go h⟩

/-- No object is named. -/
def D.noid1 : D → Bool
  | .own .. | .ptr .. | .mp .. | .agg .. | .tup .. | .tr .. => false
  | .fn _ cap => cap.all fun d => match d with | .sc _ | .sl .. | .cptr .. => true | _ => false
  | _ => true
def D.noidA : D → Bool
  | .agg cs => cs.all D.noid1
  | d => d.noid1
def D.noid : D → Bool
  | .tup ds => ds.all D.noidA
  | d => d.noidA
theorem Rep1.free {E E' : Env} {w : World} {d : D} {u : Value} (h : Rep1 E w d u) (hn : d.noid1 = true) (hr : ∀ b, E.ro b → E'.ro b) : Rep1 E' w d u := by
  cases d with
  | none => trivial
  | sc v => exact h
  | sl n cs => exact RepP.keep h hr fun _ _ => rfl
  | own i off n => cases hn
  | agg cs => exact h
  | ptr i o => cases hn
  | mp i => cases hn
  | tr => cases hn
  | cptr cs k =>
    obtain ⟨b, o, us, h1, h2, h3, h4, h5⟩ := h
    exact ⟨b, o, us, h1, hr b h2, h3, h4, fun j d v hd hv => (h5 j d v hd hv).keep hr fun _ _ => rfl⟩
  | tup ds => exact h
  | fn f cap =>
    obtain ⟨us, h1, h2, h3⟩ := h
    refine ⟨us, h1, h2, fun j d v hc hv => ?_⟩
    have h4 := List.all_eq_true.1 hn _ (List.mem_of_getElem? hc)
    have h5 := h3 j d v hc hv
    cases d with
    | sc v => exact h5
    | sl n cs => exact RepP.keep h5 hr fun _ _ => rfl
    | cptr cs k =>
      obtain ⟨b, o, us, e1, e2, e3, e4, e5⟩ := h5
      exact ⟨b, o, us, e1, hr b e2, e3, e4, fun j d v hd hv => (e5 j d v hd hv).keep hr fun _ _ => rfl⟩
    | _ => cases h4
theorem RepA.free {E E' : Env} {w : World} {d : D} {u : Value} (h : RepA E w d u) (hn : d.noidA = true) (hr : ∀ b, E.ro b → E'.ro b) : RepA E' w d u := by
  by_cases hd : ∀ cs, d ≠ .agg cs
  · rw [repA_of hd] at h ⊢
    refine h.free ?_ hr
    cases d <;> first | exact hn | exact absurd rfl (hd _)
  · obtain ⟨cs, hd⟩ := Classical.not_forall.1 hd
    obtain rfl := Classical.not_not.1 hd
    obtain ⟨us, h1, h2, h3⟩ := h
    refine ⟨us, h1, h2, fun j d v hd hv => ⟨(h3 j d v hd hv).1.free ?_ hr, (h3 j d v hd hv).2⟩⟩
    exact List.all_eq_true.1 hn d (List.mem_of_getElem? hd)
theorem Rep.free {E E' : Env} {w : World} {d : D} {u : Value} (h : Rep E w d u) (hn : d.noid = true) (hr : ∀ b, E.ro b → E'.ro b) : Rep E' w d u := by
  by_cases hd : ∀ cs, d ≠ .tup cs
  · rw [rep_of hd] at h ⊢
    refine h.free ?_ hr
    cases d <;> first | exact hn | exact absurd rfl (hd _)
  · obtain ⟨cs, hd⟩ := Classical.not_forall.1 hd
    obtain rfl := Classical.not_not.1 hd
    obtain ⟨us, h1, h2, h3⟩ := h
    refine ⟨us, h1, h2, fun j d v hd hv => (h3 j d v hd hv).free ?_ hr⟩
    exact List.all_eq_true.1 hn d (List.mem_of_getElem? hd)

def roEnv (ro : Nat → Prop) : Env := ⟨ro, fun _ => none, fun _ => none⟩
/-- A contract: called with what reads as ds, the function returns what reads as a datum of which Q holds; nothing that was there has changed. -/
def Spec (P : Program) (f : FuncId) (ds : List D) (Q : D → Prop) : Prop :=
  (∀ (args : Array Value) (w : World), (callFunc f args).run P w = .ok (.enter f args) w) ∧
  ∀ (ro : Nat → Prop) (w : World) (args : Array Value), (∀ b, ro b → b < w.heap.size) → args.size = ds.length → (∀ (j : Nat) (d : D), ds[j]? = some d → Rep (roEnv ro) w d (args.getD j undef)) →
    Calls P f args w fun e w' => ∃ d v, Q d ∧ e = .returned v ∧ Rep (roEnv fun b => ro b ∨ (w.heap.size ≤ b ∧ b < w'.heap.size)) w' d v ∧ Below w.heap.size w w'

theorem Spec.mono {P : Program} {f : FuncId} {ds : List D} {Q Q' : D → Prop} (h : Spec P f ds Q) (hq : ∀ d, Q d → Q' d) : Spec P f ds Q' :=
  ⟨h.1, fun ro w args h1 h2 h3 => (h.2 ro w args h1 h2 h3).mono fun _ _ ⟨d, v, h4, h5⟩ => ⟨d, v, hq d h4, h5⟩⟩

theorem args_of {X : Ctx} {s : St} {E : Env} {a : Act} {w : World} (hr : Rel X s E a w) {xs : Array Operand} (hno : (xs.toList.map s.ev).all D.noid = true) (j : Nat) (d : D) (hd : (xs.toList.map s.ev)[j]? = some d) : Rep (roEnv E.ro) w d ((xs.map a.eval).getD j undef) := by
  rw [List.getElem?_map] at hd
  cases hj : xs.toList[j]? with
  | none => rw [hj] at hd; cases hd
  | some x =>
    rw [hj] at hd
    have hd' : s.ev x = d := by simpa using hd
    subst hd'
    have h1 := hr.ev x
    have h2 : (xs.map a.eval).getD j undef = a.eval x := by
      rw [Array.getElem?_toList] at hj
      simp [Array.getD_eq_getD_getElem?, hj]
    rw [h2]
    refine h1.free ?_ fun b hb => hb
    exact List.all_eq_true.1 hno _ (List.mem_map.2 ⟨x, List.mem_of_getElem? hj, rfl⟩)
theorem after_call {X : Ctx} {s : St} {wr : List Nat} {nb : Nat} {E : Env} {a : Act} {w : World} (hr : Rel X s E a w) {dst : Option Tmp} {K : St → Prop} {Q : D → Prop} (hk : ∀ d, Q d → K (s.put dst d)) {K' : Act → World → Prop}
    (hK : ∀ s' E' a' w', K s' → Rel X s' E' a' w' → FrT (fun i => wr.contains i = true ∨ nb ≤ i) E w E' w' → K' a' w') (e : Ending) (w' : World)
    (h : ∃ d v, Q d ∧ e = .returned v ∧ Rep (roEnv fun b => E.ro b ∨ (w.heap.size ≤ b ∧ b < w'.heap.size)) w' d v ∧ Below w.heap.size w w') : ∃ v, e = .returned v ∧ K' (a.put dst v) w' := by
  obtain ⟨d, v, hq, rfl, hv, hb⟩ := h
  have hle : E.le ⟨fun b => E.ro b ∨ (w.heap.size ≤ b ∧ b < w'.heap.size), E.at_, E.tg⟩ := ⟨fun _ _ h => h, fun _ h => .inl h⟩
  have hro : ∀ b, E.ro b → w'.heap[b]? = w.heap[b]? := fun b h => hb.block b (hr.sr.rolt b h)
  have hrel : Rel X s ⟨fun b => E.ro b ∨ (w.heap.size ≤ b ∧ b < w'.heap.size), E.at_, E.tg⟩ a w' := by
    refine ⟨hr.sz, fun t d hd => (hr.tm t d hd).keep hle hro, hr.df, ⟨fun i x hi => ?_, hr.sr.new, fun b h => ?_, hr.sr.apart, hr.sr.nodup, ?_⟩, ?_⟩
    · refine (hr.sr.obs i x hi).keep hle hro fun l hl => ?_
      have hlt := hr.sr.lt hi hl
      refine ⟨hb.block _ hlt, fun h => ?_⟩
      rcases h with h | h
      · rcases (hr.sr.obs i x hi).2 with ⟨h5, _⟩ | ⟨m', h5, _, h6, _⟩
        · rw [hl] at h5; cases h5
        · rw [hl] at h5
          injection h5 with h5
          injection h5 with h5
          subst h5
          exact h6 h
      · omega
    · rcases h with h | h
      · exact Nat.lt_of_lt_of_le (hr.sr.rolt b h) hb.size
      · exact h.2
    · exact hr.sr.tr.keep rfl (fun b k p _ h1 h2 h3 h4 => ⟨Nat.lt_of_lt_of_le h1 hb.size, hb.block b h1, h2, fun h => (by rcases h with h | h; exact h3 h; omega), h4⟩) fun k x' hx j ty sz n cs hj => ⟨x', hx, hj, fun l hl => ⟨hl, World.cell?_of_block (a := ⟨l.g, j, none⟩) (hb.block _ (hr.sr.lt hx hl))⟩⟩
    · refine ⟨hr.st.le.trans hle, hb.os.trans hr.st.os, hb.tape.trans hr.st.tape, hb.output.trans hr.st.output, Nat.le_trans hr.st.size hb.size, fun b h1 h2 => (hb.block b (Nat.lt_of_lt_of_le h1 hr.st.size)).trans (hr.st.block b h1 h2), fun b h => ?_, hr.st.nb⟩
      rcases h with h | h
      · exact hr.st.ro b h
      · exact .inr (.inl (Nat.le_trans hr.st.size h.1))
  refine ⟨v, rfl, hK _ _ _ _ (hk d hq) (hrel.put dst ?_) ⟨hle, hb.size, fun b h _ _ => hb.block b h, fun i l h1 h2 => (by rw [show E.at_ i = some (some l) from h2] at h1; cases h1), fun b h1 h2 => absurd h1 h2⟩⟩
  exact hv.keep ⟨fun i l h => (by cases h), fun b h => h⟩ fun _ _ => rfl
theorem awcallF {X : Ctx} {P : Program} {o : Oper} {s : St} {wr : List Nat} {nb : Nat} {f : FuncId} {xs : Array Operand} {ats : Array TypeId} {K : St → Prop} (ho : o.op = .call { callee := .value (.func f), args := xs, argTypes := ats }) (ds : List D) (Q : D → Prop)
    (hs : Spec P f ds Q) (hds : xs.toList.map s.ev = ds) (hno : ds.all D.noid = true) (hk : ∀ d, Q d → K (s.put o.dst d)) : AwStepF X P o s wr nb K := by
  refine ⟨fun E a w K' R hr hK => ?_⟩
  have hrun : (execOp a.eval o).run P w = .ok (.enter f (xs.map a.eval)) w := by
    rw [show execOp a.eval o = callFunc f (#[] ++ xs.map a.eval ++ #[]) by simp only [execOp, ho]; rfl]
    rw [hs.1]
    simp
  unfold Oper.wp
  rw [hrun]
  show Calls P f _ w _
  subst hds
  refine (hs.2 E.ro w (xs.map a.eval) hr.sr.rolt (by simp) (args_of hr hno)).mono ?_
  intro e w' h
  obtain ⟨v, rfl, h2⟩ := after_call hr hk hK e w' h
  exact h2

theorem awcall {X : Ctx} {P : Program} {o : Oper} {s : St} {f : FuncId} {xs : Array Operand} {ats : Array TypeId} {K : St → Prop} (ho : o.op = .call { callee := .value (.func f), args := xs, argTypes := ats }) (ds : List D) (Q : D → Prop)
    (hs : Spec P f ds Q) (hds : xs.toList.map s.ev = ds) (hno : ds.all D.noid = true) (hk : ∀ d, Q d → K (s.put o.dst d)) : AwStep X P o s K := (awcallF (wr := []) (nb := 0) ho ds Q hs hds hno hk).plain

/-- What a function hands back. -/
def resD (P : Program) (s : St) : ResultVar → Option D
  | .tmp t => some (s.get t)
  | .cell a t => loadD P t s (s.get a)
def resAll (P : Program) (s : St) : List ResultVar → Option (List D)
  | [] => some []
  | r :: rs => match resD P s r, resAll P s rs with | some d, some ds => some (d :: ds) | _, _ => none
def tupD : List D → D
  | [d] => d
  | ds => .tup ds
end Go.Proofs.YtemaanibghedlaaGreat
