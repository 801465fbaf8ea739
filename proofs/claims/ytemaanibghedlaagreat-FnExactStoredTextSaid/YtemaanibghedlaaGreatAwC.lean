/- The logic over data: one operation. -/
import Derived.Test.YtemaanibghedlaaGreatAwB
namespace Go.Proofs.YtemaanibghedlaaGreat
open Go.RowKit

/-- The object that an operation stores into; the one that it loads from. -/
def tgt (s : St) (o : Oper) : Option Nat := match o.op with
  | .store _ x _ => match s.ev x with | .ptr i _ => some i | _ => none
  | _ => none
def rdOf (s : St) (o : Oper) : Option Nat := match o.op with
  | .load _ x => match s.ev x with | .ptr i _ => some i | _ => none
  | _ => none
/-- Is it a load of cells that are only read? -/
def rcOf (s : St) (o : Oper) : Bool := match o.op with
  | .load _ x => match s.ev x with | .cptr .. => true | _ => false
  | _ => false
/-- Of what was there the object tg alone may have turned; new objects lie in new blocks. -/
structure Fr (tg : Option Nat) (E : Env) (w : World) (E' : Env) (w' : World) : Prop where
  le : E.le E'
  size : w.heap.size ≤ w'.heap.size
  block : ∀ b, b < w.heap.size → (∀ i l, tg = some i → E.at_ i = some (some l) → l.g ≠ b) → w'.heap[b]? = w.heap[b]?
  new : ∀ i l, E.at_ i = none → E'.at_ i = some (some l) → w.heap.size ≤ l.g
  tgs : E'.tg = E.tg
theorem Fr.same (tg : Option Nat) (E : Env) (w : World) : Fr tg E w E w := ⟨.refl _, Nat.le_refl _, fun _ _ _ => rfl, fun i l h1 h2 => (by rw [h1] at h2; cases h2), rfl⟩
/-- An operation leads from the state s to the state s'. -/
def AwOp (X : Ctx) (P : Program) (o : Oper) (s s' : St) : Prop :=
  ∀ E a w (K : Act → World → Prop) (Q : Exit → Act → World → Prop), Rel X s E a w → (∀ E' a' w', Rel X s' E' a' w' → Fr (tgt s o) E w E' w' → K a' w') → o.wp P a w K Q

/-- w' agrees with w where it is read. -/
structure Agr (rd : Option Nat) (rc : Bool) (E : Env) (w w' : World) : Prop where
  ro : rc = true → ∀ b, E.ro b → w'.heap[b]? = w.heap[b]?
  ob : ∀ i l, rd = some i → E.at_ i = some (some l) → w'.heap[l.g]? = w.heap[l.g]?
theorem Agr.refl (rd : Option Nat) (rc : Bool) (E : Env) (w : World) : Agr rd rc E w w := ⟨fun _ _ _ => rfl, fun _ _ _ _ => rfl⟩
/-- An operation that only reads: it gives d, in every world that agrees. -/
def ValAt (X : Ctx) (P : Program) (o : Oper) (s : St) (d : D) : Prop :=
  ∀ E a w, Rel X s E a w → ∃ v, Rep E w d v ∧ ∀ w', Agr (rdOf s o) (rcOf s o) E w w' → (execOp a.eval o).run P w' = .ok (.value v) w'

theorem awop_val {X : Ctx} {P : Program} {o : Oper} {s : St} {d : D} (h : ValAt X P o s d) : AwOp X P o s (s.put o.dst d) := by
  intro E a w K Q hr hk
  obtain ⟨v, h2, h1⟩ := h E a w hr
  unfold Oper.wp
  rw [h1 w (.refl _ _ _ _)]
  exact hk _ _ _ (hr.put o.dst h2) (.same _ _ _)
theorem awop_new {X : Ctx} {P : Program} {o : Oper} {s : St} {x : Ob} {d : D} (hnt : x.cs.all D.nt = true) (h : ∀ E a w, Rel X s E a w → ∃ cur cap v, (execOp a.eval o).run P w = .ok (.value v) (w.alloc (.cells cur x.ty)) ∧ x.cs.length = x.len * x.size ∧ x.len ≤ cap ∧ cap ≤ maxLen ∧
      cur.size = cap * x.size ∧ (∀ (j : Nat) (d : D), x.cs[j]? = some d → ∃ u, cur[j]? = some u ∧ u.oneCell' = true ∧ Rep1 E w d u) ∧ Rep (E.with s.nb (some ⟨w.heap.size, cap⟩)) (w.alloc (.cells cur x.ty)) d v) :
    AwOp X P o s ((s.newOb x).put o.dst d) := by
  intro E a w K Q hr hk
  obtain ⟨cur, cap, v, h1, h2, h3, h4, h5, h6, h7⟩ := h E a w hr
  unfold Oper.wp
  rw [h1]
  refine hk _ _ _ ((hr.alloc x cur cap h2 h3 h4 h5 h6 hnt).put o.dst h7) ⟨Env.with_le (hr.sr.new _ (Nat.le_refl _)), by rw [World.size_alloc]; exact Nat.le_succ _, fun b hb _ => heap_alloc_old w _ hb, fun i l h8 h9 => ?_, rfl⟩
  by_cases hi : i = s.nb
  · subst hi
    rw [Env.with_at] at h9
    injection h9 with h9; injection h9 with h9; subst h9
    exact Nat.le_refl _
  · rw [Env.with_ne hi, h8] at h9
    cases h9

/-! What types say. -/
def tyK (P : Program) (t : TypeId) : Option (Bool × Nat) :=
  match P.underlying t, P.info? t with
  | some (.struct _), some i => some (true, i.size)
  | some (.array ..), _ => none
  | some _, some i => some (false, i.size)
  | _, _ => none
def fldK (P : Program) (t : TypeId) (f : Nat) : Option Nat :=
  match P.underlying t with
  | some (.struct fs) => match fs[f]? with
    | some x => match P.info? x.type with
      | some i => if i.size = 0 then none else some x.offset
      | none => none
    | none => none
  | _ => none
def elemK (P : Program) (t : TypeId) : Option (TypeId × Nat) :=
  match P.underlying t with
  | some (.slice e) => (P.info? e).map fun i => (e, i.size)
  | _ => none
def zeroK (P : Program) (t : TypeId) : Option Value := (P.info? t).bind (·.zero)
def isStr (P : Program) (t : TypeId) : Bool := match P.underlying t with | some .string => true | _ => false
def isBool (P : Program) (t : TypeId) : Bool := match P.underlying t with | some .bool => true | _ => false

def D.cells : D → List D
  | .agg cs => cs
  | d => [d]
def D.known (d : D) : Bool := d.cells.all D.one
theorem known_nt {d : D} (h : d.known = true) : d.cells.all D.nt = true := List.all_eq_true.2 fun e he => D.one_nt (List.all_eq_true.1 h e he)
theorem sc_nt (vs : List Value) : (vs.map D.sc).all D.nt = true := List.all_eq_true.2 fun e he => by obtain ⟨v, _, rfl⟩ := List.mem_map.1 he; rfl
theorem rep_cells {E : Env} {w : World} {d : D} {u : Value} (h : Rep E w d u) (hk : d.known = true) :
    u.cells.size = d.cells.length ∧ ∀ (j : Nat) (e : D), d.cells[j]? = some e → ∃ v, u.cells[j]? = some v ∧ v.oneCell' = true ∧ Rep1 E w e v := by
  unfold D.known at hk
  by_cases hd : ∃ cs, d = .agg cs
  · obtain ⟨cs, rfl⟩ := hd
    obtain ⟨us, rfl, h2, h3⟩ := h
    refine ⟨by simpa [Value.cells, D.cells] using h2, fun j e he => ?_⟩
    have hj : j < us.length := by rw [h2]; exact (List.getElem?_eq_some_iff.1 he).1
    have := h3 j e us[j] he (List.getElem?_eq_getElem hj)
    exact ⟨us[j], by simp [Value.cells, hj], this.2, this.1⟩
  · have hone : d.one = true := by
      cases d <;> first | exact absurd ⟨_, rfl⟩ hd | (simp [D.cells] at hk; exact hk)
    have h1 := h.one hone
    have ho := h1.oneCell hone
    have hc : u.cells = #[u] := by
      cases u <;> first | rfl | cases ho
    have hdc : d.cells = [d] := by cases d <;> first | rfl | exact absurd ⟨_, rfl⟩ hd
    rw [hc, hdc]
    refine ⟨rfl, fun j e he => ?_⟩
    rcases j with _ | j
    · simp only [List.getElem?_cons_zero, Option.some.injEq] at he
      subst he
      exact ⟨u, by simp, ho, h1⟩
    · simp at he

/-- A cell that may be loaded: no owned slice. -/
def unT : Option D → Option D
  | some (.tr ..) => none
  | x => x
theorem unT_ {x : Option D} {d : D} (h : unT x = some d) : x = some d := by
  unfold unT at h
  split at h
  · cases h
  · exact h
theorem unT_sc (v : Value) : unT (some (.sc v)) = some (.sc v) := rfl
theorem unT_sl (n : Nat) (cs : List D) : unT (some (.sl n cs)) = some (.sl n cs) := rfl
theorem unT_own (i o n : Nat) : unT (some (.own i o n)) = some (.own i o n) := rfl
theorem unT_ptr (i o : Nat) : unT (some (.ptr i o)) = some (.ptr i o) := rfl
theorem unT_cptr (cs : List D) (o : Nat) : unT (some (.cptr cs o)) = some (.cptr cs o) := rfl
theorem unT_mp (i : Nat) : unT (some (.mp i)) = some (.mp i) := rfl
theorem unT_fn (f : FuncId) (cs : List D) : unT (some (.fn f cs)) = some (.fn f cs) := rfl
theorem unT_no : unT (some .none) = some .none := rfl
/-- The part of type t at o. -/
def partD (P : Program) (t : TypeId) (cs : List D) (o : Nat) : Option D :=
  match tyK P t with
  | some (true, n) => if o + n ≤ cs.length then some (.agg ((cs.drop o).take n)) else none
  | some (false, _) => unT cs[o]?
  | none => none

theorem run_isAgg_of {P : Program} {t : TypeId} {b : Bool} {n : Nat} (h : tyK P t = some (b, n)) (w : World) : (isAgg t).run P w = .ok b w ∧ (Go.sizeOf t).run P w = .ok n w := by
  unfold tyK at h
  cases hu : P.underlying t with
  | none => rw [hu] at h; simp at h
  | some d =>
    rw [hu] at h
    cases hi : P.info? t with
    | none => rw [hi] at h; cases d <;> simp at h
    | some i =>
      rw [hi] at h
      have hs : (Go.sizeOf t).run P w = .ok i.size w := by simp [Go.sizeOf, run_typeInfo w hi]
      cases d <;> simp only [Option.some.injEq, Prod.mk.injEq, reduceCtorEq] at h <;> first | (obtain ⟨rfl, rfl⟩ := h; exact ⟨by simp [isAgg, run_underlying hu], hs⟩) | (exact absurd h (by simp))

/-- What is loaded reads as the part. -/
theorem load_part {P : Program} {E : Env} {w : World} {t : TypeId} {cs : List D} {o g oo : Nat} {d : D} (us : List Value) (hl : us.length = cs.length)
    (hr : ∀ (j : Nat) (d : D) (v : Value), cs[j]? = some d → us[j]? = some v → Rep1 E w d v ∧ v.oneCell' = true) (hp : partD P t cs o = some d) :
    ∃ v, (∀ w', (∀ (j : Nat) (v : Value), us[j]? = some v → w'.cell? ⟨g, oo + j, none⟩ = some v) → (Instr.loadAt t (.pointer (some ⟨g, oo + o, none⟩))).run P w' = .ok v w') ∧ Rep E w d v := by
  unfold partD at hp
  cases ht : tyK P t with
  | none => rw [ht] at hp; cases hp
  | some bn =>
    obtain ⟨b, n⟩ := bn
    rw [ht] at hp
    cases b with
    | true =>
      simp only at hp
      split at hp
      · rename_i hle
        injection hp with hp
        subst hp
        have hlen : ((us.drop o).take n).length = n := by simp; omega
        refine ⟨.agg ((us.drop o).take n).toArray, fun w' hc => ?_, (us.drop o).take n, rfl, by simp [hl], fun j e v he hv => ?_⟩
        · obtain ⟨h1, h2⟩ := run_isAgg_of ht w'
          have := run_loadCells_list (P := P) w' ⟨g, oo + o, none⟩ ((us.drop o).take n) (fun j v hv => by
            rw [List.getElem?_take] at hv
            split at hv
            · rw [List.getElem?_drop] at hv
              rw [Addr.add_lit, Nat.add_assoc]
              exact hc _ _ hv
            · cases hv)
          rw [hlen] at this
          simp [Instr.loadAt, Instr.sureAddr, loadVar, h1, h2, this]
        · rw [List.getElem?_take] at he hv
          split at he
          · rename_i hj
            rw [if_pos hj] at hv
            rw [List.getElem?_drop] at he hv
            exact hr _ _ _ he hv
          · cases he
      · cases hp
    | false =>
      simp only at hp
      replace hp := unT_ hp
      have ho : o < us.length := by rw [hl]; exact (List.getElem?_eq_some_iff.1 hp).1
      refine ⟨us[o], fun w' hc => ?_, Rep.of1 (hr o d us[o] hp (List.getElem?_eq_getElem ho)).1⟩
      obtain ⟨h1, h2⟩ := run_isAgg_of ht w'
      have hv := hc o us[o] (List.getElem?_eq_getElem ho)
      simp [Instr.loadAt, Instr.sureAddr, loadVar, h1, hv]

def cellOb : Option Ob → Option Ob
  | some x => cond (x.size == 0) none (some x)
  | none => none
/-- An object that has cells. -/
def St.ob (s : St) (i : Nat) : Option Ob := cellOb (s.os.lookup i)
theorem St.ob_some {s : St} {i : Nat} {x : Ob} (h : s.ob i = some x) : s.os.lookup i = some x ∧ x.size ≠ 0 := by
  unfold St.ob cellOb at h
  cases hl : s.os.lookup i with
  | none => rw [hl] at h; cases h
  | some y =>
    rw [hl] at h
    cases hy : y.size == 0 with
    | true => simp only [hy, cond_true] at h; cases h
    | false =>
      simp only [hy, cond_false] at h
      injection h with h
      subst h
      exact ⟨rfl, by simpa using hy⟩
def loadD (P : Program) (t : TypeId) (s : St) : D → Option D
  | .ptr i o => match s.ob i with | some x => partD P t x.cs o | none => none
  | .cptr cs o => partD P t cs o
  | _ => none

theorem RepP.to1 {E : Env} {w : World} {d : D} {u : Value} (h : RepP E.ro w d u) : Rep1 E w d u ∧ u.oneCell' = true := by
  cases h with
  | sc v h1 => exact ⟨⟨rfl, h1⟩, h1⟩
  | sl n cs A c us hl hn hc hcell hrep => exact ⟨.sl n cs A c us hl hn hc hcell hrep, rfl⟩

theorem val_load {X : Ctx} {P : Program} {o : Oper} {s : St} {t : TypeId} {x : Operand} (ho : o.op = .load t x) {d : D} (h : loadD P t s (s.ev x) = some d) : ValAt X P o s d := by
  intro E a w hr
  have hx := hr.ev x
  have key : ∃ v, Rep E w d v ∧ ∀ w', Agr (rdOf s o) (rcOf s o) E w w' → (Instr.loadAt t (a.eval x)).run P w' = .ok v w' := by
    cases hd : s.ev x with
    | ptr i k =>
      rw [hd] at h hx
      obtain ⟨l, hl, hp⟩ := hx
      simp only [loadD] at h
      cases hob : s.ob i with
      | none => rw [hob] at h; cases h
      | some ob =>
        rw [hob] at h
        obtain ⟨us, h1, h2, h3⟩ := hr.cells (St.ob_some hob).2 (mem_of_lookup (St.ob_some hob).1) hl 0 ob.cs.length (by omega)
        rw [hp]
        have hrd : rdOf s o = some i := by simp [rdOf, ho, hd]
        obtain ⟨v, h4, h5⟩ := load_part (P := P) (E := E) (t := t) (cs := ob.cs) (o := k) (g := l.g) (oo := 0) us h1 (fun j e v he hv => h3 j e v (by simpa using he) hv) h
        refine ⟨v, h5, fun w' hw => ?_⟩
        have := h4 w' fun j v hv => (World.cell?_of_block (a := ⟨l.g, 0 + j, none⟩) (hw.ob i l hrd hl)).trans (h2 j v hv)
        rwa [Nat.zero_add] at this
    | cptr cs k =>
      rw [hd] at h hx
      obtain ⟨b, oo, us, hp, hro, h1, h2, h3⟩ := hx
      rw [hp]
      obtain ⟨v, h4, h5⟩ := load_part (P := P) (E := E) (w := w) (t := t) (g := b) (oo := oo) us h1 (fun j e v he hv => (h3 j e v he hv).to1) h
      exact ⟨v, h5, fun w' hw => h4 w' fun j v hv => (World.cell?_of_block (a := ⟨b, oo + j, none⟩) (hw.ro (by simp [rcOf, ho, hd]) b hro)).trans (h2 j v hv)⟩
    | _ => rw [hd] at h; cases h
  obtain ⟨v, h2, h1⟩ := key
  exact ⟨v, h2, fun w' hw => by simp [execOp, ho, h1 w' hw]⟩
theorem awop_load {X : Ctx} {P : Program} {o : Oper} {s : St} {t : TypeId} {x : Operand} (ho : o.op = .load t x) {d : D} (h : loadD P t s (s.ev x) = some d) : AwOp X P o s (s.put o.dst d) := awop_val (val_load ho h)

def setL : List D → Nat → List D → List D
  | cs, _, [] => cs
  | cs, o, d :: ds => setL (cs.set o d) (o + 1) ds
theorem setL_len : ∀ (ds cs : List D) (o : Nat), (setL cs o ds).length = cs.length
  | [], _, _ => rfl
  | d :: ds, cs, o => by rw [setL, setL_len ds]; simp
theorem setL_at : ∀ (ds cs : List D) (o j : Nat), o + ds.length ≤ cs.length → (setL cs o ds)[j]? = if o ≤ j ∧ j < o + ds.length then ds[j - o]? else cs[j]?
  | [], cs, o, j, _ => by
    rw [if_neg (by simp)]
    rfl
  | d :: ds, cs, o, j, h => by
    simp only [List.length_cons] at h ⊢
    rw [setL, setL_at ds (cs.set o d) (o + 1) j (by simp; omega)]
    by_cases h1 : o + 1 ≤ j ∧ j < o + 1 + ds.length
    · rw [if_pos h1, if_pos (by omega), show j - o = (j - (o + 1)) + 1 by omega, List.getElem?_cons_succ]
    · rw [if_neg h1, List.getElem?_set]
      by_cases h2 : o = j
      · subst h2
        rw [if_pos rfl, if_pos (by omega), if_pos (by omega), Nat.sub_self]
        rfl
      · rw [if_neg h2, if_neg (by omega)]

def storeD (P : Program) (t : TypeId) (s : St) (p d : D) : Option St :=
  match p with
  | .ptr i o => match s.ob i, tyK P t with
    | some x, some (_, n) => if d.known = true ∧ d.cells.length = n ∧ o + n ≤ x.cs.length then some (s.setCs i (setL x.cs o d.cells)) else none
    | _, _ => none
  | _ => none

theorem awop_store {X : Ctx} {P : Program} {o : Oper} {s : St} {t : TypeId} {x y : Operand} (ho : o.op = .store t x y) (hn : o.dst = none) {s' : St} (h : storeD P t s (s.ev x) (s.ev y) = some s') : AwOp X P o s s' := by
  intro E a w K Q hr hk
  have hx := hr.ev x
  have hy := hr.ev y
  cases hd : s.ev x with
  | ptr i k =>
    rw [hd] at h hx
    obtain ⟨l, hl, hp⟩ := hx
    simp only [storeD] at h
    cases hob : s.ob i with
    | none => rw [hob] at h; simp at h
    | some ob =>
      rw [hob] at h
      cases ht : tyK P t with
      | none => rw [ht] at h; simp at h
      | some bn =>
        obtain ⟨b, n⟩ := bn
        rw [ht] at h
        simp only at h
        split at h
        · rename_i hc
          obtain ⟨hk1, hk2, hk3⟩ := hc
          injection h with h
          subst h
          obtain ⟨hc1, hc2⟩ := rep_cells hy hk1
          have hmem := mem_of_lookup (St.ob_some hob).1
          obtain ⟨h1, h2, h3, cur, h4, h5, h6⟩ := hr.ob (St.ob_some hob).2 hmem hl
          have hle : ob.cs.length ≤ cur.size := by rw [h1, h5]; exact Nat.mul_le_mul_right _ h2
          have hul : (a.eval y).cells.toList.length = n := by rw [Array.length_toList, hc1, hk2]
          have hone : ∀ v ∈ (a.eval y).cells.toList, v.oneCell' = true := by
            intro v hv
            obtain ⟨j, hj, rfl⟩ := List.getElem_of_mem hv
            obtain ⟨v', h7, h8, _⟩ := hc2 j ((s.ev y).cells[j]'(by rw [hul] at hj; omega)) (List.getElem?_eq_getElem _)
            rw [Array.getElem_toList]
            rw [Array.getElem?_eq_getElem (by rw [Array.length_toList] at hj; exact hj)] at h7
            injection h7 with h7
            rw [h7]; exact h8
          have hst := run_storeCells_at P l.g k ob.ty (a.eval y).cells.toList 0 cur w h4 (by rw [hul]; omega) hone
          obtain ⟨_, hs2⟩ := run_isAgg_of ht w
          have hrun : (execOp a.eval o).run P w = .ok .skip (w.setRow l.g (cur.toList.take (k + 0) ++ (a.eval y).cells.toList ++ cur.toList.drop (k + 0 + (a.eval y).cells.toList.length)).toArray) := by
            have hsz : ¬ (a.eval y).cells.size ≠ n := by rw [hc1, hk2]; simp
            simp only [execOp, ho, hp]
            simp only [Instr.storeAt, Instr.sureAddr, storeVar, Sem.run_bind, Sem.run_pure, Result.andThen_ok, hs2, if_neg hsz, hst]
          unfold Oper.wp
          rw [hrun]
          show K (a.put o.dst undef) _
          rw [hn]
          refine hk _ _ _ (hr.write hmem hl _ _ (setL_len _ _ _) ?_ ?_ ?_ (setRow_heap w _ cur _ ob.ty (0, 0) h4) (fun b hb => setRow_other w _ b _ hb) (by simp) rfl rfl rfl) ⟨.refl _, by simp, fun b hb hne => setRow_other w _ b _ (hne i l (by simp [tgt, ho, hd]) hl).symm, fun i l h8 h9 => (by rw [h8] at h9; cases h9), rfl⟩
          · simp only [List.size_toArray, List.length_append, List.length_take, List.length_drop, Array.length_toList]
            rw [Array.length_toList] at hul
            rw [hul]
            omega
          · intro j e he
            rw [setL_at _ _ _ _ (by omega)] at he
            rw [Array.length_toList] at hul
            simp only [Nat.add_zero, List.getElem?_toArray]
            split at he
            · rename_i hj
              obtain ⟨v, h7, h8, h9⟩ := hc2 _ e he
              refine ⟨v, ?_, h8, h9⟩
              rw [List.append_assoc, List.getElem?_append_right (by simp; omega), List.getElem?_append_left (by simp; omega)]
              simp only [List.length_take, Array.length_toList, Array.getElem?_toList]
              rw [show min k cur.size = k by omega]
              exact h7
            · rename_i hj
              obtain ⟨v, h7, h8, h9⟩ := h6 j e he
              refine ⟨v, ?_, h8, h9⟩
              by_cases hlt : j < k
              · rw [List.append_assoc, List.getElem?_append_left (by simp; omega), List.getElem?_take, if_pos hlt, Array.getElem?_toList]
                exact h7
              · rw [List.getElem?_append_right (by simp; omega)]
                simp only [List.length_append, List.length_take, Array.length_toList, List.getElem?_drop, Array.getElem?_toList]
                rw [show k + (a.eval y).cells.size + (j - (min k cur.size + (a.eval y).cells.size)) = j by omega]
                exact h7
          · intro j ty sz n' cs' he
            rw [setL_at _ _ _ _ (by omega)] at he
            rw [Array.length_toList] at hul
            split at he
            · exfalso
              have := List.all_eq_true.1 hk1 _ (List.mem_of_getElem? he)
              cases this
            · rename_i hj
              refine ⟨he, ?_⟩
              rw [cell_of_row w l.g j cur ob.ty (0, 0) h4]
              simp only [Nat.add_zero, List.getElem?_toArray]
              by_cases hlt : j < k
              · rw [List.append_assoc, List.getElem?_append_left (by simp; omega), List.getElem?_take, if_pos hlt, Array.getElem?_toList]
              · rw [List.getElem?_append_right (by simp; omega)]
                simp only [List.length_append, List.length_take, Array.length_toList, List.getElem?_drop, Array.getElem?_toList]
                rw [show k + (a.eval y).cells.size + (j - (min k cur.size + (a.eval y).cells.size)) = j by omega]
        · cases h
  | _ => rw [hd] at h; cases h
end Go.Proofs.YtemaanibghedlaaGreat
