/- A logic over data: what a slot holds is said as a datum; memory that the call owns is a list of objects; what is read only is data. Here: the words, and that they are kept. -/
import Derived.Test.YtemaanibghedlaaGreatMem
import Derived.Test.YtemaanibghedlaaGreatApp
namespace Go.Proofs.YtemaanibghedlaaGreat
open Go.RowKit

/-- A datum that a slot or a cell holds. none: nothing is known. sl: a slice that is only read (its cells, flat). own: a slice into an object, from a cell on. ptr: a pointer to an object's cell. cptr: a pointer to cells that are only read. -/
inductive D where
  | none
  | sc (v : Value)
  | sl (n : Nat) (cs : List D)
  | own (i off n : Nat)
  | agg (cs : List D)
  | ptr (i o : Nat)
  | mp (i : Nat)
  | cptr (cs : List D) (o : Nat)
  | tup (ds : List D)
  | fn (f : FuncId) (cap : List D)
  | tr (ty size n : Nat) (cs : List D)

structure Loc where
  g : Nat
  cap : Nat
structure Env where
  ro : Nat → Prop
  at_ : Nat → Option (Option Loc)
  tg : Nat → Option (Nat × List Nat)

/-- Data that is only read: it lies in the blocks ro. -/
inductive RepP (ro : Nat → Prop) (w : World) : D → Value → Prop
  | sc (v : Value) (h1 : v.oneCell' = true) : RepP ro w (.sc v) v
  | sl (n : Nat) (cs : List D) (A : Option Addr) (c : Nat) (us : List Value) (hl : us.length = cs.length) (hn : n ≤ c) (hc : c ≤ maxLen)
      (hcell : ∀ (j : Nat) (u : Value), us[j]? = some u → ∃ b o, A = some ⟨b, o, none⟩ ∧ ro b ∧ w.cell? ⟨b, o + j, none⟩ = some u)
      (hrep : ∀ (j : Nat) (d : D) (u : Value), cs[j]? = some d → us[j]? = some u → RepP ro w d u) : RepP ro w (.sl n cs) (.slice A n c)

/-- What a function literal holds of its surroundings. -/
def Cap1 (E : Env) (w : World) : D → Value → Prop
  | .sc v, u => u = v ∧ v.oneCell' = true
  | .sl n cs, u => RepP E.ro w (.sl n cs) u
  | .ptr i o, u => ∃ l, E.at_ i = some (some l) ∧ u = .pointer (some ⟨l.g, o, none⟩)
  | .cptr cs k, u => ∃ b o, ∃ us : List Value, u = .pointer (some ⟨b, o + k, none⟩) ∧ E.ro b ∧ us.length = cs.length ∧ (∀ (j : Nat) (v : Value), us[j]? = some v → w.cell? ⟨b, o + j, none⟩ = some v) ∧ ∀ (j : Nat) (d : D) (v : Value), cs[j]? = some d → us[j]? = some v → RepP E.ro w d v
  | _, _ => True
/-- One cell. -/
def Rep1 (E : Env) (w : World) : D → Value → Prop
  | .none, _ => True
  | .sc v, u => u = v ∧ v.oneCell' = true
  | .sl n cs, u => RepP E.ro w (.sl n cs) u
  | .own i off n, u => (∃ l c, E.at_ i = some (some l) ∧ u = .slice (some ⟨l.g, off, none⟩) n c ∧ n ≤ c ∧ c ≤ maxLen ∧ (off = 0 → c = l.cap)) ∨ (E.at_ i = some Option.none ∧ off = 0 ∧ n = 0 ∧ u = .slice Option.none 0 0)
  | .ptr i o, u => ∃ l, E.at_ i = some (some l) ∧ u = .pointer (some ⟨l.g, o, none⟩)
  | .mp i, u => ∃ l, E.at_ i = some (some l) ∧ u = .map (some l.g)
  | .cptr cs k, u => ∃ b o, ∃ us : List Value, u = .pointer (some ⟨b, o + k, none⟩) ∧ E.ro b ∧ us.length = cs.length ∧ (∀ (j : Nat) (v : Value), us[j]? = some v → w.cell? ⟨b, o + j, none⟩ = some v) ∧ ∀ (j : Nat) (d : D) (v : Value), cs[j]? = some d → us[j]? = some v → RepP E.ro w d v
  | .fn f cap, u => ∃ us : List Value, u = .func (.func f) #[] us.toArray ∧ us.length = cap.length ∧ ∀ (j : Nat) (d : D) (v : Value), cap[j]? = some d → us[j]? = some v → Cap1 E w d v
  | .tr .., _ => True
  | _, _ => False
/-- A value that is no tuple. -/
def RepA (E : Env) (w : World) : D → Value → Prop
  | .agg cs, u => ∃ us : List Value, u = .agg us.toArray ∧ us.length = cs.length ∧ ∀ (j : Nat) (d : D) (v : Value), cs[j]? = some d → us[j]? = some v → Rep1 E w d v ∧ v.oneCell' = true
  | d, u => Rep1 E w d u
/-- What a slot holds. -/
def Rep (E : Env) (w : World) : D → Value → Prop
  | .tup ds, u => ∃ us : List Value, u = .tuple us.toArray ∧ us.length = ds.length ∧ ∀ (j : Nat) (d : D) (v : Value), ds[j]? = some d → us[j]? = some v → RepA E w d v
  | d, u => RepA E w d u

structure Env.le (E E' : Env) : Prop where
  at_ : ∀ i l, E.at_ i = some l → E'.at_ i = some l
  ro : ∀ b, E.ro b → E'.ro b
theorem Env.le.refl (E : Env) : E.le E := ⟨fun _ _ h => h, fun _ h => h⟩
theorem Env.le.trans {E F G : Env} (h : E.le F) (k : F.le G) : E.le G := ⟨fun i l x => k.at_ i l (h.at_ i l x), fun b x => k.ro b (h.ro b x)⟩

theorem RepP.keep {ro ro' : Nat → Prop} {w w' : World} {d : D} {u : Value} (h : RepP ro w d u) (hr : ∀ b, ro b → ro' b) (hw : ∀ b, ro b → w'.heap[b]? = w.heap[b]?) : RepP ro' w' d u := by
  induction h with
  | sc v h1 => exact .sc v h1
  | sl n cs A c us hl hn hc hcell _ ih =>
    refine .sl n cs A c us hl hn hc (fun j u hu => ?_) ih
    obtain ⟨b, o, hA, hb, hc⟩ := hcell j u hu
    exact ⟨b, o, hA, hr b hb, (World.cell?_of_block (a := ⟨b, o + j, none⟩) (hw b hb)).trans hc⟩

theorem Cap1.keep {E E' : Env} {w w' : World} {d : D} {u : Value} (h : Cap1 E w d u) (hE : E.le E') (hw : ∀ b, E.ro b → w'.heap[b]? = w.heap[b]?) : Cap1 E' w' d u := by
  cases d with
  | sc v => exact h
  | sl n cs => exact RepP.keep h hE.ro hw
  | ptr i o =>
    obtain ⟨l, h1, h2⟩ := h
    exact ⟨l, hE.at_ _ _ h1, h2⟩
  | cptr cs k =>
    obtain ⟨b, o, us, h1, h2, h3, h4, h5⟩ := h
    exact ⟨b, o, us, h1, hE.ro b h2, h3, fun j v hv => (World.cell?_of_block (a := ⟨b, o + j, none⟩) (hw b h2)).trans (h4 j v hv), fun j d v hd hv => (h5 j d v hd hv).keep hE.ro hw⟩
  | _ => trivial
theorem Rep1.keep {E E' : Env} {w w' : World} {d : D} {u : Value} (h : Rep1 E w d u) (hE : E.le E') (hw : ∀ b, E.ro b → w'.heap[b]? = w.heap[b]?) : Rep1 E' w' d u := by
  cases d with
  | none => trivial
  | sc v => exact h
  | sl n cs => exact RepP.keep h hE.ro hw
  | own i off n =>
    rcases h with ⟨l, c, h1, h2⟩ | ⟨h1, h2⟩
    · exact .inl ⟨l, c, hE.at_ _ _ h1, h2⟩
    · exact .inr ⟨hE.at_ _ _ h1, h2⟩
  | agg cs => exact h
  | ptr i o =>
    obtain ⟨l, h1, h2⟩ := h
    exact ⟨l, hE.at_ _ _ h1, h2⟩
  | mp i =>
    obtain ⟨l, h1, h2⟩ := h
    exact ⟨l, hE.at_ _ _ h1, h2⟩
  | cptr cs k =>
    obtain ⟨b, o, us, h1, h2, h3, h4, h5⟩ := h
    exact ⟨b, o, us, h1, hE.ro b h2, h3, fun j v hv => (World.cell?_of_block (a := ⟨b, o + j, none⟩) (hw b h2)).trans (h4 j v hv), fun j d v hd hv => (h5 j d v hd hv).keep hE.ro hw⟩
  | tup ds => exact h
  | fn f cap =>
    obtain ⟨us, h1, h2, h3⟩ := h
    exact ⟨us, h1, h2, fun j d v hc hv => (h3 j d v hc hv).keep hE hw⟩
  | tr => trivial
theorem repA_of {E : Env} {w : World} {d : D} {u : Value} (hd : ∀ cs, d ≠ .agg cs) : RepA E w d u = Rep1 E w d u := by
  cases d <;> first | rfl | exact absurd rfl (hd _)
theorem rep_of {E : Env} {w : World} {d : D} {u : Value} (hd : ∀ cs, d ≠ .tup cs) : Rep E w d u = RepA E w d u := by
  cases d <;> first | rfl | exact absurd rfl (hd _)
theorem RepA.keep {E E' : Env} {w w' : World} {d : D} {u : Value} (h : RepA E w d u) (hE : E.le E') (hw : ∀ b, E.ro b → w'.heap[b]? = w.heap[b]?) : RepA E' w' d u := by
  by_cases hd : ∀ cs, d ≠ .agg cs
  · rw [repA_of hd] at h ⊢
    exact h.keep hE hw
  · obtain ⟨cs, hd⟩ := Classical.not_forall.1 hd
    obtain rfl := Classical.not_not.1 hd
    obtain ⟨us, h1, h2, h3⟩ := h
    exact ⟨us, h1, h2, fun j d v hd hv => ⟨(h3 j d v hd hv).1.keep hE hw, (h3 j d v hd hv).2⟩⟩
theorem Rep.keep {E E' : Env} {w w' : World} {d : D} {u : Value} (h : Rep E w d u) (hE : E.le E') (hw : ∀ b, E.ro b → w'.heap[b]? = w.heap[b]?) : Rep E' w' d u := by
  by_cases hd : ∀ cs, d ≠ .tup cs
  · rw [rep_of hd] at h ⊢
    exact h.keep hE hw
  · obtain ⟨cs, hd⟩ := Classical.not_forall.1 hd
    obtain rfl := Classical.not_not.1 hd
    obtain ⟨us, h1, h2, h3⟩ := h
    exact ⟨us, h1, h2, fun j d v hd hv => (h3 j d v hd hv).keep hE hw⟩

/-- A datum of one cell that is known. -/
def D.one : D → Bool
  | .sc _ | .sl .. | .own .. | .ptr .. | .mp .. | .cptr .. | .fn .. => true
  | _ => false
theorem Rep1.oneCell {E : Env} {w : World} {d : D} {u : Value} (h : Rep1 E w d u) (hd : d.one = true) : u.oneCell' = true := by
  cases d with
  | none => cases hd
  | sc v => rw [h.1]; exact h.2
  | sl n cs => cases h; rfl
  | own i off n =>
    rcases h with ⟨l, c, _, rfl, _⟩ | ⟨_, _, _, rfl⟩
    · rfl
    · rfl
  | agg cs => cases hd
  | ptr i o => obtain ⟨l, _, rfl⟩ := h; rfl
  | mp i => obtain ⟨l, _, rfl⟩ := h; rfl
  | cptr cs k => obtain ⟨b, o, us, rfl, _⟩ := h; rfl
  | tup ds => cases hd
  | fn f cap => obtain ⟨us, rfl, _⟩ := h; rfl
  | tr => cases hd
theorem Rep.of1 {E : Env} {w : World} {d : D} {u : Value} (h : Rep1 E w d u) : Rep E w d u := by
  cases d <;> first | exact h | exact h.elim
theorem Rep.one {E : Env} {w : World} {d : D} {u : Value} (h : Rep E w d u) (hd : d.one = true) : Rep1 E w d u := by
  cases d <;> first | exact h | cases hd

/-- An object: len elements of size cells. -/
structure Ob where
  ty : TypeId
  size : Nat
  len : Nat
  cs : List D

/-- A head, then a map's entries, one behind the other: key, value. -/
def MapOk (cs : List D) (es : Array MapEntry) : Prop := cs = .none :: es.toList.flatMap (fun e => [.sc e.key, .sc e.val]) ∧ ∀ e ∈ es.toList, e.key.oneCell' = true ∧ e.val.oneCell' = true

/-- The object i lies in memory. W: the blocks that may be written. An object of size 0 may be a map. -/
def ObAt (W : Nat → Prop) (E : Env) (w : World) (i : Nat) (x : Ob) : Prop :=
  (x.size ≠ 0 → x.cs.length = x.len * x.size) ∧ ((E.at_ i = some Option.none ∧ x.len = 0) ∨
    ∃ l, E.at_ i = some (some l) ∧ W l.g ∧ ¬ E.ro l.g ∧ x.len ≤ l.cap ∧ l.cap ≤ maxLen ∧ ((∃ cur, w.heap[l.g]? = some (.cells cur x.ty (0, 0)) ∧ cur.size = l.cap * x.size ∧
      ∀ (j : Nat) (d : D), x.cs[j]? = some d → ∃ u, cur[j]? = some u ∧ u.oneCell' = true ∧ Rep1 E w d u) ∨
      (x.size = 0 ∧ ∃ es clock, w.heap[l.g]? = some (.map es clock) ∧ MapOk x.cs es)))

/-- No owned slice in a cell. -/
def D.nt : D → Bool
  | .tr .. => false
  | _ => true
theorem D.one_nt {d : D} (h : d.one = true) : d.nt = true := by cases d <;> first | rfl | cases h
/-- A slice in a cell, all of which belongs to the object i: the blocks under it bear the object's number and the way to them. -/
inductive OwnP (w : World) (tg : Nat → Option (Nat × List Nat)) (i : Nat) : List Nat → D → Value → Prop
  | sc (p : List Nat) (v : Value) (h1 : v.oneCell' = true) : OwnP w tg i p (.sc v) v
  | nil (p : List Nat) (ty size : Nat) : OwnP w tg i p (.tr ty size 0 []) (.slice none 0 0)
  | tr (p : List Nat) (ty size n : Nat) (cs : List D) (b c : Nat) (cur : Array Value) (us : List Value) (hb : tg b = some (i, p)) (hw : w.heap[b]? = some (.cells cur ty (0, 0))) (hz : size ≠ 0) (hl : cs.length = n * size) (hcur : cur.size = c * size)
      (hn : n ≤ c) (hc : c ≤ maxLen) (hu : us.length = cs.length) (hat : ∀ (j : Nat) (u : Value), us[j]? = some u → cur[j]? = some u) (hrep : ∀ (j : Nat) (d : D) (u : Value), cs[j]? = some d → us[j]? = some u → OwnP w tg i (j :: p) d u) :
      OwnP w tg i p (.tr ty size n cs) (.slice (some ⟨b, 0, none⟩) n c)
theorem OwnP.map {w w' : World} {tg tg' : Nat → Option (Nat × List Nat)} {i i' : Nat} {p : List Nat} {d : D} {u : Value} (h : OwnP w tg i p d u) (hm : ∀ b q, tg b = some (i, q) → w'.heap[b]? = w.heap[b]? ∧ tg' b = some (i', q)) : OwnP w' tg' i' p d u := by
  induction h with
  | sc p v h1 => exact .sc p v h1
  | nil p ty size => exact .nil p ty size
  | tr p ty size n cs b c cur us hb hw hz hl hcur hn hc hu hat _ ih =>
    obtain ⟨h1, h2⟩ := hm b p hb
    exact .tr p ty size n cs b c cur us h2 (h1.trans hw) hz hl hcur hn hc hu hat ih
/-- The owned slices in the objects' cells, by the tags. -/
structure Trs (W : Nat → Prop) (E : Env) (os : List (Nat × Ob)) (w : World) : Prop where
  blk : ∀ b i p, E.tg b = some (i, p) → b < w.heap.size ∧ W b ∧ ¬ E.ro b ∧ ∀ j y l, (j, y) ∈ os → E.at_ j = some (some l) → l.g ≠ b
  cell : ∀ i x, (i, x) ∈ os → ∀ j ty sz n cs, x.cs[j]? = some (.tr ty sz n cs) → ∃ l u, E.at_ i = some (some l) ∧ w.cell? ⟨l.g, j, none⟩ = some u ∧ OwnP w E.tg i [j] (.tr ty sz n cs) u
/-- The objects of which A holds go on, under the numbers that g gives. -/
theorem Trs.map {W W' : Nat → Prop} {E E' : Env} {os os' : List (Nat × Ob)} {w w' : World} (h : Trs W E os w) (A : Nat → Prop) (g : Nat → Nat)
    (ht : ∀ b k' p, E'.tg b = some (k', p) → ∃ k, E.tg b = some (k, p) ∧ A k) (ht2 : ∀ b k p, E.tg b = some (k, p) → A k → E'.tg b = some (g k, p))
    (hb : ∀ b k p, E.tg b = some (k, p) → A k → b < w.heap.size → W b → ¬ E.ro b → (∀ j y l, (j, y) ∈ os → E.at_ j = some (some l) → l.g ≠ b) → b < w'.heap.size ∧ w'.heap[b]? = w.heap[b]? ∧ W' b ∧ ¬ E'.ro b ∧ ∀ j y l, (j, y) ∈ os' → E'.at_ j = some (some l) → l.g ≠ b)
    (hc : ∀ k' x', (k', x') ∈ os' → ∀ j ty sz n cs, x'.cs[j]? = some (.tr ty sz n cs) → ∃ k x, A k ∧ g k = k' ∧ (k, x) ∈ os ∧ x.cs[j]? = some (.tr ty sz n cs) ∧ ∀ l, E.at_ k = some (some l) → ∃ l', E'.at_ k' = some (some l') ∧ w'.cell? ⟨l'.g, j, none⟩ = w.cell? ⟨l.g, j, none⟩) :
    Trs W' E' os' w' := by
  refine ⟨fun b i p hq => ?_, fun k' x' hx j ty sz n cs hj => ?_⟩
  · obtain ⟨k, h1, h2⟩ := ht b i p hq
    obtain ⟨e1, e2, e3, e4⟩ := h.blk b k p h1
    obtain ⟨h5, _, h6, h7, h8⟩ := hb b k p h1 h2 e1 e2 e3 e4
    exact ⟨h5, h6, h7, h8⟩
  · obtain ⟨k, x, hA, rfl, h1, h2, h3⟩ := hc k' x' hx j ty sz n cs hj
    obtain ⟨l, u, h4, h5, h6⟩ := h.cell k x h1 j ty sz n cs h2
    obtain ⟨l', h7, h8⟩ := h3 l h4
    refine ⟨l', u, h7, h8.trans h5, h6.map fun b q hq => ?_⟩
    obtain ⟨e1, e2, e3, e4⟩ := h.blk b k q hq
    exact ⟨(hb b k q hq hA e1 e2 e3 e4).2.1, ht2 b k q hq hA⟩
/-- As it was, with objects that hold no such slice besides. -/
theorem Trs.keep {W W' : Nat → Prop} {E E' : Env} {os os' : List (Nat × Ob)} {w w' : World} (h : Trs W E os w) (ht : E'.tg = E.tg)
    (hb : ∀ b k p, E.tg b = some (k, p) → b < w.heap.size → W b → ¬ E.ro b → (∀ j y l, (j, y) ∈ os → E.at_ j = some (some l) → l.g ≠ b) → b < w'.heap.size ∧ w'.heap[b]? = w.heap[b]? ∧ W' b ∧ ¬ E'.ro b ∧ ∀ j y l, (j, y) ∈ os' → E'.at_ j = some (some l) → l.g ≠ b)
    (hc : ∀ k x', (k, x') ∈ os' → ∀ j ty sz n cs, x'.cs[j]? = some (.tr ty sz n cs) → ∃ x, (k, x) ∈ os ∧ x.cs[j]? = some (.tr ty sz n cs) ∧ ∀ l, E.at_ k = some (some l) → E'.at_ k = some (some l) ∧ w'.cell? ⟨l.g, j, none⟩ = w.cell? ⟨l.g, j, none⟩) : Trs W' E' os' w' :=
  h.map (fun _ => True) id (fun b k' p hq => ⟨k', by rw [← ht]; exact hq, trivial⟩) (fun b k p hq _ => by rw [ht]; exact hq) (fun b k p hq _ => hb b k p hq) fun k' x' hx j ty sz n cs hj => by
    obtain ⟨x, h1, h2, h3⟩ := hc k' x' hx j ty sz n cs hj
    exact ⟨k', x, trivial, rfl, h1, h2, fun l hl => ⟨l, h3 l hl⟩⟩
/-- No such slice: no tags are wanted. -/
theorem Trs.none {W : Nat → Prop} {E : Env} {os : List (Nat × Ob)} {w : World} (ht : ∀ b, E.tg b = none) (h : ∀ i x, (i, x) ∈ os → x.cs.all D.nt = true) : Trs W E os w :=
  ⟨fun b i p hb => (by rw [ht] at hb; cases hb), fun i x hi j ty sz n cs hj => by have := List.all_eq_true.1 (h i x hi) _ (List.mem_of_getElem? hj); cases this⟩
structure SR (W : Nat → Prop) (E : Env) (os : List (Nat × Ob)) (nb : Nat) (w : World) : Prop where
  obs : ∀ i x, (i, x) ∈ os → ObAt W E w i x
  new : ∀ i, nb ≤ i → E.at_ i = Option.none
  rolt : ∀ b, E.ro b → b < w.heap.size
  apart : ∀ i x j y, (i, x) ∈ os → (j, y) ∈ os → i ≠ j → ∀ l m, E.at_ i = some (some l) → E.at_ j = some (some m) → l.g ≠ m.g
  nodup : (os.map (·.1)).Nodup
  tr : Trs W E os w

/-- What a call began with. -/
structure Ctx where
  w : World
  E : Env
  mine : Nat → Prop
  nb : Nat
  new : ∀ i, nb ≤ i → E.at_ i = none
def Ctx.W (X : Ctx) (g : Nat) : Prop := X.w.heap.size ≤ g ∨ X.mine g

structure Step (X : Ctx) (E : Env) (nb : Nat) (w : World) : Prop where
  le : X.E.le E
  os : w.os = X.w.os
  tape : w.tape = X.w.tape
  output : w.output = X.w.output
  size : X.w.heap.size ≤ w.heap.size
  block : ∀ b, b < X.w.heap.size → ¬ X.mine b → w.heap[b]? = X.w.heap[b]?
  ro : ∀ b, E.ro b → X.E.ro b ∨ X.W b
  nb : X.nb ≤ nb

structure St where
  tm : List D
  os : List (Nat × Ob)
  nb : Nat

structure Rel (X : Ctx) (s : St) (E : Env) (a : Act) (w : World) : Prop where
  sz : a.tmps.size = s.tm.length
  tm : ∀ (t : Nat) (d : D), s.tm[t]? = some d → Rep E w d (a.tmps.getD t undef)
  df : a.defers = []
  sr : SR X.W E s.os s.nb w
  st : Step X E s.nb w

def St.get (s : St) (t : Nat) : D := (s.tm[t]?).getD .none
def St.put (s : St) (dst : Option Tmp) (d : D) : St := match dst with | some t => { s with tm := s.tm.set t d } | none => s
def St.ev (s : St) : Operand → D
  | .tmp t => s.get t
  | .const v => if v.oneCell' then .sc v else .none
  | .global _ => .none
  | .func f => .fn f []

theorem Rel.ev {X : Ctx} {s : St} {E : Env} {a : Act} {w : World} (h : Rel X s E a w) (x : Operand) : Rep E w (s.ev x) (a.eval x) := by
  cases x with
  | tmp t =>
    show Rep E w (s.get t) (a.tmps.getD t undef)
    unfold St.get
    cases hd : s.tm[t]? with
    | none => trivial
    | some d => exact h.tm t d hd
  | const v =>
    show Rep E w (if v.oneCell' then .sc v else .none) v
    split
    · rename_i h1; exact ⟨rfl, h1⟩
    · trivial
  | global g => trivial
  | func f => exact ⟨[], rfl, rfl, fun j d v hc => by simp at hc⟩

theorem Rel.put {X : Ctx} {s : St} {E : Env} {a : Act} {w : World} (h : Rel X s E a w) (dst : Option Tmp) {d : D} {v : Value} (hv : Rep E w d v) : Rel X (s.put dst d) E (a.put dst v) w := by
  cases dst with
  | none => exact h
  | some t =>
    refine ⟨?_, ?_, h.df, h.sr, h.st⟩
    · simpa [St.put, Act.put] using h.sz
    · intro k e he
      simp only [St.put, List.getElem?_set] at he
      simp only [Act.put]
      by_cases hk : t = k
      · subst hk
        simp only [if_true] at he
        split at he
        · rename_i hlt
          injection he with he
          subst he
          rw [Array.getD_eq_getD_getElem?, Array.getElem?_setIfInBounds]
          rw [if_pos rfl, if_pos (by rw [h.sz]; exact hlt)]
          exact hv
        · cases he
      · rw [if_neg hk] at he
        rw [Array.getD_eq_getD_getElem?, Array.getElem?_setIfInBounds, if_neg hk, ← Array.getD_eq_getD_getElem?]
        exact h.tm k e he
theorem Rel.undef {X : Ctx} {s : St} {E : Env} {a : Act} {w : World} (h : Rel X s E a w) (dst : Option Tmp) : Rel X (s.put dst .none) E (a.put dst undef) w := h.put dst trivial

/-- The objects that lie apart from what is written, and all that is read only, are kept. -/
theorem ObAt.keep {W : Nat → Prop} {E E' : Env} {w w' : World} {i : Nat} {x : Ob} (h : ObAt W E w i x) (hE : E.le E') (hw : ∀ b, E.ro b → w'.heap[b]? = w.heap[b]?)
    (hg : ∀ l, E.at_ i = some (some l) → w'.heap[l.g]? = w.heap[l.g]? ∧ ¬ E'.ro l.g) : ObAt W E' w' i x := by
  refine ⟨h.1, ?_⟩
  rcases h.2 with ⟨h1, h2⟩ | ⟨l, h1, h2, h3, h4, h5, ⟨cur, h6, h7, h8⟩ | ⟨h6, es, clock, h7, h8⟩⟩
  · exact .inl ⟨hE.at_ _ _ h1, h2⟩
  · obtain ⟨hg1, hg2⟩ := hg l h1
    refine .inr ⟨l, hE.at_ _ _ h1, h2, hg2, h4, h5, .inl ⟨cur, hg1.trans h6, h7, fun j d hd => ?_⟩⟩
    obtain ⟨u, hu, h9, h10⟩ := h8 j d hd
    exact ⟨u, hu, h9, h10.keep hE hw⟩
  · obtain ⟨hg1, hg2⟩ := hg l h1
    exact .inr ⟨l, hE.at_ _ _ h1, h2, hg2, h4, h5, .inr ⟨h6, es, clock, hg1.trans h7, h8⟩⟩
theorem SR.lt {W : Nat → Prop} {E : Env} {os : List (Nat × Ob)} {nb : Nat} {w : World} (h : SR W E os nb w) {i : Nat} {x : Ob} (hi : (i, x) ∈ os) {l : Loc} (hl : E.at_ i = some (some l)) : l.g < w.heap.size := by
  rcases (h.obs i x hi).2 with ⟨h1, _⟩ | ⟨l', h1, _, _, _, _, h7⟩
  · rw [hl] at h1; cases h1
  · rw [hl] at h1
    injection h1 with h1
    injection h1 with h1
    subst h1
    rcases h7 with ⟨cur, h6, _⟩ | ⟨_, es, clock, h6, _⟩ <;> exact (Array.getElem?_eq_some_iff.1 h6).1
theorem SR.idlt {W : Nat → Prop} {E : Env} {os : List (Nat × Ob)} {nb : Nat} {w : World} (h : SR W E os nb w) {i : Nat} {x : Ob} (hi : (i, x) ∈ os) : i < nb := by
  rcases Nat.lt_or_ge i nb with hlt | hge
  · exact hlt
  · have h0 := h.new i hge
    rcases (h.obs i x hi).2 with ⟨h1, _⟩ | ⟨l', h1, _⟩ <;> rw [h0] at h1 <;> cases h1
end Go.Proofs.YtemaanibghedlaaGreat
