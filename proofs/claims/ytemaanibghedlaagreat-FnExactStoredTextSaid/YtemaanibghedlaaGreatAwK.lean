/- The logic over data: objects under other numbers; contracts that take objects and give objects back. -/
import Derived.Test.YtemaanibghedlaaGreatAwJ
namespace Go.Proofs.YtemaanibghedlaaGreat
open Go.RowKit

def D.ren1 (f : Nat → Nat) : D → D
  | .own i off n => .own (f i) off n
  | .ptr i o => .ptr (f i) o
  | .mp i => .mp (f i)
  | .fn g cap => .fn g (cap.map fun d => match d with | .ptr i o => .ptr (f i) o | d => d)
  | d => d
def D.renA (f : Nat → Nat) : D → D
  | .agg cs => .agg (cs.map (D.ren1 f))
  | d => d.ren1 f
def D.ren (f : Nat → Nat) : D → D
  | .tup ds => .tup (ds.map (D.renA f))
  | d => d.renA f
def Ob.ren (f : Nat → Nat) (x : Ob) : Ob := { x with cs := x.cs.map (D.ren1 f) }
def D.in1 (p : Nat → Bool) : D → Bool
  | .own i _ _ => p i
  | .ptr i _ => p i
  | .mp i => p i
  | .fn _ cap => cap.all fun d => match d with | .ptr i _ => p i | _ => true
  | _ => true
def D.inA (p : Nat → Bool) : D → Bool
  | .agg cs => cs.all (D.in1 p)
  | d => d.in1 p
def D.inn (p : Nat → Bool) : D → Bool
  | .tup ds => ds.all (D.inA p)
  | d => d.inA p
def every : Nat → Bool := fun _ => true
theorem D.in1_every (d : D) : d.in1 every = true := by
  cases d with
  | fn g cap => exact List.all_eq_true.2 fun d _ => by cases d <;> rfl
  | _ => rfl
theorem D.inA_every (d : D) : d.inA every = true := by
  by_cases h : ∃ ds, d = .agg ds
  · obtain ⟨ds, rfl⟩ := h
    exact List.all_eq_true.2 fun d _ => d.in1_every
  · have h1 := d.in1_every
    cases d <;> first | exact h1 | exact absurd ⟨_, rfl⟩ h
theorem D.inn_every (d : D) : d.inn every = true := by
  by_cases h : ∃ ds, d = .tup ds
  · obtain ⟨ds, rfl⟩ := h
    exact List.all_eq_true.2 fun d _ => d.inA_every
  · have h1 := d.inA_every
    cases d <;> first | exact h1 | exact absurd ⟨_, rfl⟩ h

structure Env.via (p : Nat → Bool) (E E' : Env) (f : Nat → Nat) : Prop where
  at_ : ∀ i l, p i = true → E.at_ i = some l → E'.at_ (f i) = some l
  ro : ∀ b, E.ro b → E'.ro b
theorem Rep1.ren {p : Nat → Bool} {E E' : Env} {w : World} {f : Nat → Nat} {d : D} {u : Value} (h : Rep1 E w d u) (hp : d.in1 p = true) (hE : E.via p E' f) : Rep1 E' w (d.ren1 f) u := by
  cases d with
  | none => trivial
  | sc v => exact h
  | sl n cs => exact RepP.keep h hE.ro fun _ _ => rfl
  | own i off n =>
    rcases h with ⟨l, c, h1, h2⟩ | ⟨h1, h2⟩
    · exact .inl ⟨l, c, hE.at_ _ _ hp h1, h2⟩
    · exact .inr ⟨hE.at_ _ _ hp h1, h2⟩
  | agg cs => exact h
  | ptr i o =>
    obtain ⟨l, h1, h2⟩ := h
    exact ⟨l, hE.at_ _ _ hp h1, h2⟩
  | mp i =>
    obtain ⟨l, h1, h2⟩ := h
    exact ⟨l, hE.at_ _ _ hp h1, h2⟩
  | cptr cs k =>
    obtain ⟨b, o, us, h1, h2, h3, h4, h5⟩ := h
    exact ⟨b, o, us, h1, hE.ro b h2, h3, h4, fun j d v hd hv => (h5 j d v hd hv).keep hE.ro fun _ _ => rfl⟩
  | tup ds => exact h
  | tr => trivial
  | fn g cap =>
    obtain ⟨us, h1, h2, h3⟩ := h
    refine ⟨us, h1, by simp [h2], fun j e v hc hv => ?_⟩
    rw [List.getElem?_map] at hc
    cases hj : cap[j]? with
    | none => rw [hj] at hc; cases hc
    | some d =>
      rw [hj] at hc
      have h6 := h3 j d v hj hv
      have := List.all_eq_true.1 hp _ (List.mem_of_getElem? hj)
      injection hc with hc
      subst hc
      cases d with
      | ptr i' o' =>
        obtain ⟨l, h4, h5⟩ := h6
        exact ⟨l, hE.at_ _ _ this h4, h5⟩
      | sl n cs => exact RepP.keep h6 hE.ro fun _ _ => rfl
      | cptr cs k =>
        obtain ⟨b, o, us, e1, e2, e3, e4, e5⟩ := h6
        exact ⟨b, o, us, e1, hE.ro b e2, e3, e4, fun j d v hd hv => (e5 j d v hd hv).keep hE.ro fun _ _ => rfl⟩
      | sc v => exact h6
      | _ => trivial
theorem RepA.ren {p : Nat → Bool} {E E' : Env} {w : World} {f : Nat → Nat} {d : D} {u : Value} (h : RepA E w d u) (hp : d.inA p = true) (hE : E.via p E' f) : RepA E' w (d.renA f) u := by
  by_cases ha : ∀ cs, d ≠ .agg cs
  · rw [repA_of ha] at h
    have hp' : d.in1 p = true := by cases d <;> first | exact hp | exact absurd rfl (ha _)
    have h2 := h.ren hp' hE
    cases d <;> first | exact h2 | exact absurd rfl (ha _)
  · obtain ⟨cs, ha⟩ := Classical.not_forall.1 ha
    obtain rfl := Classical.not_not.1 ha
    obtain ⟨us, h1, h2, h3⟩ := h
    refine ⟨us, h1, by simp [h2], fun j d v hj hv => ?_⟩
    rw [List.getElem?_map] at hj
    cases hc : cs[j]? with
    | none => rw [hc] at hj; cases hj
    | some e =>
      rw [hc] at hj
      injection hj with hj
      subst hj
      obtain ⟨h4, h5⟩ := h3 j e v hc hv
      exact ⟨h4.ren (List.all_eq_true.1 hp _ (List.mem_of_getElem? hc)) hE, h5⟩
theorem Rep.ren {p : Nat → Bool} {E E' : Env} {w : World} {f : Nat → Nat} {d : D} {u : Value} (h : Rep E w d u) (hp : d.inn p = true) (hE : E.via p E' f) : Rep E' w (d.ren f) u := by
  by_cases ha : ∀ cs, d ≠ .tup cs
  · rw [rep_of ha] at h
    have hp' : d.inA p = true := by cases d <;> first | exact hp | exact absurd rfl (ha _)
    have h2 := h.ren hp' hE
    cases d <;> first | exact h2 | exact absurd rfl (ha _)
  · obtain ⟨cs, ha⟩ := Classical.not_forall.1 ha
    obtain rfl := Classical.not_not.1 ha
    obtain ⟨us, h1, h2, h3⟩ := h
    refine ⟨us, h1, by simp [h2], fun j d v hj hv => ?_⟩
    rw [List.getElem?_map] at hj
    cases hc : cs[j]? with
    | none => rw [hc] at hj; cases hj
    | some e =>
      rw [hc] at hj
      injection hj with hj
      subst hj
      exact (h3 j e v hc hv).ren (List.all_eq_true.1 hp _ (List.mem_of_getElem? hc)) hE

theorem mapOk_ren {cs : List D} {es : Array MapEntry} {f : Nat → Nat} (h : MapOk cs es) : MapOk (cs.map (D.ren1 f)) es := by
  refine ⟨?_, h.2⟩
  rw [h.1, List.map_cons, List.map_flatMap]
  rfl
/-- The object's blocks. -/
def mineOf (E : Env) (os : List (Nat × Ob)) (g : Nat) : Prop := ∃ i x l, (i, x) ∈ os ∧ E.at_ i = some (some l) ∧ l.g = g
theorem ObAt.ren {p : Nat → Bool} {W W' : Nat → Prop} {E E' : Env} {w : World} {j : Nat} {x : Ob} {f : Nat → Nat} (h : ObAt W E w j x) (hp : p j = true) (hc : x.cs.all (D.in1 p) = true) (hE : E.via p E' f)
    (hW : ∀ l, E.at_ j = some (some l) → W l.g → ¬ E.ro l.g → W' l.g ∧ ¬ E'.ro l.g) : ObAt W' E' w (f j) (x.ren f) := by
  refine ⟨fun hs => by show (x.cs.map _).length = _; rw [List.length_map]; exact h.1 hs, ?_⟩
  rcases h.2 with ⟨h1, h2⟩ | ⟨l, h1, h2, h3, h4, h5, ⟨cur, h6, h7, h8⟩ | ⟨h6, es, clock, h7, h8⟩⟩
  · exact .inl ⟨hE.at_ _ _ hp h1, h2⟩
  · obtain ⟨h9, h10⟩ := hW l h1 h2 h3
    refine .inr ⟨l, hE.at_ _ _ hp h1, h9, h10, h4, h5, .inl ⟨cur, h6, h7, fun i d hd => ?_⟩⟩
    have hd' : (x.cs.map (D.ren1 f))[i]? = some d := hd
    rw [List.getElem?_map] at hd'
    cases hi : x.cs[i]? with
    | none => rw [hi] at hd'; cases hd'
    | some e =>
      rw [hi] at hd'
      injection hd' with hd'
      subst hd'
      obtain ⟨u, h11, h12, h13⟩ := h8 i e hi
      exact ⟨u, h11, h12, h13.ren (List.all_eq_true.1 hc _ (List.mem_of_getElem? hi)) hE⟩
  · obtain ⟨h9, h10⟩ := hW l h1 h2 h3
    exact .inr ⟨l, hE.at_ _ _ hp h1, h9, h10, h4, h5, .inr ⟨h6, es, clock, h7, mapOk_ren h8⟩⟩

/-! Some objects alone, under the numbers 0, 1, .. -/
def sg : List Nat → Nat → Nat
  | [], _ => 0
  | j :: ρ, i => if i = j then 0 else sg ρ i + 1
theorem sg_at : ∀ {ρ : List Nat} {i : Nat}, ρ.contains i = true → ρ[sg ρ i]? = some i
  | [], i, h => by simp at h
  | j :: ρ, i, h => by
    unfold sg
    split
    · rename_i e; subst e; rfl
    · rename_i e
      rw [List.getElem?_cons_succ]
      refine sg_at ?_
      simp at h ⊢
      rcases h with h | h
      · exact absurd h e
      · exact h
theorem sg_inj {ρ : List Nat} {i j : Nat} (hi : ρ.contains i = true) (hj : ρ.contains j = true) (h : sg ρ i = sg ρ j) : i = j := by
  have h1 := sg_at hi
  rw [h, sg_at hj] at h1
  injection h1 with h1
  exact h1.symm
def Env.hand (E : Env) (ρ : List Nat) : Env := ⟨E.ro, fun i => match ρ[i]? with | some j => E.at_ j | none => none, fun b => match E.tg b with | some (k, p) => if ρ.contains k = true then some (sg ρ k, p) else none | none => none⟩
theorem Env.hand_of {E : Env} {ρ : List Nat} {i j : Nat} (h : ρ[i]? = some j) : (E.hand ρ).at_ i = E.at_ j := by
  show (match ρ[i]? with | some j => E.at_ j | none => none) = _
  rw [h]
theorem Env.hand_via (E : Env) (ρ : List Nat) : E.via ρ.contains (E.hand ρ) (sg ρ) := ⟨fun _ _ hp h => (Env.hand_of (sg_at hp)).trans h, fun _ h => h⟩
def handOs (os : List (Nat × Ob)) (f : Nat → Nat) : List Nat → List (Nat × Ob)
  | [] => []
  | j :: l => match os.lookup j with | some x => (f j, x.ren f) :: handOs os f l | none => handOs os f l
theorem mem_handOs {os : List (Nat × Ob)} {f : Nat → Nat} {i : Nat} {y : Ob} : ∀ {l : List Nat}, (i, y) ∈ handOs os f l → ∃ j x, j ∈ l ∧ os.lookup j = some x ∧ i = f j ∧ y = x.ren f
  | [], h => by cases h
  | j :: l, h => by
    unfold handOs at h
    split at h
    · rename_i x hx
      rcases List.mem_cons.1 h with h | h
      · injection h with h1 h2
        exact ⟨j, x, List.mem_cons_self .., hx, h1, h2⟩
      · obtain ⟨j', x', h1, h2⟩ := mem_handOs h
        exact ⟨j', x', List.mem_cons_of_mem _ h1, h2⟩
    · obtain ⟨j', x', h1, h2⟩ := mem_handOs h
      exact ⟨j', x', List.mem_cons_of_mem _ h1, h2⟩
theorem handOs_mem {os : List (Nat × Ob)} {f : Nat → Nat} {j : Nat} {x : Ob} (hx : os.lookup j = some x) : ∀ {l : List Nat}, j ∈ l → (f j, x.ren f) ∈ handOs os f l
  | j' :: l, h => by
    unfold handOs
    rcases List.mem_cons.1 h with h | h
    · subst h
      rw [hx]
      exact List.mem_cons_self ..
    · split
      · exact List.mem_cons_of_mem _ (handOs_mem hx h)
      · exact handOs_mem hx h
theorem handOs_nodup {os : List (Nat × Ob)} {f : Nat → Nat} : ∀ {l : List Nat}, l.Nodup → (∀ i ∈ l, ∀ j ∈ l, f i = f j → i = j) → ((handOs os f l).map (·.1)).Nodup
  | [], _, _ => List.nodup_nil
  | j :: l, h, hf => by
    have h' := List.nodup_cons.1 h
    have ih := handOs_nodup (os := os) h'.2 fun i hi k hk => hf i (List.mem_cons_of_mem _ hi) k (List.mem_cons_of_mem _ hk)
    unfold handOs
    split
    · rw [List.map_cons, List.nodup_cons]
      refine ⟨fun hm => ?_, ih⟩
      obtain ⟨⟨i, y⟩, hp, he⟩ := List.mem_map.1 hm
      obtain ⟨k, x, h1, _, h3, _⟩ := mem_handOs hp
      have he' : i = f j := he
      have := hf k (List.mem_cons_of_mem _ h1) j (List.mem_cons_self ..) (h3.symm.trans he')
      subst this
      exact h'.1 h1
    · exact ih
/-- The objects ρ hold no others. -/
def insOk (os : List (Nat × Ob)) (ρ : List Nat) (miss : Bool) : Bool := ρ.all fun j => match os.lookup j with | some x => x.cs.all (D.in1 ρ.contains) | none => miss
theorem insOk_at {os : List (Nat × Ob)} {ρ : List Nat} {miss : Bool} (h : insOk os ρ miss = true) {j : Nat} {x : Ob} (hj : j ∈ ρ) (hx : os.lookup j = some x) : x.cs.all (D.in1 ρ.contains) = true := by
  have := List.all_eq_true.1 h j hj
  rw [hx] at this
  exact this
theorem insOk_some {os : List (Nat × Ob)} {ρ : List Nat} (h : insOk os ρ false = true) {j : Nat} (hj : j ∈ ρ) : ∃ x, os.lookup j = some x := by
  have := List.all_eq_true.1 h j hj
  cases hx : os.lookup j with
  | none => rw [hx] at this; cases this
  | some x => exact ⟨x, rfl⟩
theorem hand_sr {W W' : Nat → Prop} {E : Env} {os : List (Nat × Ob)} {nb : Nat} {w : World} (h : SR W E os nb w) (ρ : List Nat) (hρ : ρ.Nodup) {miss : Bool} (hin : insOk os ρ miss = true)
    (hW : ∀ j x l, j ∈ ρ → os.lookup j = some x → E.at_ j = some (some l) → W l.g → W' l.g) (hT : ∀ b k p, E.tg b = some (k, p) → ρ.contains k = true → W b → W' b) : SR W' (E.hand ρ) (handOs os (sg ρ) ρ) ρ.length w := by
  refine ⟨fun i y hy => ?_, fun i hi => ?_, h.rolt, fun i y j z hy hz hij l m hl hm => ?_, handOs_nodup hρ fun i hi j hj => sg_inj (by simpa using hi) (by simpa using hj), ?_⟩
  · obtain ⟨j, x, h1, h2, rfl, rfl⟩ := mem_handOs hy
    exact (h.obs j x (mem_of_lookup h2)).ren (by simpa using h1) (insOk_at hin h1 h2) (E.hand_via ρ) fun l hl hw hr => ⟨hW j x l h1 h2 hl hw, hr⟩
  · show (match ρ[i]? with | some j => E.at_ j | none => none) = none
    rw [List.getElem?_eq_none hi]
  · obtain ⟨i', x, h1, h2, rfl, rfl⟩ := mem_handOs hy
    obtain ⟨j', x', h3, h4, rfl, rfl⟩ := mem_handOs hz
    rw [Env.hand_of (sg_at (by simpa using h1))] at hl
    rw [Env.hand_of (sg_at (by simpa using h3))] at hm
    exact h.apart i' x j' x' (mem_of_lookup h2) (mem_of_lookup h4) (fun e => hij (by rw [e])) l m hl hm
  · refine h.tr.map (fun k => ρ.contains k = true) (sg ρ) (fun b k' p hq => ?_) (fun b k p hq hA => ?_) (fun b k p hq hA h1 h2 h3 h4 => ⟨h1, rfl, hT b k p hq hA h2, h3, fun j y l hj hl => ?_⟩) fun k' x' hx j ty sz n cs hj => ?_
    · have hq' : (match E.tg b with | some (k, p) => if ρ.contains k = true then some (sg ρ k, p) else none | none => none) = some (k', p) := hq
      cases ht : E.tg b with
      | none => rw [ht] at hq'; cases hq'
      | some kp =>
        obtain ⟨k, p0⟩ := kp
        rw [ht] at hq'
        simp only at hq'
        split at hq'
        · rename_i hA
          injection hq' with hq'; injection hq' with _ e2; subst e2
          exact ⟨k, rfl, hA⟩
        · cases hq'
    · show (match E.tg b with | some (k, p) => if ρ.contains k = true then some (sg ρ k, p) else none | none => none) = some (sg ρ k, p)
      rw [hq]
      exact if_pos hA
    · obtain ⟨j0, x, e1, e2, rfl, rfl⟩ := mem_handOs hj
      rw [Env.hand_of (sg_at (by simpa using e1))] at hl
      exact h4 j0 x l (mem_of_lookup e2) hl
    · obtain ⟨j0, x, e1, e2, rfl, rfl⟩ := mem_handOs hx
      have hj' : (x.cs.map (D.ren1 (sg ρ)))[j]? = some (.tr ty sz n cs) := hj
      rw [List.getElem?_map] at hj'
      cases hx2 : x.cs[j]? with
      | none => rw [hx2] at hj'; cases hj'
      | some d =>
        rw [hx2] at hj'
        injection hj' with hj'
        have hd : d = .tr ty sz n cs := by cases d <;> simp only [D.ren1, reduceCtorEq] at hj' <;> exact hj'
        exact ⟨j0, x, by simpa using e1, rfl, mem_of_lookup e2, by rw [hx2, hd], fun l hl => ⟨l, (Env.hand_of (sg_at (by simpa using e1))).trans hl, rfl⟩⟩

/-- A contract with objects: the function is handed the objects os (numbers 0, 1, .., k in all), and hands back os'. -/
def SpecH (P : Program) (f : FuncId) (ds : List D) (os : List (Nat × Ob)) (k : Nat) (Q : D → List (Nat × Ob) → Nat → Prop) : Prop :=
  (∀ (args : Array Value) (w : World), (callFunc f args).run P w = .ok (.enter f args) w) ∧
  ∀ (E : Env) (M : Nat → Prop) (w : World) (args : Array Value), SR M E os k w → args.size = ds.length → (∀ (j : Nat) (d : D), ds[j]? = some d → Rep E w d (args.getD j undef)) →
    Calls P f args w fun e w' => ∃ d os' nb' E' v, Q d os' nb' ∧ e = .returned v ∧ Rep E' w' d v ∧ SR (fun g => w.heap.size ≤ g ∨ M g) E' os' nb' w' ∧ k ≤ nb' ∧ E.le E' ∧
      w'.os = w.os ∧ w'.tape = w.tape ∧ w'.output = w.output ∧ w.heap.size ≤ w'.heap.size ∧ (∀ b, b < w.heap.size → ¬ M b → w'.heap[b]? = w.heap[b]?) ∧ (∀ b, E'.ro b → E.ro b ∨ w.heap.size ≤ b ∨ M b) ∧ (∀ i l, k ≤ i → E'.at_ i = some (some l) → w.heap.size ≤ l.g ∨ M l.g)

def D.flat : D → Bool
  | .tup _ => false
  | _ => true
/-- What is handed back: the objects that were handed, and ids. -/
def retAt (P : Program) (rs : List ResultVar) (k : Nat) (Q : D → List (Nat × Ob) → Nat → Prop) (s : St) (ids : List Nat) : Prop :=
  match resAll P s rs with
  | some ds => (ds.all D.flat = true ∧ ds.all (D.inn (List.range k ++ ids).contains) = true ∧ (List.range k ++ ids).Nodup ∧ insOk s.os (List.range k ++ ids) true = true ∧ ids.all (fun j => (s.os.lookup j).isSome) = true) ∧
      Q (tupD (ds.map (D.ren (sg (List.range k ++ ids))))) (handOs s.os (sg (List.range k ++ ids)) (List.range k ++ ids)) (List.range k ++ ids).length
  | none => False
def retOkH (P : Program) (rs : List ResultVar) (k : Nat) (Q : D → List (Nat × Ob) → Nat → Prop) (s : St) : Prop := ∃ ids, retAt P rs k Q s ids
def retQH (P : Program) (rs : List ResultVar) (k : Nat) (Q : D → List (Nat × Ob) → Nat → Prop) : Exit → St → Prop
  | .normal, s => retOkH P rs k Q s
  | .ret, s => retOkH P rs k Q s
  | _, _ => False
theorem rqh_normal (P : Program) (rs : List ResultVar) (k : Nat) (Q : D → List (Nat × Ob) → Nat → Prop) (s : St) : retQH P rs k Q .normal s = retOkH P rs k Q s := rfl
theorem rqh_ret (P : Program) (rs : List ResultVar) (k : Nat) (Q : D → List (Nat × Ob) → Nat → Prop) (s : St) : retQH P rs k Q .ret s = retOkH P rs k Q s := rfl

theorem run_resultsH {X : Ctx} {P : Program} {s : St} {E : Env} {a : Act} {w : World} (hr : Rel X s E a w) {fn : Func} {ds : List D} (h : resAll P s fn.results.toList = some ds) (hn : ds.all D.flat = true) :
    ∃ v, (results fn a.tmps).run P w = .ok v w ∧ Rep E w (tupD ds) v := by
  obtain ⟨us, h1, h2, h3⟩ := run_resAll hr h
  have hrun : (results fn a.tmps).run P w = .ok (if h : us.toArray.size = 1 then us.toArray[0] else .tuple us.toArray) w := by
    rw [results_eq, Array.mapM_eq_mapM_toList]
    simp only [Sem.run_bind, map_eq_pure_bind]
    rw [h1]
    simp
  refine ⟨_, hrun, ?_⟩
  rcases ds with _ | ⟨d, _ | ⟨d', ds⟩⟩
  · have : us = [] := List.eq_nil_of_length_eq_zero h2
    subst this
    exact ⟨[], rfl, rfl, fun j d v hd => by simp at hd⟩
  · obtain ⟨u, rfl⟩ : ∃ u, us = [u] := List.length_eq_one_iff.1 h2
    exact h3 0 d u rfl rfl
  · have hl : ¬ us.toArray.size = 1 := by simp; simp at h2; omega
    rw [dif_neg hl]
    refine ⟨us, rfl, h2, fun j e v he hv => ?_⟩
    have h4 := h3 j e v he hv
    have hna : e.flat = true := List.all_eq_true.1 hn e (List.mem_of_getElem? he)
    by_cases ht : ∀ cs, e ≠ .tup cs
    · rwa [rep_of ht] at h4
    · obtain ⟨cs, ht⟩ := Classical.not_forall.1 ht
      obtain rfl := Classical.not_not.1 ht
      cases hna
theorem tup_inn {p : Nat → Bool} {ds : List D} (h : ds.all (D.inn p) = true) (hf : ds.all D.flat = true) : (tupD ds).inn p = true := by
  rcases ds with _ | ⟨d, _ | ⟨d', ds⟩⟩
  · rfl
  · exact List.all_eq_true.1 h d (List.mem_cons_self ..)
  · refine List.all_eq_true.2 fun e he => ?_
    have h1 := List.all_eq_true.1 h e he
    have h2 := List.all_eq_true.1 hf e he
    cases e <;> first | exact h1 | cases h2
theorem tup_ren {f : Nat → Nat} {ds : List D} (hf : ds.all D.flat = true) : (tupD ds).ren f = tupD (ds.map (D.ren f)) := by
  rcases ds with _ | ⟨d, _ | ⟨d', ds⟩⟩
  · rfl
  · rfl
  · show D.tup _ = D.tup _
    congr 1
    refine List.map_congr_left fun e he => ?_
    have h2 := List.all_eq_true.1 hf e he
    cases e <;> first | rfl | cases h2

theorem specH_introA {P : Program} {f : FuncId} {fn : Func} {c : Code} {ds : List D} {os : List (Nat × Ob)} {Q : D → List (Nat × Ob) → Nat → Prop} {rs : List ResultVar} (hf : P.funcs[f]? = some fn) (hb : fn.body = some c) (hn : (fn.name == "runtime.NumGoroutine") = false) (hrs : fn.results = rs.toArray) {nt : Nat} (hnt : fn.ntmps = nt) (hsz : ds.length ≤ nt) {k : Nat}
    (h : ∀ X : Ctx, X.nb = k → AwCode X P c ⟨ds ++ List.replicate (nt - ds.length) .none, os, k⟩ (retQH P rs k Q)) : SpecH P f ds os k Q := by
  subst hnt
  have h1 : fn.name ≠ "runtime.NumGoroutine" := by simpa using hn
  refine ⟨fun args w => by simp [callFunc, hf, h1, hb], fun E M w args hsr has hrep => ?_⟩
  have has' : args.size = ds.length := has
  refine calls_of_wp hf hb ?_
  refine (h ⟨w, E, M, k, hsr.new⟩ rfl).out E _ w _ ?_ ?_
  · refine ⟨by simp; omega, fun t d hd => ?_, rfl, ⟨fun i x hi => ?_, hsr.new, hsr.rolt, hsr.apart, hsr.nodup, hsr.tr.keep rfl (fun b k p _ h1 h2 h3 h4 => ⟨h1, rfl, .inr h2, h3, h4⟩) fun k' x' hx j ty sz n cs hj => ⟨x', hx, hj, fun l hl => ⟨hl, rfl⟩⟩⟩, ⟨.refl _, rfl, rfl, rfl, Nat.le_refl _, fun _ _ _ => rfl, fun b hb => .inl hb, Nat.le_refl _⟩⟩
    · by_cases ht : t < ds.length
      · rw [List.getElem?_append_left ht] at hd
        have h2 := hrep t d hd
        rw [Array.getD_eq_getD_getElem?, Array.getElem?_append_left (by omega), ← Array.getD_eq_getD_getElem?]
        exact h2
      · rw [List.getElem?_append_right (by omega), List.getElem?_replicate] at hd
        split at hd
        · injection hd with hd
          subst hd
          trivial
        · cases hd
    · obtain ⟨h2, h3⟩ := hsr.obs i x hi
      refine ⟨h2, ?_⟩
      rcases h3 with h3 | ⟨l, h3, h4, h5⟩
      · exact .inl h3
      · exact .inr ⟨l, h3, .inr h4, h5⟩
  · intro e s' E' a' w' hq hr
    have fin : retOkH P rs k Q s' → a'.defers = [] ∧ ∃ v, (results fn a'.tmps).run P w' = .ok v w' ∧ (∃ d os' nb' E' v', Q d os' nb' ∧ Ending.returned v = .returned v' ∧ Rep E' w' d v' ∧ SR (fun g => w.heap.size ≤ g ∨ M g) E' os' nb' w' ∧ k ≤ nb' ∧ E.le E' ∧
      w'.os = w.os ∧ w'.tape = w.tape ∧ w'.output = w.output ∧ w.heap.size ≤ w'.heap.size ∧ (∀ b, b < w.heap.size → ¬ M b → w'.heap[b]? = w.heap[b]?) ∧ (∀ b, E'.ro b → E.ro b ∨ w.heap.size ≤ b ∨ M b) ∧ (∀ i l, k ≤ i → E'.at_ i = some (some l) → w.heap.size ≤ l.g ∨ M l.g)) := by
      rintro ⟨ids, hq⟩
      unfold retAt at hq
      split at hq
      · rename_i ds' hds
        obtain ⟨⟨hq1, hq2, hq3, hq4, hq6⟩, hq5⟩ := hq
        have hds' : resAll P s' fn.results.toList = some ds' := by rw [hrs]; exact hds
        obtain ⟨v, h3, h4⟩ := run_resultsH hr hds' hq1
        have h5 := h4.ren (tup_inn hq2 hq1) (E'.hand_via _)
        rw [tup_ren hq1] at h5
        refine ⟨hr.df, v, h3, _, _, _, E'.hand (List.range k ++ ids), v, hq5, rfl, h5, hand_sr hr.sr _ hq3 hq4 (fun j x l _ _ _ hw => hw) (fun _ _ _ _ _ hw => hw),
          by simp, ⟨fun i l hl => ?_, hr.st.le.ro⟩, hr.st.os, hr.st.tape, hr.st.output, hr.st.size, hr.st.block, hr.st.ro, fun i l h6 h7 => ?_⟩
        rotate_left
        · have h8 : (match (List.range k ++ ids)[i]? with | some j => E'.at_ j | none => none) = some (some l) := h7
          rw [List.getElem?_append_right (by simpa using h6)] at h8
          split at h8
          · rename_i j hj
            have h9 := List.all_eq_true.1 hq6 j (List.mem_of_getElem? hj)
            obtain ⟨x, hx⟩ := Option.isSome_iff_exists.1 h9
            rcases (hr.sr.obs j x (mem_of_lookup hx)).2 with ⟨h10, _⟩ | ⟨m, h10, h11, _⟩
            · rw [h8] at h10; cases h10
            · rw [h8] at h10; injection h10 with h10; injection h10 with h10; subst h10; exact h11
          · cases h8
        have hi : i < k := by
          rcases Nat.lt_or_ge i k with h | h
          · exact h
          · rw [hsr.new i h] at hl; cases hl
        rw [Env.hand_of (j := i) (by rw [List.getElem?_append_left (by simpa using hi)]; simp [hi])]
        exact hr.st.le.at_ i l hl
      · exact hq.elim
    cases e with
    | normal => exact fin hq
    | ret => exact fin hq
    | _ => exact hq.elim
theorem specH_intro {P : Program} {f : FuncId} {fn : Func} {c : Code} {ds : List D} {os : List (Nat × Ob)} {Q : D → List (Nat × Ob) → Nat → Prop} {rs : List ResultVar} (hf : P.funcs[f]? = some fn) (hb : fn.body = some c) (hn : (fn.name == "runtime.NumGoroutine") = false) (hrs : fn.results = rs.toArray) {nt : Nat} (hnt : fn.ntmps = nt) (hsz : ds.length ≤ nt) {k : Nat}
    (h : ∀ X : Ctx, X.nb = k → WCode X P c (retQH P rs k Q) ⟨ds ++ List.replicate (nt - ds.length) .none, os, k⟩) : SpecH P f ds os k Q :=
  specH_introA hf hb hn hrs hnt hsz fun X hX => wcode_sound (h X hX)
end Go.Proofs.YtemaanibghedlaaGreat
