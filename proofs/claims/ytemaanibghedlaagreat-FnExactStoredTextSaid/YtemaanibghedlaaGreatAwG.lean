/- The logic over data: a function's contract out of its body; loops; old contracts turned. -/
import Derived.Test.YtemaanibghedlaaGreatAwF
namespace Go.Proofs.YtemaanibghedlaaGreat
open Go.RowKit

def retOk (P : Program) (rs : List ResultVar) (Q : D → Prop) (s : St) : Prop :=
  match resAll P s rs with | some ds => (tupD ds).noid = true ∧ Q (tupD ds) | none => False
def retQ (P : Program) (rs : List ResultVar) (Q : D → Prop) : Exit → St → Prop
  | .normal, s => retOk P rs Q s
  | .ret, s => retOk P rs Q s
  | _, _ => False

theorem rq_normal (P : Program) (rs : List ResultVar) (Q : D → Prop) (s : St) : retQ P rs Q .normal s = retOk P rs Q s := rfl
theorem rq_ret (P : Program) (rs : List ResultVar) (Q : D → Prop) (s : St) : retQ P rs Q .ret s = retOk P rs Q s := rfl
/-- What is asked of the world is said of what is only read: it stays. -/
structure TK (T : (Nat → Prop) → World → Prop) (X : Ctx) : Prop where
  ro : ∀ b, X.E.ro b → b < X.w.heap.size ∧ ¬ X.mine b
  is : T X.E.ro X.w
/-- A contract under a condition on data of the world that is only read (tables). -/
def SpecT (P : Program) (T : (Nat → Prop) → World → Prop) (f : FuncId) (ds : List D) (Q : D → Prop) : Prop :=
  (∀ (args : Array Value) (w : World), (callFunc f args).run P w = .ok (.enter f args) w) ∧
  ∀ (ro : Nat → Prop) (w : World) (args : Array Value), T ro w → (∀ b, ro b → b < w.heap.size) → args.size = ds.length → (∀ (j : Nat) (d : D), ds[j]? = some d → Rep (roEnv ro) w d (args.getD j undef)) →
    Calls P f args w fun e w' => ∃ d v, Q d ∧ e = .returned v ∧ Rep (roEnv fun b => ro b ∨ (w.heap.size ≤ b ∧ b < w'.heap.size)) w' d v ∧ Below w.heap.size w w'
def noT : (Nat → Prop) → World → Prop := fun _ _ => True
theorem SpecT.plain {P : Program} {f : FuncId} {ds : List D} {Q : D → Prop} (h : SpecT P noT f ds Q) : Spec P f ds Q := ⟨h.1, fun ro w args => h.2 ro w args trivial⟩
theorem Spec.toT {P : Program} {T : (Nat → Prop) → World → Prop} {f : FuncId} {ds : List D} {Q : D → Prop} (h : Spec P f ds Q) : SpecT P T f ds Q := ⟨h.1, fun ro w args _ => h.2 ro w args⟩
theorem specT_introA {P : Program} {f : FuncId} {fn : Func} {c : Code} {ds : List D} {Q : D → Prop} {rs : List ResultVar} {T : (Nat → Prop) → World → Prop} (hf : P.funcs[f]? = some fn) (hb : fn.body = some c) (hn : (fn.name == "runtime.NumGoroutine") = false) (hrs : fn.results = rs.toArray) {nt : Nat} (hnt : fn.ntmps = nt) (hsz : ds.length ≤ nt)
    (h : ∀ X : Ctx, X.nb = 0 → TK T X → AwCode X P c ⟨ds ++ List.replicate (nt - ds.length) .none, [], 0⟩ (retQ P rs Q)) : SpecT P T f ds Q := by
  subst hnt
  have h1 : fn.name ≠ "runtime.NumGoroutine" := by simpa using hn
  refine ⟨fun args w => by simp [callFunc, hf, h1, hb], fun ro w args hT hlt has hrep => ?_⟩
  have has' : args.size = ds.length := has
  refine calls_of_wp hf hb ?_
  refine (h ⟨w, roEnv ro, fun _ => False, 0, fun _ _ => rfl⟩ rfl ⟨fun b hb => ⟨hlt b hb, fun h => h⟩, hT⟩).out (roEnv ro) _ w _ ?_ ?_
  · refine ⟨by simp; omega, fun t d hd => ?_, rfl, ⟨fun i x hi => (by cases hi), fun _ _ => rfl, hlt, fun i x j y hi => (by cases hi), List.nodup_nil, .none (fun _ => rfl) fun _ _ h => (by cases h)⟩, ⟨.refl _, rfl, rfl, rfl, Nat.le_refl _, fun _ _ _ => rfl, fun b hb => .inl hb, Nat.le_refl _⟩⟩
    by_cases ht : t < ds.length
    · rw [List.getElem?_append_left ht] at hd
      have h2 := hrep t d hd
      rw [Array.getD_eq_getD_getElem?, Array.getElem?_append_left (by omega), ← Array.getD_eq_getD_getElem?]
      exact h2
    · rw [List.getElem?_append_right (by omega), List.getElem?_replicate] at hd
      split at hd
      · injection hd with hd
        subst hd
        trivial
      · cases hd
  · intro e s' E' a' w' hq hr
    have fin : retOk P rs Q s' → a'.defers = [] ∧ ∃ v, (results fn a'.tmps).run P w' = .ok v w' ∧ (∃ d v', Q d ∧ Ending.returned v = .returned v' ∧ Rep (roEnv fun b => ro b ∨ (w.heap.size ≤ b ∧ b < w'.heap.size)) w' d v' ∧ Below w.heap.size w w') := by
      intro hq
      unfold retOk at hq
      split at hq
      · rename_i ds' hds
        have hds' : resAll P s' fn.results.toList = some ds' := by rw [hrs]; exact hds
        obtain ⟨v, h3, h4⟩ := run_results hr hds' hq.1
        refine ⟨hr.df, v, h3, _, v, hq.2, rfl, h4.free hq.1 fun b hb => ?_, ⟨hr.st.os, hr.st.tape, hr.st.output, hr.st.size, fun b hb => hr.st.block b hb (fun h => h)⟩⟩
        rcases hr.st.ro b hb with h5 | h5 | h5
        · exact .inl h5
        · exact .inr ⟨h5, hr.sr.rolt b hb⟩
        · exact h5.elim
      · exact hq.elim
    cases e with
    | normal => exact fin hq
    | ret => exact fin hq
    | _ => exact hq.elim
theorem spec_introA {P : Program} {f : FuncId} {fn : Func} {c : Code} {ds : List D} {Q : D → Prop} {rs : List ResultVar} (hf : P.funcs[f]? = some fn) (hb : fn.body = some c) (hn : (fn.name == "runtime.NumGoroutine") = false) (hrs : fn.results = rs.toArray) {nt : Nat} (hnt : fn.ntmps = nt) (hsz : ds.length ≤ nt)
    (h : ∀ X : Ctx, X.nb = 0 → AwCode X P c ⟨ds ++ List.replicate (nt - ds.length) .none, [], 0⟩ (retQ P rs Q)) : Spec P f ds Q :=
  (specT_introA (T := noT) hf hb hn hrs hnt hsz fun X hX _ => h X hX).plain
theorem spec_intro {P : Program} {f : FuncId} {fn : Func} {c : Code} {ds : List D} {Q : D → Prop} {rs : List ResultVar} (hf : P.funcs[f]? = some fn) (hb : fn.body = some c) (hn : (fn.name == "runtime.NumGoroutine") = false) (hrs : fn.results = rs.toArray) {nt : Nat} (hnt : fn.ntmps = nt) (hsz : ds.length ≤ nt)
    (h : ∀ X : Ctx, X.nb = 0 → WCode X P c (retQ P rs Q) ⟨ds ++ List.replicate (nt - ds.length) .none, [], 0⟩) : Spec P f ds Q :=
  spec_introA hf hb hn hrs hnt hsz fun X hX => wcode_sound (h X hX)

/-! Weaker states. -/
def D.lt1 (n : Nat) : D → Bool
  | .own i _ _ => decide (i < n)
  | .ptr i _ => decide (i < n)
  | .mp i => decide (i < n)
  | .fn _ cap => cap.all fun d => match d with | .ptr i _ => decide (i < n) | _ => true
  | _ => true
def D.ltA (n : Nat) : D → Bool
  | .agg cs => cs.all (D.lt1 n)
  | d => d.lt1 n
def D.lt (n : Nat) : D → Bool
  | .tup ds => ds.all (D.ltA n)
  | d => d.ltA n
def Env.cut (E : Env) (n : Nat) : Env := ⟨E.ro, fun i => if i < n then E.at_ i else none, E.tg⟩
theorem Env.cut_at {E : Env} {n i : Nat} (h : i < n) : (E.cut n).at_ i = E.at_ i := if_pos h
theorem Rep1.cut {E : Env} {w : World} {n : Nat} {d : D} {u : Value} (h : Rep1 E w d u) (hd : d.lt1 n = true) : Rep1 (E.cut n) w d u := by
  cases d with
  | none => trivial
  | sc v => exact h
  | sl k cs => exact h
  | own i off k =>
    have hi : i < n := of_decide_eq_true hd
    rcases h with ⟨l, c, h1, h2⟩ | ⟨h1, h2⟩
    · exact .inl ⟨l, c, (Env.cut_at hi).trans h1, h2⟩
    · exact .inr ⟨(Env.cut_at hi).trans h1, h2⟩
  | agg cs => exact h
  | ptr i o =>
    have hi : i < n := of_decide_eq_true hd
    obtain ⟨l, h1, h2⟩ := h
    exact ⟨l, (Env.cut_at hi).trans h1, h2⟩
  | mp i =>
    have hi : i < n := of_decide_eq_true hd
    obtain ⟨l, h1, h2⟩ := h
    exact ⟨l, (Env.cut_at hi).trans h1, h2⟩
  | cptr cs k => exact h
  | tup ds => exact h
  | tr => trivial
  | fn f cap =>
    obtain ⟨us, h1, h2, h3⟩ := h
    refine ⟨us, h1, h2, fun j d v hc hv => ?_⟩
    have h4 := h3 j d v hc hv
    have := List.all_eq_true.1 hd _ (List.mem_of_getElem? hc)
    cases d with
    | ptr i o =>
      obtain ⟨l, h5, h6⟩ := h4
      exact ⟨l, (Env.cut_at (of_decide_eq_true this)).trans h5, h6⟩
    | _ => exact h4
theorem RepA.cut {E : Env} {w : World} {n : Nat} {d : D} {u : Value} (h : RepA E w d u) (hd : d.ltA n = true) : RepA (E.cut n) w d u := by
  by_cases ha : ∀ cs, d ≠ .agg cs
  · rw [repA_of ha] at h ⊢
    refine h.cut ?_
    cases d <;> first | exact hd | exact absurd rfl (ha _)
  · obtain ⟨cs, ha⟩ := Classical.not_forall.1 ha
    obtain rfl := Classical.not_not.1 ha
    obtain ⟨us, h1, h2, h3⟩ := h
    exact ⟨us, h1, h2, fun j d v hj hv => ⟨(h3 j d v hj hv).1.cut (List.all_eq_true.1 hd d (List.mem_of_getElem? hj)), (h3 j d v hj hv).2⟩⟩
theorem Rep.cut {E : Env} {w : World} {n : Nat} {d : D} {u : Value} (h : Rep E w d u) (hd : d.lt n = true) : Rep (E.cut n) w d u := by
  by_cases ha : ∀ cs, d ≠ .tup cs
  · rw [rep_of ha] at h ⊢
    refine h.cut ?_
    cases d <;> first | exact hd | exact absurd rfl (ha _)
  · obtain ⟨cs, ha⟩ := Classical.not_forall.1 ha
    obtain rfl := Classical.not_not.1 ha
    obtain ⟨us, h1, h2, h3⟩ := h
    exact ⟨us, h1, h2, fun j d v hj hv => (h3 j d v hj hv).cut (List.all_eq_true.1 hd d (List.mem_of_getElem? hj))⟩

def fitTm : List D → List D → Prop
  | [], [] => True
  | d :: ds, e :: es => (e = .none ∨ e = d) ∧ fitTm ds es
  | _, _ => False
theorem fitTm_at : ∀ {ds es : List D}, fitTm ds es → ds.length = es.length ∧ ∀ (t : Nat) (e : D), es[t]? = some e → e = .none ∨ ds[t]? = some e
  | [], [], _ => ⟨rfl, fun t e h => by simp at h⟩
  | d :: ds, e :: es, h => by
    obtain ⟨h1, h2⟩ := fitTm_at h.2
    refine ⟨by simp [h1], fun t e' he => ?_⟩
    rcases t with _ | t
    · simp only [List.getElem?_cons_zero, Option.some.injEq] at he ⊢
      subst he
      rcases h.1 with h3 | h3
      · exact .inl h3
      · exact .inr h3.symm
    · exact h2 t e' (by simpa using he)
  | [], _ :: _, h => h.elim
  | _ :: _, [], h => h.elim
/-- s' says no more than s. -/
def Fit (s s' : St) : Prop :=
  fitTm s.tm s'.tm ∧ (∀ p ∈ s'.os, p ∈ s.os) ∧ (s'.os.map (·.1)).Nodup ∧ s'.nb ≤ s.nb ∧ (s'.tm.all (D.lt s'.nb) = true) ∧ ∀ p ∈ s'.os, p.1 < s'.nb ∧ p.2.cs.all (D.lt1 s'.nb) = true
theorem fit_sound {X : Ctx} {s s' : St} (h : Fit s s') (hnb : X.nb ≤ s'.nb) {E : Env} {a : Act} {w : World} (hr : Rel X s E a w) : Rel X s' (E.cut s'.nb) a w := by
  obtain ⟨h1, h2, h3, h4, h5, h6⟩ := h
  obtain ⟨hl, hat⟩ := fitTm_at h1
  refine ⟨hr.sz.trans hl, fun t d hd => ?_, hr.df, ⟨fun i x hi => ?_, fun i hi => if_neg (by omega), hr.sr.rolt, fun i x j y hi hj hij l m hl' hm => ?_, h3, hr.sr.tr.keep rfl (fun b k p _ e1 e2 e3 e4 => ⟨e1, rfl, e2, e3, fun j y l hj hl => e4 j y l (h2 _ hj) (by rwa [Env.cut_at (h6 _ hj).1] at hl)⟩) fun k x' hx j ty sz n cs hj => ⟨x', h2 _ hx, hj, fun l hl => ⟨(Env.cut_at (h6 _ hx).1).trans hl, rfl⟩⟩⟩, ?_⟩
  · have hlt := List.all_eq_true.1 h5 d (List.mem_of_getElem? hd)
    rcases hat t d hd with rfl | h7
    · trivial
    · exact (hr.tm t d h7).cut hlt
  · obtain ⟨h7, h8⟩ := h6 _ hi
    obtain ⟨h9, h10⟩ := hr.sr.obs i x (h2 _ hi)
    refine ⟨h9, ?_⟩
    rcases h10 with ⟨h11, h12⟩ | ⟨l, h11, h12, h13, h14, h15, ⟨cur, h16, h17, h18⟩ | h16⟩
    · exact .inl ⟨(Env.cut_at h7).trans h11, h12⟩
    · refine .inr ⟨l, (Env.cut_at h7).trans h11, h12, h13, h14, h15, .inl ⟨cur, h16, h17, fun j d hd => ?_⟩⟩
      obtain ⟨u, h19, h20, h21⟩ := h18 j d hd
      exact ⟨u, h19, h20, h21.cut (List.all_eq_true.1 h8 d (List.mem_of_getElem? hd))⟩
    · exact .inr ⟨l, (Env.cut_at h7).trans h11, h12, h13, h14, h15, .inr h16⟩
  · rw [Env.cut_at (h6 _ hi).1] at hl'
    rw [Env.cut_at (h6 _ hj).1] at hm
    exact hr.sr.apart i x j y (h2 _ hi) (h2 _ hj) hij l m hl' hm
  · refine ⟨⟨fun i l hl' => ?_, fun b hb => hr.st.le.ro b hb⟩, hr.st.os, hr.st.tape, hr.st.output, hr.st.size, hr.st.block, hr.st.ro, hnb⟩
    have hi : i < s'.nb := by
      rcases Nat.lt_or_ge i s'.nb with h | h
      · exact h
      · rw [X.new i (Nat.le_trans hnb h)] at hl'; cases hl'
    exact (Env.cut_at hi).trans (hr.st.le.at_ i l hl')

/-- A loop: a family of states, a condition on the index, a measure. -/
theorem awloop {X : Ctx} {P : Program} {c : Code} {s : St} {Q : Exit → St → Prop} {ι : Type} (st : ι → St) (I : ι → Prop) (μ : ι → Nat) (hnb : ∀ i, X.nb ≤ (st i).nb) (i0 : ι) (hI : I i0) (h0 : Fit s (st i0))
    (round : ∀ i, I i → WCode X P c (thenQ (fun s' => ∃ j, I j ∧ μ j < μ i ∧ Fit s' (st j)) Q) (st i)) : AwCode X P (.loop c) s Q := by
  refine ⟨fun E a w R hr hk => ?_⟩
  have key : ∀ n i, μ i < n → I i → ∀ E a w, Rel X (st i) E a w → Code.rounds P c R n a w := by
    intro n
    induction n with
    | zero => intro i h; omega
    | succ n ih =>
      intro i hn hi E a w hr
      rw [rounds_succ]
      refine wcode_go (round i hi) E a w _ hr fun e s' E' a' w' hq hr' => ?_
      cases e with
      | normal =>
        obtain ⟨j, h1, h2, h3⟩ := hq
        exact ih j (by omega) h1 _ _ _ (fit_sound h3 (hnb j) hr')
      | _ => exact hk _ _ _ _ _ hq hr'
  exact wp_loop_rounds (μ i0 + 1) (key _ i0 (by omega) hI _ _ _ (fit_sound h0 (hnb i0) hr))

/-! Between this and the elder words. -/
/-- A slice that reads as a list, flat. -/
def enc {α : Type} (cells : α → List Value) (xs : List α) : List D := (xs.flatMap cells).map .sc
theorem rep_sl {α : Type} {cells : α → List Value} {ok : α → Prop} {size : Nat} (hs : ∀ x, (cells x).length = size) (h1 : ∀ x, ∀ v ∈ cells x, v.oneCell' = true) {E : Env} {w : World} {B : Nat} {v : Value} {xs : List α} (h : SlR size (Flat cells ok) w B v xs)
    (hro : ∀ b, b < B → E.ro b) : Rep E w (.sl xs.length (enc cells xs)) v := by
  obtain ⟨A, c, rfl, hn, hc, h⟩ := h
  refine .sl _ _ A c (xs.flatMap cells) (by simp [enc]) hn hc (fun j u hu => ?_) (fun j d u hd hu => ?_)
  · have hj : j < xs.length * size := by rw [← flatMap_len cells size hs]; exact (List.getElem?_eq_some_iff.1 hu).1
    have hsz : 0 < size := by
      rcases Nat.eq_zero_or_pos size with h0 | h0
      · rw [h0, Nat.mul_zero] at hj; omega
      · exact h0
    have hi : j / size < xs.length := Nat.div_lt_of_lt_mul (by rw [Nat.mul_comm]; exact hj)
    obtain ⟨b, o, cs, hA, hb, hl, hcs, rfl, _⟩ := h _ hi
    have hm := Nat.mod_lt j hsz
    have hjj : j / size * size + j % size = j := by rw [Nat.mul_comm]; exact Nat.div_add_mod j size
    refine ⟨b, o, hA, hro b hb, ?_⟩
    have := flatMap_at cells size hs xs (j / size) (j % size) hi hm
    rw [hjj, hu] at this
    have h5 := hcs (j % size) (by rw [hs]; exact hm)
    rw [Nat.add_assoc, hjj] at h5
    rw [h5, ← this]
  · unfold enc at hd
    rw [List.getElem?_map, hu] at hd
    injection hd with hd
    subst hd
    obtain ⟨x, _, hx⟩ := List.mem_flatMap.1 (List.mem_of_getElem? hu)
    exact .sc u (h1 x u hx)
end Go.Proofs.YtemaanibghedlaaGreat
