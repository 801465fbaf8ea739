/- The logic over data: elder contracts that hand back a row of their own. -/
import Derived.Test.YtemaanibghedlaaGreatAwP
namespace Go.Proofs.YtemaanibghedlaaGreat
open Go.RowKit

/-- What the elder contracts say: the row u of n elements, with these cells, is the call's own. -/
def Hands (P : Program) (f : FuncId) (ds : List D) (mk : Value → Value) (e : TypeId) (size n : Nat) (vs : List Value) : Prop :=
  (∀ (args : Array Value) (w : World), (callFunc f args).run P w = .ok (.enter f args) w) ∧
  ∀ (ro : Nat → Prop) (w : World) (args : Array Value), (∀ b, ro b → b < w.heap.size) → args.size = ds.length → (∀ (j : Nat) (d : D), ds[j]? = some d → Rep (roEnv ro) w d (args.getD j undef)) →
    Calls P f args w fun en w' => (∃ u, en = .returned (mk u) ∧ w'.ownsRow w.heap.size e size u n vs) ∧ Below w.heap.size w w'
def Wraps (mk : Value → Value) (dk : D → D) : Prop := ∀ (E : Env) (w : World) (d : D) (u : Value), d.one = true → Rep1 E w d u → Rep E w (dk d) (mk u)
theorem hands_spec {α : Type} {cells : α → List Value} {P : Program} {f : FuncId} {ds : List D} {mk : Value → Value} {dk : D → D} {e : TypeId} {size : Nat} {xs : List α} (hs : ∀ x, (cells x).length = size) (h1 : ∀ x, ∀ v ∈ cells x, v.oneCell' = true) (hw : Wraps mk dk)
    (h : Hands P f ds mk e size xs.length (xs.flatMap cells)) : Spec P f ds fun d => d = dk (.sl xs.length (enc cells xs)) := by
  refine ⟨h.1, fun ro w args hro hsz hrep => (h.2 ro w args hro hsz hrep).mono ?_⟩
  rintro en w' ⟨⟨u, rfl, ho⟩, hb⟩
  exact ⟨_, mk u, rfl, rfl, hw _ _ _ _ rfl (rep_own hs h1 ho fun b h2 h3 => .inr ⟨h2, h3⟩), hb⟩
theorem hands_specH {α : Type} {cells : α → List Value} {P : Program} {f : FuncId} {ds : List D} {mk : Value → Value} {dk : D → D} {e : TypeId} {size : Nat} {xs : List α} (hs : ∀ x, (cells x).length = size) (h1 : ∀ x, ∀ v ∈ cells x, v.oneCell' = true) (hw : Wraps mk dk) (hn : ds.all D.noid = true)
    (h : Hands P f ds mk e size xs.length (xs.flatMap cells)) : SpecH P f ds [] 0 fun d os' nb' => d = dk (.own 0 0 xs.length) ∧ os' = [(0, ⟨e, size, xs.length, enc cells xs⟩)] ∧ nb' = 1 := by
  refine ⟨h.1, fun E M w args hsr hsz hrep => (h.2 E.ro w args hsr.rolt hsz fun j d hd => (hrep j d hd).free (List.all_eq_true.1 hn d (List.mem_of_getElem? hd)) fun b hb => hb).mono ?_⟩
  rintro en w' ⟨⟨u, rfl, ho⟩, hb⟩
  have hnone : ∀ i, E.at_ i = none := fun i => hsr.new i (Nat.zero_le _)
  have hlen : (enc cells xs).length = xs.length * size := enc_len hs xs
  obtain ⟨loc, hval, hob⟩ : ∃ loc : Option Loc, Rep1 (E.with 0 loc) w' (.own 0 0 xs.length) u ∧
      ((loc = none ∧ xs.length = 0) ∨ ∃ l cur, loc = some l ∧ w.heap.size ≤ l.g ∧ xs.length ≤ l.cap ∧ l.cap ≤ maxLen ∧ w'.heap[l.g]? = some (.cells cur e (0, 0)) ∧ cur.size = l.cap * size ∧ cur.toList.take (xs.length * size) = xs.flatMap cells) := by
    rcases ho.2 with ⟨rfl, h0⟩ | ⟨g, cap, cur, rfl, hg, h5, h6, h7, h8, h9⟩
    · exact ⟨none, .inr ⟨Env.with_at, rfl, h0, rfl⟩, .inl ⟨rfl, h0⟩⟩
    · exact ⟨some ⟨g, cap⟩, .inl ⟨⟨g, cap⟩, cap, Env.with_at, rfl, h6, h7, fun _ => rfl⟩, .inr ⟨⟨g, cap⟩, cur, rfl, hg, h6, h7, h5, h8, h9⟩⟩
  have hat : ∀ i, 1 ≤ i → (E.with 0 loc).at_ i = none := fun i hi => by
    rw [Env.with_ne (by omega)]
    exact hnone i
  refine ⟨_, _, 1, E.with 0 loc, mk u, ⟨rfl, rfl, rfl⟩, rfl, hw _ _ _ _ rfl hval, ⟨fun i x hi => ?_, fun i hi => hat i hi, fun b hb' => Nat.lt_of_lt_of_le (hsr.rolt b hb') hb.size, fun i x j y hi hj hij => ?_, by simp, hsr.tr.keep rfl (fun b k p _ h1 h2 h3 _ => ⟨Nat.lt_of_lt_of_le h1 hb.size, hb.block b h1, .inr h2, h3, fun j y l hj hl => ?_⟩) fun k x' hx' j ty sz n cs hj => ?_⟩, Nat.zero_le _, Env.with_le (hnone 0), hb.os, hb.tape, hb.output, hb.size, fun b hb' _ => hb.block b hb', fun b hb' => .inl hb', fun i l _ hl => ?_⟩
  · simp only [List.mem_singleton, Prod.mk.injEq] at hi
    obtain ⟨rfl, rfl⟩ := hi
    refine ⟨fun _ => hlen, ?_⟩
    rcases hob with ⟨rfl, h0⟩ | ⟨l, cur, rfl, hg, hcap, hmax, hcur, hcs, htake⟩
    · exact .inl ⟨Env.with_at, h0⟩
    · refine .inr ⟨l, Env.with_at, .inl hg, fun hb' => by have := hsr.rolt _ hb'; omega, hcap, hmax, .inl ⟨cur, hcur, hcs, fun j d hd => ?_⟩⟩
      have hd' : (enc cells xs)[j]? = some d := hd
      have hj : j < xs.length * size := by rw [← hlen]; exact (List.getElem?_eq_some_iff.1 hd').1
      unfold enc at hd'
      rw [List.getElem?_map] at hd'
      cases hc : (xs.flatMap cells)[j]? with
      | none => rw [hc] at hd'; cases hd'
      | some v =>
        rw [hc] at hd'
        injection hd' with hd'
        subst hd'
        obtain ⟨x, _, hx⟩ := List.mem_flatMap.1 (List.mem_of_getElem? hc)
        have hone := h1 x v hx
        refine ⟨v, ?_, hone, rfl, hone⟩
        rw [← htake, List.getElem?_take, if_pos hj, Array.getElem?_toList] at hc
        exact hc
  · simp only [List.mem_singleton, Prod.mk.injEq] at hi hj
    exact absurd (hi.1.trans hj.1.symm) hij
  · simp only [List.mem_singleton, Prod.mk.injEq] at hj
    rw [hj.1, Env.with_at] at hl
    injection hl with hl
    rcases hob with ⟨h0, _⟩ | ⟨l', cur, h0, hg, _⟩
    · rw [h0] at hl; cases hl
    · rw [h0] at hl
      injection hl with hl
      subst hl
      omega
  · simp only [List.mem_singleton, Prod.mk.injEq] at hx'
    obtain ⟨rfl, rfl⟩ := hx'
    have := List.all_eq_true.1 (sc_nt (xs.flatMap cells)) _ (List.mem_of_getElem? hj)
    cases this
  · rcases Nat.eq_zero_or_pos i with rfl | hi
    · rw [Env.with_at] at hl
      injection hl with hl
      rcases hob with ⟨rfl, _⟩ | ⟨l', cur, rfl, hg, _⟩
      · cases hl
      · injection hl with hl
        subst hl
        exact .inl hg
    · rw [hat i hi] at hl; cases hl
theorem wraps_agg : Wraps (fun u => .agg #[u]) fun d => .agg [d] := by
  intro E w d u hd h
  refine ⟨[u], rfl, rfl, fun j e v he hv => ?_⟩
  rcases j with _ | j
  · simp only [List.getElem?_cons_zero, Option.some.injEq] at he hv
    subst he; subst hv
    exact ⟨h, h.oneCell hd⟩
  · simp at he
theorem wraps_tup (n : Int) : Wraps (fun u => .tuple #[.agg #[u], .int .i64 n]) fun d => .tup [.agg [d], .sc (.int .i64 n)] := by
  intro E w d u hd h
  refine ⟨[.agg #[u], .int .i64 n], rfl, rfl, fun j e v he hv => ?_⟩
  rcases j with _ | _ | j
  · simp only [List.getElem?_cons_zero, Option.some.injEq] at he hv
    subst he; subst hv
    refine ⟨[u], rfl, rfl, fun k e' v' he' hv' => ?_⟩
    rcases k with _ | k
    · simp only [List.getElem?_cons_zero, Option.some.injEq] at he' hv'
      subst he'; subst hv'
      exact ⟨h, h.oneCell hd⟩
    · simp at he'
  · simp only [List.getElem?_cons_zero, List.getElem?_cons_succ, Option.some.injEq] at he hv
    subst he; subst hv
    exact ⟨rfl, rfl⟩
  · simp at he
/-! nil as an object of its own. -/
theorem Env.with_rep {E : Env} {i : Nat} {loc : Option Loc} (hi : E.at_ i = none) {w : World} {d : D} {u : Value} (h : Rep E w d u) : Rep (E.with i loc) w d u := h.keep (Env.with_le hi) fun _ _ => rfl
def nilOb (e : TypeId) (size : Nat) : Ob := ⟨e, size, 0, []⟩
/-- The cell o of the object i holds the nil slice: it becomes a slice of an object of its own. -/
def St.nilCell (s : St) (i o : Nat) (e : TypeId) (size : Nat) : St := match s.ob i with
  | some x => ⟨s.tm, (s.nb, nilOb e size) :: (s.setCs i (x.cs.set o (.own s.nb 0 0))).os, s.nb + 1⟩
  | none => s
def nilAt (s : St) (i o : Nat) : Bool := match s.ob i with
  | some x => match x.cs[o]? with | some (.sc (.slice none 0 0)) => true | _ => false
  | none => false
theorem lookup_of_mem {i : Nat} {x : Ob} : ∀ {os : List (Nat × Ob)}, (os.map (·.1)).Nodup → (i, x) ∈ os → os.lookup i = some x
  | (j, y) :: os, hn, h => by
    rw [List.lookup_cons]
    simp only [List.map_cons, List.nodup_cons] at hn
    rcases List.mem_cons.1 h with h | h
    · injection h with h1 h2
      subst h1; subst h2
      simp
    · have hij : i ≠ j := fun e => hn.1 (List.mem_map.2 ⟨(i, x), h, e⟩)
      have : (i == j) = false := by simpa using hij
      rw [this]
      exact lookup_of_mem hn.2 h
theorem nil_sound {X : Ctx} {s : St} {i o : Nat} (hat : nilAt s i o = true) (e : TypeId) (size : Nat) {E : Env} {a : Act} {w : World} (hr : Rel X s E a w) : Rel X (s.nilCell i o e size) (E.with s.nb none) a w := by
  unfold nilAt at hat
  split at hat
  · rename_i x hx
    split at hat
    · rename_i hcell
      have hnew := hr.sr.new s.nb (Nat.le_refl _)
      have hle : E.le (E.with s.nb none) := Env.with_le hnew
      have hmem := mem_of_lookup (St.ob_some hx).1
      have hst : s.nilCell i o e size = ⟨s.tm, (s.nb, nilOb e size) :: (s.setCs i (x.cs.set o (.own s.nb 0 0))).os, s.nb + 1⟩ := by unfold St.nilCell; rw [hx]
      rw [hst]
      have hold : ∀ j y, (j, y) ∈ (s.setCs i (x.cs.set o (.own s.nb 0 0))).os → ∃ z, (j, z) ∈ s.os ∧ ((j ≠ i ∧ y = z) ∨ (j = i ∧ z = x ∧ y = { z with cs := x.cs.set o (.own s.nb 0 0) })) := by
        intro j y hj
        obtain ⟨⟨k, z⟩, h1, h2⟩ := List.mem_map.1 hj
        by_cases hk : k = i
        · simp only [hk, if_true, Prod.mk.injEq] at h2
          obtain ⟨rfl, rfl⟩ := h2
          subst hk
          have hzx : z = x := by
            have h3 := hr.sr.nodup
            have := lookup_of_mem h3 h1
            rw [(St.ob_some hx).1] at this
            injection this with this
            exact this.symm
          exact ⟨z, h1, .inr ⟨rfl, hzx, rfl⟩⟩
        · simp only [hk, if_false, Prod.mk.injEq] at h2
          obtain ⟨rfl, rfl⟩ := h2
          exact ⟨_, h1, .inl ⟨hk, rfl⟩⟩
      have hne : ∀ j z, (j, z) ∈ s.os → (E.with s.nb none).at_ j = E.at_ j := fun j z h => Env.with_ne (Nat.ne_of_lt (hr.sr.idlt h))
      refine ⟨hr.sz, fun t d hd => (hr.tm t d hd).keep hle fun _ _ => rfl, hr.df, ⟨fun j y hj => ?_, fun j hj => ?_, hr.sr.rolt, fun j y k z hj hk hjk l m hl hm => ?_, ?_, ?_⟩, ⟨hr.st.le.trans hle, hr.st.os, hr.st.tape, hr.st.output, hr.st.size, hr.st.block, hr.st.ro, Nat.le_succ_of_le hr.st.nb⟩⟩
      · rcases List.mem_cons.1 hj with hj | hj
        · injection hj with e1 e2
          subst e1; subst e2
          exact ⟨by simp [nilOb], .inl ⟨Env.with_at, rfl⟩⟩
        · obtain ⟨z, h1, h2⟩ := hold j y hj
          have hob := hr.sr.obs j z h1
          have hk := hob.keep (E' := E.with s.nb none) (w' := w) hle (fun _ _ => rfl) fun l hl => ⟨rfl, fun hro => by
            rcases hob.2 with ⟨h5, _⟩ | ⟨m, h5, _, h6, _⟩
            · rw [hl] at h5; cases h5
            · rw [hl] at h5; injection h5 with h5; injection h5 with h5; subst h5; exact h6 hro⟩
          rcases h2 with ⟨_, rfl⟩ | ⟨rfl, rfl, rfl⟩
          · exact hk
          · refine ⟨by simpa using hk.1, ?_⟩
            rcases hk.2 with ⟨h8, h9⟩ | ⟨l, h8, h9, h10, h11, h12, ⟨cur, h13, h14, h15⟩ | ⟨h13, _⟩⟩
            · exact .inl ⟨h8, h9⟩
            rotate_left 1
            · exact absurd h13 (St.ob_some hx).2
            · refine .inr ⟨l, h8, h9, h10, h11, h12, .inl ⟨cur, h13, h14, fun q d hd => ?_⟩⟩
              have hd' : (z.cs.set o (.own s.nb 0 0))[q]? = some d := hd
              rw [List.getElem?_set] at hd'
              split at hd'
              · rename_i hq
                subst hq
                split at hd'
                · injection hd' with hd'
                  subst hd'
                  obtain ⟨u, h16, h17, h18⟩ := h15 o _ hcell
                  exact ⟨u, h16, h17, .inr ⟨Env.with_at, rfl, rfl, h18.1⟩⟩
                · cases hd'
              · exact h15 q d hd'
      · have hj' : s.nb + 1 ≤ j := hj
        rw [Env.with_ne (by omega)]
        exact hr.sr.new j (by omega)
      · have hat0 : (E.with s.nb none).at_ s.nb = some Option.none := Env.with_at
        rcases List.mem_cons.1 hj with hj | hj
        · injection hj with e1 _
          subst e1
          rw [hat0] at hl; cases hl
        · rcases List.mem_cons.1 hk with hk | hk
          · injection hk with e1 _
            subst e1
            rw [hat0] at hm; cases hm
          · obtain ⟨y', h1, _⟩ := hold j y hj
            obtain ⟨z', h2, _⟩ := hold k z hk
            rw [hne j y' h1] at hl
            rw [hne k z' h2] at hm
            exact hr.sr.apart j y' k z' h1 h2 hjk l m hl hm
      · show (s.nb :: (s.setCs i (x.cs.set o (.own s.nb 0 0))).os.map (·.1)).Nodup
        rw [show (s.setCs i (x.cs.set o (.own s.nb 0 0))).os.map (·.1) = s.os.map (·.1) from setCs_ids _ _ _]
        refine List.nodup_cons.2 ⟨fun h => ?_, hr.sr.nodup⟩
        obtain ⟨⟨j, y⟩, h1, h2⟩ := List.mem_map.1 h
        have h2' : j = s.nb := h2
        have := hr.sr.idlt h1
        omega
      · refine hr.sr.tr.keep rfl (fun b k p _ h1 h2 h3 h4 => ⟨h1, rfl, h2, h3, fun j y l hj hl => ?_⟩) fun k x' hx' j ty sz n cs hj => ?_
        · rcases List.mem_cons.1 hj with hj | hj
          · injection hj with e1 _
            subst e1
            rw [Env.with_at] at hl
            cases hl
          · obtain ⟨z, h5, _⟩ := hold j y hj
            rw [hne j z h5] at hl
            exact h4 j z l h5 hl
        · rcases List.mem_cons.1 hx' with hx' | hx'
          · injection hx' with e1 e2
            subst e1; subst e2
            simp [nilOb] at hj
          · obtain ⟨z, h5, h6⟩ := hold k x' hx'
            refine ⟨z, h5, ?_, fun l hl => ⟨(hne k z h5).trans hl, rfl⟩⟩
            rcases h6 with ⟨_, rfl⟩ | ⟨_, rfl, rfl⟩
            · exact hj
            · have hj' : (z.cs.set o (.own s.nb 0 0))[j]? = some (.tr ty sz n cs) := hj
              rw [List.getElem?_set] at hj'
              split at hj'
              · split at hj' <;> cases hj'
              · exact hj'
    · cases hat
  · cases hat
theorem awnilC {X : Ctx} {P : Program} {c : Code} {s : St} {Q : Exit → St → Prop} (i o : Nat) (e : TypeId) (size : Nat) (hat : nilAt s i o = true) (h : AwCode X P c (s.nilCell i o e size) Q) : AwCode X P c s Q :=
  ⟨fun _ _ _ R hr hK => h.out _ _ _ R (nil_sound hat e size hr) hK⟩
end Go.Proofs.YtemaanibghedlaaGreat
