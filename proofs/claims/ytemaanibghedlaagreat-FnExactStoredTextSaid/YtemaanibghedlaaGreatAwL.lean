/- The logic over data: a call that hands objects on. -/
import Derived.Test.YtemaanibghedlaaGreatAwK
namespace Go.Proofs.YtemaanibghedlaaGreat
open Go.RowKit

theorem oc_ptr (a : Option Addr) : Value.oneCell' (.pointer a) = true := rfl
theorem vc_ptr (a : Option Addr) : Value.cells (.pointer a) = #[.pointer a] := rfl
theorem gpos {c : Prop} [Decidable c] {α : Type} {a : α} (h : c) : (if c then some a else none) = some a := if_pos h
theorem gneg {c : Prop} [Decidable c] {α : Type} {a : α} (h : ¬ c) : (if c then none else some a) = some a := if_neg h
/-- The numbers in the caller. -/
def tau (ρ : List Nat) (nb : Nat) (i : Nat) : Nat := match ρ[i]? with | some j => j | none => nb + (i - ρ.length)
def St.back (s : St) (ρ : List Nat) (os' : List (Nat × Ob)) (nb' : Nat) : St :=
  { s with os := os'.map (fun p => (tau ρ s.nb p.1, p.2.ren (tau ρ s.nb))) ++ s.os.filter (fun p => !ρ.contains p.1), nb := s.nb + (nb' - ρ.length) }
theorem tau_old {ρ : List Nat} {nb i j : Nat} (h : ρ[i]? = some j) : tau ρ nb i = j := by unfold tau; rw [h]
theorem tau_new {ρ : List Nat} {nb i : Nat} (h : ρ.length ≤ i) : tau ρ nb i = nb + (i - ρ.length) := by unfold tau; rw [List.getElem?_eq_none h]

theorem awcallHF {X : Ctx} {P : Program} {o : Oper} {s : St} {wr : List Nat} {nb : Nat} {f : FuncId} {xs : Array Operand} {ats : Array TypeId} {K : St → Prop} (ho : o.op = .call { callee := .value (.func f), args := xs, argTypes := ats })
    {ds : List D} {os : List (Nat × Ob)} {k : Nat} {Q : D → List (Nat × Ob) → Nat → Prop} (hs : SpecH P f ds os k Q) (ρ : List Nat) (hρ : ρ.Nodup) (hlen : ρ.length = k) (hin : insOk s.os ρ false = true) (hos : handOs s.os (sg ρ) ρ = os)
    (hdin : (xs.toList.map s.ev).all (D.inn ρ.contains) = true) (hds : (xs.toList.map s.ev).map (D.ren (sg ρ)) = ds) (hwr : ∀ j ∈ ρ, wr.contains j = true ∨ nb ≤ j)
    (hk : ∀ d os' nb', Q d os' nb' → k ≤ nb' → K ((s.back ρ os' nb').put o.dst (d.ren (tau ρ s.nb)))) : AwStepF X P o s wr nb K := by
  refine ⟨fun E a w K' R hr hK => ?_⟩
  have hrun : (execOp a.eval o).run P w = .ok (.enter f (xs.map a.eval)) w := by
    rw [show execOp a.eval o = callFunc f (#[] ++ xs.map a.eval ++ #[]) by simp only [execOp, ho]; rfl]
    rw [hs.1]
    simp
  unfold Oper.wp
  rw [hrun]
  show Calls P f _ w _
  subst hds hos hlen
  let M : Nat → Prop := fun g => (∃ j x l, j ∈ ρ ∧ (j, x) ∈ s.os ∧ E.at_ j = some (some l) ∧ l.g = g) ∨ ∃ k p, E.tg g = some (k, p) ∧ ρ.contains k = true
  have hsr : SR M (E.hand ρ) (handOs s.os (sg ρ) ρ) ρ.length w :=
    hand_sr hr.sr ρ hρ hin (fun j x l h1 h2 h3 _ => .inl ⟨j, x, l, h1, mem_of_lookup h2, h3, rfl⟩) fun b k p h1 h2 _ => .inr ⟨k, p, h1, h2⟩
  -- the blocks that are handed on
  have hobj : ∀ j x l, (j, x) ∈ s.os → E.at_ j = some (some l) → X.W l.g ∧ ¬ E.ro l.g := by
    intro j x l h1 h2
    rcases (hr.sr.obs j x h1).2 with ⟨h3, _⟩ | ⟨m, h3, h4, h5, _⟩
    · rw [h2] at h3; cases h3
    · rw [h2] at h3; injection h3 with h3; injection h3 with h3; subst h3; exact ⟨h4, h5⟩
  have hnotmine : ∀ j x l, (j, x) ∈ s.os → j ∉ ρ → E.at_ j = some (some l) → ¬ M l.g := by
    intro j x l h1 h2 h3 h4
    rcases h4 with ⟨j', x', l', h5, h6, h7, h8⟩ | ⟨k, p, h5, h6⟩
    · exact hr.sr.apart j' x' j x h6 h1 (fun e => h2 (e ▸ h5)) l' l h7 h3 h8
    · exact (hr.sr.tr.blk _ k p h5).2.2.2 j x l h1 h3 rfl
  refine (hs.2 (E.hand ρ) M w (xs.map a.eval) hsr (by simp) fun j d hd => ?_).mono ?_
  · rw [List.getElem?_map] at hd
    cases hj : (xs.toList.map s.ev)[j]? with
    | none => rw [hj] at hd; cases hd
    | some e =>
      rw [hj] at hd
      injection hd with hd
      subst hd
      rw [List.getElem?_map] at hj
      cases hx : xs.toList[j]? with
      | none => rw [hx] at hj; cases hj
      | some x =>
        rw [hx] at hj
        have hj' : s.ev x = e := by simpa using hj
        subst hj'
        have h1 := hr.ev x
        have h2 : (xs.map a.eval).getD j undef = a.eval x := by
          rw [Array.getElem?_toList] at hx
          simp [Array.getD_eq_getD_getElem?, hx]
        rw [h2]
        exact h1.ren (List.all_eq_true.1 hdin _ (List.mem_map.2 ⟨x, List.mem_of_getElem? hx, rfl⟩)) (E.hand_via ρ)
  · rintro e w' ⟨d, os', nb', E', v, hq, rfl, hv, hsr', hnb, hle', hos', htape, hout, hsize, hblock, hro', hnl⟩
    -- the new surroundings
    let E'' : Env := ⟨E'.ro, fun j => if j < s.nb then E.at_ j else E'.at_ (j - s.nb + ρ.length), fun b => match E'.tg b with | some (i, p) => some (tau ρ s.nb i, p) | none => match E.tg b with | some (k, p) => if ρ.contains k = true then none else some (k, p) | none => none⟩
    have hlt : ∀ j ∈ ρ, j < s.nb := fun j hj => by
      obtain ⟨x, hx⟩ := insOk_some hin hj
      exact hr.sr.idlt (mem_of_lookup hx)
    have hold : ∀ j, j < s.nb → E''.at_ j = E.at_ j := fun j hj => if_pos hj
    have hnew : ∀ i, ρ.length ≤ i → E''.at_ (s.nb + (i - ρ.length)) = E'.at_ i := fun i hi => by
      show (if s.nb + (i - ρ.length) < s.nb then _ else E'.at_ (s.nb + (i - ρ.length) - s.nb + ρ.length)) = _
      rw [if_neg (by omega)]
      congr 1
      omega
    have hgot : ∀ i j, ρ[i]? = some j → E'.at_ i = E.at_ j := by
      intro i j hij
      have hj : j ∈ ρ := List.mem_of_getElem? hij
      obtain ⟨x, hx⟩ := insOk_some hin hj
      have : ∃ l, E.at_ j = some l := by
        rcases (hr.sr.obs j x (mem_of_lookup hx)).2 with ⟨h, _⟩ | ⟨l, h, _⟩ <;> exact ⟨_, h⟩
      obtain ⟨l, hl⟩ := this
      rw [hl]
      exact hle'.at_ i l ((Env.hand_of hij).trans hl)
    have htau : ∀ i, E''.at_ (tau ρ s.nb i) = E'.at_ i := by
      intro i
      rcases Nat.lt_or_ge i ρ.length with hi | hi
      · have h1 : ρ[i]? = some ρ[i] := List.getElem?_eq_getElem hi
        rw [tau_old h1, hold _ (hlt _ (List.getElem_mem hi)), hgot i _ h1]
      · rw [tau_new hi, hnew i hi]
    have hvia : E'.via every E'' (tau ρ s.nb) := ⟨fun i l _ h => (htau i).trans h, fun _ h => h⟩
    have hle : E.le E'' := by
      refine ⟨fun j l h => ?_, fun b hb => hle'.ro b hb⟩
      have hj : j < s.nb := by
        rcases Nat.lt_or_ge j s.nb with h1 | h1
        · exact h1
        · rw [hr.sr.new j h1] at h; cases h
      exact (hold j hj).trans h
    have hromine : ∀ b, E.ro b → ¬ M b := by
      intro b hb hm
      rcases hm with ⟨j, x, l, _, h2, h3, rfl⟩ | ⟨k, p, h1, _⟩
      · exact (hobj j x l h2 h3).2 hb
      · exact (hr.sr.tr.blk b k p h1).2.2.1 hb
    have hro : ∀ b, E.ro b → w'.heap[b]? = w.heap[b]? := fun b hb => hblock b (hr.sr.rolt b hb) (hromine b hb)
    -- where what comes back lies
    have hback : ∀ i y l, (i, y) ∈ os' → E'.at_ i = some (some l) → (w.heap.size ≤ l.g ∨ M l.g) ∧ ¬ E'.ro l.g := by
      intro i y l h1 h2
      rcases (hsr'.obs i y h1).2 with ⟨h3, _⟩ | ⟨m, h3, h4, h5, _⟩
      · rw [h2] at h3; cases h3
      · rw [h2] at h3; injection h3 with h3; injection h3 with h3; subst h3; exact ⟨h4, h5⟩
    have hmW : ∀ g, M g → X.W g := by
      intro g hg
      rcases hg with ⟨j, x, l, _, h2, h3, rfl⟩ | ⟨k, p, h1, _⟩
      · exact (hobj j x l h2 h3).1
      · exact (hr.sr.tr.blk g k p h1).2.1
    have hrest : ∀ j x, (j, x) ∈ s.os.filter (fun p => !ρ.contains p.1) → (j, x) ∈ s.os ∧ j ∉ ρ := by
      intro j x h
      obtain ⟨h1, h2⟩ := List.mem_filter.1 h
      exact ⟨h1, by simpa using h2⟩
    have hren : ∀ q, q ∈ os'.map (fun p => (tau ρ s.nb p.1, p.2.ren (tau ρ s.nb))) → ∃ i y, (i, y) ∈ os' ∧ q = (tau ρ s.nb i, y.ren (tau ρ s.nb)) := by
      intro q hq
      obtain ⟨⟨i, y⟩, h1, h2⟩ := List.mem_map.1 hq
      exact ⟨i, y, h1, h2.symm⟩
    have hi' : ∀ i y, (i, y) ∈ os' → i < nb' := fun i y h => hsr'.idlt h
    have hinj : ∀ i j, tau ρ s.nb i = tau ρ s.nb j → i = j := by
      intro i j hij
      rcases Nat.lt_or_ge i ρ.length with h1 | h1 <;> rcases Nat.lt_or_ge j ρ.length with h2 | h2
      · rw [tau_old (List.getElem?_eq_getElem h1), tau_old (List.getElem?_eq_getElem h2)] at hij
        exact (List.getElem_inj hρ).1 hij
      · rw [tau_old (List.getElem?_eq_getElem h1), tau_new h2] at hij
        have := hlt _ (List.getElem_mem h1)
        omega
      · rw [tau_new h1, tau_old (List.getElem?_eq_getElem h2)] at hij
        have := hlt _ (List.getElem_mem h2)
        omega
      · rw [tau_new h1, tau_new h2] at hij
        omega
    have hmix : ∀ i y j x, (i, y) ∈ os' → (j, x) ∈ s.os → j ∉ ρ → ∀ l m, E'.at_ i = some (some l) → E.at_ j = some (some m) → l.g ≠ m.g := by
      intro i y j x h1 h2 h3 l m h4 h5 he
      rcases (hback i y l h1 h4).1 with h6 | h6
      · have := hr.sr.lt h2 h5
        omega
      · rw [he] at h6
        exact hnotmine j x m h2 h3 h5 h6
    have hrel : Rel X (s.back ρ os' nb') E'' a w' := by
      refine ⟨hr.sz, fun t d hd => (hr.tm t d hd).keep hle hro, hr.df, ⟨fun j x hj => ?_, fun j hj => ?_, hsr'.rolt, fun i x j y hi hj hij l m hl hm => ?_, ?_, ?_⟩, ?_⟩
      · rcases List.mem_append.1 hj with hj | hj
        · obtain ⟨i, y, h1, h2⟩ := hren _ hj
          injection h2 with h2 h3
          subst h2; subst h3
          refine (hsr'.obs i y h1).ren (p := every) rfl (List.all_eq_true.2 fun d _ => d.in1_every) hvia fun l _ hw hr' => ⟨?_, hr'⟩
          rcases hw with hw | hw
          · exact .inl (Nat.le_trans hr.st.size hw)
          · exact hmW _ hw
        · obtain ⟨h1, h2⟩ := hrest j x hj
          refine (hr.sr.obs j x h1).keep hle hro fun l hl => ⟨hblock _ (hr.sr.lt h1 hl) (hnotmine j x l h1 h2 hl), fun hb => ?_⟩
          rcases hro' _ hb with h3 | h3 | h3
          · exact (hobj j x l h1 hl).2 h3
          · have := hr.sr.lt h1 hl; omega
          · exact hnotmine j x l h1 h2 hl h3
      · have hj' : s.nb + (nb' - ρ.length) ≤ j := hj
        show (if j < s.nb then _ else E'.at_ (j - s.nb + ρ.length)) = none
        rw [if_neg (by omega)]
        exact hsr'.new _ (by omega)
      · rcases List.mem_append.1 hi with hi | hi <;> rcases List.mem_append.1 hj with hj | hj
        · obtain ⟨i', x', h1, h2⟩ := hren _ hi
          obtain ⟨j', y', h3, h4⟩ := hren _ hj
          injection h2 with h2 _
          injection h4 with h4 _
          subst h2; subst h4
          rw [htau] at hl hm
          exact hsr'.apart i' x' j' y' h1 h3 (fun e => hij (by rw [e])) l m hl hm
        · obtain ⟨i', x', h1, h2⟩ := hren _ hi
          obtain ⟨h3, h4⟩ := hrest j y hj
          injection h2 with h2 _
          subst h2
          rw [htau] at hl
          rw [hold j (hr.sr.idlt h3)] at hm
          exact hmix i' x' j y h1 h3 h4 l m hl hm
        · obtain ⟨j', y', h3, h4⟩ := hren _ hj
          obtain ⟨h1, h2⟩ := hrest i x hi
          injection h4 with h4 _
          subst h4
          rw [htau] at hm
          rw [hold i (hr.sr.idlt h1)] at hl
          exact fun e => hmix j' y' i x h3 h1 h2 m l hm hl e.symm
        · obtain ⟨h1, h2⟩ := hrest i x hi
          obtain ⟨h3, h4⟩ := hrest j y hj
          rw [hold i (hr.sr.idlt h1)] at hl
          rw [hold j (hr.sr.idlt h3)] at hm
          exact hr.sr.apart i x j y h1 h3 hij l m hl hm
      · show ((os'.map (fun p => (tau ρ s.nb p.1, p.2.ren (tau ρ s.nb))) ++ s.os.filter (fun p => !ρ.contains p.1)).map (·.1)).Nodup
        rw [List.map_append, List.map_map, List.nodup_append]
        refine ⟨?_, hr.sr.nodup.sublist ((List.filter_sublist).map _), ?_⟩
        · rw [show (fun p : Nat × Ob => p.1) ∘ (fun p : Nat × Ob => (tau ρ s.nb p.1, p.2.ren (tau ρ s.nb))) = (tau ρ s.nb) ∘ (·.1) from rfl, ← List.map_map]
          exact hsr'.nodup.map (f := tau ρ s.nb) fun i j h e => h (hinj i j e)
        · intro i hi j hj e
          obtain ⟨⟨i', y⟩, h1, h2⟩ := List.mem_map.1 hi
          obtain ⟨⟨j', x⟩, h3, h4⟩ := List.mem_map.1 hj
          obtain ⟨h5, h6⟩ := hrest j' x h3
          have h2' : tau ρ s.nb i' = i := h2
          have h4' : j' = j := h4
          subst e; subst h4'
          rcases Nat.lt_or_ge i' ρ.length with h7 | h7
          · rw [tau_old (List.getElem?_eq_getElem h7)] at h2'
            exact h6 (h2' ▸ List.getElem_mem h7)
          · rw [tau_new h7] at h2'
            have := hr.sr.idlt h5
            omega
      · have htg : ∀ b, E''.tg b = (match E'.tg b with | some (i, p) => some (tau ρ s.nb i, p) | none => match E.tg b with | some (k, p) => if ρ.contains k = true then none else some (k, p) | none => none) := fun b => rfl
        have hfree : ∀ b k p, E.tg b = some (k, p) → ρ.contains k = false → b < w.heap.size ∧ ¬ M b ∧ E'.tg b = none := by
          intro b k p h1 h2
          obtain ⟨e1, e2, e3, e4⟩ := hr.sr.tr.blk b k p h1
          have hM : ¬ M b := by
            rintro (⟨j, x, l, _, h5, h6, h7⟩ | ⟨k', p', h5, h6⟩)
            · exact e4 j x l h5 h6 h7
            · rw [h1] at h5
              injection h5 with h5
              injection h5 with h5 _
              rw [h5, h6] at h2
              cases h2
          refine ⟨e1, hM, ?_⟩
          cases h5 : E'.tg b with
          | none => rfl
          | some q =>
            rcases (hsr'.tr.blk b q.1 q.2 h5).2.1 with h6 | h6
            · omega
            · exact absurd h6 hM
        refine ⟨fun b i p hq => ?_, fun i x hi j ty sz n cs hj => ?_⟩
        · rw [htg] at hq
          cases h1 : E'.tg b with
          | some q =>
            obtain ⟨e1, e2, e3, e4⟩ := hsr'.tr.blk b q.1 q.2 h1
            refine ⟨e1, ?_, e3, fun j y l hj hl => ?_⟩
            · rcases e2 with e2 | e2
              · exact .inl (Nat.le_trans hr.st.size e2)
              · exact hmW b e2
            · rcases List.mem_append.1 hj with hj | hj
              · obtain ⟨i', y', h2, h3⟩ := hren _ hj
                injection h3 with h3 _
                subst h3
                rw [htau] at hl
                exact e4 i' y' l h2 hl
              · obtain ⟨h2, h3⟩ := hrest j y hj
                rw [hold j (hr.sr.idlt h2)] at hl
                intro e
                subst e
                rcases e2 with e2 | e2
                · have := hr.sr.lt h2 hl; omega
                · exact hnotmine j y l h2 h3 hl e2
          | none =>
            rw [h1] at hq
            cases h2 : E.tg b with
            | none => rw [h2] at hq; cases hq
            | some q =>
              obtain ⟨k, p0⟩ := q
              rw [h2] at hq
              simp only at hq
              split at hq
              · cases hq
              · rename_i hk
                obtain ⟨f1, f2, _⟩ := hfree b k p0 h2 (by simpa using hk)
                obtain ⟨e1, e2, e3, e4⟩ := hr.sr.tr.blk b k p0 h2
                refine ⟨Nat.lt_of_lt_of_le e1 hsize, e2, fun hb => ?_, fun j y l hj hl => ?_⟩
                · rcases hro' b hb with h3 | h3 | h3
                  · exact e3 h3
                  · omega
                  · exact f2 h3
                · rcases List.mem_append.1 hj with hj | hj
                  · obtain ⟨i', y', h3, h4⟩ := hren _ hj
                    injection h4 with h4 _
                    subst h4
                    rw [htau] at hl
                    intro e
                    subst e
                    rcases (hback i' y' l h3 hl).1 with h5 | h5
                    · omega
                    · exact f2 h5
                  · obtain ⟨h3, h4⟩ := hrest j y hj
                    rw [hold j (hr.sr.idlt h3)] at hl
                    exact e4 j y l h3 hl
        · rcases List.mem_append.1 hi with hi | hi
          · obtain ⟨i', y', h2, h3⟩ := hren _ hi
            injection h3 with h3 h4
            subst h3; subst h4
            have hj' : (y'.cs.map (D.ren1 (tau ρ s.nb)))[j]? = some (.tr ty sz n cs) := hj
            rw [List.getElem?_map] at hj'
            cases hx2 : y'.cs[j]? with
            | none => rw [hx2] at hj'; cases hj'
            | some d =>
              rw [hx2] at hj'
              injection hj' with hj'
              have hd : d = .tr ty sz n cs := by cases d <;> simp only [D.ren1, reduceCtorEq] at hj' <;> exact hj'
              obtain ⟨l, u, e1, e2, e3⟩ := hsr'.tr.cell i' y' h2 j ty sz n cs (by rw [hx2, hd])
              exact ⟨l, u, (htau i').trans e1, e2, e3.map fun b q hq => ⟨rfl, by rw [htg, hq]⟩⟩
          · obtain ⟨h2, h3⟩ := hrest i x hi
            obtain ⟨l, u, e1, e2, e3⟩ := hr.sr.tr.cell i x h2 j ty sz n cs hj
            refine ⟨l, u, (hold i (hr.sr.idlt h2)).trans e1, (World.cell?_of_block (a := ⟨l.g, j, none⟩) (hblock _ (hr.sr.lt h2 e1) (hnotmine i x l h2 h3 e1))).trans e2, e3.map fun b q hq => ?_⟩
            have hci : ρ.contains i = false := by simpa using h3
            obtain ⟨f1, f2, f3⟩ := hfree b i q hq hci
            refine ⟨hblock b f1 f2, ?_⟩
            rw [htg, f3, hq]
            simp only [hci, Bool.false_eq_true, if_false]
      · refine ⟨hr.st.le.trans hle, hos'.trans hr.st.os, htape.trans hr.st.tape, hout.trans hr.st.output, Nat.le_trans hr.st.size hsize, fun b h1 h2 => ?_, fun b hb => ?_, Nat.le_trans hr.st.nb (Nat.le_add_right _ _)⟩
        · refine (hblock b (Nat.lt_of_lt_of_le h1 hr.st.size) fun hm => ?_).trans (hr.st.block b h1 h2)
          rcases hmW b hm with h3 | h3
          · omega
          · exact h2 h3
        · rcases hro' b hb with h3 | h3 | h3
          · exact hr.st.ro b h3
          · exact .inr (.inl (Nat.le_trans hr.st.size h3))
          · exact .inr (hmW b h3)
    have hT : ∀ g, M g → E.tg g = none → ∃ j l, (wr.contains j = true ∨ nb ≤ j) ∧ E.at_ j = some (some l) ∧ l.g = g := by
      intro g hg h0
      rcases hg with ⟨j, x, l, h1, _, h3, h4⟩ | ⟨k, p, h1, _⟩
      · exact ⟨j, l, hwr j h1, h3, h4⟩
      · rw [h0] at h1; cases h1
    refine hK _ _ _ _ (hk d os' nb' hq hnb) (hrel.put o.dst (hv.ren d.inn_every hvia)) ⟨hle, hsize, fun b hb h0 hT' => hblock b hb fun hm => ?_, fun j l h1 h2 => ?_, fun b h1 h2 => ?_⟩
    · obtain ⟨j, l, h1, h2, h3⟩ := hT b hm h0
      exact hT' j l h1 h2 h3
    · have hj : s.nb ≤ j := by
        rcases Nat.lt_or_ge j s.nb with h3 | h3
        · rw [hold j h3, h1] at h2; cases h2
        · exact h3
      have h3 : E'.at_ (j - s.nb + ρ.length) = some (some l) := by
        have : (if j < s.nb then E.at_ j else E'.at_ (j - s.nb + ρ.length)) = some (some l) := h2
        rwa [if_neg (by omega)] at this
      rcases hnl _ l (by omega) h3 with h4 | ⟨j', x, m, h4, _, h5, h6⟩ | ⟨k, p, h4, _⟩
      · exact .inl h4
      · exact .inr (.inl ⟨j', m, hwr j' h4, h5, h6⟩)
      · exact .inr (.inr (by rw [h4]; simp))
    · have h3 : (match E'.tg b with | some (i, p) => some (tau ρ s.nb i, p) | none => match E.tg b with | some (k, p) => if ρ.contains k = true then none else some (k, p) | none => none) ≠ none := h2
      rw [h1] at h3
      cases h4 : E'.tg b with
      | none => rw [h4] at h3; exact absurd rfl h3
      | some q =>
        rcases (hsr'.tr.blk b q.1 q.2 h4).2.1 with h5 | h5
        · exact .inl h5
        · obtain ⟨j, l, h6, h7, h8⟩ := hT b h5 h1
          exact .inr ⟨j, l, h6, h7, h8⟩

theorem awcallH {X : Ctx} {P : Program} {o : Oper} {s : St} {f : FuncId} {xs : Array Operand} {ats : Array TypeId} {K : St → Prop} (ho : o.op = .call { callee := .value (.func f), args := xs, argTypes := ats })
    {ds : List D} {os : List (Nat × Ob)} {k : Nat} {Q : D → List (Nat × Ob) → Nat → Prop} (hs : SpecH P f ds os k Q) (ρ : List Nat) (hρ : ρ.Nodup) (hlen : ρ.length = k) (hin : insOk s.os ρ false = true) (hos : handOs s.os (sg ρ) ρ = os)
    (hdin : (xs.toList.map s.ev).all (D.inn ρ.contains) = true) (hds : (xs.toList.map s.ev).map (D.ren (sg ρ)) = ds)
    (hk : ∀ d os' nb', Q d os' nb' → k ≤ nb' → K ((s.back ρ os' nb').put o.dst (d.ren (tau ρ s.nb)))) : AwStep X P o s K :=
  (awcallHF (wr := []) (nb := 0) ho hs ρ hρ hlen hin hos hdin hds (fun _ _ => .inr (Nat.zero_le _)) hk).plain
end Go.Proofs.YtemaanibghedlaaGreat
