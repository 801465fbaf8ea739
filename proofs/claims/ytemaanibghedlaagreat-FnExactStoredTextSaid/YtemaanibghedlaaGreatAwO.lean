/- The logic over data: an object that is no longer written becomes data that is only read. -/
import Derived.Test.YtemaanibghedlaaGreatAwN
namespace Go.Proofs.YtemaanibghedlaaGreat
open Go.RowKit

def D.rp : D → Bool
  | .sc _ | .sl .. => true
  | _ => false
def D.frz1 (i : Nat) (x : Ob) : D → D
  | .own j off n => if j = i then (if off = 0 ∧ n = x.len then .sl n x.cs else if off + n * x.size ≤ x.cs.length then .sl n ((x.cs.drop off).take (n * x.size)) else .none) else .own j off n
  | .ptr j o => if j = i then .cptr x.cs o else .ptr j o
  | d => d
def D.frzA (i : Nat) (x : Ob) : D → D
  | .agg cs => .agg (cs.map (D.frz1 i x))
  | d => d.frz1 i x
def D.frz (i : Nat) (x : Ob) : D → D
  | .tup ds => .tup (ds.map (D.frzA i x))
  | d => d.frzA i x
def St.frz (s : St) (i : Nat) : St := match s.ob i with
  | some x => ⟨s.tm.map (D.frz i x), (s.os.filter (fun p => !(p.1 == i))).map (fun p => (p.1, { p.2 with cs := p.2.cs.map (D.frz1 i x) })), s.nb⟩
  | none => s
def frzOk (s : St) (i : Nat) : Bool := match s.ob i with
  | some x => x.cs.all D.rp
  | none => true
def Env.frz (E : Env) (i : Nat) : Env := ⟨fun b => E.ro b ∨ ∃ l, E.at_ i = some (some l) ∧ l.g = b, E.at_, E.tg⟩
theorem Env.frz_le (E : Env) (i : Nat) : E.le (E.frz i) := ⟨fun _ _ h => h, fun _ h => .inl h⟩
theorem Rep1.rp {E : Env} {w : World} {d : D} {u : Value} (h : Rep1 E w d u) (hd : d.rp = true) : RepP E.ro w d u := by
  cases d with
  | sc v => obtain ⟨rfl, h1⟩ := h; exact .sc _ h1
  | sl n cs => exact h
  | _ => cases hd
theorem mapOk_frz {cs : List D} {es : Array MapEntry} {i : Nat} {x : Ob} (h : MapOk cs es) : MapOk (cs.map (D.frz1 i x)) es := by
  refine ⟨?_, h.2⟩
  rw [h.1, List.map_cons, List.map_flatMap]
  rfl
theorem frz_part {X : Ctx} {s : St} {E : Env} {a : Act} {w : World} (hr : Rel X s E a w) {i : Nat} {x : Ob} (hx : s.ob i = some x) (hk : x.cs.all D.rp = true) {l : Loc} (hl : E.at_ i = some (some l)) {off n c m : Nat} (hm : off + m ≤ x.cs.length) (hn : n ≤ c) (hc : c ≤ maxLen) :
    Rep1 (E.frz i) w (.sl n ((x.cs.drop off).take m)) (.slice (some ⟨l.g, off, none⟩) n c) := by
  obtain ⟨us, e1, e2, e3⟩ := hr.cells (St.ob_some hx).2 (mem_of_lookup (St.ob_some hx).1) hl off m hm
  refine .sl n _ (some ⟨l.g, off, none⟩) c us (by simp [e1]; omega) hn hc (fun j u hu => ⟨l.g, off, rfl, .inr ⟨l, hl, rfl⟩, e2 j u hu⟩) fun j d u hd hu => ?_
  obtain ⟨e4, _⟩ := e3 j d u hd hu
  have hmem : d ∈ x.cs := List.mem_of_mem_drop (List.mem_of_mem_take (List.mem_of_getElem? hd))
  exact (e4.rp (List.all_eq_true.1 hk d hmem)).keep (fun b hb => .inl hb) fun _ _ => rfl
theorem Rep1.frz {X : Ctx} {s : St} {E : Env} {a : Act} {w : World} (hr : Rel X s E a w) {i : Nat} {x : Ob} (hx : s.ob i = some x) (hk : x.cs.all D.rp = true) {d : D} {u : Value} (h : Rep1 E w d u) : Rep1 (E.frz i) w (d.frz1 i x) u ∧ (u.oneCell' = true → True) := by
  refine ⟨?_, fun _ => trivial⟩
  have hkeep : Rep1 (E.frz i) w d u := h.keep (E.frz_le i) fun _ _ => rfl
  cases d with
  | own j off n =>
    by_cases hj : j = i
    · subst hj
      simp only [D.frz1, if_true]
      have hxl := (hr.sr.obs j x (mem_of_lookup (St.ob_some hx).1)).1 (St.ob_some hx).2
      rcases h with ⟨l, c, h1, rfl, h3, h4, h5⟩ | ⟨h1, rfl, rfl, rfl⟩
      · split
        · rename_i h6
          obtain ⟨rfl, rfl⟩ := h6
          have := frz_part hr hx hk h1 (off := 0) (m := x.cs.length) (by omega) h3 h4
          simpa using this
        · split
          · rename_i h6
            exact frz_part hr hx hk h1 h6 h3 h4
          · trivial
      · have h0 : x.len = 0 := by
          rcases (hr.sr.obs j x (mem_of_lookup (St.ob_some hx).1)).2 with ⟨_, h2⟩ | ⟨l, h2, _⟩
          · exact h2
          · rw [h1] at h2; cases h2
        rw [h0, Nat.zero_mul] at hxl
        have hnil : x.cs = [] := List.eq_nil_of_length_eq_zero hxl
        rw [if_pos ⟨rfl, h0.symm⟩, hnil]
        exact .sl 0 [] none 0 [] rfl (Nat.le_refl _) (Nat.zero_le _) (fun j u hu => by simp at hu) fun j d u hd => by simp at hd
    · simp only [D.frz1, if_neg hj]
      exact hkeep
  | ptr j o =>
    by_cases hj : j = i
    · subst hj
      simp only [D.frz1, if_true]
      obtain ⟨l, h1, rfl⟩ := h
      obtain ⟨us, e1, e2, e3⟩ := hr.cells (St.ob_some hx).2 (mem_of_lookup (St.ob_some hx).1) h1 0 x.cs.length (by omega)
      refine ⟨l.g, 0, us, by simp, .inr ⟨l, h1, rfl⟩, e1, e2, fun k d v hd hv => ?_⟩
      obtain ⟨e4, _⟩ := e3 k d v (by simpa using hd) hv
      exact (e4.rp (List.all_eq_true.1 hk d (List.mem_of_getElem? hd))).keep (fun b hb => .inl hb) fun _ _ => rfl
    · simp only [D.frz1, if_neg hj]
      exact hkeep
  | _ => exact hkeep
theorem RepA.frz {X : Ctx} {s : St} {E : Env} {a : Act} {w : World} (hr : Rel X s E a w) {i : Nat} {x : Ob} (hx : s.ob i = some x) (hk : x.cs.all D.rp = true) {d : D} {u : Value} (h : RepA E w d u) : RepA (E.frz i) w (d.frzA i x) u := by
  by_cases ha : ∀ cs, d ≠ .agg cs
  · rw [repA_of ha] at h
    have h2 := (h.frz hr hx hk).1
    have h3 : d.frzA i x = d.frz1 i x := by cases d <;> first | rfl | exact absurd rfl (ha _)
    rw [h3]
    rw [repA_of (by intro cs he; cases d <;> simp only [D.frz1] at he <;> first | exact ha _ he | (split at he <;> first | (split at he <;> first | cases he | (split at he <;> cases he)) | cases he) | cases he)]
    exact h2
  · obtain ⟨cs, ha⟩ := Classical.not_forall.1 ha
    obtain rfl := Classical.not_not.1 ha
    obtain ⟨us, h1, h2, h3⟩ := h
    refine ⟨us, h1, by simp [h2], fun j d v hj hv => ?_⟩
    rw [List.getElem?_map] at hj
    cases hc : cs[j]? with
    | none => rw [hc] at hj; cases hj
    | some e =>
      rw [hc] at hj
      injection hj with hj
      subst hj
      obtain ⟨h4, h5⟩ := h3 j e v hc hv
      exact ⟨(h4.frz hr hx hk).1, h5⟩
theorem Rep.frz {X : Ctx} {s : St} {E : Env} {a : Act} {w : World} (hr : Rel X s E a w) {i : Nat} {x : Ob} (hx : s.ob i = some x) (hk : x.cs.all D.rp = true) {d : D} {u : Value} (h : Rep E w d u) : Rep (E.frz i) w (d.frz i x) u := by
  by_cases ha : ∀ cs, d ≠ .tup cs
  · rw [rep_of ha] at h
    have h2 := h.frz hr hx hk
    have h3 : d.frz i x = d.frzA i x := by cases d <;> first | rfl | exact absurd rfl (ha _)
    rw [h3]
    rw [rep_of (by intro cs he; cases d <;> simp only [D.frzA, D.frz1] at he <;> first | exact ha _ he | (split at he <;> first | (split at he <;> first | cases he | (split at he <;> cases he)) | cases he) | cases he)]
    exact h2
  · obtain ⟨cs, ha⟩ := Classical.not_forall.1 ha
    obtain rfl := Classical.not_not.1 ha
    obtain ⟨us, h1, h2, h3⟩ := h
    refine ⟨us, h1, by simp [h2], fun j d v hj hv => ?_⟩
    rw [List.getElem?_map] at hj
    cases hc : cs[j]? with
    | none => rw [hc] at hj; cases hj
    | some e =>
      rw [hc] at hj
      injection hj with hj
      subst hj
      exact (h3 j e v hc hv).frz hr hx hk
theorem frz_sound {X : Ctx} {s : St} {i : Nat} (hk : frzOk s i = true) {E : Env} {a : Act} {w : World} (hr : Rel X s E a w) : ∃ E', Rel X (s.frz i) E' a w ∧ E.le E' ∧ E'.at_ = E.at_ ∧ E'.tg = E.tg := by
  unfold frzOk at hk
  unfold St.frz
  cases hx : s.ob i with
  | none => exact ⟨E, hr, .refl _, rfl, rfl⟩
  | some x =>
    rw [hx] at hk
    have hk' : x.cs.all D.rp = true := hk
    refine ⟨E.frz i, ⟨by simpa using hr.sz, fun t d hd => ?_, hr.df, ⟨fun j y hj => ?_, hr.sr.new, fun b hb => ?_, fun j y k z hj hk2 hjk => ?_, ?_, ?_⟩, ?_⟩, E.frz_le i, rfl, rfl⟩
    · simp only [List.getElem?_map] at hd
      cases ht : s.tm[t]? with
      | none => rw [ht] at hd; cases hd
      | some e =>
        rw [ht] at hd
        injection hd with hd
        subst hd
        exact (hr.tm t e ht).frz hr hx hk'
    · obtain ⟨⟨j', y'⟩, h1, h2⟩ := List.mem_map.1 hj
      obtain ⟨h3, h4⟩ := List.mem_filter.1 h1
      injection h2 with h2 h5
      subst h2; subst h5
      have hji : j' ≠ i := by simpa using h4
      obtain ⟨h6, h7⟩ := hr.sr.obs j' y' h3
      refine ⟨by simpa using h6, ?_⟩
      rcases h7 with ⟨h8, h9⟩ | ⟨l, h8, h9, h10, h11, h12, ⟨cur, h13, h14, h15⟩ | ⟨h13, es, clock, h14, h15⟩⟩
      · exact .inl ⟨h8, h9⟩
      rotate_left 1
      · refine .inr ⟨l, h8, h9, fun hb => ?_, h11, h12, .inr ⟨h13, es, clock, h14, mapOk_frz h15⟩⟩
        rcases hb with hb | ⟨m, hm, he⟩
        · exact h10 hb
        · exact hr.sr.apart j' y' i x h3 (mem_of_lookup (St.ob_some hx).1) hji l m h8 hm he.symm
      · refine .inr ⟨l, h8, h9, fun hb => ?_, h11, h12, .inl ⟨cur, h13, h14, fun q d hd => ?_⟩⟩
        · rcases hb with hb | ⟨m, hm, he⟩
          · exact h10 hb
          · exact hr.sr.apart j' y' i x h3 (mem_of_lookup (St.ob_some hx).1) hji l m h8 hm he.symm
        · simp only [List.getElem?_map] at hd
          cases hq : y'.cs[q]? with
          | none => rw [hq] at hd; cases hd
          | some e =>
            rw [hq] at hd
            injection hd with hd
            subst hd
            obtain ⟨u, h16, h17, h18⟩ := h15 q e hq
            exact ⟨u, h16, h17, (h18.frz hr hx hk').1⟩
    · rcases hb with hb | ⟨l, hl, rfl⟩
      · exact hr.sr.rolt b hb
      · exact hr.sr.lt (mem_of_lookup (St.ob_some hx).1) hl
    · obtain ⟨⟨j', y'⟩, h1, h2⟩ := List.mem_map.1 hj
      obtain ⟨h3, _⟩ := List.mem_filter.1 h1
      obtain ⟨⟨k', z'⟩, h4, h5⟩ := List.mem_map.1 hk2
      obtain ⟨h6, _⟩ := List.mem_filter.1 h4
      injection h2 with h2 _
      injection h5 with h5 _
      subst h2; subst h5
      exact hr.sr.apart _ _ _ _ h3 h6 hjk
    · show (((s.os.filter (fun p => !(p.1 == i))).map (fun p => (p.1, ({ p.2 with cs := p.2.cs.map (D.frz1 i x) } : Ob)))).map (·.1)).Nodup
      rw [List.map_map]
      exact hr.sr.nodup.sublist ((List.filter_sublist).map _)
    · refine hr.sr.tr.keep rfl (fun b k p _ h1 h2 h3 h4 => ⟨h1, rfl, h2, fun hb => ?_, fun j y l hj hl => ?_⟩) fun k x' hx' j ty sz n cs hj => ?_
      · rcases hb with hb | ⟨l, hl, he⟩
        · exact h3 hb
        · exact h4 i x l (mem_of_lookup (St.ob_some hx).1) hl he
      · obtain ⟨⟨j', y'⟩, h5, h6⟩ := List.mem_map.1 hj
        obtain ⟨h7, _⟩ := List.mem_filter.1 h5
        injection h6 with h6 _
        subst h6
        exact h4 _ _ l h7 hl
      · obtain ⟨⟨j', y'⟩, h5, h6⟩ := List.mem_map.1 hx'
        obtain ⟨h7, _⟩ := List.mem_filter.1 h5
        injection h6 with h6 h8
        subst h6; subst h8
        have hj' : (y'.cs.map (D.frz1 i x))[j]? = some (.tr ty sz n cs) := hj
        rw [List.getElem?_map] at hj'
        cases hq : y'.cs[j]? with
        | none => rw [hq] at hj'; cases hj'
        | some d =>
          rw [hq] at hj'
          injection hj' with hj'
          refine ⟨y', h7, ?_, fun l hl => ⟨hl, rfl⟩⟩
          rw [hq]
          cases d <;> simp only [D.frz1, reduceCtorEq] at hj' <;> first | exact congrArg some hj' | (split at hj' <;> first | cases hj' | (split at hj' <;> first | cases hj' | (split at hj' <;> cases hj')))
    · refine ⟨hr.st.le.trans (E.frz_le i), hr.st.os, hr.st.tape, hr.st.output, hr.st.size, hr.st.block, fun b hb => ?_, hr.st.nb⟩
      rcases hb with hb | ⟨l, hl, rfl⟩
      · exact hr.st.ro b hb
      · rcases (hr.sr.obs i x (mem_of_lookup (St.ob_some hx).1)).2 with ⟨h8, _⟩ | ⟨m, h8, h9, _⟩
        · rw [hl] at h8; cases h8
        · rw [hl] at h8
          injection h8 with h8
          injection h8 with h8
          subst h8
          exact .inr h9
def frzs (s : St) : List Nat → St
  | [] => s
  | i :: is => frzs (s.frz i) is
def frzsOk (s : St) : List Nat → Bool
  | [] => true
  | i :: is => frzOk s i && frzsOk (s.frz i) is
theorem frzs_sound {X : Ctx} : ∀ {is : List Nat} {s : St}, frzsOk s is = true → ∀ {E : Env} {a : Act} {w : World}, Rel X s E a w → ∃ E', Rel X (frzs s is) E' a w ∧ E.le E' ∧ E'.at_ = E.at_ ∧ E'.tg = E.tg
  | [], _, _, E, _, _, hr => ⟨E, hr, .refl _, rfl, rfl⟩
  | i :: is, s, h, E, a, w, hr => by
    simp only [frzsOk, Bool.and_eq_true] at h
    obtain ⟨E1, h1, h2, h3, h7⟩ := frz_sound h.1 hr
    obtain ⟨E2, h4, h5, h6, h8⟩ := frzs_sound h.2 h1
    exact ⟨E2, h4, h2.trans h5, h6.trans h3, h8.trans h7⟩
/-- Ahead of a step. -/
theorem awfrzF {X : Ctx} {P : Program} {o : Oper} {s : St} {wr : List Nat} {nb : Nat} {K : St → Prop} (is : List Nat) (hok : frzsOk s is = true) (h : AwStepF X P o (frzs s is) wr nb K) : AwStepF X P o s wr nb K := by
  refine ⟨fun E a w K' R hr hK => ?_⟩
  obtain ⟨E1, h1, h2, h3, h9⟩ := frzs_sound hok hr
  exact h.out E1 a w K' R h1 fun s' E' a' w' hq hr' hf => hK s' E' a' w' hq hr' ⟨h2.trans hf.le, hf.size, fun b hb h0 ht => hf.block b hb (by rw [h9]; exact h0) (fun i l h4 h5 => ht i l h4 (by rw [← h3]; exact h5)), fun i l h4 h5 => by
    rcases hf.new i l (by rw [h3]; exact h4) h5 with h6 | ⟨k, m, h6, h7, h8⟩ | h6
    · exact .inl h6
    · exact .inr (.inl ⟨k, m, h6, by rw [← h3]; exact h7, h8⟩)
    · exact .inr (.inr (by rw [← h9]; exact h6)), fun b h4 h5 => by
    rcases hf.tag b (by rw [h9]; exact h4) h5 with h6 | ⟨k, m, h6, h7, h8⟩
    · exact .inl h6
    · exact .inr ⟨k, m, h6, by rw [← h3]; exact h7, h8⟩⟩
theorem awfrz {X : Ctx} {P : Program} {o : Oper} {s : St} {K : St → Prop} (is : List Nat) (hok : frzsOk s is = true) (h : AwStep X P o (frzs s is) K) : AwStep X P o s K := by
  refine ⟨fun E a w K' R hr hK => ?_⟩
  obtain ⟨E1, h1, _⟩ := frzs_sound hok hr
  exact h.out E1 a w K' R h1 hK
theorem awfrzC {X : Ctx} {P : Program} {c : Code} {s : St} {Q : Exit → St → Prop} (is : List Nat) (hok : frzsOk s is = true) (h : AwCode X P c (frzs s is) Q) : AwCode X P c s Q := by
  refine ⟨fun E a w R hr hK => ?_⟩
  obtain ⟨E1, h1, _⟩ := frzs_sound hok hr
  exact h.out E1 a w R h1 hK
/-- Where a function returns. -/
def retOkZ (P : Program) (rs : List ResultVar) (Q : D → Prop) (s : St) : Prop := ∃ is, frzsOk s is = true ∧ retOk P rs Q (frzs s is)
def retQZ (P : Program) (rs : List ResultVar) (Q : D → Prop) : Exit → St → Prop
  | .normal, s => retOkZ P rs Q s
  | .ret, s => retOkZ P rs Q s
  | _, _ => False
theorem rqz_normal (P : Program) (rs : List ResultVar) (Q : D → Prop) (s : St) : retQZ P rs Q .normal s = retOkZ P rs Q s := rfl
theorem rqz_ret (P : Program) (rs : List ResultVar) (Q : D → Prop) (s : St) : retQZ P rs Q .ret s = retOkZ P rs Q s := rfl
theorem wcode_z {X : Ctx} {P : Program} {c : Code} {rs : List ResultVar} {Q : D → Prop} {s : St} (h : WCode X P c (retQZ P rs Q) s) : AwCode X P c s (retQ P rs Q) := by
  refine ⟨fun E a w R hr hK => wcode_go h E a w R hr fun e s' E' a' w' hq hr' => ?_⟩
  cases e with
  | normal =>
    obtain ⟨is, h1, h2⟩ := hq
    obtain ⟨E1, h3, _⟩ := frzs_sound h1 hr'
    exact hK .normal _ E1 a' w' h2 h3
  | ret =>
    obtain ⟨is, h1, h2⟩ := hq
    obtain ⟨E1, h3, _⟩ := frzs_sound h1 hr'
    exact hK .ret _ E1 a' w' h2 h3
  | _ => exact hq.elim
theorem specT_intro {P : Program} {T : (Nat → Prop) → World → Prop} {f : FuncId} {fn : Func} {c : Code} {ds : List D} {Q : D → Prop} {rs : List ResultVar} (hf : P.funcs[f]? = some fn) (hb : fn.body = some c) (hn : (fn.name == "runtime.NumGoroutine") = false) (hrs : fn.results = rs.toArray) {nt : Nat} (hnt : fn.ntmps = nt) (hsz : ds.length ≤ nt)
    (h : ∀ X : Ctx, X.nb = 0 → TK T X → WCode X P c (retQZ P rs Q) ⟨ds ++ List.replicate (nt - ds.length) .none, [], 0⟩) : SpecT P T f ds Q :=
  specT_introA hf hb hn hrs hnt hsz fun X hX hT => wcode_z (h X hX hT)
theorem specZ_intro {P : Program} {f : FuncId} {fn : Func} {c : Code} {ds : List D} {Q : D → Prop} {rs : List ResultVar} (hf : P.funcs[f]? = some fn) (hb : fn.body = some c) (hn : (fn.name == "runtime.NumGoroutine") = false) (hrs : fn.results = rs.toArray) {nt : Nat} (hnt : fn.ntmps = nt) (hsz : ds.length ≤ nt)
    (h : ∀ X : Ctx, X.nb = 0 → WCode X P c (retQZ P rs Q) ⟨ds ++ List.replicate (nt - ds.length) .none, [], 0⟩) : Spec P f ds Q :=
  spec_introA hf hb hn hrs hnt hsz fun X hX => wcode_z (h X hX)
/-- A loop; behind a round some objects are frozen, the others get new numbers. -/
theorem awloopZ {X : Ctx} {P : Program} {c : Code} {s : St} {Q : Exit → St → Prop} {ι : Type} (st : ι → St) (I : ι → Prop) (μ : ι → Nat) (i0 : ι) (hI : I i0) (h0 : ∃ is ρ, frzsOk s is = true ∧ FitR X.nb ρ (frzs s is) (st i0))
    (round : ∀ i, I i → WCode X P c (thenQ (fun s' => ∃ j is ρ, I j ∧ μ j < μ i ∧ frzsOk s' is = true ∧ FitR X.nb ρ (frzs s' is) (st j)) Q) (st i)) : AwCode X P (.loop c) s Q := by
  refine ⟨fun E a w R hr hk => ?_⟩
  have key : ∀ n i, μ i < n → I i → ∀ E a w, Rel X (st i) E a w → Code.rounds P c R n a w := by
    intro n
    induction n with
    | zero => intro i h; omega
    | succ n ih =>
      intro i hn hi E a w hr
      rw [rounds_succ]
      refine wcode_go (round i hi) E a w _ hr fun e s' E' a' w' hq hr' => ?_
      cases e with
      | normal =>
        obtain ⟨j, is, ρ, h1, h2, h3, h4⟩ := hq
        obtain ⟨E1, h5, _⟩ := frzs_sound h3 hr'
        exact ih j (by omega) h1 _ _ _ (fitR_sound h4 h5)
      | _ => exact hk _ _ _ _ _ hq hr'
  obtain ⟨is, ρ, h1, h0⟩ := h0
  obtain ⟨E1, h5, _⟩ := frzs_sound h1 hr
  exact wp_loop_rounds (μ i0 + 1) (key _ i0 (by omega) hI _ _ _ (fitR_sound h0 h5))
/-- A call under a condition on tables. -/
def Stays (T : (Nat → Prop) → World → Prop) : Prop := ∀ (ro ro' : Nat → Prop) (w w' : World), T ro w → (∀ b, ro b → ro' b) → (∀ b, ro b → w'.heap[b]? = w.heap[b]?) → T ro' w'
theorem TK.at {T : (Nat → Prop) → World → Prop} (hT : Stays T) {X : Ctx} (h : TK T X) {s : St} {E : Env} {a : Act} {w : World} (hr : Rel X s E a w) : T E.ro w :=
  hT _ _ _ _ h.is hr.st.le.ro fun b hb => hr.st.block b (h.ro b hb).1 (h.ro b hb).2
theorem awcallTF {X : Ctx} {P : Program} {T : (Nat → Prop) → World → Prop} (hT : Stays T) (hX : TK T X) {o : Oper} {s : St} {wr : List Nat} {nb : Nat} {f : FuncId} {xs : Array Operand} {ats : Array TypeId} {K : St → Prop} (ho : o.op = .call { callee := .value (.func f), args := xs, argTypes := ats }) (ds : List D) (Q : D → Prop)
    (hs : SpecT P T f ds Q) (hds : xs.toList.map s.ev = ds) (hno : ds.all D.noid = true) (hk : ∀ d, Q d → K (s.put o.dst d)) : AwStepF X P o s wr nb K := by
  refine ⟨fun E a w K' R hr hK => ?_⟩
  have h1 := hX.at hT hr
  have hrun : (execOp a.eval o).run P w = .ok (.enter f (xs.map a.eval)) w := by
    rw [show execOp a.eval o = callFunc f (#[] ++ xs.map a.eval ++ #[]) by simp only [execOp, ho]; rfl]
    rw [hs.1]
    simp
  unfold Oper.wp
  rw [hrun]
  show Calls P f _ w _
  subst hds
  refine (hs.2 E.ro w (xs.map a.eval) h1 hr.sr.rolt (by simp) (args_of hr hno)).mono ?_
  intro e w' h
  obtain ⟨v, rfl, h2⟩ := after_call hr hk hK e w' h
  exact h2
theorem awcallT {X : Ctx} {P : Program} {T : (Nat → Prop) → World → Prop} (hT : Stays T) (hX : TK T X) {o : Oper} {s : St} {f : FuncId} {xs : Array Operand} {ats : Array TypeId} {K : St → Prop} (ho : o.op = .call { callee := .value (.func f), args := xs, argTypes := ats }) (ds : List D) (Q : D → Prop)
    (hs : SpecT P T f ds Q) (hds : xs.toList.map s.ev = ds) (hno : ds.all D.noid = true) (hk : ∀ d, Q d → K (s.put o.dst d)) : AwStep X P o s K := (awcallTF (wr := []) (nb := 0) hT hX ho ds Q hs hds hno hk).plain
end Go.Proofs.YtemaanibghedlaaGreat
