/- The logic over data: slices that lie in an object's cells and belong to it; steps that turn the words alone; calls that only read what belongs to the caller. -/
import Derived.Test.YtemaanibghedlaaGreatAwOwn
namespace Go.Proofs.YtemaanibghedlaaGreat
open Go.RowKit

mutual
/-- What belongs to an object, as data that is only read. -/
def D.cold : D → D
  | .tr _ _ n cs => .sl n (D.colds cs)
  | .none => .none
  | .sc v => .sc v
  | .sl n cs => .sl n cs
  | .own i o n => .own i o n
  | .agg cs => .agg cs
  | .ptr i o => .ptr i o
  | .mp i => .mp i
  | .cptr cs o => .cptr cs o
  | .tup ds => .tup ds
  | .fn f cap => .fn f cap
def D.colds : List D → List D
  | [] => []
  | d :: r => d.cold :: D.colds r
end
theorem colds_nil : D.colds [] = [] := by rw [D.colds]
theorem colds_cons (d : D) (r : List D) : D.colds (d :: r) = d.cold :: D.colds r := by rw [D.colds]
theorem cold_tr (ty sz n : Nat) (cs : List D) : D.cold (.tr ty sz n cs) = .sl n (D.colds cs) := by rw [D.cold]
theorem cold_sc (v : Value) : D.cold (.sc v) = .sc v := by rw [D.cold]
theorem cold_sl (n : Nat) (cs : List D) : D.cold (.sl n cs) = .sl n cs := by rw [D.cold]
theorem cold_own (i o n : Nat) : D.cold (.own i o n) = .own i o n := by rw [D.cold]
theorem colds_map : ∀ cs : List D, D.colds cs = cs.map D.cold
  | [] => colds_nil
  | d :: r => by rw [colds_cons, colds_map r, List.map_cons]
theorem colds_app (a b : List D) : D.colds (a ++ b) = D.colds a ++ D.colds b := by simp [colds_map]
theorem colds_len (cs : List D) : (D.colds cs).length = cs.length := by simp [colds_map]
theorem cold_nt {d : D} (h : d.nt = true) : d.cold = d := by cases d <;> first | (cases h; done) | (rw [D.cold])

theorem OwnP.cold {ro : Nat → Prop} {w : World} {tg : Nat → Option (Nat × List Nat)} {i : Nat} {p : List Nat} {d : D} {u : Value} (h : OwnP w tg i p d u) (hro : ∀ b q, tg b = some (i, q) → ro b) : RepP ro w d.cold u := by
  induction h with
  | sc p v h1 => rw [cold_sc]; exact .sc v h1
  | nil p ty size => rw [cold_tr, colds_nil]; exact .sl 0 [] none 0 [] rfl (Nat.le_refl _) (Nat.zero_le _) (fun j u hu => by simp at hu) (fun j d u hd => by simp at hd)
  | tr p ty size n cs b c cur us hb hw hz hl hcur hn hc hu hat _ ih =>
    rw [cold_tr]
    refine .sl n _ _ c us (by rw [colds_len]; exact hu) hn hc (fun j u hj => ⟨b, 0, rfl, hro b p hb, ?_⟩) fun j d u hd hj => ?_
    · rw [Nat.zero_add, cell_of_row w b j cur ty (0, 0) hw]
      exact hat j u hj
    · rw [colds_map, List.getElem?_map] at hd
      cases hx : cs[j]? with
      | none => rw [hx] at hd; cases hd
      | some e =>
        rw [hx] at hd
        injection hd with hd
        subst hd
        exact ih j e u hx hj

/-! An object's slices become data that is only read; the object itself stays. -/
def St.cool (s : St) (i : Nat) : St := match s.os.lookup i with
  | some x => s.setCs i (D.colds x.cs)
  | none => s
def Env.cool (E : Env) (i : Nat) : Env := ⟨fun b => E.ro b ∨ ∃ p, E.tg b = some (i, p), E.at_, fun b => match E.tg b with | some (k, p) => if k = i then none else some (k, p) | none => none⟩
theorem Env.cool_le (E : Env) (i : Nat) : E.le (E.cool i) := ⟨fun _ _ h => h, fun _ h => .inl h⟩
theorem Env.cool_tg {E : Env} {i b k : Nat} {p : List Nat} (h : (E.cool i).tg b = some (k, p)) : E.tg b = some (k, p) ∧ k ≠ i := by
  have h' : (match E.tg b with | some (k, p) => if k = i then none else some (k, p) | none => none) = some (k, p) := h
  cases ht : E.tg b with
  | none => rw [ht] at h'; cases h'
  | some q =>
    obtain ⟨k', p'⟩ := q
    rw [ht] at h'
    simp only at h'
    split at h'
    · cases h'
    · rename_i hk
      injection h' with h'
      injection h' with e1 e2
      subst e1; subst e2
      exact ⟨rfl, hk⟩
theorem Env.cool_tg' {E : Env} {i b k : Nat} {p : List Nat} (h : E.tg b = some (k, p)) (hk : k ≠ i) : (E.cool i).tg b = some (k, p) := by
  show (match E.tg b with | some (k, p) => if k = i then none else some (k, p) | none => none) = some (k, p)
  rw [h]
  exact if_neg hk
theorem cool_sound {X : Ctx} {s : St} {i : Nat} {E : Env} {a : Act} {w : World} (hr : Rel X s E a w) : ∃ E', Rel X (s.cool i) E' a w ∧ E.le E' := by
  unfold St.cool
  cases hx : s.os.lookup i with
  | none => exact ⟨E, hr, .refl _⟩
  | some x =>
    have hmem := mem_of_lookup hx
    have hle := E.cool_le i
    refine ⟨E.cool i, ⟨hr.sz, fun t d hd => (hr.tm t d hd).keep hle fun _ _ => rfl, hr.df, ⟨fun j y hj => ?_, hr.sr.new, fun b hb => ?_, fun j y k z hj hk hjk l m hl hm => ?_, ?_, ?_⟩, ?_⟩, hle⟩
    · obtain ⟨z, hz, rfl⟩ := setCs_mem hj
      have hnro : ∀ l, E.at_ j = some (some l) → ¬ E.ro l.g → ¬ (E.cool i).ro l.g := by
        intro l hl hn hc
        rcases hc with hc | ⟨p, hp⟩
        · exact hn hc
        · exact (hr.sr.tr.blk _ i p hp).2.2.2 j z l hz hl rfl
      obtain ⟨h1, h2⟩ := hr.sr.obs j z hz
      by_cases hji : j = i
      · subst hji
        rw [if_pos rfl]
        obtain rfl := nodup_eq hr.sr.nodup hmem hz
        refine ⟨fun hs => by show (D.colds x.cs).length = _; rw [colds_len]; exact h1 hs, ?_⟩
        rcases h2 with ⟨h3, h4⟩ | ⟨l, h3, h4, h5, h6, h7, ⟨cur, h8, h9, h10⟩ | ⟨h8, es, clock, h9, h10⟩⟩
        · exact .inl ⟨h3, h4⟩
        · refine .inr ⟨l, h3, h4, hnro l h3 h5, h6, h7, .inl ⟨cur, h8, h9, fun q d hd => ?_⟩⟩
          have hd' : (D.colds x.cs)[q]? = some d := hd
          rw [colds_map, List.getElem?_map] at hd'
          cases hq : x.cs[q]? with
          | none => rw [hq] at hd'; cases hd'
          | some e =>
            rw [hq] at hd'
            injection hd' with hd'
            subst hd'
            obtain ⟨u, h11, h12, h13⟩ := h10 q e hq
            refine ⟨u, h11, h12, ?_⟩
            by_cases hnt : e.nt = true
            · rw [cold_nt hnt]
              exact h13.keep hle fun _ _ => rfl
            · cases e with
              | tr ty sz n cs =>
                obtain ⟨l', u', e1, e2, e3⟩ := hr.sr.tr.cell j x hz q ty sz n cs hq
                rw [h3] at e1
                injection e1 with e1; injection e1 with e1; subst e1
                rw [cell_of_row w l.g q cur x.ty (0, 0) h8, h11] at e2
                injection e2 with e2; subst e2
                have := e3.cold (ro := (E.cool j).ro) fun b p hb => .inr ⟨p, hb⟩
                rw [cold_tr] at this ⊢
                exact this
              | _ => exact absurd rfl hnt
        · refine .inr ⟨l, h3, h4, hnro l h3 h5, h6, h7, .inr ⟨h8, es, clock, h9, ?_⟩⟩
          refine ⟨?_, h10.2⟩
          show D.colds x.cs = _
          rw [colds_map, h10.1, List.map_cons, List.map_flatMap]
          simp [D.cold]
      · rw [if_neg hji]
        exact (hr.sr.obs j z hz).keep hle (fun _ _ => rfl) fun l hl => ⟨rfl, hnro l hl (by
          rcases h2 with ⟨h3, _⟩ | ⟨l', h3, _, h5, _⟩
          · rw [hl] at h3; cases h3
          · rw [hl] at h3; injection h3 with h3; injection h3 with h3; subst h3; exact h5)⟩
    · rcases hb with hb | ⟨p, hp⟩
      · exact hr.sr.rolt b hb
      · exact (hr.sr.tr.blk b i p hp).1
    · obtain ⟨y', hy', _⟩ := setCs_mem hj
      obtain ⟨z', hz', _⟩ := setCs_mem hk
      exact hr.sr.apart j y' k z' hy' hz' hjk l m hl hm
    · rw [show (s.setCs i (D.colds x.cs)).os = Go.Proofs.YtemaanibghedlaaGreat.setCs s.os i (D.colds x.cs) from rfl, setCs_ids]
      exact hr.sr.nodup
    · refine hr.sr.tr.map (fun k => k ≠ i) id (fun b k' p hq => ⟨k', Env.cool_tg hq⟩) (fun b k p hq hk => Env.cool_tg' hq hk) (fun b k p hq hk h1 h2 h3 h4 => ⟨h1, rfl, h2, fun hb => ?_, fun j y l hj hl => ?_⟩) fun k' x' hx' j ty sz n cs hj => ?_
      · rcases hb with hb | ⟨p', hp⟩
        · exact h3 hb
        · rw [hq] at hp
          injection hp with hp
          injection hp with hp _
          exact hk hp
      · obtain ⟨y', hy', _⟩ := setCs_mem hj
        exact h4 j y' l hy' hl
      · obtain ⟨z, hz, rfl⟩ := setCs_mem hx'
        by_cases hki : k' = i
        · subst hki
          rw [if_pos rfl] at hj
          have hj' : (D.colds z.cs)[j]? = some (.tr ty sz n cs) := by
            obtain rfl := nodup_eq hr.sr.nodup hmem hz
            exact hj
          rw [colds_map, List.getElem?_map] at hj'
          cases hq : z.cs[j]? with
          | none => rw [hq] at hj'; cases hj'
          | some e =>
            rw [hq] at hj'
            injection hj' with hj'
            cases e <;> rw [D.cold] at hj' <;> cases hj'
        · rw [if_neg hki] at hj
          exact ⟨k', z, hki, rfl, hz, hj, fun l hl => ⟨l, hl, rfl⟩⟩
    · refine ⟨hr.st.le.trans hle, hr.st.os, hr.st.tape, hr.st.output, hr.st.size, hr.st.block, fun b hb => ?_, hr.st.nb⟩
      rcases hb with hb | ⟨p, hp⟩
      · exact hr.st.ro b hb
      · exact .inr (hr.sr.tr.blk b i p hp).2.1

/-! An object goes into a cell of another one. -/
def D.tp : D → Bool
  | .sc _ | .tr .. => true
  | _ => false
theorem OwnP.under {w w' : World} {tg tg' : Nat → Option (Nat × List Nat)} {i i' : Nat} {p : List Nat} {d : D} {u : Value} (s : List Nat) (h : OwnP w tg i p d u) (hm : ∀ b q, tg b = some (i, q) → w'.heap[b]? = w.heap[b]? ∧ tg' b = some (i', q ++ s)) : OwnP w' tg' i' (p ++ s) d u := by
  induction h with
  | sc p v h1 => exact .sc _ v h1
  | nil p ty size => exact .nil _ ty size
  | tr p ty size n cs b c cur us hb hw hz hl hcur hn hc hu hat _ ih =>
    obtain ⟨h1, h2⟩ := hm b p hb
    exact .tr _ ty size n cs b c cur us h2 (h1.trans hw) hz hl hcur hn hc hu hat ih
/-- The object i is named once, as a whole. -/
def own1 (i n : Nat) : List D → Nat → Bool
  | [], k => k == 1
  | d :: r, k => match d with
    | .own j o m => if j = i then (if o = 0 ∧ m = n then own1 i n r (k + 1) else false) else own1 i n r k
    | _ => own1 i n r k
theorem own1_ {i n : Nat} : ∀ {cs : List D} {k : Nat}, own1 i n cs k = true → k ≤ 1 ∧ (k = 1 → ∀ (q o m : Nat), cs[q]? ≠ some (.own i o m)) ∧ (k = 0 → ∃ q, cs[q]? = some (.own i 0 n) ∧ ∀ (q' o m : Nat), cs[q']? = some (.own i o m) → q' = q)
  | [], k, h => by
    have h' : k = 1 := by simpa [own1] using h
    subst h'
    exact ⟨Nat.le_refl _, fun _ q o m => by simp, fun h => by omega⟩
  | d :: r, k, h => by
    have skip : (∀ o m, d ≠ .own i o m) → own1 i n r k = true → k ≤ 1 ∧ (k = 1 → ∀ (q o m : Nat), (d :: r)[q]? ≠ some (.own i o m)) ∧ (k = 0 → ∃ q, (d :: r)[q]? = some (.own i 0 n) ∧ ∀ (q' o m : Nat), (d :: r)[q']? = some (.own i o m) → q' = q) := by
      intro hd hr
      obtain ⟨h1, h2, h3⟩ := own1_ hr
      refine ⟨h1, fun hk q o m hq => ?_, fun hk => ?_⟩
      · rcases q with _ | q
        · simp only [List.getElem?_cons_zero, Option.some.injEq] at hq
          exact hd o m hq
        · rw [List.getElem?_cons_succ] at hq
          exact h2 hk q o m hq
      · obtain ⟨q, h4, h5⟩ := h3 hk
        refine ⟨q + 1, by rw [List.getElem?_cons_succ]; exact h4, fun q' o m hq => ?_⟩
        rcases q' with _ | q'
        · simp only [List.getElem?_cons_zero, Option.some.injEq] at hq
          exact absurd hq (hd o m)
        · rw [List.getElem?_cons_succ] at hq
          rw [h5 q' o m hq]
    unfold own1 at h
    cases d with
    | own j o m =>
      simp only at h
      by_cases hj : j = i
      · subst hj
        simp only [if_true] at h
        split at h
        · rename_i hom
          obtain ⟨rfl, rfl⟩ := hom
          obtain ⟨h1, h2, h3⟩ := own1_ h
          have hk : k = 0 := by omega
          subst hk
          refine ⟨Nat.zero_le _, fun h => by omega, fun _ => ⟨0, rfl, fun q' o m hq => ?_⟩⟩
          rcases q' with _ | q'
          · rfl
          · rw [List.getElem?_cons_succ] at hq
            exact absurd hq (h2 rfl q' o m)
        · cases h
      · rw [if_neg hj] at h
        exact skip (fun o' m' e => by injection e with e; exact hj e) h
    | _ => exact skip (fun o m e => by cases e) h
theorem own1_tp {i n : Nat} : ∀ {a : List D}, a.all D.tp = true → ∀ (b : List D) (k : Nat), own1 i n (a ++ b) k = own1 i n b k
  | [], _, b, k => rfl
  | d :: r, h, b, k => by
    rw [List.all_cons, Bool.and_eq_true] at h
    have ih := own1_tp (i := i) (n := n) h.2 b k
    rw [List.cons_append]
    cases d <;> first | exact ih | (exfalso; exact absurd h.1 (by simp [D.tp]))
def D.abs1 (i : Nat) (x : Ob) : D → D
  | .own j o n => if j = i then .tr x.ty x.size x.len x.cs else .own j o n
  | d => d
def St.abs (s : St) (i j : Nat) : St := match s.ob i with
  | some x => { s with os := (s.os.filter (fun p => !(p.1 == i))).map fun p => cond (p.1 == j) (p.1, { p.2 with cs := p.2.cs.map (D.abs1 i x) }) p }
  | none => s
def absOk (s : St) (i j : Nat) : Bool := match s.ob i, s.ob j with
  | some x, some y => !(i == j) && (x.cs.all D.tp && own1 i x.len y.cs 0)
  | _, _ => false
open Classical in
noncomputable def Env.abs (E : Env) (i j q : Nat) : Env := ⟨E.ro, E.at_, fun b => if (∃ l, E.at_ i = some (some l) ∧ l.g = b) then some (j, [q]) else match E.tg b with | some (k, p) => if k = i then some (j, p ++ [q]) else some (k, p) | none => none⟩
open Classical in
theorem abs_sound {X : Ctx} {s : St} {i j : Nat} (hok : absOk s i j = true) {E : Env} {a : Act} {w : World} (hr : Rel X s E a w) : ∃ E', Rel X (s.abs i j) E' a w ∧ E.le E' := by
  unfold absOk at hok
  cases hx : s.ob i with
  | none => rw [hx] at hok; cases hok
  | some x =>
    cases hy : s.ob j with
    | none => rw [hx, hy] at hok; cases hok
    | some y =>
      rw [hx, hy] at hok
      simp only [Bool.and_eq_true, Bool.not_eq_true', beq_eq_false_iff_ne] at hok
      obtain ⟨hij, htp, hown⟩ := hok
      obtain ⟨_, _, hq0⟩ := own1_ hown
      obtain ⟨q, hq, hqu⟩ := hq0 rfl
      have hxm := mem_of_lookup (St.ob_some hx).1
      have hym := mem_of_lookup (St.ob_some hy).1
      have hxz := (St.ob_some hx).2
      have hyz := (St.ob_some hy).2
      have hle : E.le (E.abs i j q) := ⟨fun _ _ h => h, fun _ h => h⟩
      have hst : s.abs i j = ⟨s.tm, (s.os.filter (fun p => !(p.1 == i))).map (fun p => cond (p.1 == j) (p.1, ({ p.2 with cs := p.2.cs.map (D.abs1 i x) } : Ob)) p), s.nb⟩ := by unfold St.abs; rw [hx]
      rw [hst]
      -- what is there now
      have hold : ∀ k z', (k, z') ∈ (s.os.filter (fun p => !(p.1 == i))).map (fun p => cond (p.1 == j) (p.1, ({ p.2 with cs := p.2.cs.map (D.abs1 i x) } : Ob)) p) → k ≠ i ∧ ((k = j ∧ z' = { y with cs := y.cs.map (D.abs1 i x) }) ∨ (k ≠ j ∧ (k, z') ∈ s.os)) := by
        intro k z' hk
        obtain ⟨⟨k0, z⟩, h1, h2⟩ := List.mem_map.1 hk
        obtain ⟨h3, h4⟩ := List.mem_filter.1 h1
        have hki : k0 ≠ i := by simpa using h4
        by_cases hkj : k0 = j
        · subst hkj
          simp only [beq_self_eq_true, cond_true] at h2
          injection h2 with h2 h5
          subst h2
          obtain rfl := nodup_eq hr.sr.nodup hym h3
          exact ⟨hki, .inl ⟨rfl, h5.symm⟩⟩
        · have : (k0 == j) = false := by simpa using hkj
          simp only [this, cond_false] at h2
          injection h2 with h2 h5
          subst h2; subst h5
          exact ⟨hki, .inr ⟨hkj, h3⟩⟩
      have hold' : ∀ k z', (k, z') ∈ (s.os.filter (fun p => !(p.1 == i))).map (fun p => cond (p.1 == j) (p.1, ({ p.2 with cs := p.2.cs.map (D.abs1 i x) } : Ob)) p) → ∃ z, (k, z) ∈ s.os ∧ k ≠ i := by
        intro k z' hk
        obtain ⟨h1, ⟨h2, _⟩ | ⟨_, h2⟩⟩ := hold k z' hk
        · exact ⟨y, by rw [h2]; exact hym, h1⟩
        · exact ⟨z', h2, h1⟩
      have htg : ∀ b k p, E.tg b = some (k, p) → k ≠ i → (E.abs i j q).tg b = some (k, p) := by
        intro b k p hb hk
        have hne : ¬ ∃ l, E.at_ i = some (some l) ∧ l.g = b := by
          rintro ⟨l, h1, h2⟩
          exact (hr.sr.tr.blk b k p hb).2.2.2 i x l hxm h1 h2
        show (if (∃ l, E.at_ i = some (some l) ∧ l.g = b) then some (j, [q]) else match E.tg b with | some (k, p) => if k = i then some (j, p ++ [q]) else some (k, p) | none => none) = _
        rw [if_neg hne, hb]
        exact if_neg hk
      have htgi : ∀ b p, E.tg b = some (i, p) → (E.abs i j q).tg b = some (j, p ++ [q]) := by
        intro b p hb
        have hne : ¬ ∃ l, E.at_ i = some (some l) ∧ l.g = b := by
          rintro ⟨l, h1, h2⟩
          exact (hr.sr.tr.blk b i p hb).2.2.2 i x l hxm h1 h2
        show (if (∃ l, E.at_ i = some (some l) ∧ l.g = b) then some (j, [q]) else match E.tg b with | some (k, p) => if k = i then some (j, p ++ [q]) else some (k, p) | none => none) = _
        rw [if_neg hne, hb]
        exact if_pos rfl
      have htgo : ∀ l, E.at_ i = some (some l) → (E.abs i j q).tg l.g = some (j, [q]) := fun l hl => if_pos ⟨l, hl, rfl⟩
      have hobi := hr.sr.obs i x hxm
      refine ⟨E.abs i j q, ⟨hr.sz, fun t d hd => (hr.tm t d hd).keep hle fun _ _ => rfl, hr.df, ⟨fun k z' hk => ?_, hr.sr.new, hr.sr.rolt, fun k z' m z'' hk hm hkm l l' hl hl' => ?_, ?_, ⟨fun b k p hb => ?_, fun k z' hk c ty sz n cs hc => ?_⟩⟩, ⟨hr.st.le.trans hle, hr.st.os, hr.st.tape, hr.st.output, hr.st.size, hr.st.block, hr.st.ro, hr.st.nb⟩⟩, hle⟩
      · obtain ⟨hki, ⟨rfl, rfl⟩ | ⟨hkj, hk'⟩⟩ := hold k z' hk
        · obtain ⟨h1, h2⟩ := hr.sr.obs k y hym
          refine ⟨fun hs => by show (y.cs.map _).length = _; rw [List.length_map]; exact h1 hs, ?_⟩
          rcases h2 with h3 | ⟨l, h3, h4, h5, h6, h7, ⟨cur, h8, h9, h10⟩ | ⟨h8, _⟩⟩
          · exact .inl h3
          · refine .inr ⟨l, h3, h4, h5, h6, h7, .inl ⟨cur, h8, h9, fun c d hd => ?_⟩⟩
            have hd' : (y.cs.map (D.abs1 i x))[c]? = some d := hd
            rw [List.getElem?_map] at hd'
            cases hc : y.cs[c]? with
            | none => rw [hc] at hd'; cases hd'
            | some e =>
              rw [hc] at hd'
              injection hd' with hd'
              subst hd'
              obtain ⟨u, h11, h12, h13⟩ := h10 c e hc
              refine ⟨u, h11, h12, ?_⟩
              have h14 : Rep1 (E.abs i k q) w e u := h13.keep hle fun _ _ => rfl
              cases e with
              | own i' o m =>
                by_cases hi : i' = i
                · rw [show D.abs1 i x (.own i' o m) = .tr x.ty x.size x.len x.cs from if_pos hi]
                  trivial
                · rw [show D.abs1 i x (.own i' o m) = .own i' o m from if_neg hi]
                  exact h14
              | _ => exact h14
          · exact absurd h8 hyz
        · exact (hr.sr.obs k z' hk').keep hle (fun _ _ => rfl) fun l hl => ⟨rfl, by
            rcases (hr.sr.obs k z' hk').2 with ⟨h5, _⟩ | ⟨m', h5, _, h6, _⟩
            · rw [hl] at h5; cases h5
            · rw [hl] at h5; injection h5 with h5; injection h5 with h5; subst h5; exact h6⟩
      · obtain ⟨z1, h1, _⟩ := hold' k z' hk
        obtain ⟨z2, h2, _⟩ := hold' m z'' hm
        exact hr.sr.apart k z1 m z2 h1 h2 hkm l l' hl hl'
      · show (((s.os.filter (fun p => !(p.1 == i))).map (fun p => cond (p.1 == j) (p.1, ({ p.2 with cs := p.2.cs.map (D.abs1 i x) } : Ob)) p)).map (·.1)).Nodup
        rw [List.map_map]
        have : ((·.1) ∘ fun p : Nat × Ob => cond (p.1 == j) (p.1, ({ p.2 with cs := p.2.cs.map (D.abs1 i x) } : Ob)) p) = (·.1) := by
          funext p
          simp only [Function.comp]
          cases (p.1 == j) <;> rfl
        rw [this]
        exact hr.sr.nodup.sublist ((List.filter_sublist).map _)
      · have hb' : (if (∃ l, E.at_ i = some (some l) ∧ l.g = b) then some (j, [q]) else match E.tg b with | some (k, p) => if k = i then some (j, p ++ [q]) else some (k, p) | none => none) = some (k, p) := hb
        by_cases hc : ∃ l, E.at_ i = some (some l) ∧ l.g = b
        · obtain ⟨l, h1, rfl⟩ := hc
          refine ⟨hr.sr.lt hxm h1, ?_, ?_, fun k2 z2 l2 h2 h3 => ?_⟩
          · rcases hobi.2 with ⟨h4, _⟩ | ⟨m', h4, h5, _⟩
            · rw [h1] at h4; cases h4
            · rw [h1] at h4; injection h4 with h4; injection h4 with h4; subst h4; exact h5
          · rcases hobi.2 with ⟨h4, _⟩ | ⟨m', h4, _, h5, _⟩
            · rw [h1] at h4; cases h4
            · rw [h1] at h4; injection h4 with h4; injection h4 with h4; subst h4; exact h5
          · obtain ⟨z3, h4, h5⟩ := hold' k2 z2 h2
            exact hr.sr.apart k2 z3 i x h4 hxm h5 l2 l h3 h1
        · rw [if_neg hc] at hb'
          cases ht : E.tg b with
          | none => rw [ht] at hb'; cases hb'
          | some kp =>
            obtain ⟨k0, p0⟩ := kp
            obtain ⟨e1, e2, e3, e4⟩ := hr.sr.tr.blk b k0 p0 ht
            refine ⟨e1, e2, e3, fun k2 z2 l2 h2 h3 => ?_⟩
            obtain ⟨z3, h4, _⟩ := hold' k2 z2 h2
            exact e4 k2 z3 l2 h4 h3
      · obtain ⟨hki, ⟨rfl, rfl⟩ | ⟨hkj, hk'⟩⟩ := hold k z' hk
        · have hc' : (y.cs.map (D.abs1 i x))[c]? = some (.tr ty sz n cs) := hc
          rw [List.getElem?_map] at hc'
          cases he : y.cs[c]? with
          | none => rw [he] at hc'; cases hc'
          | some e =>
            rw [he] at hc'
            injection hc' with hc'
            by_cases hei : ∃ o m, e = .own i o m
            · obtain ⟨o, m, rfl⟩ := hei
              have hcq := hqu c o m he
              subst hcq
              rw [hq] at he
              injection he with he
              injection he with _ he1 he2
              subst he1; subst he2
              rw [show D.abs1 i x (.own i 0 x.len) = .tr x.ty x.size x.len x.cs from if_pos rfl] at hc'
              injection hc' with f1 f2 f3 f4
              subst f1; subst f2; subst f3; subst f4
              rcases (hr.sr.obs k y hym).2 with ⟨h3, h4⟩ | ⟨l, h3, _, _, _, _, ⟨cur, h8, h9, h10⟩ | ⟨h8, _⟩⟩
              · have h5 := (hr.sr.obs k y hym).1 hyz
                rw [h4, Nat.zero_mul] at h5
                have : y.cs = [] := List.eq_nil_of_length_eq_zero h5
                rw [this] at hq
                simp at hq
              · obtain ⟨u, h11, h12, h13⟩ := h10 c _ hq
                refine ⟨l, u, h3, by rw [cell_of_row w l.g c cur y.ty (0, 0) h8]; exact h11, ?_⟩
                rcases h13 with ⟨li, ci, g1, rfl, g3, g4, g5⟩ | ⟨g1, _, g2, rfl⟩
                · rcases hobi.2 with ⟨h4, _⟩ | ⟨m', h4, _, _, _, _, ⟨curi, k8, k9, k10⟩ | ⟨k8, _⟩⟩
                  · rw [g1] at h4; cases h4
                  · rw [g1] at h4; injection h4 with h4; injection h4 with h4; subst h4
                    have hlen := hobi.1 hxz
                    have hcap : ci = li.cap := g5 rfl
                    have hle2 : x.cs.length ≤ curi.size := by rw [hlen, k9, ← hcap]; exact Nat.mul_le_mul_right _ g3
                    refine .tr [c] x.ty x.size x.len x.cs li.g ci curi (curi.toList.take x.cs.length) (htgo li g1) k8 hxz hlen (by rw [k9, hcap]) g3 g4 (by simp; omega) (fun e u hu => ?_) fun e d u hd hu => ?_
                    · rw [List.getElem?_take] at hu
                      split at hu
                      · rw [Array.getElem?_toList] at hu; exact hu
                      · cases hu
                    · have hu' : curi[e]? = some u := by
                        rw [List.getElem?_take] at hu
                        split at hu
                        · rw [Array.getElem?_toList] at hu; exact hu
                        · cases hu
                      obtain ⟨u', m1, m2, m3⟩ := k10 e d hd
                      rw [hu'] at m1
                      injection m1 with m1
                      subst m1
                      have hdt := List.all_eq_true.1 htp d (List.mem_of_getElem? hd)
                      cases d with
                      | sc v => obtain ⟨rfl, m4⟩ := m3; exact .sc _ _ m4
                      | tr ty' sz' n' cs' =>
                        obtain ⟨l', u'', n1, n2, n3⟩ := hr.sr.tr.cell i x hxm e ty' sz' n' cs' hd
                        rw [g1] at n1
                        injection n1 with n1; injection n1 with n1; subst n1
                        rw [cell_of_row w li.g e curi x.ty (0, 0) k8, hu'] at n2
                        injection n2 with n2; subst n2
                        exact n3.under [c] fun b p hb => ⟨rfl, htgi b p hb⟩
                      | _ => cases hdt
                  · exact absurd k8 hxz
                · have hlen := hobi.1 hxz
                  rw [g2, Nat.zero_mul] at hlen
                  rw [g2, List.eq_nil_of_length_eq_zero hlen]
                  exact .nil _ _ _
              · exact absurd h8 hyz
            · have hd : e = .tr ty sz n cs := by
                cases e with
                | own i' o m =>
                  have : i' ≠ i := fun h => hei ⟨o, m, by rw [h]⟩
                  rw [show D.abs1 i x (.own i' o m) = .own i' o m from if_neg this] at hc'
                  cases hc'
                | _ => exact hc'
              subst hd
              obtain ⟨l, u, e1, e2, e3⟩ := hr.sr.tr.cell k y hym c ty sz n cs he
              exact ⟨l, u, e1, e2, e3.map fun b p hb => ⟨rfl, htg b k p hb hki⟩⟩
        · obtain ⟨l, u, e1, e2, e3⟩ := hr.sr.tr.cell k z' hk' c ty sz n cs hc
          exact ⟨l, u, e1, e2, e3.map fun b p hb => ⟨rfl, htg b k p hb hki⟩⟩

/-! Steps that turn the words alone. -/
inductive Gop where
  | frz (i : Nat)
  | cool (i : Nat)
  | abs (i j : Nat)
  | nil (i o ty size : Nat)
def St.gop (s : St) : Gop → St
  | .frz i => s.frz i
  | .cool i => s.cool i
  | .abs i j => s.abs i j
  | .nil i o ty size => s.nilCell i o ty size
def gopOk (s : St) : Gop → Bool
  | .frz i => frzOk s i
  | .cool _ => true
  | .abs i j => absOk s i j
  | .nil i o _ _ => nilAt s i o
def gops (s : St) : List Gop → St
  | [] => s
  | g :: gs => gops (s.gop g) gs
def gopsOk (s : St) : List Gop → Bool
  | [] => true
  | g :: gs => gopOk s g && gopsOk (s.gop g) gs
theorem gop_sound {X : Ctx} {s : St} {g : Gop} (hok : gopOk s g = true) {E : Env} {a : Act} {w : World} (hr : Rel X s E a w) : ∃ E', Rel X (s.gop g) E' a w ∧ E.le E' := by
  cases g with
  | frz i =>
    obtain ⟨E1, h1, h2, _⟩ := frz_sound hok hr
    exact ⟨E1, h1, h2⟩
  | cool i => exact cool_sound hr
  | abs i j => exact abs_sound hok hr
  | nil i o ty size => exact ⟨_, nil_sound hok ty size hr, Env.with_le (hr.sr.new _ (Nat.le_refl _))⟩
theorem gops_sound {X : Ctx} : ∀ {gs : List Gop} {s : St}, gopsOk s gs = true → ∀ {E : Env} {a : Act} {w : World}, Rel X s E a w → ∃ E', Rel X (gops s gs) E' a w ∧ E.le E'
  | [], _, _, E, _, _, hr => ⟨E, hr, .refl _⟩
  | g :: gs, s, h, E, a, w, hr => by
    simp only [gopsOk, Bool.and_eq_true] at h
    obtain ⟨E1, h1, h2⟩ := gop_sound h.1 hr
    obtain ⟨E2, h3, h4⟩ := gops_sound h.2 h1
    exact ⟨E2, h3, h2.trans h4⟩
theorem awgopC {X : Ctx} {P : Program} {c : Code} {s : St} {Q : Exit → St → Prop} (gs : List Gop) (hok : gopsOk s gs = true) (h : AwCode X P c (gops s gs) Q) : AwCode X P c s Q := by
  refine ⟨fun E a w R hr hK => ?_⟩
  obtain ⟨E1, h1, _⟩ := gops_sound hok hr
  exact h.out E1 a w R h1 hK
theorem awgop {X : Ctx} {P : Program} {o : Oper} {s : St} {K : St → Prop} (gs : List Gop) (hok : gopsOk s gs = true) (h : AwStep X P o (gops s gs) K) : AwStep X P o s K := by
  refine ⟨fun E a w K' R hr hK => ?_⟩
  obtain ⟨E1, h1, _⟩ := gops_sound hok hr
  exact h.out E1 a w K' R h1 hK
/-- A loop; behind a round steps that turn the words alone, and new numbers. -/
theorem awloopG {X : Ctx} {P : Program} {c : Code} {s : St} {Q : Exit → St → Prop} {ι : Type} (st : ι → St) (I : ι → Prop) (μ : ι → Nat) (i0 : ι) (hI : I i0) (h0 : ∃ gs ρ, gopsOk s gs = true ∧ FitR X.nb ρ (gops s gs) (st i0))
    (round : ∀ i, I i → WCode X P c (thenQ (fun s' => ∃ j gs ρ, I j ∧ μ j < μ i ∧ gopsOk s' gs = true ∧ FitR X.nb ρ (gops s' gs) (st j)) Q) (st i)) : AwCode X P (.loop c) s Q := by
  refine ⟨fun E a w R hr hk => ?_⟩
  have key : ∀ n i, μ i < n → I i → ∀ E a w, Rel X (st i) E a w → Code.rounds P c R n a w := by
    intro n
    induction n with
    | zero => intro i h; omega
    | succ n ih =>
      intro i hn hi E a w hr
      rw [rounds_succ]
      refine wcode_go (round i hi) E a w _ hr fun e s' E' a' w' hq hr' => ?_
      cases e with
      | normal =>
        obtain ⟨j, gs, ρ, h1, h2, h3, h4⟩ := hq
        obtain ⟨E1, h5, _⟩ := gops_sound h3 hr'
        exact ih j (by omega) h1 _ _ _ (fitR_sound h4 h5)
      | _ => exact hk _ _ _ _ _ hq hr'
  obtain ⟨gs, ρ, h1, h2⟩ := h0
  obtain ⟨E1, h3, _⟩ := gops_sound h1 hr
  exact wp_loop_rounds (μ i0 + 1) (key _ i0 (by omega) hI _ _ _ (fitR_sound h2 h3))
/-- Where a function returns. -/
def retOkG (P : Program) (rs : List ResultVar) (Q : D → Prop) (s : St) : Prop := ∃ gs, gopsOk s gs = true ∧ retOk P rs Q (gops s gs)
def retQG (P : Program) (rs : List ResultVar) (Q : D → Prop) : Exit → St → Prop
  | .normal, s => retOkG P rs Q s
  | .ret, s => retOkG P rs Q s
  | _, _ => False
theorem rqg_normal (P : Program) (rs : List ResultVar) (Q : D → Prop) (s : St) : retQG P rs Q .normal s = retOkG P rs Q s := rfl
theorem rqg_ret (P : Program) (rs : List ResultVar) (Q : D → Prop) (s : St) : retQG P rs Q .ret s = retOkG P rs Q s := rfl
theorem wcode_g {X : Ctx} {P : Program} {c : Code} {rs : List ResultVar} {Q : D → Prop} {s : St} (h : WCode X P c (retQG P rs Q) s) : AwCode X P c s (retQ P rs Q) := by
  refine ⟨fun E a w R hr hK => wcode_go h E a w R hr fun e s' E' a' w' hq hr' => ?_⟩
  cases e with
  | normal =>
    obtain ⟨is, h1, h2⟩ := hq
    obtain ⟨E1, h3, _⟩ := gops_sound h1 hr'
    exact hK .normal _ E1 a' w' h2 h3
  | ret =>
    obtain ⟨is, h1, h2⟩ := hq
    obtain ⟨E1, h3, _⟩ := gops_sound h1 hr'
    exact hK .ret _ E1 a' w' h2 h3
  | _ => exact hq.elim
theorem specG_intro {P : Program} {f : FuncId} {fn : Func} {c : Code} {ds : List D} {Q : D → Prop} {rs : List ResultVar} (hf : P.funcs[f]? = some fn) (hb : fn.body = some c) (hn : (fn.name == "runtime.NumGoroutine") = false) (hrs : fn.results = rs.toArray) {nt : Nat} (hnt : fn.ntmps = nt) (hsz : ds.length ≤ nt)
    (h : ∀ X : Ctx, X.nb = 0 → WCode X P c (retQG P rs Q) ⟨ds ++ List.replicate (nt - ds.length) .none, [], 0⟩) : Spec P f ds Q :=
  spec_introA hf hb hn hrs hnt hsz fun X hX => wcode_g (h X hX)

/-! A call that only reads what belongs to the caller. -/
def D.dry1 : D → Bool
  | .sc _ => true
  | _ => false
def D.dry : D → Bool
  | .tup ds => ds.all D.dry1
  | d => d.dry1
theorem Rep.dry {E E' : Env} {w : World} {d : D} {u : Value} (h : Rep E w d u) (hd : d.dry = true) : Rep E' w d u := by
  cases d with
  | sc v => exact h
  | tup ds =>
    obtain ⟨us, h1, h2, h3⟩ := h
    refine ⟨us, h1, h2, fun j d v hj hv => ?_⟩
    have h4 := List.all_eq_true.1 (show ds.all D.dry1 = true from hd) d (List.mem_of_getElem? hj)
    have h5 := h3 j d v hj hv
    cases d <;> first | exact h5 | cases h4
  | _ => cases hd
theorem awborF {X : Ctx} {P : Program} {o : Oper} {s : St} {wr : List Nat} {nb : Nat} {f : FuncId} {xs : Array Operand} {ats : Array TypeId} {K : St → Prop} (gs : List Gop) (hok : gopsOk s gs = true) (ho : o.op = .call { callee := .value (.func f), args := xs, argTypes := ats }) (ds : List D) (Q : D → Prop)
    (hs : Spec P f ds Q) (hds : xs.toList.map (gops s gs).ev = ds) (hno : ds.all D.noid = true) (hk : ∀ d, Q d → d.dry = true ∧ K (s.put o.dst d)) : AwStepF X P o s wr nb K := by
  refine ⟨fun E a w K' R hr hK => ?_⟩
  obtain ⟨E1, hr1, _⟩ := gops_sound hok hr
  have hrun : (execOp a.eval o).run P w = .ok (.enter f (xs.map a.eval)) w := by
    rw [show execOp a.eval o = callFunc f (#[] ++ xs.map a.eval ++ #[]) by simp only [execOp, ho]; rfl]
    rw [hs.1]
    simp
  unfold Oper.wp
  rw [hrun]
  show Calls P f _ w _
  subst hds
  refine (hs.2 E1.ro w (xs.map a.eval) hr1.sr.rolt (by simp) (args_of hr1 hno)).mono ?_
  rintro e w' ⟨d, v, hq, rfl, hv, hb⟩
  obtain ⟨hdry, hkd⟩ := hk d hq
  obtain ⟨v', hv', h2⟩ := after_call (Q := fun e => e = d) hr (fun e he => by rw [he]; exact hkd) hK (.returned v) w' ⟨d, v, rfl, rfl, hv.dry hdry, hb⟩
  injection hv' with hv'
  rw [hv']
  exact h2
end Go.Proofs.YtemaanibghedlaaGreat
