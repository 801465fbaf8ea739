/- The logic over data: append. -/
import Derived.Test.YtemaanibghedlaaGreatAwI
namespace Go.Proofs.YtemaanibghedlaaGreat
open Go.RowKit

theorem run_app_at {P : Program} (w : World) (base : Nat) (t ty e : TypeId) (i : TypeInfo) (z : Value) (size bytes : Nat) (ht : P.underlying t = some (.slice e)) (hi : P.info? e = some i) (hz : i.zero = some z)
    (hsize : i.size = size) (hby : i.bytes = bytes) (hzs : z.cells.size = size) (hsz : 0 < size)
    (v : Value) (n : Nat) (xs : List Value) (hown : w.ownsRow base e size v n xs)
    (u : Value) (m : Nat) (news : List Value) (hl : news.length = m * size) (hu : FlatAt w u m news) (h1 : ∀ u ∈ news, u.oneCell' = true)
    (h63 : n + m ≤ maxLen) (hbytes : (n + m) * bytes ≤ 140737488355328) (hbase : base ≤ w.heap.size) :
    ∃ v' w', (Builtin.append_ #[t, t] ty #[v, u]).run P w = .ok v' w' ∧ w'.ownsRow base e size v' (n + m) (xs ++ news) ∧ w.grownBy w' v.ownBlock ∧ (v'.ownBlock = v.ownBlock ∨ v'.ownBlock = some w.heap.size) := by
  obtain ⟨A, c, rfl, hu⟩ := hu
  have hnil : m = 0 → news = [] := fun h => List.eq_nil_of_length_eq_zero (by rw [hl, h, Nat.zero_mul])
  rcases A with _ | ad
  · have hm : m = 0 := by
      rcases Nat.eq_zero_or_pos m with h | h
      · exact h
      · obtain ⟨_, _, h, _⟩ := hu h
        cases h
    have hn := hnil hm
    subst hm hn
    refine ⟨v, w, ?_, by simpa using hown, World.grownBy.refl w _, .inl rfl⟩
    rcases hown.2 with ⟨rfl, rfl⟩ | ⟨g, cap, cur, rfl, _, _, hnc, _⟩
    · simp [Builtin.append_, run_underlying ht, sizeOf, typeInfo, hi, Builtin.lenOf, Builtin.firstCells]
    · simp [Builtin.append_, run_underlying ht, sizeOf, typeInfo, hi, Builtin.lenOf, Builtin.firstCells, hnc, storeCells]
  · have hcells : ∀ j u, news[j]? = some u → w.cell? (ad.add j) = some u := by
      intro j u hj
      rcases Nat.eq_zero_or_pos m with h | h
      · rw [hnil h] at hj
        simp at hj
      · obtain ⟨b, o, e, _, hc⟩ := hu h
        obtain rfl : ad = ⟨b, o, none⟩ := by simpa using e
        rw [Addr.add_lit]
        exact hc j u hj
    obtain ⟨v', w', h2, h3, h4, _, h5⟩ := run_append_own_at (P := P) w base t ty e i z size bytes ht hi hz hsize hby hzs hsz v n xs hown ad m c news hl hcells h1 h63 hbytes hbase
    exact ⟨v', w', h2, h3, h4, h5⟩

/-- What is appended to: an object or nothing; what is appended. -/
def baseD (s : St) : D → Option (Option Nat × Nat × List D)
  | .sc (.slice none 0 0) => some (none, 0, [])
  | .own i 0 n => match s.ob i with | some x => if x.len = n then some (some i, n, x.cs) else none | none => none
  | _ => none
def srcD (s : St) : D → Option (Nat × List D)
  | .sc (.slice none 0 0) => some (0, [])
  | .sl m cs => some (m, cs)
  | .own j off m => match s.ob j with | some x => if off + m * x.size ≤ x.cs.length then some (m, (x.cs.drop off).take (m * x.size)) else none | none => none
  | _ => none
def dropOb (os : List (Nat × Ob)) (i : Option Nat) : List (Nat × Ob) := match i with | some i => os.filter fun p => !(p.1 == i) | none => os
def St.app (s : St) (i : Option Nat) (x : Ob) : St := { s with os := (s.nb, x) :: dropOb s.os i, nb := s.nb + 1 }
theorem dropOb_sub {os : List (Nat × Ob)} {i : Option Nat} {p : Nat × Ob} (h : p ∈ dropOb os i) : p ∈ os ∧ some p.1 ≠ i := by
  unfold dropOb at h
  cases i with
  | none => exact ⟨h, by simp⟩
  | some i =>
    obtain ⟨h1, h2⟩ := List.mem_filter.1 h
    exact ⟨h1, by simpa using h2⟩
theorem dropOb_nodup {os : List (Nat × Ob)} {i : Option Nat} (h : (os.map (·.1)).Nodup) : ((dropOb os i).map (·.1)).Nodup := by
  unfold dropOb
  cases i with
  | none => exact h
  | some i => exact h.sublist ((List.filter_sublist).map _)

theorem flat_of {X : Ctx} {s : St} {E : Env} {a : Act} {w : World} (hr : Rel X s E a w) {y : Operand} {m : Nat} {ds : List D} (h : srcD s (s.ev y) = some (m, ds)) (size : Nat) (hsz : 0 < size) (hl : ds.length = m * size) :
    ∃ news : List Value, news.length = ds.length ∧ FlatAt w (a.eval y) m news ∧ ∀ (j : Nat) (d : D) (u : Value), ds[j]? = some d → news[j]? = some u → Rep1 E w d u ∧ u.oneCell' = true := by
  have hy := hr.ev y
  have hpos : 0 < m → 0 < ds.length := fun hm => by rw [hl]; exact Nat.mul_pos hm hsz
  unfold srcD at h
  split at h
  · rename_i hd
    rw [hd] at hy
    injection h with h
    injection h with h1 h2
    subst h1; subst h2
    exact ⟨[], rfl, ⟨none, 0, hy.1, fun h => by omega⟩, fun j d u hd => by simp at hd⟩
  · rename_i m' cs hd
    rw [hd] at hy
    injection h with h
    injection h with h1 h2
    subst h1; subst h2
    cases hv : a.eval y with
    | slice A n' c =>
      rw [hv] at hy
      have hy2 : RepP E.ro w (.sl m' cs) (.slice A n' c) := hy
      cases hy2 with
      | sl _ _ _ _ us hul hn hc hcell hrep =>
        refine ⟨us, hul, ?_, fun j d u hd hu => (hrep j d u hd hu).to1⟩
        by_cases h0 : us = []
        · subst h0
          refine ⟨A, c, rfl, fun hm => ?_⟩
          have := hpos hm
          simp at hul
          omega
        · obtain ⟨b, o, rfl, hb, _⟩ := hcell 0 (us[0]'(List.length_pos_iff.2 h0)) (List.getElem?_eq_getElem _)
          refine ⟨_, c, rfl, fun _ => ⟨b, o, rfl, hr.sr.rolt b hb, fun j u hu => ?_⟩⟩
          obtain ⟨b', o', e1, _, h5⟩ := hcell j u hu
          injection e1 with e1
          injection e1 with e1 e2
          subst e1; subst e2
          exact h5
    | _ => rw [hv] at hy; cases hy
  · rename_i j off m' hd
    rw [hd] at hy
    split at h
    · rename_i x hx
      split at h
      · rename_i hle
        injection h with h
        injection h with h1 h2
        subst h1; subst h2
        rcases hy with ⟨l, c, hl', hv, hnc, _⟩ | ⟨_, rfl, rfl, hv⟩
        · obtain ⟨us, e1, e2, e3⟩ := hr.cells (St.ob_some hx).2 (mem_of_lookup (St.ob_some hx).1) hl' off (m' * x.size) hle
          refine ⟨us, by rw [e1]; simp; omega, ⟨_, c, hv, fun _ => ⟨l.g, off, rfl, hr.sr.lt (mem_of_lookup (St.ob_some hx).1) hl', e2⟩⟩, e3⟩
        · refine ⟨[], by simp, ⟨none, 0, hv, fun h => by omega⟩, fun j d u hd => by simp at hd⟩
      · cases h
    · cases h
  · cases h

theorem baseD_ {X : Ctx} {s : St} {E : Env} {a : Act} {w : World} (hr : Rel X s E a w) {x : Operand} {i : Option Nat} {n : Nat} {cs : List D} (h : baseD s (s.ev x) = some (i, n, cs)) (e : TypeId) (size : Nat) (_hsz : 0 < size)
    (hty : ∀ k, i = some k → ∀ y, s.ob k = some y → y.ty = e ∧ y.size = size) :
    ∃ xs : List Value, w.ownsRow 0 e size (a.eval x) n xs ∧ xs.length = cs.length ∧ (∀ (j : Nat) (d : D) (u : Value), cs[j]? = some d → xs[j]? = some u → Rep1 E w d u ∧ u.oneCell' = true) ∧ cs.length = n * size ∧
      (∀ g, (a.eval x).ownBlock = some g → ∃ k y l, i = some k ∧ (k, y) ∈ s.os ∧ E.at_ k = some (some l) ∧ l.g = g) ∧ (i = none → cs = []) ∧
      ∀ k, i = some k → ∃ y, (k, y) ∈ s.os ∧ cs = y.cs ∧ ∀ l, E.at_ k = some (some l) → ∀ (j : Nat) (v : Value), xs[j]? = some v → w.cell? ⟨l.g, j, none⟩ = some v := by
  have hx := hr.ev x
  unfold baseD at h
  split at h
  · rename_i hd
    rw [hd] at hx
    injection h with h
    injection h with h1 h2
    injection h2 with h2 h3
    subst h1; subst h2; subst h3
    have hv : a.eval x = .slice none 0 0 := hx.1
    rw [hv]
    exact ⟨[], World.ownsRow_nil w 0 e size, rfl, fun j d u hd => by simp at hd, by simp, fun g hg => (by simp [Value.ownBlock] at hg), fun _ => rfl, fun k hk => (by cases hk)⟩
  · rename_i k n' hd
    rw [hd] at hx
    split at h
    · rename_i y hy
      split at h
      · rename_i hlen
        injection h with h
        injection h with h1 h2
        injection h2 with h2 h3
        subst h1; subst h2; subst h3
        obtain ⟨hte, hts⟩ := hty k rfl y hy
        have hmem := mem_of_lookup (St.ob_some hy).1
        rcases hx with ⟨l, c, hl, hv, hnc, hcm, hcc⟩ | ⟨hnone, _, h0, hv⟩
        · obtain ⟨h5, h6, h7, cur, h8, h9, h10⟩ := hr.ob (St.ob_some hy).2 hmem hl
          have hc : c = l.cap := hcc rfl
          have hle : y.cs.length ≤ cur.size := by rw [h5, h9]; exact Nat.mul_le_mul_right _ h6
          refine ⟨cur.toList.take y.cs.length, ?_, by simp; omega, fun j d u hd hu => ?_, by rw [h5, hlen, hts], fun g hg => ⟨k, y, l, rfl, hmem, hl, ?_⟩, fun h => (by cases h), fun k' hk' => ⟨y, by injection hk' with hk'; rw [← hk']; exact hmem, rfl, fun m hm j v hv => ?_⟩⟩
          · rw [hv]
            refine ⟨by simp; rw [← hts, ← hlen, ← h5]; omega, .inr ⟨l.g, c, cur, rfl, Nat.zero_le _, by rw [h8, hte], hnc, hcm, by rw [h9, hc, hts], by rw [h5, hlen, hts]⟩⟩
          · obtain ⟨u', e1, e2, e3⟩ := h10 j d hd
            rw [List.getElem?_take] at hu
            split at hu
            · rw [Array.getElem?_toList, e1] at hu
              injection hu with hu
              subst hu
              exact ⟨e3, e2⟩
            · cases hu
          · rw [hv] at hg
            simpa [Value.ownBlock] using hg
          · injection hk' with hk'
            subst hk'
            rw [hl] at hm
            injection hm with hm; injection hm with hm; subst hm
            rw [List.getElem?_take] at hv
            split at hv
            · rw [cell_of_row w l.g j cur y.ty (0, 0) h8]
              rw [Array.getElem?_toList] at hv
              exact hv
            · cases hv
        · subst h0
          have h5 := (hr.sr.obs k y hmem).1 (St.ob_some hy).2
          rw [hlen, Nat.zero_mul] at h5
          have : y.cs = [] := List.eq_nil_of_length_eq_zero h5
          rw [this, hv]
          exact ⟨[], World.ownsRow_nil w 0 e size, rfl, fun j d u hd => by simp at hd, by simp, fun g hg => (by simp [Value.ownBlock] at hg), fun h => (by cases h), fun k' hk' => ⟨y, by injection hk' with hk'; rw [← hk']; exact hmem, this.symm, fun m hm j v hv => by simp at hv⟩⟩
      · cases h
    · cases h
  · cases h

def ntOb : Option Ob → Bool
  | some x => x.cs.all D.nt
  | none => true
/-- What is appended holds no owned slices. -/
def srcNt (s : St) : D → Bool
  | .own j _ _ => ntOb (s.ob j)
  | _ => true
theorem repP_nt {ro : Nat → Prop} {w : World} {d : D} {u : Value} (h : RepP ro w d u) : d.nt = true := by cases h <;> rfl
theorem srcNt_ {X : Ctx} {s : St} {E : Env} {a : Act} {w : World} (hr : Rel X s E a w) {y : Operand} {m : Nat} {ds : List D} (h : srcD s (s.ev y) = some (m, ds)) (hn : srcNt s (s.ev y) = true) : ds.all D.nt = true := by
  have hy := hr.ev y
  unfold srcD at h
  split at h
  · injection h with h; injection h with h1 h2; subst h2; rfl
  · rename_i m' cs hd
    rw [hd] at hy
    injection h with h; injection h with h1 h2; subst h2
    cases hv : a.eval y with
    | slice A n' c =>
      rw [hv] at hy
      have hy2 : RepP E.ro w (.sl m' cs) (.slice A n' c) := hy
      cases hy2 with
      | sl _ _ _ _ us hul _ _ _ hrep =>
        refine List.all_eq_true.2 fun d hd => ?_
        obtain ⟨j, hj, rfl⟩ := List.getElem_of_mem hd
        have := hrep j cs[j] us[j] (List.getElem?_eq_getElem hj) (List.getElem?_eq_getElem (by omega))
        exact repP_nt this
    | _ => rw [hv] at hy; cases hy
  · rename_i j off m' hd
    rw [hd] at hn
    split at h
    · rename_i x hx
      split at h
      · injection h with h; injection h with h1 h2; subst h2
        simp only [srcNt, hx, ntOb] at hn
        exact List.all_eq_true.2 fun d hd => List.all_eq_true.1 hn d (List.mem_of_mem_drop (List.mem_of_mem_take hd))
      · cases h
    · cases h
  · cases h
def Env.app (E : Env) (i : Option Nat) (nb : Nat) (l : Option Loc) : Env := ⟨E.ro, fun j => if j = nb then some l else E.at_ j, fun b => match E.tg b with | some (k, p) => if some k = i then some (nb, p) else some (k, p) | none => none⟩
theorem Env.app_le {E : Env} {i : Option Nat} {nb : Nat} {l : Option Loc} (h : E.at_ nb = none) : E.le (E.app i nb l) := ⟨(Env.with_le h).at_, (Env.with_le (l := l) h).ro⟩
theorem Env.app_at {E : Env} {i : Option Nat} {nb : Nat} {l : Option Loc} : (E.app i nb l).at_ nb = some l := if_pos rfl
theorem Env.app_ne {E : Env} {i : Option Nat} {nb j : Nat} {l : Option Loc} (h : j ≠ nb) : (E.app i nb l).at_ j = E.at_ j := if_neg h
/-- append. -/
theorem awappendF {X : Ctx} {P : Program} {o : Oper} {s : St} {wr : List Nat} {nb : Nat} {x y : Operand} {t : TypeId} {K : St → Prop} (ho : o.op = .call { callee := .builtin .append, args := #[x, y], argTypes := #[t, t] })
    {e size bytes : Nat} {z : Value} (hel : elemK P t = some (e, size)) (hinfo : (P.info? e).map (fun i => (i.zero, i.size, i.bytes)) = some (some z, size, bytes)) (hzs : z.cells.size = size) (hsz : 0 < size)
    {i : Option Nat} {n : Nat} {cs : List D} (hbase : baseD s (s.ev x) = some (i, n, cs)) (hty : ∀ k, i = some k → ∀ q, s.ob k = some q → q.ty = e ∧ q.size = size)
    {m : Nat} {ds : List D} (hsrc : srcD s (s.ev y) = some (m, ds)) (hl : ds.length = m * size) (hnt0 : srcNt s (s.ev y) = true) (h63 : n + m ≤ maxLen) (hbytes : (n + m) * bytes ≤ 140737488355328)
    (hk : K ((s.app i ⟨e, size, n + m, cs ++ ds⟩).put o.dst (.own s.nb 0 (n + m)))) (hwr : ∀ k, i = some k → wr.contains k = true ∨ nb ≤ k) : AwStepF X P o s wr nb K := by
  refine ⟨fun E a w K' R hr hK => ?_⟩
  obtain ⟨hu, _⟩ := elemK_ hel
  obtain ⟨inf, hi, hz, hsize, hby⟩ := info_parts hinfo
  obtain ⟨xs, hown, hxl, hxr, hcl, hblk, hno, hbase2⟩ := baseD_ hr hbase e size hsz hty
  obtain ⟨news, hnl, hflat, hnr⟩ := flat_of hr hsrc size hsz hl
  have hnt := srcNt_ hr hsrc hnt0
  have h1 : ∀ u ∈ news, u.oneCell' = true := fun u hu' => by
    obtain ⟨j, hj, rfl⟩ := List.getElem_of_mem hu'
    exact (hnr j (ds[j]'(by omega)) news[j] (List.getElem?_eq_getElem _) (List.getElem?_eq_getElem hj)).2
  obtain ⟨v', w', hrun, hown', hg, hloc⟩ := run_app_at (P := P) w 0 t o.type e inf z size bytes hu hi hz hsize hby hzs hsz _ n xs hown _ m news (by rw [hnl, hl]) hflat h1 h63 hbytes (Nat.zero_le _)
  have hex : (execOp a.eval o).run P w = .ok (.value v') w' := by
    unfold execOp
    simp only [ho, resolve, invoke, builtin, Sem.run_bind, Sem.run_pure, Result.andThen_ok, List.map_toArray, List.map_cons, List.map_nil, hrun]
  unfold Oper.wp
  rw [hex]
  show K' (a.put o.dst v') w'
  have hnew := hr.sr.new s.nb (Nat.le_refl _)
  have hro : ∀ b, E.ro b → w'.heap[b]? = w.heap[b]? := by
    intro b hb
    refine hg.block b (hr.sr.rolt b hb) fun he => ?_
    obtain ⟨k, q, l, _, hm, hl', rfl⟩ := hblk b he.symm
    rcases (hr.sr.obs k q hm).2 with ⟨h5, _⟩ | ⟨m', h5, _, h6, _⟩
    · rw [hl'] at h5; cases h5
    · rw [hl'] at h5; injection h5 with h5; injection h5 with h5; subst h5; exact h6 hb
  -- the new object's place
  obtain ⟨loc, hval, hob⟩ : ∃ loc : Option Loc, Rep1 (E.app i s.nb loc) w' (.own s.nb 0 (n + m)) v' ∧
      ((loc = none ∧ n + m = 0) ∨ ∃ l cur, loc = some l ∧ (l.g = w.heap.size ∨ ∃ k q l', i = some k ∧ (k, q) ∈ s.os ∧ E.at_ k = some (some l') ∧ l'.g = l.g) ∧ n + m ≤ l.cap ∧ l.cap ≤ maxLen ∧ w'.heap[l.g]? = some (.cells cur e (0, 0)) ∧ cur.size = l.cap * size ∧ cur.toList.take ((n + m) * size) = xs ++ news) := by
    rcases hown'.2 with ⟨rfl, h0⟩ | ⟨g, cap, cur, rfl, _, h5, h6, h7, h8, h9⟩
    · exact ⟨none, .inr ⟨Env.app_at, rfl, h0, rfl⟩, .inl ⟨rfl, h0⟩⟩
    · refine ⟨some ⟨g, cap⟩, .inl ⟨⟨g, cap⟩, cap, Env.app_at, rfl, h6, h7, fun _ => rfl⟩, .inr ⟨⟨g, cap⟩, cur, rfl, ?_, h6, h7, h5, h8, h9⟩⟩
      rcases hloc with h10 | h10
      · have : (a.eval x).ownBlock = some g := by rw [← h10]; rfl
        obtain ⟨k, q, l, h11, h12, h13, h14⟩ := hblk g this
        exact .inr ⟨k, q, l, h11, h12, h13, h14⟩
      · left
        simpa [Value.ownBlock] using h10
  have hle : E.le (E.app i s.nb loc) := Env.app_le hnew
  refine hK _ _ _ _ hk ((⟨hr.sz, fun t d hd => (hr.tm t d hd).keep hle hro, hr.df, ⟨fun j q hq => ?_, fun j hj => ?_, fun b hb => Nat.lt_of_lt_of_le (hr.sr.rolt b hb) hg.size, ?_, ?_, ?_⟩, ?_⟩ : Rel X (s.app i ⟨e, size, n + m, cs ++ ds⟩) (E.app i s.nb loc) a w').put o.dst (Rep.of1 hval)) ⟨hle, hg.size, fun b hb _ hT => hg.block b hb fun he => ?_, fun j l h1 h2 => ?_, fun b h1 h2 => absurd (show (match E.tg b with | some (k, p) => if some k = i then some (s.nb, p) else some (k, p) | none => none) = none by rw [h1]) h2⟩
  · rcases List.mem_cons.1 hq with hq | hq
    · injection hq with e1 e2
      subst e1; subst e2
      refine ⟨fun _ => by show (cs ++ ds).length = _; rw [List.length_append, hcl, hl, Nat.add_mul], ?_⟩
      rcases hob with ⟨rfl, h0⟩ | ⟨l, cur, rfl, hwhere, hcap, hmax, hcur, hcs, htake⟩
      · exact .inl ⟨Env.app_at, h0⟩
      · refine .inr ⟨l, Env.app_at, ?_, ?_, hcap, hmax, .inl ⟨cur, hcur, hcs, fun j d hd => ?_⟩⟩
        · rcases hwhere with h5 | ⟨k, q, l', _, h6, h7, h8⟩
          · exact .inl (by rw [h5]; exact hr.st.size)
          · rcases (hr.sr.obs k q h6).2 with ⟨h9, _⟩ | ⟨m', h9, h10, _⟩
            · rw [h7] at h9; cases h9
            · rw [h7] at h9; injection h9 with h9; injection h9 with h9; subst h9; rw [← h8]; exact h10
        · rcases hwhere with h5 | ⟨k, q, l', _, h6, h7, h8⟩
          · intro hb; have := hr.sr.rolt _ hb; omega
          · rcases (hr.sr.obs k q h6).2 with ⟨h9, _⟩ | ⟨m', h9, _, h10, _⟩
            · rw [h7] at h9; cases h9
            · rw [h7] at h9; injection h9 with h9; injection h9 with h9; subst h9; rw [← h8]; exact h10
        · have hd' : (cs ++ ds)[j]? = some d := hd
          have hjl : j < (cs ++ ds).length := (List.getElem?_eq_some_iff.1 hd').1
          have hjx : j < (xs ++ news).length := by simp at hjl ⊢; omega
          have hcell : (xs ++ news)[j]? = cur[j]? := by
            rw [← htake, List.getElem?_take, if_pos (by rw [List.length_append, hcl, hl, ← Nat.add_mul] at hjl; exact hjl), Array.getElem?_toList]
          refine ⟨(xs ++ news)[j], by rw [← hcell]; exact List.getElem?_eq_getElem hjx, ?_⟩
          have both : Rep1 E w d (xs ++ news)[j] ∧ ((xs ++ news)[j]).oneCell' = true := by
            by_cases hj : j < xs.length
            · rw [List.getElem?_append_left (by omega)] at hd'
              have := hxr j d xs[j] hd' (List.getElem?_eq_getElem hj)
              rw [List.getElem_append_left hj]
              exact this
            · rw [List.getElem?_append_right (by omega)] at hd'
              have hjn : j - xs.length < news.length := by simp at hjx; omega
              have := hnr (j - xs.length) d news[j - xs.length] (by rw [hxl]; exact hd') (List.getElem?_eq_getElem hjn)
              rw [List.getElem_append_right (by omega)]
              exact this
          exact ⟨both.2, both.1.keep hle hro⟩
    · obtain ⟨hq1, hq2⟩ := dropOb_sub hq
      refine (hr.sr.obs j q hq1).keep hle hro fun l hl' => ⟨hg.block _ (hr.sr.lt hq1 hl') fun he => ?_, ?_⟩
      · obtain ⟨k, q', l', h5, h6, h7, h8⟩ := hblk _ he.symm
        exact hr.sr.apart j q k q' hq1 h6 (fun e => hq2 (by rw [h5, e])) l l' hl' h7 h8.symm
      · rcases (hr.sr.obs j q hq1).2 with ⟨h5, _⟩ | ⟨m', h5, _, h6, _⟩
        · rw [hl'] at h5; cases h5
        · rw [hl'] at h5; injection h5 with h5; injection h5 with h5; subst h5; exact h6
  · have hj' : s.nb + 1 ≤ j := hj
    rw [Env.app_ne (by omega)]
    exact hr.sr.new j (by omega)
  · have newapart : ∀ j q l lm, (j, q) ∈ s.os → some j ≠ i → loc = some l → E.at_ j = some (some lm) → l.g ≠ lm.g := by
      intro j q l lm hj hji hloc' hlm he
      rcases hob with ⟨h5, _⟩ | ⟨l2, cur, h5, hwhere, _⟩
      · rw [h5] at hloc'; cases hloc'
      · rw [h5] at hloc'
        injection hloc' with hloc'
        subst hloc'
        rcases hwhere with h6 | ⟨k, q', l', h6, h7, h8, h9⟩
        · have := hr.sr.lt hj hlm
          omega
        · exact hr.sr.apart k q' j q h7 hj (fun e => hji (by rw [h6, e])) l' lm h8 hlm (h9.trans he)
    intro j q k q' hj hk' hjk l lm hlj hlk
    rcases List.mem_cons.1 hj with hj | hj <;> rcases List.mem_cons.1 hk' with hk' | hk'
    · injection hj with e1 _; injection hk' with e2 _; omega
    · injection hj with e1 _
      subst e1
      rw [Env.app_at] at hlj
      injection hlj with hlj
      obtain ⟨h5, h6⟩ := dropOb_sub hk'
      rw [Env.app_ne (fun e => hjk e.symm)] at hlk
      exact newapart k q' l lm h5 h6 hlj hlk
    · injection hk' with e1 _
      subst e1
      rw [Env.app_at] at hlk
      injection hlk with hlk
      obtain ⟨h5, h6⟩ := dropOb_sub hj
      rw [Env.app_ne hjk] at hlj
      exact (newapart j q lm l h5 h6 hlk hlj).symm
    · obtain ⟨h5, _⟩ := dropOb_sub hj
      obtain ⟨h6, _⟩ := dropOb_sub hk'
      rw [Env.app_ne (by have := hr.sr.idlt h5; omega)] at hlj
      rw [Env.app_ne (by have := hr.sr.idlt h6; omega)] at hlk
      exact hr.sr.apart j q k q' h5 h6 hjk l lm hlj hlk
  · show (s.nb :: (dropOb s.os i).map (·.1)).Nodup
    rw [List.nodup_cons]
    refine ⟨fun hm => ?_, dropOb_nodup hr.sr.nodup⟩
    obtain ⟨p, hp, he⟩ := List.mem_map.1 hm
    have := hr.sr.idlt (i := p.1) (x := p.2) (dropOb_sub hp).1
    omega
  · refine hr.sr.tr.map (fun _ => True) (fun k => if some k = i then s.nb else k) (fun b k' p hq => ?_) (fun b k p hq _ => ?_) (fun b k p hq _ h1 h2 h3 h4 => ?_) fun k' x' hx j ty sz q cs' hj => ?_
    · have hq' : (match E.tg b with | some (k, p) => if some k = i then some (s.nb, p) else some (k, p) | none => none) = some (k', p) := hq
      cases ht : E.tg b with
      | none => rw [ht] at hq'; cases hq'
      | some kp =>
        obtain ⟨k, p0⟩ := kp
        rw [ht] at hq'
        simp only at hq'
        split at hq' <;> (injection hq' with hq'; injection hq' with _ e2; subst e2; exact ⟨k, rfl, trivial⟩)
    · show (match E.tg b with | some (k, p) => if some k = i then some (s.nb, p) else some (k, p) | none => none) = some (if some k = i then s.nb else k, p)
      rw [hq]
      by_cases hk : some k = i
      · simp only [hk, if_true]
      · simp only [hk, if_false]
    · refine ⟨Nat.lt_of_lt_of_le h1 hg.size, hg.block b h1 fun he => ?_, h2, h3, fun j y l hj hl' => ?_⟩
      · obtain ⟨k2, q2, l2, _, e1, e2, e3⟩ := hblk b he.symm
        exact h4 k2 q2 l2 e1 e2 e3
      · rcases List.mem_cons.1 hj with hj | hj
        · injection hj with e1 _
          subst e1
          rw [Env.app_at] at hl'
          injection hl' with hl'
          rcases hob with ⟨h5, _⟩ | ⟨l2, cur, h5, hwhere, _⟩
          · rw [h5] at hl'; cases hl'
          · rw [h5] at hl'
            injection hl' with hl'
            subst hl'
            rcases hwhere with h6 | ⟨k2, q2, l', _, h7, h8, h9⟩
            · rw [h6]; exact Nat.ne_of_gt h1
            · rw [← h9]; exact h4 k2 q2 l' h7 h8
        · obtain ⟨h5, _⟩ := dropOb_sub hj
          rw [Env.app_ne (Nat.ne_of_lt (hr.sr.idlt h5))] at hl'
          exact h4 j y l h5 hl'
    · rcases List.mem_cons.1 hx with hx | hx
      · injection hx with e1 e2
        subst e1; subst e2
        have hj' : (cs ++ ds)[j]? = some (.tr ty sz q cs') := hj
        by_cases hjl : j < cs.length
        · rw [List.getElem?_append_left hjl] at hj'
          have hi : ∃ k, i = some k := by
            cases hi : i with
            | none => rw [hno hi] at hjl; simp at hjl
            | some k => exact ⟨k, rfl⟩
          obtain ⟨k, hk⟩ := hi
          obtain ⟨y, hy, hcy, hyc⟩ := hbase2 k hk
          refine ⟨k, y, trivial, if_pos hk.symm, hy, by rw [← hcy]; exact hj', fun l hl' => ?_⟩
          have hjx : j < xs.length := by rw [hxl]; exact hjl
          have h5 := hyc l hl' j xs[j] (List.getElem?_eq_getElem hjx)
          rcases hob with ⟨_, h6⟩ | ⟨l2, cur, h6, _, _, _, hcur, _, htake⟩
          · have : n = 0 := by omega
            rw [hcl, this, Nat.zero_mul] at hjl
            omega
          · refine ⟨l2, by rw [h6]; exact Env.app_at, ?_⟩
            rw [h5, cell_of_row w' l2.g j cur e (0, 0) hcur]
            have hcell : (xs ++ news)[j]? = cur[j]? := by
              rw [← htake, List.getElem?_take, if_pos (by rw [hcl] at hjl; rw [Nat.add_mul]; omega), Array.getElem?_toList]
            rw [← hcell, List.getElem?_append_left hjx]
            exact List.getElem?_eq_getElem hjx
        · rw [List.getElem?_append_right (by omega)] at hj'
          have := List.all_eq_true.1 hnt _ (List.mem_of_getElem? hj')
          cases this
      · obtain ⟨h5, h6⟩ := dropOb_sub hx
        refine ⟨k', x', trivial, if_neg h6, h5, hj, fun l hl' => ⟨l, (Env.app_ne (Nat.ne_of_lt (hr.sr.idlt h5))).trans hl', World.cell?_of_block (a := ⟨l.g, j, none⟩) (hg.block _ (hr.sr.lt h5 hl') fun he => ?_)⟩⟩
        obtain ⟨k2, q', l', h7, h8, h9, h10⟩ := hblk _ he.symm
        exact hr.sr.apart k' x' k2 q' h5 h8 (fun e => h6 (by rw [h7, e])) l l' hl' h9 h10.symm
  · refine ⟨hr.st.le.trans hle, hg.os.trans hr.st.os, hg.tape.trans hr.st.tape, hg.output.trans hr.st.output, Nat.le_trans hr.st.size hg.size, fun b h5 h6 => ?_, hr.st.ro, Nat.le_succ_of_le hr.st.nb⟩
    refine (hg.block b (Nat.lt_of_lt_of_le h5 hr.st.size) fun he => ?_).trans (hr.st.block b h5 h6)
    obtain ⟨k, q, l, _, h7, h8, rfl⟩ := hblk b he.symm
    rcases (hr.sr.obs k q h7).2 with ⟨h9, _⟩ | ⟨m', h9, h10, _⟩
    · rw [h8] at h9; cases h9
    · rw [h8] at h9; injection h9 with h9; injection h9 with h9; subst h9
      rcases h10 with h10 | h10
      · omega
      · exact h6 h10
  · obtain ⟨k, q, l, h5, _, h7, h8⟩ := hblk b he.symm
    exact hT k l (hwr k h5) h7 h8
  · by_cases hj : j = s.nb
    · subst hj
      rw [Env.app_at] at h2
      injection h2 with h2
      rcases hob with ⟨h5, _⟩ | ⟨l2, cur, h5, hwhere, _⟩
      · rw [h5] at h2; cases h2
      · rw [h5] at h2
        injection h2 with h2
        subst h2
        rcases hwhere with h6 | ⟨k, q', l', h6, _, h8, h9⟩
        · exact .inl (Nat.le_of_eq h6.symm)
        · exact .inr (.inl ⟨k, l', hwr k h6, h8, h9⟩)
    · rw [Env.app_ne hj, h1] at h2
      cases h2
theorem awappend {X : Ctx} {P : Program} {o : Oper} {s : St} {x y : Operand} {t : TypeId} {K : St → Prop} (ho : o.op = .call { callee := .builtin .append, args := #[x, y], argTypes := #[t, t] })
    {e size bytes : Nat} {z : Value} (hel : elemK P t = some (e, size)) (hinfo : (P.info? e).map (fun i => (i.zero, i.size, i.bytes)) = some (some z, size, bytes)) (hzs : z.cells.size = size) (hsz : 0 < size)
    {i : Option Nat} {n : Nat} {cs : List D} (hbase : baseD s (s.ev x) = some (i, n, cs)) (hty : ∀ k, i = some k → ∀ q, s.ob k = some q → q.ty = e ∧ q.size = size)
    {m : Nat} {ds : List D} (hsrc : srcD s (s.ev y) = some (m, ds)) (hl : ds.length = m * size) (hnt0 : srcNt s (s.ev y) = true) (h63 : n + m ≤ maxLen) (hbytes : (n + m) * bytes ≤ 140737488355328)
    (hk : K ((s.app i ⟨e, size, n + m, cs ++ ds⟩).put o.dst (.own s.nb 0 (n + m)))) : AwStep X P o s K :=
  (awappendF (wr := []) (nb := 0) ho hel hinfo hzs hsz hbase hty hsrc hl hnt0 h63 hbytes hk fun _ _ => .inr (Nat.zero_le _)).plain
end Go.Proofs.YtemaanibghedlaaGreat
