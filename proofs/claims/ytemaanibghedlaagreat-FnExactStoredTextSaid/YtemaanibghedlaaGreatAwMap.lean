/- A set of numbers that the call keeps in a map (map[int]bool): made, asked, stored into. -/
import Derived.Test.YtemaanibghedlaaGreatAwP
import Derived.Maps.Own
namespace Go.Proofs.YtemaanibghedlaaGreat
open Go.RowKit Go.MapKept

/-- The cells of such a map that holds true at each of ns. -/
def seenD (ns : List Int) : List D := ns.flatMap fun n => [.sc (.int .i64 n), .sc (.bool true)]
def seenOf : List D → Option (List Int)
  | [] => some []
  | .sc (.int .i64 n) :: .sc (.bool true) :: r => (seenOf r).map (n :: ·)
  | _ => none
theorem seenOf_seenD (ns : List Int) : seenOf (seenD ns) = some ns := by
  induction ns with
  | nil => rfl
  | cons n r ih =>
    show (seenOf (seenD r)).map (n :: ·) = _
    rw [ih]; rfl
theorem seenOf_ : ∀ {cs : List D} {ns : List Int}, seenOf cs = some ns → cs = seenD ns
  | [], ns, h => by injection h with h; subst h; rfl
  | .sc (.int .i64 n) :: .sc (.bool true) :: r, ns, h => by
    have h' : (seenOf r).map (n :: ·) = some ns := h
    cases hr : seenOf r with
    | none => rw [hr] at h'; cases h'
    | some ms =>
      rw [hr] at h'
      injection h' with h'
      subst h'
      rw [seenOf_ hr]; rfl
theorem find_seen {q : IntKind} (n : Int) : ∀ (es : List MapEntry) (ns : List Int) (i : Nat), es.flatMap (fun e => [D.sc e.key, D.sc e.val]) = seenD ns →
    (n ∈ ns → ∃ j, Instr.findNow (.int q) (.int .i64 n) es i = some (some (j, .bool true))) ∧ (n ∉ ns → Instr.findNow (.int q) (.int .i64 n) es i = some none)
  | [], ns, i, h => by
    cases ns with
    | nil => exact ⟨fun h => by simp at h, fun _ => rfl⟩
    | cons m r => cases h
  | e :: es, ns, i, h => by
    cases ns with
    | nil => cases h
    | cons m r =>
      have h' : D.sc e.key :: D.sc e.val :: es.flatMap (fun e => [D.sc e.key, D.sc e.val]) = .sc (.int .i64 m) :: .sc (.bool true) :: seenD r := h
      injection h' with h1 h2
      injection h2 with h2 h3
      injection h1 with h1
      injection h2 with h2
      obtain ⟨ih1, ih2⟩ := find_seen (q := q) n es r (i + 1) h3
      by_cases hnm : n = m
      · subst hnm
        refine ⟨fun _ => ⟨i, ?_⟩, fun h => absurd (List.mem_cons_self ..) h⟩
        simp [Instr.findNow, Instr.sameNow, h1, h2]
      · have hb : (n == m) = false := by simpa using hnm
        refine ⟨fun h => ?_, fun h => ?_⟩
        · obtain ⟨j, hj⟩ := ih1 ((List.mem_cons.1 h).resolve_left hnm)
          exact ⟨j, by simp [Instr.findNow, Instr.sameNow, h1, hb, hj]⟩
        · have := ih2 (fun h2 => h (List.mem_cons_of_mem _ h2))
          simp [Instr.findNow, Instr.sameNow, h1, hb, this]

/-- What the type says: a map from an integer type to a bool type. -/
def mapK (P : Program) (t : TypeId) : Bool := match P.underlying t with
  | some (.map k e) => (match P.underlying k with | some (.int .i64) => true | _ => false) && (match zeroK P e with | some (.bool false) => true | _ => false)
  | _ => false
theorem mapK_ {P : Program} {t : TypeId} (h : mapK P t = true) : ∃ k e, P.underlying t = some (.map k e) ∧ P.underlying k = some (.int .i64) ∧ zeroK P e = some (.bool false) := by
  unfold mapK at h
  split at h
  · rename_i k e hu
    rw [Bool.and_eq_true] at h
    obtain ⟨h1, h2⟩ := h
    split at h1
    · rename_i hk
      split at h2
      · rename_i hz
        exact ⟨k, e, hu, hk, hz⟩
      · cases h2
    · cases h1
  · cases h
theorem run_zero {P : Program} {e : TypeId} {z : Value} (h : zeroK P e = some z) (w : World) : (zeroValue e).run P w = .ok z w := by
  unfold zeroK at h
  cases hi : P.info? e with
  | none => rw [hi] at h; cases h
  | some i =>
    rw [hi] at h
    have hz' : i.zero = some z := h
    simp [zeroValue, run_typeInfo w hi, hz']

def setOf : List D → Option (List Int)
  | .none :: r => seenOf r
  | _ => none
theorem setOf_ {cs : List D} {ns : List Int} (h : setOf cs = some ns) : cs = .none :: seenD ns := by
  unfold setOf at h
  split at h
  · rw [seenOf_ h]
  · cases h
/-- The set that the map i holds. -/
def St.mo (s : St) (i : Nat) : Option (List Int) := match s.os.lookup i with
  | some x => cond (x.size == 0) (setOf x.cs) none
  | none => none
/-- A new map. -/
theorem Rel.allocMap {X : Ctx} {s : St} {E : Env} {a : Act} {w : World} (h : Rel X s E a w) (t : TypeId) : Rel X (s.newOb ⟨t, 0, 0, [.none]⟩) (E.with s.nb (some ⟨w.heap.size, 0⟩)) a (w.alloc (.map #[] 0)) := by
  have hnew := h.sr.new s.nb (Nat.le_refl _)
  have hle : E.le (E.with s.nb (some ⟨w.heap.size, 0⟩)) := Env.with_le hnew
  have hro : ∀ b, E.ro b → (w.alloc (.map #[] 0)).heap[b]? = w.heap[b]? := fun b hb => heap_alloc_old w _ (h.sr.rolt b hb)
  refine ⟨h.sz, fun t d hd => (h.tm t d hd).keep hle hro, h.df, ?_, ?_⟩
  · refine ⟨fun i y hy => ?_, fun i hi => ?_, fun b hb => ?_, ?_, ?_, ?_⟩
    · rcases List.mem_cons.1 hy with hy | hy
      · injection hy with h1 h2
        subst h1; subst h2
        refine ⟨fun hs => absurd rfl hs, .inr ⟨⟨w.heap.size, 0⟩, Env.with_at, .inl h.st.size, fun hr => ?_, Nat.le_refl _, Nat.zero_le _, .inr ⟨rfl, #[], 0, heap_alloc_new w _, rfl, fun e he => by simp at he⟩⟩⟩
        exact Nat.lt_irrefl _ (h.sr.rolt _ hr)
      · have hlt := h.sr.idlt hy
        refine (h.sr.obs i y hy).keep hle hro fun l hl => ⟨heap_alloc_old w _ (h.sr.lt hy hl), ?_⟩
        intro hr
        rcases (h.sr.obs i y hy).2 with ⟨h1, _⟩ | ⟨l', h1, _, h3, _⟩
        · rw [hl] at h1; cases h1
        · rw [hl] at h1
          injection h1 with h1
          injection h1 with h1
          subst h1
          exact h3 hr
    · show (if i = s.nb then _ else E.at_ i) = none
      have hi' : s.nb + 1 ≤ i := hi
      rw [if_neg (by omega)]
      exact h.sr.new i (by omega)
    · have := h.sr.rolt b hb
      rw [World.size_alloc]
      omega
    · intro i y j z hi hj hij l m hl hm
      rcases List.mem_cons.1 hi with hi | hi <;> rcases List.mem_cons.1 hj with hj | hj
      · injection hi with h1 _; injection hj with h2 _; omega
      · injection hi with h1 _
        subst h1
        rw [Env.with_at] at hl
        injection hl with hl; injection hl with hl; subst hl
        rw [Env.with_ne (fun e => hij e.symm)] at hm
        have := h.sr.lt hj hm
        intro e
        rw [← e] at this
        exact Nat.lt_irrefl _ this
      · injection hj with h1 _
        subst h1
        rw [Env.with_at] at hm
        injection hm with hm; injection hm with hm; subst hm
        rw [Env.with_ne hij] at hl
        have := h.sr.lt hi hl
        intro e
        rw [e] at this
        exact Nat.lt_irrefl _ this
      · have h1 := h.sr.idlt hi
        have h2 := h.sr.idlt hj
        rw [Env.with_ne (by omega)] at hl hm
        exact h.sr.apart i y j z hi hj hij l m hl hm
    · show (s.nb :: s.os.map (·.1)).Nodup
      rw [List.nodup_cons]
      refine ⟨fun hm => ?_, h.sr.nodup⟩
      obtain ⟨p, hp, he⟩ := List.mem_map.1 hm
      have := h.sr.idlt (i := p.1) (x := p.2) hp
      omega
    · refine h.sr.tr.keep rfl (fun b k p _ h1 h2 h3 h4 => ⟨by rw [World.size_alloc]; omega, heap_alloc_old w _ h1, h2, h3, fun j y l hj hl => ?_⟩) fun k x' hx j ty sz n cs hj => ?_
      · rcases List.mem_cons.1 hj with hj | hj
        · injection hj with e1 e2
          subst e1
          rw [Env.with_at] at hl
          injection hl with hl; injection hl with hl; subst hl
          exact Nat.ne_of_gt h1
        · rw [Env.with_ne (Nat.ne_of_lt (h.sr.idlt hj))] at hl
          exact h4 j y l hj hl
      · rcases List.mem_cons.1 hx with hx | hx
        · injection hx with e1 e2
          subst e1; subst e2
          have hj' : [D.none][j]? = some (.tr ty sz n cs) := hj
          rcases j with _ | j
          · simp at hj'
          · simp at hj'
        · have hne := Nat.ne_of_lt (h.sr.idlt hx)
          exact ⟨x', hx, hj, fun l hl => ⟨(Env.with_ne hne).trans hl, World.cell?_of_block (a := ⟨l.g, j, none⟩) (heap_alloc_old w _ (h.sr.lt hx hl))⟩⟩
  · refine ⟨h.st.le.trans hle, h.st.os, h.st.tape, h.st.output, ?_, fun b hb hm => ?_, h.st.ro, Nat.le_succ_of_le h.st.nb⟩
    · rw [World.size_alloc]; exact Nat.le_succ_of_le h.st.size
    · exact (heap_alloc_old w _ (Nat.lt_of_lt_of_le hb h.st.size)).trans (h.st.block b hb hm)


/-- A map turns. -/
theorem Rel.writeMap {X : Ctx} {s : St} {E : Env} {a : Act} {w w' : World} (h : Rel X s E a w) {i : Nat} {x : Ob} {l : Loc} (hi : (i, x) ∈ s.os) (hl : E.at_ i = some (some l)) (cs : List D) (es : Array MapEntry) (clock : Nat) (hz0 : x.size = 0)
    (hok : MapOk cs es) (hw : w'.heap[l.g]? = some (.map es clock)) (hb : ∀ b, b ≠ l.g → w'.heap[b]? = w.heap[b]?) (hsz : w'.heap.size = w.heap.size) (hos : w'.os = w.os) (htape : w'.tape = w.tape) (hout : w'.output = w.output) :
    Rel X (s.setCs i cs) E a w' := by
  obtain ⟨_, hx2⟩ := h.sr.obs i x hi
  rcases hx2 with ⟨h1, _⟩ | ⟨l', h1, hW, hnr, hcap, hmax, _⟩
  · rw [hl] at h1; cases h1
  rw [hl] at h1
  injection h1 with h1
  injection h1 with h1
  subst h1
  have hro : ∀ b, E.ro b → w'.heap[b]? = w.heap[b]? := fun b hr => hb b (fun e => hnr (e ▸ hr))
  have hle := Env.le.refl E
  refine ⟨h.sz, fun t d hd => (h.tm t d hd).keep hle hro, h.df, ?_, ?_⟩
  · refine ⟨fun j y hy => ?_, h.sr.new, fun b hr => by rw [hsz]; exact h.sr.rolt b hr, ?_, ?_, ?_⟩
    · obtain ⟨z, hz, rfl⟩ := setCs_mem hy
      by_cases hji : j = i
      · subst hji
        rw [if_pos rfl]
        obtain rfl := nodup_eq h.sr.nodup hi hz
        exact ⟨fun hs => absurd hz0 hs, .inr ⟨l, hl, hW, hnr, hcap, hmax, .inr ⟨hz0, es, clock, hw, hok⟩⟩⟩
      · rw [if_neg hji]
        refine (h.sr.obs j z hz).keep hle hro fun m hm => ⟨hb _ (h.sr.apart j z i x hz hi hji m l hm hl), ?_⟩
        rcases (h.sr.obs j z hz).2 with ⟨h5, _⟩ | ⟨m', h5, _, h6, _⟩
        · rw [hm] at h5; cases h5
        · rw [hm] at h5
          injection h5 with h5
          injection h5 with h5
          subst h5
          exact h6
    · intro j y k z hj hk hjk m n hm hn
      obtain ⟨y', hy', _⟩ := setCs_mem hj
      obtain ⟨z', hz', _⟩ := setCs_mem hk
      exact h.sr.apart j y' k z' hy' hz' hjk m n hm hn
    · rw [show (s.setCs i cs).os = Go.Proofs.YtemaanibghedlaaGreat.setCs s.os i cs from rfl, setCs_ids]
      exact h.sr.nodup
    · refine h.sr.tr.keep rfl (fun b k p _ h1 h2 h3 h4 => ⟨by rw [hsz]; exact h1, hb b (fun e => h4 i x l hi hl e.symm), h2, h3, fun j y m hj hm => ?_⟩) fun k x' hx j ty sz n cs' hj => ?_
      · obtain ⟨y', hy', _⟩ := setCs_mem hj
        exact h4 j y' m hy' hm
      · obtain ⟨z, hz, rfl⟩ := setCs_mem hx
        by_cases hki : k = i
        · subst hki
          rw [if_pos rfl] at hj
          have hj' : cs[j]? = some (.tr ty sz n cs') := hj
          rw [hok.1] at hj'
          have hm := List.mem_of_getElem? hj'
          rcases List.mem_cons.1 hm with hm | hm
          · cases hm
          · obtain ⟨e, _, he⟩ := List.mem_flatMap.1 hm
            simp at he
        · rw [if_neg hki] at hj
          exact ⟨z, hz, hj, fun m hm => ⟨hm, World.cell?_of_block (a := ⟨m.g, j, none⟩) (hb _ (h.sr.apart k z i x hz hi hki m l hm hl))⟩⟩
  · refine ⟨h.st.le, hos.trans h.st.os, htape.trans h.st.tape, hout.trans h.st.output, by rw [hsz]; exact h.st.size, fun b hlt hm => ?_, h.st.ro, h.st.nb⟩
    by_cases hbg : b = l.g
    · subst hbg
      rcases hW with hW | hW
      · omega
      · exact absurd hW hm
    · exact (hb b hbg).trans (h.st.block b hlt hm)


theorem St.mo_ {s : St} {i : Nat} {ns : List Int} (h : s.mo i = some ns) : ∃ x, (i, x) ∈ s.os ∧ x.size = 0 ∧ x.cs = .none :: seenD ns := by
  unfold St.mo at h
  split at h
  · rename_i x hx
    cases hz : (x.size == 0) with
    | false => rw [hz] at h; cases h
    | true =>
      rw [hz] at h
      exact ⟨x, mem_of_lookup hx, by simpa using hz, setOf_ h⟩
  · cases h
/-- The map in memory. -/
theorem Rel.map {X : Ctx} {s : St} {E : Env} {a : Act} {w : World} (h : Rel X s E a w) {i : Nat} {ns : List Int} (hm : s.mo i = some ns) {l : Loc} (hl : E.at_ i = some (some l)) :
    ∃ x, (i, x) ∈ s.os ∧ x.size = 0 ∧ ∃ es clock, w.heap[l.g]? = some (.map es clock) ∧ es.toList.flatMap (fun e => [D.sc e.key, D.sc e.val]) = seenD ns ∧ ∀ e ∈ es.toList, e.key.oneCell' = true ∧ e.val.oneCell' = true := by
  obtain ⟨x, hi, hz, hcs⟩ := St.mo_ hm
  obtain ⟨_, hx2⟩ := h.sr.obs i x hi
  rcases hx2 with ⟨h1, _⟩ | ⟨l', h1, _, _, _, _, ⟨cur, _, h7, h8⟩ | ⟨_, es, clock, h6, h7, h8⟩⟩
  · rw [hl] at h1; cases h1
  · obtain ⟨u, hu, _⟩ := h8 0 .none (by rw [hcs]; rfl)
    have := (Array.getElem?_eq_some_iff.1 hu).1
    rw [h7, hz] at this
    omega
  · rw [hl] at h1
    injection h1 with h1; injection h1 with h1; subst h1
    rw [hcs] at h7
    injection h7 with _ h7
    exact ⟨x, hi, hz, es, clock, h6, h7.symm, h8⟩
theorem awmakeMap {X : Ctx} {P : Program} {o : Oper} {s : St} {t : TypeId} {K : St → Prop} (ho : o.op = .makeMap t none) (h : K ((s.newOb ⟨t, 0, 0, [.none]⟩).put o.dst (.mp s.nb))) : AwStep X P o s K :=
  ⟨fun E a w K' R hr hk => by
    unfold Oper.wp
    have hrun : (execOp a.eval o).run P w = .ok (.value (.map (some w.heap.size))) (w.alloc (.map #[] 0)) := by
      simp [execOp, ho, run_makeMap, Result.andThen]
    rw [hrun]
    exact hk _ _ _ _ h ((hr.allocMap t).put o.dst ⟨_, Env.with_at, rfl⟩)⟩
theorem awlookMap {X : Ctx} {P : Program} {o : Oper} {s : St} {wr : List Nat} {nb : Nat} {t : TypeId} {m x : Operand} {K : St → Prop} (ho : o.op = .lookup t m x false) {i : Nat} {n : Int} {ns : List Int} (hm : s.ev m = .mp i) (hx : s.ev x = .sc (.int .i64 n)) (hs : s.mo i = some ns) (ht : mapK P t = true)
    (h : K (s.put o.dst (.sc (.bool (decide (n ∈ ns)))))) : AwStepF X P o s wr nb K :=
  ⟨fun E a w K' R hr hk => by
    unfold Oper.wp
    obtain ⟨l, hl, hmv⟩ : ∃ l, E.at_ i = some (some l) ∧ a.eval m = .map (some l.g) := by have := hr.ev m; rw [hm] at this; exact this
    have hxv : a.eval x = .int .i64 n := by have := hr.ev x; rw [hx] at this; exact this.1
    obtain ⟨_, _, _, es, clock, hb, hes, _⟩ := hr.map hs hl
    obtain ⟨k, e, h1, h2, h3⟩ := mapK_ ht
    have hf := find_seen (q := .i64) n es.toList ns 0 hes
    have hk0 : IsKey (.int .i64) (.int .i64 n) := by trivial
    have hrun : (execOp a.eval o).run P w = .ok (.value (.bool (decide (n ∈ ns)))) w := by
      by_cases hn : n ∈ ns
      · obtain ⟨j, hj⟩ := hf.1 hn
        simp [execOp, ho, hmv, hxv, Instr.lookup, run_underlying h1, MapKept.run_getObj_map hb, run_checkKey h2 hk0, run_findKey h2 hj, Result.andThen, hn]
      · simp [execOp, ho, hmv, hxv, Instr.lookup, run_underlying h1, MapKept.run_getObj_map hb, run_checkKey h2 hk0, run_findKey h2 (hf.2 hn), run_zero h3, Result.andThen, hn]
    rw [hrun]
    exact hk _ _ _ _ h (hr.put o.dst ⟨rfl, rfl⟩) (Fr.same none E w |>.toT |> fun f => ⟨f.le, f.size, fun b hb _ hne => rfl, fun i l h1 h2 => (by rw [h1] at h2; cases h2), fun b h1 h2 => absurd h1 h2⟩)⟩
theorem awputMap {X : Ctx} {P : Program} {o : Oper} {s : St} {t : TypeId} {m x v : Operand} {K : St → Prop} (ho : o.op = .mapUpdate t m x v) {i : Nat} {n : Int} {ns : List Int} (hm : s.ev m = .mp i) (hx : s.ev x = .sc (.int .i64 n)) (hv : s.ev v = .sc (.bool true)) (hs : s.mo i = some ns) (ht : mapK P t = true) (hn : n ∉ ns)
    (h : K ((s.setCs i (.none :: seenD (ns ++ [n]))).put o.dst .none)) : AwStep X P o s K :=
  ⟨fun E a w K' R hr hk => by
    unfold Oper.wp
    obtain ⟨l, hl, hmv⟩ : ∃ l, E.at_ i = some (some l) ∧ a.eval m = .map (some l.g) := by have := hr.ev m; rw [hm] at this; exact this
    have hxv : a.eval x = .int .i64 n := by have := hr.ev x; rw [hx] at this; exact this.1
    have hvv : a.eval v = .bool true := by have := hr.ev v; rw [hv] at this; exact this.1
    obtain ⟨y, hi, hz, es, clock, hb, hes, hone⟩ := hr.map hs hl
    obtain ⟨k, e, h1, h2, h3⟩ := mapK_ ht
    have hf := find_seen (q := .i64) n es.toList ns 0 hes
    have hk0 : IsKey (.int .i64) (.int .i64 n) := by trivial
    have hrun : (execOp a.eval o).run P w = .ok .skip (ChangeMaps.setBlock w l.g (.map (es.push ⟨.int .i64 n, .bool true, clock⟩) (clock + 1))) := by
      simp [execOp, ho, hmv, hxv, hvv, Instr.mapUpdate, run_underlying h1, MapKept.run_getObj_map hb, run_checkKey h2 hk0, run_findKey h2 (hf.2 hn), MapKept.run_setObj_map _ hb, Result.andThen, ChangeMaps.setBlock]
    rw [hrun]
    refine hk _ _ _ _ h ((hr.writeMap hi hl (.none :: seenD (ns ++ [n])) (es.push ⟨.int .i64 n, .bool true, clock⟩) (clock + 1) hz ⟨?_, ?_⟩ (ChangeMaps.heap_setBlock_same hb _) (fun b hbl => ChangeMaps.heap_setBlock_other hb _ hbl) (by simp [ChangeMaps.setBlock]) rfl rfl rfl).undef o.dst)
    · rw [Array.toList_push, List.flatMap_append, hes]
      simp [seenD]
    · intro e he
      rw [Array.toList_push] at he
      rcases List.mem_append.1 he with he | he
      · exact hone e he
      · rw [List.mem_singleton.1 he]; exact ⟨rfl, rfl⟩⟩
theorem awlookMapP {X : Ctx} {P : Program} {o : Oper} {s : St} {t : TypeId} {m x : Operand} {K : St → Prop} (ho : o.op = .lookup t m x false) {i : Nat} {n : Int} {ns : List Int} (hm : s.ev m = .mp i) (hx : s.ev x = .sc (.int .i64 n)) (hs : s.mo i = some ns) (ht : mapK P t = true)
    (h : K (s.put o.dst (.sc (.bool (decide (n ∈ ns)))))) : AwStep X P o s K := (awlookMap (wr := []) (nb := 0) ho hm hx hs ht h).plain
theorem seenD_nil : seenD [] = [] := rfl
theorem seenOf_nil : seenOf [] = some [] := rfl
theorem seenD_ren (f : Nat → Nat) (ns : List Int) : (seenD ns).map (D.ren1 f) = seenD ns := by simp [seenD, List.map_flatMap, D.ren1]
theorem seenD_frz (i : Nat) (x : Ob) (ns : List Int) : (seenD ns).map (D.frz1 i x) = seenD ns := by simp [seenD, List.map_flatMap, D.frz1]
theorem seenD_in (p : Nat → Bool) (ns : List Int) : (seenD ns).all (D.in1 p) = true := by simp [seenD, List.all_flatMap, D.in1]
theorem seenD_lt (k : Nat) (ns : List Int) : (seenD ns).all (D.lt1 k) = true := by simp [seenD, List.all_flatMap, D.lt1]
end Go.Proofs.YtemaanibghedlaaGreat
