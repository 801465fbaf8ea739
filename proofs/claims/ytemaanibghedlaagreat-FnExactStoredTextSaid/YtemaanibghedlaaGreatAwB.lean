/- The logic over data: a new object, a write into an object, cells read out of an object. -/
import Derived.Test.YtemaanibghedlaaGreatAwA
namespace Go.Proofs.YtemaanibghedlaaGreat
open Go.RowKit

def Env.with (E : Env) (i : Nat) (l : Option Loc) : Env := { E with at_ := fun j => if j = i then some l else E.at_ j }
theorem Env.with_le {E : Env} {i : Nat} {l : Option Loc} (h : E.at_ i = none) : E.le (E.with i l) := by
  refine ⟨fun j m hj => ?_, fun b hb => hb⟩
  show (if j = i then some l else E.at_ j) = some m
  by_cases hji : j = i
  · subst hji; rw [h] at hj; cases hj
  · rw [if_neg hji]; exact hj
theorem Env.with_at {E : Env} {i : Nat} {l : Option Loc} : (E.with i l).at_ i = some l := if_pos rfl
theorem Env.with_ne {E : Env} {i j : Nat} {l : Option Loc} (h : j ≠ i) : (E.with i l).at_ j = E.at_ j := if_neg h

def St.newOb (s : St) (x : Ob) : St := { s with os := (s.nb, x) :: s.os, nb := s.nb + 1 }
def setCs (os : List (Nat × Ob)) (i : Nat) (cs : List D) : List (Nat × Ob) := os.map fun p => if p.1 = i then (p.1, { p.2 with cs := cs }) else p
def St.setCs (s : St) (i : Nat) (cs : List D) : St := { s with os := Go.Proofs.YtemaanibghedlaaGreat.setCs s.os i cs }

theorem setCs_ids (os : List (Nat × Ob)) (i : Nat) (cs : List D) : (setCs os i cs).map (·.1) = os.map (·.1) := by
  unfold setCs
  rw [List.map_map]
  congr 1
  funext p
  simp only [Function.comp]
  split <;> rfl
theorem setCs_mem {os : List (Nat × Ob)} {i j : Nat} {cs : List D} {y : Ob} (h : (j, y) ∈ setCs os i cs) : ∃ x, (j, x) ∈ os ∧ y = if j = i then { x with cs := cs } else x := by
  unfold setCs at h
  obtain ⟨p, hp, he⟩ := List.mem_map.1 h
  split at he <;> rename_i hi
  · injection he with h1 h2
    refine ⟨p.2, ?_, ?_⟩
    · rw [← h1]; exact hp
    · rw [← h1, if_pos hi, h2]
  · subst he
    exact ⟨y, hp, by rw [if_neg hi]⟩
theorem mem_of_lookup {i : Nat} {x : Ob} : ∀ {os : List (Nat × Ob)}, os.lookup i = some x → (i, x) ∈ os
  | [], h => by simp at h
  | (j, y) :: os, h => by
    rw [List.lookup_cons] at h
    by_cases hij : i = j
    · subst hij
      simp at h
      subst h
      exact List.mem_cons_self ..
    · rw [beq_false_of_ne hij] at h
      exact List.mem_cons_of_mem _ (mem_of_lookup h)
theorem nodup_eq {os : List (Nat × Ob)} (h : (os.map (·.1)).Nodup) {i : Nat} {x y : Ob} (hx : (i, x) ∈ os) (hy : (i, y) ∈ os) : x = y := by
  induction os with
  | nil => cases hx
  | cons p os ih =>
    rw [List.map_cons, List.nodup_cons] at h
    rcases List.mem_cons.1 hx with hx | hx <;> rcases List.mem_cons.1 hy with hy | hy
    · rw [← hx] at hy
      injection hy with _ hy
      exact hy.symm
    · exact absurd (List.mem_map.2 ⟨_, hy, by rw [← hx]⟩) h.1
    · exact absurd (List.mem_map.2 ⟨_, hx, by rw [← hy]⟩) h.1
    · exact ih h.2 hx hy

theorem Rel.alloc {X : Ctx} {s : St} {E : Env} {a : Act} {w : World} (h : Rel X s E a w) (x : Ob) (cur : Array Value) (cap : Nat) (hlen : x.cs.length = x.len * x.size) (hcap : x.len ≤ cap) (hmax : cap ≤ maxLen)
    (hcur : cur.size = cap * x.size) (hc : ∀ (j : Nat) (d : D), x.cs[j]? = some d → ∃ u, cur[j]? = some u ∧ u.oneCell' = true ∧ Rep1 E w d u) (hnt : x.cs.all D.nt = true) :
    Rel X (s.newOb x) (E.with s.nb (some ⟨w.heap.size, cap⟩)) a (w.alloc (.cells cur x.ty)) := by
  have hnew := h.sr.new s.nb (Nat.le_refl _)
  have hle : E.le (E.with s.nb (some ⟨w.heap.size, cap⟩)) := Env.with_le hnew
  have hro : ∀ b, E.ro b → (w.alloc (.cells cur x.ty)).heap[b]? = w.heap[b]? := fun b hb => heap_alloc_old w _ (h.sr.rolt b hb)
  refine ⟨h.sz, fun t d hd => (h.tm t d hd).keep hle hro, h.df, ?_, ?_⟩
  · refine ⟨fun i y hy => ?_, fun i hi => ?_, fun b hb => ?_, ?_, ?_, ?_⟩
    · rcases List.mem_cons.1 hy with hy | hy
      · injection hy with h1 h2
        subst h1; subst h2
        refine ⟨fun _ => hlen, .inr ⟨⟨w.heap.size, cap⟩, Env.with_at, .inl h.st.size, fun hr => ?_, hcap, hmax, .inl ⟨cur, heap_alloc_new w _, hcur, fun j d hd => ?_⟩⟩⟩
        · exact Nat.lt_irrefl _ (h.sr.rolt _ hr)
        · obtain ⟨u, h1, h2, h3⟩ := hc j d hd
          exact ⟨u, h1, h2, h3.keep hle hro⟩
      · have hlt := h.sr.idlt hy
        refine (h.sr.obs i y hy).keep hle hro fun l hl => ⟨heap_alloc_old w _ (h.sr.lt hy hl), ?_⟩
        intro hr
        rcases (h.sr.obs i y hy).2 with ⟨h1, _⟩ | ⟨l', h1, _, h3, _⟩
        · rw [hl] at h1; cases h1
        · rw [hl] at h1
          injection h1 with h1
          injection h1 with h1
          subst h1
          exact h3 hr
    · show (if i = s.nb then _ else E.at_ i) = none
      have hi' : s.nb + 1 ≤ i := hi
      rw [if_neg (by omega)]
      exact h.sr.new i (by omega)
    · have := h.sr.rolt b hb
      rw [World.size_alloc]
      omega
    · intro i y j z hi hj hij l m hl hm
      rcases List.mem_cons.1 hi with hi | hi <;> rcases List.mem_cons.1 hj with hj | hj
      · injection hi with h1 _; injection hj with h2 _; omega
      · injection hi with h1 _
        subst h1
        rw [Env.with_at] at hl
        injection hl with hl; injection hl with hl; subst hl
        rw [Env.with_ne (fun e => hij e.symm)] at hm
        have := h.sr.lt hj hm
        intro e
        rw [← e] at this
        exact Nat.lt_irrefl _ this
      · injection hj with h1 _
        subst h1
        rw [Env.with_at] at hm
        injection hm with hm; injection hm with hm; subst hm
        rw [Env.with_ne hij] at hl
        have := h.sr.lt hi hl
        intro e
        rw [e] at this
        exact Nat.lt_irrefl _ this
      · have h1 := h.sr.idlt hi
        have h2 := h.sr.idlt hj
        rw [Env.with_ne (by omega)] at hl hm
        exact h.sr.apart i y j z hi hj hij l m hl hm
    · show (s.nb :: s.os.map (·.1)).Nodup
      rw [List.nodup_cons]
      refine ⟨fun hm => ?_, h.sr.nodup⟩
      obtain ⟨p, hp, he⟩ := List.mem_map.1 hm
      have := h.sr.idlt (i := p.1) (x := p.2) hp
      omega
    · refine h.sr.tr.keep rfl (fun b k p _ h1 h2 h3 h4 => ⟨by rw [World.size_alloc]; omega, heap_alloc_old w _ h1, h2, h3, fun j y l hj hl => ?_⟩) fun k x' hx j ty sz n cs hj => ?_
      · rcases List.mem_cons.1 hj with hj | hj
        · injection hj with e1 e2
          subst e1
          rw [Env.with_at] at hl
          injection hl with hl; injection hl with hl; subst hl
          exact Nat.ne_of_gt h1
        · rw [Env.with_ne (Nat.ne_of_lt (h.sr.idlt hj))] at hl
          exact h4 j y l hj hl
      · rcases List.mem_cons.1 hx with hx | hx
        · injection hx with e1 e2
          subst e1; subst e2
          have := List.all_eq_true.1 hnt _ (List.mem_of_getElem? hj); cases this
        · have hne := Nat.ne_of_lt (h.sr.idlt hx)
          exact ⟨x', hx, hj, fun l hl => ⟨(Env.with_ne hne).trans hl, World.cell?_of_block (a := ⟨l.g, j, none⟩) (heap_alloc_old w _ (h.sr.lt hx hl))⟩⟩
  · refine ⟨h.st.le.trans hle, h.st.os, h.st.tape, h.st.output, ?_, fun b hb hm => ?_, h.st.ro, Nat.le_succ_of_le h.st.nb⟩
    · rw [World.size_alloc]; exact Nat.le_succ_of_le h.st.size
    · exact (heap_alloc_old w _ (Nat.lt_of_lt_of_le hb h.st.size)).trans (h.st.block b hb hm)

/-- A write into an object: its cells turn, all else stays. -/
theorem Rel.write {X : Ctx} {s : St} {E : Env} {a : Act} {w w' : World} (h : Rel X s E a w) {i : Nat} {x : Ob} {l : Loc} (hi : (i, x) ∈ s.os) (hl : E.at_ i = some (some l)) (cs : List D) (cur : Array Value)
    (hlen : cs.length = x.cs.length) (hcur : cur.size = l.cap * x.size) (hc : ∀ (j : Nat) (d : D), cs[j]? = some d → ∃ u, cur[j]? = some u ∧ u.oneCell' = true ∧ Rep1 E w d u)
    (htr : ∀ j ty sz n cs', cs[j]? = some (.tr ty sz n cs') → x.cs[j]? = some (.tr ty sz n cs') ∧ cur[j]? = w.cell? ⟨l.g, j, none⟩)
    (hw : w'.heap[l.g]? = some (.cells cur x.ty (0, 0))) (hb : ∀ b, b ≠ l.g → w'.heap[b]? = w.heap[b]?) (hsz : w'.heap.size = w.heap.size) (hos : w'.os = w.os) (htape : w'.tape = w.tape) (hout : w'.output = w.output) :
    Rel X (s.setCs i cs) E a w' := by
  obtain ⟨hx1, hx2⟩ := h.sr.obs i x hi
  rcases hx2 with ⟨h1, _⟩ | ⟨l', h1, hW, hnr, hcap, hmax, _⟩
  · rw [hl] at h1; cases h1
  rw [hl] at h1
  injection h1 with h1
  injection h1 with h1
  subst h1
  have hro : ∀ b, E.ro b → w'.heap[b]? = w.heap[b]? := fun b hr => hb b (fun e => hnr (e ▸ hr))
  have hle := Env.le.refl E
  refine ⟨h.sz, fun t d hd => (h.tm t d hd).keep hle hro, h.df, ?_, ?_⟩
  · refine ⟨fun j y hy => ?_, h.sr.new, fun b hr => by rw [hsz]; exact h.sr.rolt b hr, ?_, ?_, ?_⟩
    · obtain ⟨z, hz, rfl⟩ := setCs_mem hy
      by_cases hji : j = i
      · subst hji
        rw [if_pos rfl]
        obtain rfl := nodup_eq h.sr.nodup hi hz
        refine ⟨fun hs => hlen.trans (hx1 hs), .inr ⟨l, hl, hW, hnr, hcap, hmax, .inl ⟨cur, hw, hcur, fun k d hd => ?_⟩⟩⟩
        obtain ⟨u, h2, h3, h4⟩ := hc k d hd
        exact ⟨u, h2, h3, h4.keep hle hro⟩
      · rw [if_neg hji]
        refine (h.sr.obs j z hz).keep hle hro fun m hm => ⟨hb _ (h.sr.apart j z i x hz hi hji m l hm hl), ?_⟩
        rcases (h.sr.obs j z hz).2 with ⟨h5, _⟩ | ⟨m', h5, _, h6, _⟩
        · rw [hm] at h5; cases h5
        · rw [hm] at h5
          injection h5 with h5
          injection h5 with h5
          subst h5
          exact h6
    · intro j y k z hj hk hjk m n hm hn
      obtain ⟨y', hy', _⟩ := setCs_mem hj
      obtain ⟨z', hz', _⟩ := setCs_mem hk
      exact h.sr.apart j y' k z' hy' hz' hjk m n hm hn
    · rw [show (s.setCs i cs).os = Go.Proofs.YtemaanibghedlaaGreat.setCs s.os i cs from rfl, setCs_ids]
      exact h.sr.nodup
    · refine h.sr.tr.keep rfl (fun b k p _ h1 h2 h3 h4 => ⟨by rw [hsz]; exact h1, hb b (fun e => h4 i x l hi hl e.symm), h2, h3, fun j y m hj hm => ?_⟩) fun k x' hx j ty sz n cs' hj => ?_
      · obtain ⟨y', hy', _⟩ := setCs_mem hj
        exact h4 j y' m hy' hm
      · obtain ⟨z, hz, rfl⟩ := setCs_mem hx
        by_cases hki : k = i
        · subst hki
          rw [if_pos rfl] at hj
          obtain rfl := nodup_eq h.sr.nodup hi hz
          obtain ⟨h1, h2⟩ := htr j ty sz n cs' hj
          refine ⟨x, hz, h1, fun m hm => ⟨hm, ?_⟩⟩
          rw [hl] at hm
          injection hm with hm; injection hm with hm; subst hm
          rw [← h2]
          exact cell_of_row w' l.g j cur x.ty (0, 0) hw
        · rw [if_neg hki] at hj
          exact ⟨z, hz, hj, fun m hm => ⟨hm, World.cell?_of_block (a := ⟨m.g, j, none⟩) (hb _ (h.sr.apart k z i x hz hi hki m l hm hl))⟩⟩
  · refine ⟨h.st.le, hos.trans h.st.os, htape.trans h.st.tape, hout.trans h.st.output, by rw [hsz]; exact h.st.size, fun b hlt hm => ?_, h.st.ro, h.st.nb⟩
    by_cases hbg : b = l.g
    · subst hbg
      rcases hW with hW | hW
      · omega
      · exact absurd hW hm
    · exact (hb b hbg).trans (h.st.block b hlt hm)

/-- The location and the block of an object that has cells. -/
theorem Rel.ob {X : Ctx} {s : St} {E : Env} {a : Act} {w : World} (h : Rel X s E a w) {i : Nat} {x : Ob} (hz : x.size ≠ 0) (hi : (i, x) ∈ s.os) {l : Loc} (hl : E.at_ i = some (some l)) :
    x.cs.length = x.len * x.size ∧ x.len ≤ l.cap ∧ l.cap ≤ maxLen ∧ ∃ cur, w.heap[l.g]? = some (.cells cur x.ty (0, 0)) ∧ cur.size = l.cap * x.size ∧ ∀ (j : Nat) (d : D), x.cs[j]? = some d → ∃ u, cur[j]? = some u ∧ u.oneCell' = true ∧ Rep1 E w d u := by
  obtain ⟨hx1, hx2⟩ := h.sr.obs i x hi
  rcases hx2 with ⟨h1, _⟩ | ⟨l', h1, hW, hnr, hcap, hmax, ⟨cur, h6, h7, h8⟩ | ⟨h9, _⟩⟩
  · rw [hl] at h1; cases h1
  rw [hl] at h1
  injection h1 with h1
  injection h1 with h1
  subst h1
  exact ⟨hx1 hz, hcap, hmax, cur, h6, h7, h8⟩
  exact absurd h9 hz

/-- Cells of an object from o on: values that the world holds there. -/
theorem Rel.cells {X : Ctx} {s : St} {E : Env} {a : Act} {w : World} (h : Rel X s E a w) {i : Nat} {x : Ob} (hz : x.size ≠ 0) (hi : (i, x) ∈ s.os) {l : Loc} (hl : E.at_ i = some (some l)) (o n : Nat) (hn : o + n ≤ x.cs.length) :
    ∃ us : List Value, us.length = n ∧ (∀ (j : Nat) (v : Value), us[j]? = some v → w.cell? ⟨l.g, o + j, none⟩ = some v) ∧ ∀ (j : Nat) (d : D) (v : Value), ((x.cs.drop o).take n)[j]? = some d → us[j]? = some v → Rep1 E w d v ∧ v.oneCell' = true := by
  obtain ⟨h1, h2, h3, cur, h4, h5, h6⟩ := h.ob hz hi hl
  have hle : x.cs.length ≤ cur.size := by rw [h1, h5]; exact Nat.mul_le_mul_right _ h2
  refine ⟨(cur.toList.drop o).take n, by simp; omega, fun j v hv => ?_, fun j d v hd hv => ?_⟩
  · rw [List.getElem?_take] at hv
    split at hv
    · rw [List.getElem?_drop, Array.getElem?_toList] at hv
      rw [cell_of_row w l.g (o + j) cur x.ty (0, 0) h4]
      exact hv
    · cases hv
  · rw [List.getElem?_take] at hd hv
    split at hd
    · rename_i hj
      rw [if_pos hj] at hv
      rw [List.getElem?_drop] at hd hv
      obtain ⟨u, hu, h7, h8⟩ := h6 _ d hd
      rw [Array.getElem?_toList] at hv
      rw [hu] at hv
      injection hv with hv
      subst hv
      exact ⟨h8, h7⟩
    · cases hd
end Go.Proofs.YtemaanibghedlaaGreat
