/- Stable sorting by merging in place: plain Lean. -/
import Derived.Test.YtidjjfjhmlndjaaGreatDoorPx
namespace Go.Proofs.YtidjjfjhmlndjaaGreatDoor
set_option linter.unusedVariables false

/-! Stable sorting. -/
section
variable {α : Type} {lt : α → α → Bool}
def eqv (lt : α → α → Bool) (x y : α) : Bool := !lt x y && !lt y x
theorem eqv_iff {x y : α} : eqv lt x y = true ↔ lt x y = false ∧ lt y x = false := by unfold eqv; cases lt x y <;> cases lt y x <;> simp
/-- One list moved into the other: equals keep their order. -/
structure Mv (lt : α → α → Bool) (ws L : List α) : Prop where
  perm : L.Perm ws
  sm : ∀ x, L.filter (eqv lt x) = ws.filter (eqv lt x)
theorem Mv.refl (ws : List α) : Mv lt ws ws := ⟨.refl _, fun _ => rfl⟩
theorem Mv.trans {a b c : List α} (h : Mv lt a b) (g : Mv lt b c) : Mv lt a c := ⟨g.perm.trans h.perm, fun x => (g.sm x).trans (h.sm x)⟩
theorem Mv.app {a b c d : List α} (h : Mv lt a b) (g : Mv lt c d) : Mv lt (a ++ c) (b ++ d) := ⟨h.perm.append g.perm, fun x => by rw [List.filter_append, List.filter_append, h.sm, g.sm]⟩
theorem Mv.len {a b : List α} (h : Mv lt a b) : b.length = a.length := h.perm.length_eq
theorem sto_tr (hO : Sto lt) {a b c : α} (h : lt a b = false) (g : lt b c = false) : lt a c = false := by
  cases e : lt a c with
  | false => rfl
  | true => rw [hO.neg a c b e g] at h; cases h
theorem Mv.swap (hO : Sto lt) {U V : List α} (h : ∀ u ∈ U, ∀ v ∈ V, lt v u = true) : Mv lt (U ++ V) (V ++ U) := by
  refine ⟨List.perm_append_comm, fun x => ?_⟩
  rw [List.filter_append, List.filter_append]
  by_cases hu : U.filter (eqv lt x) = []
  · rw [hu, List.append_nil, List.nil_append]
  · obtain ⟨u, hu1⟩ := List.exists_mem_of_ne_nil _ hu
    rw [List.mem_filter, eqv_iff] at hu1
    have hv : V.filter (eqv lt x) = [] := List.filter_eq_nil_iff.2 fun v hv1 hv2 => by
      rw [eqv_iff] at hv2
      have := sto_tr hO hv2.2 hu1.2.1
      rw [h u hu1.1 v hv1] at this
      cases this
    rw [hv, List.append_nil, List.nil_append]
theorem srt_cons {a : α} {l : List α} : Srt lt (a :: l) ↔ (∀ b ∈ l, lt b a = false) ∧ Srt lt l := List.pairwise_cons
theorem sto_irr (hO : Sto lt) (a : α) : lt a a = false := by
  cases e : lt a a with
  | false => rfl
  | true => have := hO.asym a a e; rw [e] at this; cases this
theorem mv_one (hO : Sto lt) : ∀ {A B : List α}, Srt lt A → Srt lt B → Mv lt A B → A = B
  | [], B, _, _, h => (List.perm_nil.1 h.perm).symm
  | a :: A, [], _, _, h => by have := h.len; simp at this
  | a :: A, b :: B, ha, hb, h => by
    rw [srt_cons] at ha hb
    have am : a ∈ b :: B := h.perm.mem_iff.2 (List.mem_cons_self ..)
    have bm : b ∈ a :: A := h.perm.mem_iff.1 (List.mem_cons_self ..)
    have h1 : lt a b = false := by
      rcases List.mem_cons.1 am with e | e
      · rw [e]; exact sto_irr hO b
      · exact hb.1 a e
    have h2 : lt b a = false := by
      rcases List.mem_cons.1 bm with e | e
      · rw [e]; exact sto_irr hO a
      · exact ha.1 b e
    have e1 := h.sm a
    rw [List.filter_cons_of_pos (eqv_iff.2 ⟨sto_irr hO a, sto_irr hO a⟩), List.filter_cons_of_pos (eqv_iff.2 ⟨h1, h2⟩)] at e1
    obtain ⟨e2, _⟩ := List.cons.inj e1
    subst e2
    refine congrArg _ (mv_one hO ha.2 hb.2 ⟨h.perm.cons_inv, fun x => ?_⟩)
    have := h.sm x
    by_cases hx : eqv lt x b = true
    · rw [List.filter_cons_of_pos hx, List.filter_cons_of_pos hx] at this
      exact (List.cons.inj this).2
    · rwa [List.filter_cons_of_neg hx, List.filter_cons_of_neg hx] at this
/-! Windows of a list. -/
def sub (xs : List α) (a b : Nat) : List α := (xs.take b).drop a
theorem sub_at (xs : List α) (a b k : Nat) : (sub xs a b)[k]? = if a + k < b then xs[a + k]? else none := by
  unfold sub
  rw [List.getElem?_drop, List.getElem?_take]
theorem sub_len (xs : List α) (a b : Nat) : (sub xs a b).length = min b xs.length - a := by unfold sub; rw [List.length_drop, List.length_take]
theorem sub_app (xs : List α) {a c b : Nat} (h1 : a ≤ c) (h2 : c ≤ b) (hb : b ≤ xs.length) : sub xs a b = sub xs a c ++ sub xs c b := by
  refine List.ext_getElem? fun k => ?_
  rw [List.getElem?_append, sub_at, sub_at, sub_at, sub_len]
  by_cases hk : k < min c xs.length - a
  · rw [if_pos hk, if_pos (by omega), if_pos (by omega)]
  · rw [if_neg hk]
    by_cases h3 : a + k < b
    · rw [if_pos h3, if_pos (by omega)]; congr 1; omega
    · rw [if_neg h3, if_neg (by omega)]
theorem sub_cut (xs : List α) {a b : Nat} (h1 : a ≤ b) (hb : b ≤ xs.length) : xs = xs.take a ++ sub xs a b ++ xs.drop b := by
  refine List.ext_getElem? fun k => ?_
  rw [List.getElem?_append, List.getElem?_append, List.length_append, sub_len, List.length_take, List.getElem?_drop, List.getElem?_take, sub_at]
  by_cases hk : k < a
  · rw [if_pos (by omega), if_pos (by omega), if_pos hk]
  · by_cases h3 : k < b
    · rw [if_pos (by omega), if_neg (by omega), if_pos (by omega)]; congr 1; omega
    · rw [if_neg (by omega)]; congr 1; omega
theorem sub_keep {xs L : List α} {a c d : Nat} (h : L.take a = xs.take a) (hd : d ≤ a) : sub L c d = sub xs c d := by
  unfold sub
  have : L.take d = xs.take d := by
    have := congrArg (List.take d) h
    rwa [List.take_take, List.take_take, Nat.min_eq_left hd] at this
  rw [this]
theorem sub_keep2 {xs L : List α} {b c d : Nat} (h : L.drop b = xs.drop b) (hd : b ≤ c) : sub L c d = sub xs c d := by
  refine List.ext_getElem? fun k => ?_
  rw [sub_at, sub_at]
  split
  · have := congrArg (fun l => l[c + k - b]?) h
    simp only [List.getElem?_drop] at this
    rwa [show b + (c + k - b) = c + k by omega] at this
  · rfl
/-- One list out of the other by moves within a window. -/
structure InW (lt : α → α → Bool) (xs L : List α) (a b : Nat) : Prop where
  tk : L.take a = xs.take a
  dp : L.drop b = xs.drop b
  ln : L.length = xs.length
  mv : Mv lt (sub xs a b) (sub L a b)
theorem InW.refl (xs : List α) (a b : Nat) : InW lt xs xs a b := ⟨rfl, rfl, rfl, .refl _⟩
theorem InW.trans {xs L M : List α} {a b : Nat} (h : InW lt xs L a b) (g : InW lt L M a b) : InW lt xs M a b := ⟨g.tk.trans h.tk, g.dp.trans h.dp, g.ln.trans h.ln, h.mv.trans g.mv⟩
theorem InW.wide {xs L : List α} {a b c d : Nat} (h : InW lt xs L a b) (hab : a ≤ b) (hc : c ≤ a) (hd : b ≤ d) (hl : d ≤ xs.length) : InW lt xs L c d := by
  refine ⟨?_, ?_, h.ln, ?_⟩
  · have := congrArg (List.take c) h.tk
    rwa [List.take_take, List.take_take, Nat.min_eq_left hc] at this
  · have := congrArg (List.drop (d - b)) h.dp
    rwa [List.drop_drop, List.drop_drop, show b + (d - b) = d by omega] at this
  · have e1 := sub_app xs (a := c) (c := a) (b := d) hc (by omega) hl
    have e2 := sub_app xs (a := a) (c := b) (b := d) hab hd hl
    have e3 := sub_app L (a := c) (c := a) (b := d) hc (by omega) (by rw [h.ln]; exact hl)
    have e4 := sub_app L (a := a) (c := b) (b := d) hab hd (by rw [h.ln]; exact hl)
    rw [e1, e2, e3, e4, sub_keep h.tk (Nat.le_refl _), sub_keep2 h.dp (Nat.le_refl _)]
    exact (Mv.refl _).app (h.mv.app (.refl _))
/-- A window in order. -/
def SrOn (lt : α → α → Bool) (xs : List α) (a b : Nat) : Prop := Srt lt (sub xs a b)
theorem srOn_part {xs : List α} {a b c d : Nat} (h : SrOn lt xs a b) (h1 : a ≤ c) (h2 : d ≤ b) : SrOn lt xs c d := by
  have e : sub xs c d = sub (sub xs a b) (c - a) (d - a) := by
    refine List.ext_getElem? fun k => ?_
    rw [sub_at, sub_at, sub_at]
    by_cases hk : c + k < d
    · rw [if_pos hk, if_pos (by omega), if_pos (by omega)]; congr 1; omega
    · rw [if_neg hk]
      by_cases h3 : c - a + k < d - a
      · omega
      · rw [if_neg h3]
  unfold SrOn
  rw [e]
  unfold sub Srt
  exact List.Pairwise.sublist (List.drop_sublist _ _) (List.Pairwise.sublist (List.take_sublist _ _) h)
theorem srOn_keep {xs L : List α} {a b c d : Nat} (h : InW lt xs L a b) (hs : SrOn lt xs c d) (hd : d ≤ a ∨ b ≤ c) : SrOn lt L c d := by
  unfold SrOn
  rcases hd with hd | hd
  · rw [sub_keep h.tk hd]; exact hs
  · rw [sub_keep2 h.dp hd]; exact hs
/-- All of one window is at most all of the next. -/
def LeW (lt : α → α → Bool) (xs : List α) (a c b : Nat) : Prop := ∀ u ∈ sub xs a c, ∀ v ∈ sub xs c b, lt v u = false
theorem srOn_join {xs : List α} {a c b : Nat} (h1 : a ≤ c) (h2 : c ≤ b) (hb : b ≤ xs.length) (h : SrOn lt xs a c) (g : SrOn lt xs c b) (hl : LeW lt xs a c b) : SrOn lt xs a b := by
  unfold SrOn
  rw [sub_app xs h1 h2 hb]
  exact List.pairwise_append.2 ⟨h, g, hl⟩
theorem leW_l {xs L : List α} {a c b : Nat} (h : InW lt xs L a c) (hl : LeW lt xs a c b) : LeW lt L a c b := fun u hu v hv => by
  rw [sub_keep2 h.dp (Nat.le_refl _)] at hv
  exact hl u (h.mv.perm.mem_iff.1 hu) v hv
theorem leW_r {xs L : List α} {a c b : Nat} (h : InW lt xs L c b) (hl : LeW lt xs a c b) : LeW lt L a c b := fun u hu v hv => by
  rw [sub_keep h.tk (Nat.le_refl _)] at hu
  exact hl u hu v (h.mv.perm.mem_iff.1 hv)
theorem mem_sub {xs : List α} {a b : Nat} {u : α} (h : u ∈ sub xs a b) : ∃ k, a ≤ k ∧ k < b ∧ xs[k]? = some u := by
  obtain ⟨k, hk⟩ := List.mem_iff_getElem?.1 h
  rw [sub_at] at hk
  split at hk
  · exact ⟨a + k, by omega, by omega, hk⟩
  · cases hk
theorem srOn_at (hO : Sto lt) {xs : List α} {a b i j : Nat} {u v : α} (h : SrOn lt xs a b) (h1 : a ≤ i) (h2 : i ≤ j) (h3 : j < b) (hu : xs[i]? = some u) (hv : xs[j]? = some v) : lt v u = false := by
  by_cases e : i = j
  · subst e
    rw [hu] at hv
    injection hv with hv
    subst hv
    exact sto_irr hO u
  · have hi : (sub xs a b)[i - a]? = some u := by rw [sub_at, if_pos (by omega), show a + (i - a) = i by omega]; exact hu
    have hj : (sub xs a b)[j - a]? = some v := by rw [sub_at, if_pos (by omega), show a + (j - a) = j by omega]; exact hv
    obtain ⟨p, hp⟩ := List.getElem?_eq_some_iff.1 hi
    obtain ⟨q, hq⟩ := List.getElem?_eq_some_iff.1 hj
    have := List.pairwise_iff_getElem.1 h (i - a) (j - a) p q (by omega)
    rwa [hp, hq] at this
/-- Two blocks, the one behind laid ahead. -/
def rot (xs : List α) (a m b : Nat) : List α := xs.take a ++ (sub xs m b ++ (sub xs a m ++ xs.drop b))
theorem rot_at (xs : List α) {a m b : Nat} (h1 : a ≤ m) (h2 : m ≤ b) (h3 : b ≤ xs.length) (k : Nat) : (rot xs a m b)[k]? = if k < a then xs[k]? else if k < a + (b - m) then xs[k + m - a]? else if k < b then xs[k + m - b]? else xs[k]? := by
  unfold rot
  rw [List.getElem?_append, List.getElem?_append, List.getElem?_append, List.length_take, sub_len, sub_len, List.getElem?_take, sub_at, sub_at, List.getElem?_drop]
  by_cases k1 : k < a
  · rw [if_pos (by omega), if_pos k1, if_pos k1]
  · rw [if_neg (by omega), if_neg k1]
    by_cases k2 : k < a + (b - m)
    · rw [if_pos (by omega), if_pos (by omega), if_pos k2]; congr 1; omega
    · rw [if_neg (by omega), if_neg k2]
      by_cases k3 : k < b
      · rw [if_pos (by omega), if_pos (by omega), if_pos k3]; congr 1; omega
      · rw [if_neg (by omega), if_neg k3]; congr 1; omega
theorem rot_len (xs : List α) {a m b : Nat} (h1 : a ≤ m) (h2 : m ≤ b) (h3 : b ≤ xs.length) : (rot xs a m b).length = xs.length := by
  unfold rot
  rw [List.length_append, List.length_append, List.length_append, List.length_take, sub_len, sub_len, List.length_drop]
  omega

theorem at_getD [Inhabited α] {xs : List α} {k : Nat} (h : k < xs.length) : xs[k]? = some (xs.getD k default) := by rw [List.getD_eq_getElem?_getD, List.getElem?_eq_getElem h]; rfl
/-- Two places exchanged. -/
def swp [Inhabited α] (xs : List α) (i j : Nat) : List α := (xs.set i (xs.getD j default)).set j (xs.getD i default)
theorem swp_len [Inhabited α] (xs : List α) (i j : Nat) : (swp xs i j).length = xs.length := by unfold swp; rw [List.length_set, List.length_set]
theorem swp_at [Inhabited α] {xs : List α} {i j : Nat} (hi : i < xs.length) (hj : j < xs.length) (k : Nat) : (swp xs i j)[k]? = if k = j then xs[i]? else if k = i then xs[j]? else xs[k]? := by
  unfold swp
  rw [List.getElem?_set, List.getElem?_set, List.length_set]
  by_cases k1 : k = j
  · subst k1; rw [if_pos rfl, if_pos hj, if_pos rfl, at_getD hi]
  · rw [if_neg (fun e => k1 e.symm), if_neg k1]
    by_cases k2 : k = i
    · subst k2; rw [if_pos rfl, if_pos hi, if_pos rfl, at_getD hj]
    · rw [if_neg (fun e => k2 e.symm), if_neg k2]
theorem rot_up [Inhabited α] {xs : List α} {a k : Nat} (h1 : a ≤ k) (h2 : k + 2 ≤ xs.length) : swp (rot xs a (a + 1) (k + 1)) k (k + 1) = rot xs a (a + 1) (k + 2) := by
  refine List.ext_getElem? fun i => ?_
  have hl := rot_len xs (a := a) (m := a + 1) (b := k + 1) (by omega) (by omega) (by omega)
  rw [swp_at (by omega) (by omega)]
  simp only [rot_at xs (a := a) (m := a + 1) (b := k + 1) (by omega) (by omega) (by omega), rot_at xs (a := a) (m := a + 1) (b := k + 2) (by omega) (by omega) (by omega)]
  repeat' split
  all_goals first | rfl | (exfalso; omega) | (congr 1; omega)
theorem rot_dn [Inhabited α] {xs : List α} {k m : Nat} (h0 : 0 < k) (h1 : k ≤ m) (h2 : m + 1 ≤ xs.length) : swp (rot xs k m (m + 1)) k (k - 1) = rot xs (k - 1) m (m + 1) := by
  refine List.ext_getElem? fun i => ?_
  have hl := rot_len xs (a := k) (m := m) (b := m + 1) (by omega) (by omega) (by omega)
  rw [swp_at (by omega) (by omega)]
  simp only [rot_at xs (a := k) (m := m) (b := m + 1) (by omega) (by omega) (by omega), rot_at xs (a := k - 1) (m := m) (b := m + 1) (by omega) (by omega) (by omega)]
  repeat' split
  all_goals first | rfl | (exfalso; omega) | (congr 1; omega)
/-- Two blocks of one length exchanged. -/
def swr (xs : List α) (a b n : Nat) : List α := xs.take a ++ (sub xs b (b + n) ++ (sub xs (a + n) b ++ (sub xs a (a + n) ++ xs.drop (b + n))))
theorem swr_at (xs : List α) {a b n : Nat} (h1 : a + n ≤ b) (h3 : b + n ≤ xs.length) (k : Nat) : (swr xs a b n)[k]? = if k < a then xs[k]? else if k < a + n then xs[k + b - a]? else if k < b then xs[k]? else if k < b + n then xs[k + a - b]? else xs[k]? := by
  unfold swr
  rw [List.getElem?_append, List.getElem?_append, List.getElem?_append, List.getElem?_append, List.length_take, sub_len, sub_len, sub_len, List.getElem?_take, sub_at, sub_at, sub_at, List.getElem?_drop]
  by_cases k1 : k < a
  · rw [if_pos (by omega), if_pos k1, if_pos k1]
  · rw [if_neg (by omega), if_neg k1]
    by_cases k2 : k < a + n
    · rw [if_pos (by omega), if_pos (by omega), if_pos k2]; congr 1; omega
    · rw [if_neg (by omega), if_neg k2]
      by_cases k3 : k < b
      · rw [if_pos (by omega), if_pos (by omega), if_pos k3]; congr 1; omega
      · rw [if_neg (by omega), if_neg k3]
        by_cases k4 : k < b + n
        · rw [if_pos (by omega), if_pos (by omega), if_pos k4]; congr 1; omega
        · rw [if_neg (by omega), if_neg k4]; congr 1; omega
theorem swr_len (xs : List α) {a b n : Nat} (h1 : a + n ≤ b) (h3 : b + n ≤ xs.length) : (swr xs a b n).length = xs.length := by
  unfold swr
  rw [List.length_append, List.length_append, List.length_append, List.length_append, List.length_take, sub_len, sub_len, sub_len, List.length_drop]
  omega
theorem swr_0 (xs : List α) {a b : Nat} (h1 : a ≤ b) (h3 : b ≤ xs.length) : swr xs a b 0 = xs := by
  refine List.ext_getElem? fun i => ?_
  rw [swr_at xs (by omega) (by omega)]
  repeat' split
  all_goals first | rfl | (exfalso; omega)
theorem swr_go [Inhabited α] {xs : List α} {a b i : Nat} (h1 : a + i + 1 ≤ b) (h3 : b + i + 1 ≤ xs.length) : swp (swr xs a b i) (a + i) (b + i) = swr xs a b (i + 1) := by
  refine List.ext_getElem? fun k => ?_
  have hl := swr_len xs (a := a) (b := b) (n := i) (by omega) (by omega)
  rw [swp_at (by omega) (by omega)]
  simp only [swr_at xs (a := a) (b := b) (n := i) (by omega) (by omega), swr_at xs (a := a) (b := b) (n := i + 1) (by omega) (by omega)]
  repeat' split
  all_goals first | rfl | (exfalso; omega) | (congr 1; omega)
/-- What is still to be turned. -/
structure RotI (xs : List α) (a m b : Nat) (L : List α) (i j : Nat) : Prop where
  i0 : 0 < i
  j0 : 0 < j
  im : i ≤ m
  jb : m + j ≤ xs.length
  ln : L.length = xs.length
  eq : rot L (m - i) m (m + j) = rot xs a m b
theorem rotI_0 {xs : List α} {a m b : Nat} (h1 : a < m) (h2 : m < b) (h3 : b ≤ xs.length) : RotI xs a m b xs (m - a) (b - m) := ⟨by omega, by omega, by omega, by omega, rfl, by rw [show m - (m - a) = a by omega, show m + (b - m) = b by omega]⟩
theorem rotI_i {xs L : List α} {a m b i j : Nat} (h : RotI xs a m b L i j) (hj : j < i) : RotI xs a m b (swr L (m - i) m j) (i - j) j := by
  have e1 := h.im; have e2 := h.jb; have e3 := h.ln; have e4 := h.j0
  have hl := swr_len L (a := m - i) (b := m) (n := j) (by omega) (by omega)
  refine ⟨by omega, e4, by omega, e2, by omega, ?_⟩
  rw [← h.eq]
  refine List.ext_getElem? fun k => ?_
  simp only [rot_at L (a := m - i) (m := m) (b := m + j) (by omega) (by omega) (by omega), rot_at (swr L (m - i) m j) (a := m - (i - j)) (m := m) (b := m + j) (by omega) (by omega) (by omega), swr_at L (a := m - i) (b := m) (n := j) (by omega) (by omega)]
  repeat' split
  all_goals first | rfl | (exfalso; omega) | (congr 1; omega)
theorem rotI_j {xs L : List α} {a m b i j : Nat} (h : RotI xs a m b L i j) (hj : i < j) : RotI xs a m b (swr L (m - i) (m + j - i) i) i (j - i) := by
  have e1 := h.im; have e2 := h.jb; have e3 := h.ln; have e4 := h.i0
  have hl := swr_len L (a := m - i) (b := m + j - i) (n := i) (by omega) (by omega)
  refine ⟨e4, by omega, e1, by omega, by omega, ?_⟩
  rw [← h.eq]
  refine List.ext_getElem? fun k => ?_
  simp only [rot_at L (a := m - i) (m := m) (b := m + j) (by omega) (by omega) (by omega), rot_at (swr L (m - i) (m + j - i) i) (a := m - i) (m := m) (b := m + (j - i)) (by omega) (by omega) (by omega), swr_at L (a := m - i) (b := m + j - i) (n := i) (by omega) (by omega)]
  repeat' split
  all_goals first | rfl | (exfalso; omega) | (congr 1; omega)
theorem rotI_e {xs L : List α} {a m b i j : Nat} (h : RotI xs a m b L i j) (hj : i = j) : swr L (m - i) m i = rot xs a m b := by
  have e1 := h.im; have e2 := h.jb; have e3 := h.ln; have e4 := h.i0
  subst hj
  rw [← h.eq]
  refine List.ext_getElem? fun k => ?_
  simp only [rot_at L (a := m - i) (m := m) (b := m + i) (by omega) (by omega) (by omega), swr_at L (a := m - i) (b := m) (n := i) (by omega) (by omega)]
  repeat' split
  all_goals first | rfl | (exfalso; omega) | (congr 1; omega)
theorem rot_l {xs : List α} {a b : Nat} (h : a ≤ b) (hb : b ≤ xs.length) : rot xs a a b = xs := by
  refine List.ext_getElem? fun k => ?_
  rw [rot_at xs (Nat.le_refl _) h hb]
  repeat' split
  all_goals first | rfl | (exfalso; omega) | (congr 1; omega)
theorem rot_r {xs : List α} {a b : Nat} (h : a ≤ b) (hb : b ≤ xs.length) : rot xs a b b = xs := by
  refine List.ext_getElem? fun k => ?_
  rw [rot_at xs h (Nat.le_refl _) hb]
  repeat' split
  all_goals first | rfl | (exfalso; omega) | (congr 1; omega)
theorem rot_sub1 {xs : List α} {a m b c d : Nat} (h1 : a ≤ m) (h2 : m ≤ b) (h3 : b ≤ xs.length) (hc : a ≤ c) (hd : d ≤ a + (b - m)) : sub (rot xs a m b) c d = sub xs (c + m - a) (d + m - a) := by
  refine List.ext_getElem? fun k => ?_
  simp only [sub_at, rot_at xs h1 h2 h3]
  repeat' split
  all_goals first | rfl | (exfalso; omega) | (congr 1; omega)
theorem rot_sub2 {xs : List α} {a m b c d : Nat} (h1 : a ≤ m) (h2 : m ≤ b) (h3 : b ≤ xs.length) (hc : a + (b - m) ≤ c) (hd : d ≤ b) : sub (rot xs a m b) c d = sub xs (c + m - b) (d + m - b) := by
  refine List.ext_getElem? fun k => ?_
  simp only [sub_at, rot_at xs h1 h2 h3]
  repeat' split
  all_goals first | rfl | (exfalso; omega) | (congr 1; omega)
theorem rot_inw (hO : Sto lt) {xs : List α} {a m b : Nat} (h1 : a ≤ m) (h2 : m ≤ b) (h3 : b ≤ xs.length) (h : ∀ u ∈ sub xs a m, ∀ v ∈ sub xs m b, lt v u = true) : InW lt xs (rot xs a m b) a b := by
  refine ⟨?_, ?_, rot_len xs h1 h2 h3, ?_⟩
  · refine List.ext_getElem? fun k => ?_
    rw [List.getElem?_take, List.getElem?_take, rot_at xs h1 h2 h3]
    repeat' split
    all_goals first | rfl | (exfalso; omega)
  · refine List.ext_getElem? fun k => ?_
    rw [List.getElem?_drop, List.getElem?_drop, rot_at xs h1 h2 h3]
    repeat' split
    all_goals first | rfl | (exfalso; omega)
  · rw [sub_app xs h1 h2 h3, sub_app (rot xs a m b) (a := a) (c := a + (b - m)) (b := b) (by omega) (by omega) (by rw [rot_len xs h1 h2 h3]; exact h3), rot_sub1 h1 h2 h3 (Nat.le_refl _) (Nat.le_refl _), rot_sub2 h1 h2 h3 (Nat.le_refl _) (Nat.le_refl _), show a + m - a = m by omega, show a + (b - m) + m - a = b by omega, show a + (b - m) + m - b = a by omega, show b + m - b = m by omega]
    exact Mv.swap hO h
/-- Behind the turning: four blocks in order, the first two at most the last two. -/
structure Sym4 (lt : α → α → Bool) (xs L : List α) (a s d e b : Nat) : Prop where
  inw : InW lt xs L a b
  s1 : SrOn lt L a s
  s2 : SrOn lt L s d
  s3 : SrOn lt L d e
  s4 : SrOn lt L e b
  le : LeW lt L a d b
theorem sym_4 [Inhabited α] (hO : Sto lt) {xs : List α} {a m b s e : Nat} (h1 : a ≤ s) (h2 : s ≤ m) (h3 : m ≤ e) (h4 : e ≤ b) (h5 : b ≤ xs.length) (s1 : SrOn lt xs a m) (s2 : SrOn lt xs m b) (c1 : a < s → e < b → lt (xs.getD e default) (xs.getD (s - 1) default) = false) (c2 : s < m → m < e → lt (xs.getD (e - 1) default) (xs.getD s default) = true) : Sym4 lt xs (rot xs s m e) a s (s + (e - m)) e b := by
  have cr : ∀ u ∈ sub xs s m, ∀ v ∈ sub xs m e, lt v u = true := fun u hu v hv => by
    obtain ⟨i, i1, i2, i3⟩ := mem_sub hu
    obtain ⟨j, j1, j2, j3⟩ := mem_sub hv
    have e1 := at_getD (xs := xs) (k := s) (by omega)
    have e2 := at_getD (xs := xs) (k := e - 1) (by omega)
    have f1 := srOn_at hO s1 (i := s) (j := i) (by omega) (by omega) (by omega) e1 i3
    have f2 := srOn_at hO s2 (i := j) (j := e - 1) (by omega) (by omega) (by omega) j3 e2
    have f3 := hO.neg _ _ _ (c2 (by omega) (by omega)) f1
    cases h : lt v u with
    | true => rfl
    | false =>
      have := sto_tr hO f2 h
      rw [f3] at this; cases this
  have w := rot_inw hO h2 h3 (by omega) cr
  have le0 : ∀ u ∈ sub xs a s, ∀ v ∈ sub xs e b, lt v u = false := fun u hu v hv => by
    obtain ⟨i, i1, i2, i3⟩ := mem_sub hu
    obtain ⟨j, j1, j2, j3⟩ := mem_sub hv
    have e1 := at_getD (xs := xs) (k := s - 1) (by omega)
    have e2 := at_getD (xs := xs) (k := e) (by omega)
    have f1 := srOn_at hO s1 (i := i) (j := s - 1) (by omega) (by omega) (by omega) i3 e1
    have f2 := srOn_at hO s2 (i := e) (j := j) (by omega) (by omega) (by omega) e2 j3
    exact sto_tr hO f2 (sto_tr hO (c1 (by omega) (by omega)) f1)
  have q1 : sub (rot xs s m e) s (s + (e - m)) = sub xs m e := by rw [rot_sub1 h2 h3 (by omega) (Nat.le_refl _) (Nat.le_refl _)]; congr 1 <;> omega
  have q2 : sub (rot xs s m e) (s + (e - m)) e = sub xs s m := by rw [rot_sub2 h2 h3 (by omega) (Nat.le_refl _) (Nat.le_refl _)]; congr 1 <;> omega
  have q0 : sub (rot xs s m e) a s = sub xs a s := sub_keep w.tk (Nat.le_refl _)
  have q3 : sub (rot xs s m e) e b = sub xs e b := sub_keep2 w.dp (Nat.le_refl _)
  have hl := rot_len xs h2 h3 (by omega)
  refine ⟨w.wide (by omega) h1 h4 h5, srOn_keep w (srOn_part s1 (Nat.le_refl _) h2) (.inl (Nat.le_refl _)), ?_, ?_, srOn_keep w (srOn_part s2 h3 (Nat.le_refl _)) (.inr (Nat.le_refl _)), ?_⟩
  · unfold SrOn; rw [q1]; exact srOn_part s2 (Nat.le_refl _) h4
  · unfold SrOn; rw [q2]; exact srOn_part s1 h1 (Nat.le_refl _)
  · intro u hu v hv
    rw [sub_app _ (a := a) (c := s) (b := s + (e - m)) h1 (by omega) (by omega), q0, q1] at hu
    rw [sub_app _ (a := s + (e - m)) (c := e) (b := b) (by omega) h4 (by omega), q2, q3] at hv
    rcases List.mem_append.1 hu with hu | hu <;> rcases List.mem_append.1 hv with hv | hv
    · obtain ⟨i, i1, i2, i3⟩ := mem_sub hu
      obtain ⟨j, j1, j2, j3⟩ := mem_sub hv
      exact srOn_at hO s1 (i := i) (j := j) (by omega) (by omega) (by omega) i3 j3
    · exact le0 u hu v hv
    · exact hO.asym _ _ (cr v hv u hu)
    · obtain ⟨i, i1, i2, i3⟩ := mem_sub hu
      obtain ⟨j, j1, j2, j3⟩ := mem_sub hv
      exact srOn_at hO s2 (i := i) (j := j) (by omega) (by omega) (by omega) i3 j3
/-- A window that was put in order. -/
structure OrdW (lt : α → α → Bool) (xs L : List α) (a b : Nat) : Prop where
  inw : InW lt xs L a b
  srt : SrOn lt L a b
theorem sym_l {xs L : List α} {a s d e b : Nat} (h : Sym4 lt xs L a s d e b) (hs : s = a ∨ s = d) : OrdW lt L L a d := ⟨.refl _ _ _, by
  rcases hs with e | e
  · subst e; exact h.s2
  · subst e; exact h.s1⟩
theorem sym_r {xs L : List α} {a s d e b : Nat} (h : Sym4 lt xs L a s d e b) (hs : e = d ∨ e = b) : SrOn lt L d b := by
  rcases hs with x | x
  · subst x; exact h.s4
  · subst x; exact h.s3
theorem sym_end {xs L M N : List α} {a s d e b : Nat} (h : Sym4 lt xs L a s d e b) (h1 : a ≤ d) (h2 : d ≤ b) (hb : b ≤ xs.length) (g : OrdW lt L M a d) (k : OrdW lt M N d b) : OrdW lt xs N a b := by
  have l1 := h.inw.ln
  have l2 := g.inw.ln
  have l3 := k.inw.ln
  refine ⟨h.inw.trans ((g.inw.wide h1 (Nat.le_refl _) h2 (by omega)).trans (k.inw.wide h2 h1 (Nat.le_refl _) (by omega))), ?_⟩
  exact srOn_join h1 h2 (by omega) (srOn_keep k.inw g.srt (.inl (Nat.le_refl _))) k.srt (leW_r k.inw (leW_l g.inw h.le))
theorem srOn_glue [Inhabited α] (hO : Sto lt) {xs : List α} {a c b : Nat} (h1 : a ≤ c) (h2 : c ≤ b) (hb : b ≤ xs.length) (h : SrOn lt xs a c) (g : SrOn lt xs c b) (hl : a < c → c < b → lt (xs.getD c default) (xs.getD (c - 1) default) = false) : SrOn lt xs a b := by
  refine srOn_join h1 h2 hb h g fun u hu v hv => ?_
  obtain ⟨i, i1, i2, i3⟩ := mem_sub hu
  obtain ⟨j, j1, j2, j3⟩ := mem_sub hv
  have f1 := srOn_at hO h (i := i) (j := c - 1) (by omega) (by omega) (by omega) i3 (at_getD (by omega))
  have f2 := srOn_at hO g (i := c) (j := j) (by omega) (by omega) (by omega) (at_getD (by omega)) j3
  exact sto_tr hO f2 (sto_tr hO (hl (by omega) (by omega)) f1)
theorem rot_getD [Inhabited α] {xs : List α} {a m b k : Nat} (h1 : a ≤ m) (h2 : m ≤ b) (h3 : b ≤ xs.length) : (rot xs a m b).getD k default = if k < a then xs.getD k default else if k < a + (b - m) then xs.getD (k + m - a) default else if k < b then xs.getD (k + m - b) default else xs.getD k default := by
  rw [List.getD_eq_getElem?_getD, rot_at xs h1 h2 h3]
  repeat' split
  all_goals rw [List.getD_eq_getElem?_getD]
theorem srOn_nil {xs : List α} {a b : Nat} (h : b ≤ a) : SrOn lt xs a b := by
  unfold SrOn
  rw [List.eq_nil_of_length_eq_zero (l := sub xs a b) (by rw [sub_len]; omega)]
  exact List.Pairwise.nil
theorem srOn_one {xs : List α} {a b : Nat} (h : b ≤ a + 1) : SrOn lt xs a b := by
  unfold SrOn
  have hl : (sub xs a b).length ≤ 1 := by rw [sub_len]; omega
  match sub xs a b, hl with
  | [], _ => exact List.Pairwise.nil
  | [x], _ => exact List.pairwise_singleton _ _
  | x :: y :: r, hl => simp at hl
/-- The last of a window brought to its place. -/
theorem ins_lo [Inhabited α] (hO : Sto lt) {xs : List α} {a m s : Nat} (h1 : a ≤ s) (h2 : s ≤ m) (h5 : m + 1 ≤ xs.length) (s1 : SrOn lt xs a m) (c1 : a < s → lt (xs.getD m default) (xs.getD (s - 1) default) = false) (c2 : s < m → lt (xs.getD m default) (xs.getD s default) = true) : OrdW lt xs (rot xs s m (m + 1)) a (m + 1) := by
  have h := sym_4 hO (xs := xs) (e := m + 1) (b := m + 1) h1 h2 (by omega) (Nat.le_refl _) h5 s1 (srOn_one (by omega)) (fun _ h => by omega) (fun h _ => c2 h)
  have hl := h.inw.ln
  refine ⟨h.inw, ?_⟩
  rw [show s + (m + 1 - m) = s + 1 by omega] at h
  refine srOn_join (c := s + 1) (by omega) (by omega) (by omega) (srOn_glue hO (c := s) h1 (by omega) (by omega) h.s1 h.s2 fun ha _ => ?_) h.s3 h.le
  rw [rot_getD h2 (by omega) h5, rot_getD h2 (by omega) h5, if_neg (by omega), if_pos (by omega), if_pos (by omega), show s + m - s = m by omega]
  exact c1 ha
/-- The first of a window brought to its place. -/
theorem ins_hi [Inhabited α] (hO : Sto lt) {xs : List α} {a b e : Nat} (h1 : a + 1 ≤ e) (h4 : e ≤ b) (h5 : b ≤ xs.length) (s2 : SrOn lt xs (a + 1) b) (c1 : a + 1 < e → lt (xs.getD (e - 1) default) (xs.getD a default) = true) (c2 : e < b → lt (xs.getD e default) (xs.getD a default) = false) : OrdW lt xs (rot xs a (a + 1) e) a b := by
  have h := sym_4 hO (xs := xs) (s := a) (e := e) (b := b) (m := a + 1) (Nat.le_refl _) (by omega) h1 h4 h5 (srOn_one (by omega)) s2 (fun h _ => by omega) (fun _ h => c1 h)
  have hl := h.inw.ln
  refine ⟨h.inw, ?_⟩
  have s34 : SrOn lt (rot xs a (a + 1) e) (a + (e - (a + 1))) b := srOn_glue hO (c := e) (by omega) h4 (by omega) h.s3 h.s4 fun _ hb => by
    rw [rot_getD (by omega) h1 (by omega), rot_getD (by omega) h1 (by omega), if_neg (by omega), if_neg (by omega), if_neg (by omega), if_neg (by omega), if_neg (by omega), if_pos (by omega), show e - 1 + (a + 1) - e = a by omega]
    exact c2 hb
  exact srOn_join (c := a + (e - (a + 1))) (by omega) (by omega) (by omega) h.s2 s34 h.le
/-- While the last of a window goes down. -/
structure InsD (lt : α → α → Bool) (xs L : List α) (a i j : Nat) : Prop where
  aj : a ≤ j
  ji : j ≤ i
  eq : L = rot xs j i (i + 1)
  all : ∀ y ∈ sub xs j i, ∀ x, xs[i]? = some x → lt x y = true
theorem insD_0 {xs : List α} {a i : Nat} (h : a ≤ i) (hi : i + 1 ≤ xs.length) : InsD lt xs xs a i i := ⟨h, Nat.le_refl _, (rot_l (Nat.le_succ _) hi).symm, fun y hy => by
  rw [List.eq_nil_of_length_eq_zero (l := sub xs i i) (by rw [sub_len]; omega)] at hy; cases hy⟩
theorem InsD.at1 [Inhabited α] {xs L : List α} {a i j : Nat} (h : InsD lt xs L a i j) (hi : i + 1 ≤ xs.length) : L.getD j default = xs.getD i default ∧ (a < j → L.getD (j - 1) default = xs.getD (j - 1) default) ∧ L.length = xs.length := by
  have h1 := h.ji
  rw [h.eq]
  refine ⟨?_, fun hj => ?_, rot_len xs h1 (by omega) hi⟩
  · rw [rot_getD h1 (by omega) hi, if_neg (by omega), if_pos (by omega), show j + i - j = i by omega]
  · rw [rot_getD h1 (by omega) hi, if_pos (by omega)]
theorem insD_go [Inhabited α] {xs L : List α} {a i j : Nat} (h : InsD lt xs L a i j) (hi : i + 1 ≤ xs.length) (hj : a < j) (hl : lt (L.getD j default) (L.getD (j - 1) default) = true) : InsD lt xs (swp L j (j - 1)) a i (j - 1) := by
  obtain ⟨e1, e2, _⟩ := h.at1 hi
  rw [e1, e2 hj] at hl
  have h1 := h.ji
  refine ⟨by omega, by omega, by rw [h.eq]; exact rot_dn (by omega) h1 hi, fun y hy x hx => ?_⟩
  obtain ⟨k, k1, k2, k3⟩ := mem_sub hy
  by_cases hk : k = j - 1
  · subst hk
    rw [at_getD (by omega)] at k3 hx
    rw [← Option.some.inj k3, ← Option.some.inj hx]
    exact hl
  · refine h.all y ?_ x hx
    refine List.mem_iff_getElem?.2 ⟨k - j, ?_⟩
    rw [sub_at, if_pos (by omega), show j + (k - j) = k by omega]; exact k3
theorem insD_end [Inhabited α] (hO : Sto lt) {ws xs L : List α} {a i j : Nat} (g : OrdW lt ws xs a i) (h : InsD lt xs L a i j) (hi : i + 1 ≤ ws.length) (hl : j = a ∨ lt (L.getD j default) (L.getD (j - 1) default) = false) : OrdW lt ws L a (i + 1) := by
  have hn := g.inw.ln
  have h0 := h.aj
  have h1 := h.ji
  obtain ⟨e1, e2, _⟩ := h.at1 (by omega)
  have := ins_lo hO h.aj h.ji (by omega) g.srt (fun ha => by
    rcases hl with hl | hl
    · omega
    · rwa [e1, e2 (by omega)] at hl) (fun hs => h.all _ (List.mem_iff_getElem?.2 ⟨0, by rw [sub_at, if_pos (by omega)]; exact at_getD (by omega)⟩) _ (at_getD (by omega)))
  rw [← h.eq] at this
  exact ⟨(g.inw.wide (by omega) (Nat.le_refl _) (by omega) (by omega)).trans this.inw, this.srt⟩
theorem ordW_one {xs : List α} {a b : Nat} (h : b ≤ a + 1) : OrdW lt xs xs a b := ⟨.refl _ _ _, srOn_one h⟩
/-! Blocks of one width. -/
structure Blk_ (lt : α → α → Bool) (xs L : List α) (w n : Nat) : Prop where
  inw : InW lt xs L 0 n
  srt : ∀ i, w ∣ i → SrOn lt L i (min (i + w) n)
/-- While blocks are made (of width w) or laid two and two together. -/
structure BlkG (lt : α → α → Bool) (xs L : List α) (v w n a : Nat) : Prop where
  dv : w ∣ a
  inw : InW lt xs L 0 n
  done : ∀ i, w ∣ i → i < a → SrOn lt L i (min (i + w) n)
  rest : ∀ i, v ∣ i → a ≤ i → SrOn lt L i (min (i + v) n)
theorem dvd_lt {w i a : Nat} (h1 : w ∣ i) (h2 : w ∣ a) (h : i < a) : i + w ≤ a := by
  obtain ⟨x, rfl⟩ := h1
  obtain ⟨y, rfl⟩ := h2
  have hxy : x < y := by
    rcases Nat.lt_or_ge x y with h3 | h3
    · exact h3
    · have := Nat.mul_le_mul_left w h3; omega
  have := Nat.mul_le_mul_left w hxy
  rw [Nat.mul_succ] at this
  exact this
theorem blkG_0 {xs : List α} {n : Nat} (w : Nat) : BlkG lt xs xs 1 w n 0 := ⟨Nat.dvd_zero _, .refl _ _ _, fun i _ h => by omega, fun i _ _ => srOn_one (by omega)⟩
theorem blkG_new {xs L : List α} {v n : Nat} (h : Blk_ lt xs L v n) : BlkG lt xs L v (2 * v) n 0 := ⟨Nat.dvd_zero _, h.inw, fun i _ h => by omega, fun i hi _ => h.srt i hi⟩
theorem blkG_go {xs L M : List α} {v w n a : Nat} (h : BlkG lt xs L v w n a) (hw : 0 < w) (ha : a + w ≤ n) (hn : n ≤ xs.length) (g : OrdW lt L M a (a + w)) : BlkG lt xs M v w n (a + w) := by
  refine ⟨Nat.dvd_add h.dv (Nat.dvd_refl _), h.inw.trans (g.inw.wide (by omega) (Nat.zero_le _) ha (by rw [h.inw.ln]; exact hn)), fun i hi hlt => ?_, fun i hi hle => srOn_keep g.inw (h.rest i hi (by omega)) (.inr hle)⟩
  rcases Nat.lt_trichotomy i a with h1 | h1 | h1
  · exact srOn_keep g.inw (h.done i hi h1) (.inl (by have := dvd_lt hi h.dv h1; omega))
  · subst h1; rw [Nat.min_eq_left ha]; exact g.srt
  · have := dvd_lt h.dv hi h1; omega
theorem blkG_last {xs L M : List α} {v w n a : Nat} (h : BlkG lt xs L v w n a) (hw : 0 < w) (ha : n < a + w) (hn : n ≤ xs.length) (han : a ≤ n) (g : OrdW lt L M a n) : Blk_ lt xs M w n := by
  refine ⟨h.inw.trans (g.inw.wide han (Nat.zero_le _) (Nat.le_refl _) (by rw [h.inw.ln]; exact hn)), fun i hi => ?_⟩
  rcases Nat.lt_trichotomy i a with h1 | h1 | h1
  · exact srOn_keep g.inw (h.done i hi h1) (.inl (by have := dvd_lt hi h.dv h1; omega))
  · subst h1; rw [Nat.min_eq_right (by omega)]; exact g.srt
  · exact srOn_nil (by have := dvd_lt h.dv hi h1; omega)
theorem blkG_skip {xs L : List α} {v w n a : Nat} (h : BlkG lt xs L v w n a) (hd : v ∣ a) (ha : n ≤ a + v) : OrdW lt L L a n := ⟨.refl _ _ _, by have := h.rest a hd (Nat.le_refl _); rwa [Nat.min_eq_right ha] at this⟩
theorem blkG_two {xs L : List α} {v n a : Nat} (h : BlkG lt xs L v (2 * v) n a) (hm : a + v < n) : v ∣ a ∧ SrOn lt L a (a + v) ∧ SrOn lt L (a + v) (min (a + 2 * v) n) := by
  have hd : v ∣ a := Nat.dvd_trans (Nat.dvd_mul_left v 2) h.dv
  refine ⟨hd, ?_, ?_⟩
  · have := h.rest a hd (Nat.le_refl _); rwa [Nat.min_eq_left (by omega)] at this
  · have := h.rest (a + v) (Nat.dvd_add hd (Nat.dvd_refl _)) (by omega); rwa [show a + v + v = a + 2 * v by omega] at this
/-- All in order: equals as they came. -/
structure Stb_ (lt : α → α → Bool) (xs L : List α) : Prop where
  srt : Srt lt L
  mv : Mv lt xs L
theorem sub_all (xs : List α) : sub xs 0 xs.length = xs := by unfold sub; rw [List.take_length]; rfl
theorem blk_end {xs L : List α} {w : Nat} (h : Blk_ lt xs L w xs.length) (hw : xs.length ≤ w) : Stb_ lt xs L := by
  have hl := h.inw.ln
  have e1 := h.srt 0 (Nat.dvd_zero _)
  rw [Nat.zero_add, Nat.min_eq_right hw] at e1
  have e2 := h.inw.mv
  unfold SrOn at e1
  rw [sub_all, ← hl, sub_all] at e2
  rw [← hl, sub_all] at e1
  exact ⟨e1, e2⟩
theorem stb_one (hO : Sto lt) {xs L M : List α} (h : Stb_ lt xs L) (g : Stb_ lt xs M) : L = M := mv_one hO h.srt g.srt ⟨g.mv.perm.trans h.mv.perm.symm, fun x => (g.mv.sm x).trans (h.mv.sm x).symm⟩
end
end Go.Proofs.YtidjjfjhmlndjaaGreatDoor
