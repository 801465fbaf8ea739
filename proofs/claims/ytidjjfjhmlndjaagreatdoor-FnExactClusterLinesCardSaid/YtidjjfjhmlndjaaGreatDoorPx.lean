/- Placing: sortings that keep order, marks, the host that is chosen, what is placed next: plain Lean (both the model and the program are shown to reckon these). -/
import Derived.Test.YtidjjfjhmlndjaaGreatDoorKeep
import Derived.Test.YtidjjfjhmlndjaaGreatDoorDw
namespace Go.Proofs.YtidjjfjhmlndjaaGreatDoor
open Go.RowKit
set_option linter.unusedVariables false

/-! Sorting by a strict order. -/
structure Sto {α : Type} (lt : α → α → Bool) : Prop where
  asym : ∀ a b, lt a b = true → lt b a = false
  neg : ∀ a b c, lt a b = true → lt c b = false → lt a c = true
def Srt {α : Type} (lt : α → α → Bool) (xs : List α) : Prop := xs.Pairwise fun a b => lt b a = false
theorem srt_same {α : Type} {lt : α → α → Bool} {xs ys : List α} (hx : Srt lt xs) (hy : Srt lt ys) (hp : xs.Perm ys) (hT : ∀ a ∈ xs, ∀ b ∈ xs, lt a b = false → lt b a = false → a = b) : xs = ys :=
  List.Perm.eq_of_pairwise (le := fun a b => lt b a = false) (fun a b ha hb h1 h2 => hT a ha b (hp.mem_iff.2 hb) h2 h1) hx hy hp
theorem srt_nil {α : Type} {lt : α → α → Bool} : Srt lt ([] : List α) := List.Pairwise.nil
theorem lay_perm {α : Type} (o : List α) (x : α) (k : Nat) : (o.take k ++ x :: o.drop k).Perm (o ++ [x]) := by
  refine List.perm_middle.trans ?_
  rw [List.take_append_drop]
  exact (List.perm_append_singleton x o).symm
theorem srt_lay {α : Type} [Inhabited α] {lt : α → α → Bool} (hO : Sto lt) {o : List α} {x : α} {k : Nat} (h : Srt lt o) (h1 : ∀ j, j < k → lt x (o.getD j default) = false) (h2 : k < o.length → lt x (o.getD k default) = true) (hk : k ≤ o.length) : Srt lt (o.take k ++ x :: o.drop k) := by
  have hs : (o.take k ++ o.drop k).Pairwise fun a b => lt b a = false := by rw [List.take_append_drop]; exact h
  rw [List.pairwise_append] at hs
  refine List.pairwise_append.2 ⟨hs.1, List.pairwise_cons.2 ⟨fun y hy => ?_, hs.2.1⟩, fun a ha b hb => ?_⟩
  · rcases Nat.lt_or_ge k o.length with hl | hl
    · have hx := h2 hl
      rw [getD_at hl] at hx
      rw [List.drop_eq_getElem_cons hl] at hy
      rcases List.mem_cons.1 hy with rfl | hy
      · exact hO.asym _ _ hx
      · have hd := hs.2.1
        rw [List.drop_eq_getElem_cons hl, List.pairwise_cons] at hd
        exact hO.asym _ _ (hO.neg _ _ _ hx (hd.1 y hy))
    · rw [List.drop_of_length_le hl] at hy; cases hy
  · rcases List.mem_cons.1 hb with rfl | hb
    · obtain ⟨j, hj, rfl⟩ := List.getElem_of_mem ha
      have hj2 : j < k := by rw [List.length_take] at hj; omega
      have := h1 j hj2
      rwa [getD_at (by omega), ← List.getElem_take (xs := o) (h := hj)] at this
    · exact hs.2.2 a ha b hb
/-- What is sorted so far: the first n of the row. -/
structure PreS {α : Type} (lt : α → α → Bool) (ws L : List α) (n : Nat) : Prop where
  srt : Srt lt (L.take n)
  perm : L.Perm ws
/-- The i-th on its way to the left, at place j. -/
structure InsI {α : Type} (lt : α → α → Bool) (ws L : List α) (i j : Nat) : Prop where
  cut : ∃ A x B R, L = A ++ x :: (B ++ R) ∧ A.length = j ∧ A.length + B.length = i ∧ Srt lt (A ++ B) ∧ ∀ y ∈ B, lt x y = true
  perm : L.Perm ws
theorem pre_one {α : Type} {lt : α → α → Bool} {ws : List α} : PreS lt ws ws 1 := by
  refine ⟨?_, .refl _⟩
  match ws with
  | [] => exact List.Pairwise.nil
  | a :: r => exact List.pairwise_singleton _ a
theorem isr_new {α : Type} {lt : α → α → Bool} {ws L : List α} {i : Nat} (h : PreS lt ws L i) (hi : i < L.length) : InsI lt ws L i i :=
  ⟨⟨L.take i, L[i], [], L.drop (i + 1), by rw [List.nil_append, ← List.drop_eq_getElem_cons hi, List.take_append_drop], by rw [List.length_take]; omega, by rw [List.length_take, List.length_nil]; omega, by rw [List.append_nil]; exact h.srt, fun y hy => by cases hy⟩, h.perm⟩
theorem InsI.lt {α : Type} {lt : α → α → Bool} {ws L : List α} {i j : Nat} (h : InsI lt ws L i j) : j ≤ i ∧ i < L.length ∧ L.length = ws.length := by
  obtain ⟨⟨A, x, B, R, rfl, h1, h2, _, _⟩, hp⟩ := h
  have := hp.length_eq
  refine ⟨by omega, by simp; omega, this⟩
theorem snoc_ex {α : Type} {A : List α} (h : 0 < A.length) : ∃ B u, A = B ++ [u] := ⟨A.dropLast, A.getLast (by intro e; rw [e] at h; exact Nat.lt_irrefl 0 h), (List.dropLast_concat_getLast _).symm⟩
theorem isr_go {α : Type} [Inhabited α] {lt : α → α → Bool} {ws L : List α} {i j : Nat} (h : InsI lt ws L i j) (hj : 0 < j) (hl : lt (L.getD j default) (L.getD (j - 1) default) = true) : InsI lt ws ((L.set j (L.getD (j - 1) default)).set (j - 1) (L.getD j default)) i (j - 1) := by
  obtain ⟨⟨A, x, B, R, rfl, h1, h2, h3, h4⟩, hp⟩ := h
  obtain ⟨A', u, rfl⟩ := snoc_ex (A := A) (by omega)
  have hA : A'.length = j - 1 := by simp at h1; omega
  have ex : ((A' ++ [u]) ++ x :: (B ++ R)).getD j default = x := by
    rw [List.getD_eq_getElem?_getD, List.getElem?_append_right (by omega), show j - (A' ++ [u]).length = 0 by omega]; rfl
  have eu : ((A' ++ [u]) ++ x :: (B ++ R)).getD (j - 1) default = u := by
    rw [List.append_assoc, List.getD_eq_getElem?_getD, List.getElem?_append_right (by omega), show j - 1 - A'.length = 0 by omega]; rfl
  rw [ex, eu] at hl ⊢
  have e1 : (((A' ++ [u]) ++ x :: (B ++ R)).set j u).set (j - 1) x = A' ++ x :: ((u :: B) ++ R) := by
    rw [List.append_assoc, List.set_append_right _ _ (by omega), show j - A'.length = 1 by omega, List.set_append_right _ _ (by omega), show j - 1 - A'.length = 0 by omega]; rfl
  rw [e1]
  refine ⟨⟨A', x, u :: B, R, rfl, hA, by simp at h2 ⊢; omega, by simpa using h3, fun y hy => ?_⟩, ?_⟩
  · rcases List.mem_cons.1 hy with rfl | hy
    · exact hl
    · exact h4 y hy
  · refine List.Perm.trans ?_ hp
    rw [List.append_assoc]
    exact List.Perm.append_left _ (List.Perm.swap u x _)
theorem isr_end {α : Type} [Inhabited α] {lt : α → α → Bool} (hO : Sto lt) {ws L : List α} {i j : Nat} (h : InsI lt ws L i j) (hl : j = 0 ∨ lt (L.getD j default) (L.getD (j - 1) default) = false) : PreS lt ws L (i + 1) := by
  obtain ⟨⟨A, x, B, R, rfl, h1, h2, h3, h4⟩, hp⟩ := h
  refine ⟨?_, hp⟩
  have e : (A ++ x :: (B ++ R)).take (i + 1) = A ++ x :: B := by
    rw [show A ++ x :: (B ++ R) = (A ++ x :: B) ++ R by simp, List.take_left' (by simp; omega)]
  rw [e]
  have h5 := List.pairwise_append.1 h3
  refine List.pairwise_append.2 ⟨h5.1, List.pairwise_cons.2 ⟨fun y hy => hO.asym _ _ (h4 y hy), h5.2.1⟩, fun a ha b hb => ?_⟩
  rcases List.mem_cons.1 hb with rfl | hb
  · rcases hl with rfl | hl
    · rw [List.eq_nil_of_length_eq_zero h1] at ha; cases ha
    · rcases Nat.eq_zero_or_pos j with rfl | hj
      · rw [List.eq_nil_of_length_eq_zero h1] at ha; cases ha
      obtain ⟨A', u, rfl⟩ := snoc_ex (A := A) (by omega)
      have hA : A'.length = j - 1 := by simp at h1; omega
      rw [List.getD_eq_getElem?_getD, List.getElem?_append_right (by omega), show j - (A' ++ [u]).length = 0 by omega] at hl
      rw [List.append_assoc, List.getD_eq_getElem?_getD, List.getElem?_append_right (by omega), show j - 1 - A'.length = 0 by omega] at hl
      have hl' : lt b u = false := hl
      rcases List.mem_append.1 ha with ha | ha
      · have hau : lt u a = false := (List.pairwise_append.1 h5.1).2.2 a ha u (List.mem_singleton.2 rfl)
        cases hba : lt b a with
        | false => rfl
        | true => have := hO.neg _ _ _ hba hau; rw [hl'] at this; cases this
      · obtain rfl := List.mem_singleton.1 ha; exact hl'
  · exact h5.2.2 a ha b hb
theorem pre_all {α : Type} {lt : α → α → Bool} {ws L : List α} {n : Nat} (h : PreS lt ws L n) (hn : L.length ≤ n) : Srt lt L ∧ L.Perm ws := ⟨by have := h.srt; rwa [List.take_of_length_le hn] at this, h.perm⟩

/-! What a pod asks for. -/
def hasB (ss : List ByteArray) (s : ByteArray) : Bool := !allB ss.length fun i => !eqB (ss.getD i default) s
def labIx (ls : List LabelD) (k : ByteArray) : Int := firstN ls.length fun i => eqB (ls.getD i default).key k
def labV (ls : List LabelD) (k : ByteArray) : ByteArray := if labIx ls k < 0 then ⟨#[]⟩ else (ls.getD (labIx ls k).toNat default).value
def needMetB (ls : List LabelD) (x : NeedD) : Bool := needB x && (if x.op = 1 then (decide (0 ≤ labIx ls x.key) && hasB x.values (labV ls x.key)) else if x.op = 2 then (!decide (0 ≤ labIx ls x.key) || !hasB x.values (labV ls x.key)) else if x.op = 3 then decide (0 ≤ labIx ls x.key) else !decide (0 ≤ labIx ls x.key))
def selB (ns : List NeedD) (ls : List LabelD) : Bool := allB ns.length fun i => needMetB ls (ns.getD i default)
def tolOnB (t : TolerD) (x : TaintD) : Bool := tolerB t && (taintB x && ((emptyB t.key || eqB t.key x.key) && ((!t.equal || eqB t.value x.value) && (t.effect == 0 || t.effect == x.effect))))
def someB (tl : List TolerD) (x : TaintD) (n : Nat) : Bool := !allB n fun i => !tolOnB (tl.getD i default) x
def untC (tl : List TolerD) (e : Int) (x : TaintD) : Bool := (x.effect == e) && !someB tl x tl.length
def untN (tl : List TolerD) (tn : List TaintD) (e : Int) : Nat → Int
  | 0 => 0
  | k + 1 => untN tl tn e k + (if untC tl e (tn.getD k default) = true then 1 else 0)
theorem untN_rng (tl : List TolerD) (tn : List TaintD) (e : Int) : ∀ k, 0 ≤ untN tl tn e k ∧ untN tl tn e k ≤ k
  | 0 => ⟨Int.le_refl _, Int.le_refl _⟩
  | k + 1 => by
    have := untN_rng tl tn e k
    unfold untN
    split <;> omega
theorem hasB_yes {ss : List ByteArray} {s : ByteArray} {k : Nat} (h : k < ss.length) (he : eqB (ss.getD k default) s = true) : hasB ss s = true := by
  unfold hasB; rw [allN_no h (by rw [he]; rfl)]; rfl
theorem hasB_no {ss : List ByteArray} {s : ByteArray} {k : Nat} (h : ss.length ≤ k) (hj : ∀ j : Nat, j < k → (!eqB (ss.getD j default) s) = true) : hasB ss s = false := by
  unfold hasB; rw [allN_yes h hj]; rfl
theorem labIx_rng (ls : List LabelD) (k : ByteArray) : -1 ≤ labIx ls k ∧ labIx ls k < ls.length := ⟨(firstN_rng _ _).1, (firstN_rng _ _).2.1⟩
theorem lab_hit {ls : List LabelD} {s : ByteArray} {k : Nat} (h : k < ls.length) (he : eqB (ls.getD k default).key s = true) (hj : ∀ j : Nat, j < k → (!eqB (ls.getD j default).key s) = true) : D.tup [.sc (.string (ls.getD k default).value), .sc (.bool true)] = .tup [.sc (.string (labV ls s)), .sc (.bool (decide (0 ≤ labIx ls s)))] := by
  have e : labIx ls s = (k : Int) := firstN_hit h he hj
  unfold labV
  rw [e, if_neg (by omega), Int.toNat_natCast, decide_eq_true (by omega)]
theorem lab_none {ls : List LabelD} {s : ByteArray} {k : Nat} (h : ls.length ≤ k) (hj : ∀ j : Nat, j < k → (!eqB (ls.getD j default).key s) = true) : D.tup [.sc (.string ⟨#[]⟩), .sc (.bool false)] = .tup [.sc (.string (labV ls s)), .sc (.bool (decide (0 ≤ labIx ls s)))] := by
  have e : labIx ls s = -1 := firstN_none h hj
  unfold labV
  rw [e, if_pos (by decide), decide_eq_false (by decide)]
/-! Marks. -/
def shareN (part whole : Int) : Int := if whole ≤ 0 ∨ part < 0 then 0 else if whole ≤ part then 100 else part * 100 / whole
theorem shareN_rng (a b : Int) : 0 ≤ shareN a b ∧ shareN a b ≤ 100 := by
  unfold shareN
  split
  · exact ⟨Int.le_refl _, by decide⟩
  · rename_i h
    split
    · exact ⟨by decide, Int.le_refl _⟩
    · rename_i h2
      have hb : 0 < b := by omega
      have ha : 0 ≤ a := by omega
      refine ⟨Int.ediv_nonneg (by omega) (by omega), ?_⟩
      have : a * 100 / b < 100 := Int.ediv_lt_of_lt_mul hb (by omega)
      omega
def hostC (c : ClusterD) (nm : ByteArray) : HostD := c.hosts.getD (hostAtB c.hosts nm).toNat default
def usedC (c : ClusterD) (nm : ByteArray) : Int × Int × Int := (usedB c.pods nm).getD (0, 0, 0)
def fitB (used more most : Int) : Bool := (addB used more).isSome && decide ((addB used more).getD 0 ≤ most)
def noHost (c : ClusterD) (nm : ByteArray) : Bool := decide (hostAtB c.hosts nm < 0) || !(usedB c.pods nm).isSome
def reasonN (c : ClusterD) (nm : ByteArray) (p : PodD) : Int :=
  if noHost c nm = true then 6 else if selB p.needs (hostC c nm).labels = false then 1 else if 0 < untN p.tolers (hostC c nm).taints 1 (hostC c nm).taints.length then 2
  else if fitB (usedC c nm).1 p.cpu (hostC c nm).cpu = false then 3 else if fitB (usedC c nm).2.1 p.mem (hostC c nm).mem = false then 4 else if (hostC c nm).slots ≤ (usedC c nm).2.2 then 5 else 0
def sumM (a b : Int) : Int := if (addB a b).isSome = true then (addB a b).getD 0 else 9223372036854775807
def packN (c : ClusterD) (nm : ByteArray) (p : PodD) : Int := if noHost c nm = true then 0 else (shareN (sumM (usedC c nm).1 p.cpu) (hostC c nm).cpu + shareN (sumM (usedC c nm).2.1 p.mem) (hostC c nm).mem).tdiv 2
def spreadN (c : ClusterD) (nm : ByteArray) : Int := if noHost c nm = true then 0 else 100 - shareN (usedC c nm).2.2 (hostC c nm).slots
def softN (c : ClusterD) (nm : ByteArray) (p : PodD) : Int := if hostAtB c.hosts nm < 0 then 0 else if 100 - 25 * untN p.tolers (hostC c nm).taints 2 (hostC c nm).taints.length < 0 then 0 else 100 - 25 * untN p.tolers (hostC c nm).taints 2 (hostC c nm).taints.length
def markN (c : ClusterD) (nm : ByteArray) (p : PodD) : Int := if (inB c.w1 0 10 && (inB c.w2 0 10 && inB c.w3 0 10)) = true then c.w1 * packN c nm p + c.w2 * spreadN c nm + c.w3 * softN c nm p else 0
theorem packN_rng (c : ClusterD) (nm : ByteArray) (p : PodD) : 0 ≤ packN c nm p ∧ packN c nm p ≤ 100 := by
  unfold packN
  split
  · exact ⟨Int.le_refl _, by decide⟩
  · have h1 := shareN_rng (sumM (usedC c nm).1 p.cpu) (hostC c nm).cpu
    have h2 := shareN_rng (sumM (usedC c nm).2.1 p.mem) (hostC c nm).mem
    rw [Int.tdiv_eq_ediv_of_nonneg (by omega)]
    omega
theorem spreadN_rng (c : ClusterD) (nm : ByteArray) : 0 ≤ spreadN c nm ∧ spreadN c nm ≤ 100 := by
  unfold spreadN
  split
  · exact ⟨Int.le_refl _, by decide⟩
  · have h1 := shareN_rng (usedC c nm).2.2 (hostC c nm).slots
    omega
theorem softN_rng (c : ClusterD) (nm : ByteArray) (p : PodD) : 0 ≤ softN c nm p ∧ softN c nm p ≤ 100 := by
  have := untN_rng p.tolers (hostC c nm).taints 2 (hostC c nm).taints.length
  unfold softN
  split
  · exact ⟨Int.le_refl _, by decide⟩
  · split <;> omega
theorem mul_rng {a b : Int} (ha : 0 ≤ a ∧ a ≤ 10) (hb : 0 ≤ b ∧ b ≤ 100) : 0 ≤ a * b ∧ a * b ≤ 1000 := by
  refine ⟨Int.mul_nonneg ha.1 hb.1, ?_⟩
  have h1 : a * b ≤ 10 * b := Int.mul_le_mul_of_nonneg_right ha.2 hb.1
  omega
/-- The order of hosts for a pod. -/
def rkLt (c : ClusterD) (p : PodD) (a b : ByteArray) : Bool := decide (markN c b p < markN c a p) || ((markN c a p == markN c b p) && lessB a b)
theorem rk_iff {c : ClusterD} {p : PodD} {a b : ByteArray} : rkLt c p a b = true ↔ markN c b p < markN c a p ∨ markN c a p = markN c b p ∧ lessB a b = true := by
  unfold rkLt
  rw [Bool.or_eq_true, Bool.and_eq_true, decide_eq_true_iff, beq_iff_eq]
theorem rk_not {c : ClusterD} {p : PodD} {a b : ByteArray} : rkLt c p a b = false ↔ ¬ (markN c b p < markN c a p ∨ markN c a p = markN c b p ∧ lessB a b = true) := by
  rw [← rk_iff, Bool.not_eq_true]
theorem lessB_neg {a b c : ByteArray} (h : lessB a b = true) (h2 : ¬ lessB c b = true) : lessB a c = true := by
  have h3 : lessB c b = false := by simpa using h2
  by_cases e : eqB c b = true
  · rw [eqB_eq e]; exact h
  · exact lessB_tr h (lessB_tri h3 (by simpa using e))
theorem rk_sto (c : ClusterD) (p : PodD) : Sto (rkLt c p) := by
  constructor
  · intro a b h
    rw [rk_iff] at h; rw [rk_not]
    rintro (h1 | ⟨h1, h2⟩)
    · rcases h with h | ⟨h, _⟩ <;> omega
    · rcases h with h | ⟨_, h⟩
      · omega
      · have := lessB_tr h h2; rw [lessB_irr] at this; cases this
  · intro a b x h hn
    rw [rk_iff] at h ⊢; rw [rk_not] at hn
    have hn1 : ¬ markN c b p < markN c x p := fun h => hn (.inl h)
    rcases h with h | ⟨h, h2⟩
    · left; omega
    · by_cases e : markN c x p = markN c b p
      · exact .inr ⟨by omega, lessB_neg h2 fun h3 => hn (.inr ⟨e, h3⟩)⟩
      · left; omega
theorem rk_anti {c : ClusterD} {p : PodD} {a b : ByteArray} (h1 : rkLt c p a b = false) (h2 : rkLt c p b a = false) : a = b := by
  rw [rk_not] at h1 h2
  have hm : markN c a p = markN c b p := by
    rcases Int.lt_trichotomy (markN c a p) (markN c b p) with h | h | h
    · exact absurd (.inl h) h2
    · exact h
    · exact absurd (.inl h) h1
  have n1 : lessB a b = false := by simpa using fun h => h1 (.inr ⟨hm, h⟩)
  cases e : eqB a b with
  | true => exact eqB_eq e
  | false => exact absurd (.inr ⟨hm.symm, lessB_tri n1 e⟩) h2
/-- The hosts that a pod fits on, by the first k hosts. -/
def feasL (c : ClusterD) (p : PodD) (k : Nat) : List ByteArray := ((c.hosts.take k).map (·.name)).filter fun nm => reasonN c nm p == 0
theorem feas_go {c : ClusterD} {p : PodD} {k : Nat} (h : k < c.hosts.length) (hr : reasonN c (c.hosts.getD k default).name p = 0) : feasL c p (k + 1) = feasL c p k ++ [(c.hosts.getD k default).name] := by
  unfold feasL
  rw [take_snoc _ _ h, List.map_append, List.filter_append]
  show _ ++ List.filter _ [(c.hosts.getD k default).name] = _
  rw [List.filter_cons_of_pos (by rw [hr]; rfl)]; rfl
theorem feas_no {c : ClusterD} {p : PodD} {k : Nat} (h : k < c.hosts.length) (hr : ¬ reasonN c (c.hosts.getD k default).name p = 0) : feasL c p (k + 1) = feasL c p k := by
  unfold feasL
  rw [take_snoc _ _ h, List.map_append, List.filter_append]
  show _ ++ List.filter _ [(c.hosts.getD k default).name] = _
  rw [List.filter_cons_of_neg (by rw [beq_iff_eq]; exact hr)]; exact List.append_nil _
structure RkS (c : ClusterD) (p : PodD) (ws : List ByteArray) : Prop where
  srt : Srt (rkLt c p) ws
  perm : ws.Perm (feasL c p c.hosts.length)
theorem RkS.same {c : ClusterD} {p : PodD} {ws ws' : List ByteArray} (h : RkS c p ws) (h' : RkS c p ws') : ws = ws' := srt_same h.srt h'.srt (h.perm.trans h'.perm.symm) fun a _ b _ => rk_anti
theorem feas_len (c : ClusterD) (p : PodD) (k : Nat) : (feasL c p k).length ≤ k := by
  unfold feasL
  refine Nat.le_trans (List.length_filter_le _ _) ?_
  rw [List.length_map, List.length_take]; omega
/-- The host that is chosen; false: none. -/
structure Best (c : ClusterD) (p : PodD) (v : ByteArray) (q : Bool) : Prop where
  ex : ∃ ws, RkS c p ws ∧ (q = true → 0 < ws.length ∧ v = ws.getD 0 default) ∧ (q = false → ws = [] ∧ v = ⟨#[]⟩)
theorem Best.same {c : ClusterD} {p : PodD} {v v' : ByteArray} {q q' : Bool} (h : Best c p v q) (h' : Best c p v' q') : v = v' ∧ q = q' := by
  obtain ⟨ws, h1, h2, h3⟩ := h.ex
  obtain ⟨ws', h1', h2', h3'⟩ := h'.ex
  have e := h1.same h1'
  subst e
  cases q <;> cases q'
  · exact ⟨(h3 rfl).2.trans (h3' rfl).2.symm, rfl⟩
  · have := (h2' rfl).1; rw [(h3 rfl).1] at this; exact absurd this (Nat.lt_irrefl 0)
  · have := (h2 rfl).1; rw [(h3' rfl).1] at this; exact absurd this (Nat.lt_irrefl 0)
  · exact ⟨(h2 rfl).2.trans (h2' rfl).2.symm, rfl⟩
/-! Waiting pods. -/
def wtLt (a b : PlacedD) : Bool := decide (b.pod.rank < a.pod.rank) || ((a.pod.rank == b.pod.rank) && decide (a.seq < b.seq))
theorem wt_iff {a b : PlacedD} : wtLt a b = true ↔ b.pod.rank < a.pod.rank ∨ a.pod.rank = b.pod.rank ∧ a.seq < b.seq := by
  unfold wtLt
  rw [Bool.or_eq_true, Bool.and_eq_true, decide_eq_true_iff, decide_eq_true_iff, beq_iff_eq]
theorem wt_not {a b : PlacedD} : wtLt a b = false ↔ ¬ (b.pod.rank < a.pod.rank ∨ a.pod.rank = b.pod.rank ∧ a.seq < b.seq) := by rw [← wt_iff, Bool.not_eq_true]
theorem wt_sto : Sto wtLt := by
  constructor
  · intro a b h
    rw [wt_iff] at h; rw [wt_not]; omega
  · intro a b c h hn
    rw [wt_iff] at h ⊢; rw [wt_not] at hn; omega
def waitP (c : ClusterD) (k : Nat) : List PlacedD := (c.pods.take k).filter fun p => emptyB p.on
theorem wait_go {c : ClusterD} {k : Nat} (h : k < c.pods.length) (hr : emptyB (c.pods.getD k default).on = true) : waitP c (k + 1) = waitP c k ++ [c.pods.getD k default] := by
  unfold waitP
  rw [take_snoc _ _ h, List.filter_append, List.filter_cons_of_pos (p := fun p : PlacedD => emptyB p.on) (by exact hr)]; rfl
theorem wait_no {c : ClusterD} {k : Nat} (h : k < c.pods.length) (hr : emptyB (c.pods.getD k default).on = false) : waitP c (k + 1) = waitP c k := by
  unfold waitP
  rw [take_snoc _ _ h, List.filter_append, List.filter_cons_of_neg (p := fun p : PlacedD => emptyB p.on) (by show ¬ emptyB _ = true; rw [hr]; decide)]; exact List.append_nil _
theorem wait_len (c : ClusterD) (k : Nat) : (waitP c k).length ≤ k := by
  unfold waitP
  refine Nat.le_trans (List.length_filter_le _ _) ?_
  rw [List.length_take]; omega
structure WtS (c : ClusterD) (q : List PlacedD) : Prop where
  srt : Srt wtLt q
  perm : q.Perm (waitP c c.pods.length)
theorem WtS.mem {c : ClusterD} {q : List PlacedD} (h : WtS c q) {x : PlacedD} (hx : x ∈ q) : x ∈ c.pods ∧ emptyB x.on = true := by
  have := h.perm.mem_iff.1 hx
  unfold waitP at this
  rw [List.take_of_length_le (Nat.le_refl _), List.mem_filter] at this
  exact this
theorem WtS.same {c : ClusterD} (hc : clusterB c = true) {q q' : List PlacedD} (h : WtS c q) (h' : WtS c q') : q = q' := srt_same h.srt h'.srt (h.perm.trans h'.perm.symm) fun a ha b hb h1 h2 => by
  rw [wt_not] at h1 h2
  have hs : a.seq = b.seq := by omega
  obtain ⟨i, hi, rfl⟩ := List.getElem_of_mem (h.mem ha).1
  obtain ⟨j, hj, rfl⟩ := List.getElem_of_mem (h.mem hb).1
  have hq := (clOk_iff.1 hc).pq
  rcases Nat.lt_trichotomy i j with hij | hij | hij
  · exact absurd hs (List.pairwise_iff_getElem.1 hq i j hi hj hij)
  · subst hij; rfl
  · exact absurd hs.symm (List.pairwise_iff_getElem.1 hq j i hj hi hij)
/-! A pod is placed. -/
def podAtB (c : ClusterD) (nm : ByteArray) : Int := firstN c.pods.length fun k => eqB (c.pods.getD k default).pod.name nm
theorem podAt_rng (c : ClusterD) (nm : ByteArray) : -1 ≤ podAtB c nm ∧ podAtB c nm < c.pods.length := ⟨(firstN_rng _ _).1, (firstN_rng _ _).2.1⟩
def podC (c : ClusterD) (nm : ByteArray) : PlacedD := c.pods.getD (podAtB c nm).toNat default
def putOn (c : ClusterD) (nm v : ByteArray) : ClusterD := ⟨c.hosts, c.pods.set (podAtB c nm).toNat ⟨(podC c nm).pod, v, (podC c nm).seq⟩, c.next, c.w1, c.w2, c.w3⟩
structure PlcR (c : ClusterD) (nm : ByteArray) (c' : ClusterD) (v : ByteArray) (code : Int) : Prop where
  ex : (podAtB c nm < 0 ∧ c' = c ∧ v = ⟨#[]⟩ ∧ code = 3) ∨ (0 ≤ podAtB c nm ∧ emptyB (podC c nm).on = false ∧ c' = c ∧ v = ⟨#[]⟩ ∧ code = 5) ∨ (0 ≤ podAtB c nm ∧ emptyB (podC c nm).on = true ∧ ∃ u q, Best c (podC c nm).pod u q ∧ ((q = false ∧ c' = c ∧ v = ⟨#[]⟩ ∧ code = 6) ∨ (q = true ∧ c' = putOn c nm u ∧ v = u ∧ code = 0)))
theorem PlcR.same {c : ClusterD} {nm : ByteArray} {c1 c2 : ClusterD} {v1 v2 : ByteArray} {k1 k2 : Int} (h : PlcR c nm c1 v1 k1) (h' : PlcR c nm c2 v2 k2) : c1 = c2 ∧ v1 = v2 ∧ k1 = k2 := by
  rcases h.ex with ⟨a1, rfl, rfl, rfl⟩ | ⟨a1, a2, rfl, rfl, rfl⟩ | ⟨a1, a2, u, q, hb, hh⟩ <;> rcases h'.ex with ⟨b1, rfl, rfl, rfl⟩ | ⟨b1, b2, rfl, rfl, rfl⟩ | ⟨b1, b2, u', q', hb', hh'⟩
  · exact ⟨rfl, rfl, rfl⟩
  · omega
  · omega
  · omega
  · exact ⟨rfl, rfl, rfl⟩
  · rw [a2] at b2; cases b2
  · omega
  · rw [a2] at b2; cases b2
  · obtain ⟨rfl, rfl⟩ := hb.same hb'
    rcases hh with ⟨r1, rfl, rfl, rfl⟩ | ⟨r1, rfl, rfl, rfl⟩ <;> rcases hh' with ⟨r2, rfl, rfl, rfl⟩ | ⟨r2, rfl, rfl, rfl⟩
    · exact ⟨rfl, rfl, rfl⟩
    · rw [r1] at r2; cases r2
    · rw [r1] at r2; cases r2
    · exact ⟨rfl, rfl, rfl⟩
/-- None of the first k that wait can be placed. -/
def NoneN (c : ClusterD) (q : List PlacedD) (k : Nat) : Prop := ∀ j, j < k → ∃ c' v code, PlcR c (q.getD j default).pod.name c' v code ∧ ¬ code = 0
theorem nonN_0 (c : ClusterD) (q : List PlacedD) : NoneN c q 0 := fun j h => by omega
theorem nonN_go {c : ClusterD} {q : List PlacedD} {k : Nat} (h : NoneN c q k) {c' : ClusterD} {v : ByteArray} {code : Int} (hp : PlcR c (q.getD k default).pod.name c' v code) (hc : ¬ code = 0) : NoneN c q (k + 1) := fun j hj => by
  by_cases e : j = k
  · subst e; exact ⟨_, _, _, hp, hc⟩
  · exact h j (by omega)
structure NxtP (c c' : ClusterD) (nm v : ByteArray) (code : Int) : Prop where
  ex : ∃ q, WtS c q ∧ ((q = [] ∧ c' = c ∧ nm = ⟨#[]⟩ ∧ v = ⟨#[]⟩ ∧ code = 7) ∨ (∃ i, i < q.length ∧ NoneN c q i ∧ PlcR c (q.getD i default).pod.name c' v 0 ∧ nm = (q.getD i default).pod.name ∧ code = 0) ∨ (0 < q.length ∧ NoneN c q q.length ∧ c' = c ∧ nm = ⟨#[]⟩ ∧ v = ⟨#[]⟩ ∧ code = 6))
theorem NxtP.same {c c1 c2 : ClusterD} {n1 n2 v1 v2 : ByteArray} {k1 k2 : Int} (hc : clusterB c = true) (h : NxtP c c1 n1 v1 k1) (h' : NxtP c c2 n2 v2 k2) : c1 = c2 ∧ n1 = n2 ∧ v1 = v2 ∧ k1 = k2 := by
  obtain ⟨q, hq, h⟩ := h.ex
  obtain ⟨q', hq', h'⟩ := h'.ex
  have e := hq.same hc hq'
  subst e
  rcases h with ⟨rfl, rfl, rfl, rfl, rfl⟩ | ⟨i, hi, hn, hp, rfl, rfl⟩ | ⟨h0, hn, rfl, rfl, rfl, rfl⟩ <;> rcases h' with ⟨e, rfl, rfl, rfl, rfl⟩ | ⟨i', hi', hn', hp', rfl, rfl⟩ | ⟨h0', hn', rfl, rfl, rfl, rfl⟩
  · exact ⟨rfl, rfl, rfl, rfl⟩
  · exact absurd hi' (Nat.not_lt_zero _)
  · exact absurd h0' (Nat.lt_irrefl 0)
  · subst e; exact absurd hi (Nat.not_lt_zero _)
  · rcases Nat.lt_trichotomy i i' with hij | hij | hij
    · obtain ⟨_, _, _, a, b⟩ := hn' i hij
      exact absurd (hp.same a).2.2.symm b
    · subst hij
      obtain ⟨rfl, rfl, _⟩ := hp.same hp'
      exact ⟨rfl, rfl, rfl, rfl⟩
    · obtain ⟨_, _, _, a, b⟩ := hn i' hij
      exact absurd (hp'.same a).2.2.symm b
  · obtain ⟨_, _, _, a, b⟩ := hn' i hi
    exact absurd (hp.same a).2.2.symm b
  · subst e; exact absurd h0 (Nat.lt_irrefl 0)
  · obtain ⟨_, _, _, a, b⟩ := hn i' hi'
    exact absurd (hp'.same a).2.2.symm b
  · exact ⟨rfl, rfl, rfl, rfl⟩
end Go.Proofs.YtidjjfjhmlndjaaGreatDoor
