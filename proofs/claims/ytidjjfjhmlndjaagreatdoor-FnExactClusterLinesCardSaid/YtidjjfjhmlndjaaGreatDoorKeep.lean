/- A cluster that is right stays right under the acts: plain Lean. -/
import Derived.Test.YtidjjfjhmlndjaaGreatDoorDk
import Derived.Test.YtidjjfjhmlndjaaGreatDoorClx
namespace Go.Proofs.YtidjjfjhmlndjaaGreatDoor
open Go.RowKit
set_option linter.unusedVariables false

theorem allB_iff {n : Nat} {p : Nat → Bool} : allB n p = true ↔ ∀ k, k < n → p k = true := by
  unfold allB
  rw [List.all_eq_true]
  exact ⟨fun h k hk => h k (List.mem_range.2 hk), fun h k hk => h k (List.mem_range.1 hk)⟩
theorem inB_iff {x a b : Int} : inB x a b = true ↔ a ≤ x ∧ x ≤ b := by
  unfold inB
  rw [Bool.and_eq_true, decide_eq_true_iff, decide_eq_true_iff]
theorem all_mem {α : Type} [Inhabited α] {xs : List α} {P : α → Prop} : (∀ i, i < xs.length → P (xs.getD i default)) ↔ ∀ x ∈ xs, P x := by
  constructor
  · intro h x hx
    obtain ⟨i, hi, rfl⟩ := List.getElem_of_mem hx
    have := h i hi
    rwa [List.getD_eq_getElem?_getD, List.getElem?_eq_getElem hi] at this
  · intro h i hi
    rw [List.getD_eq_getElem?_getD, List.getElem?_eq_getElem hi]
    exact h _ (List.getElem_mem _)
theorem getD_at {α : Type} [Inhabited α] {xs : List α} {i : Nat} (hi : i < xs.length) : xs.getD i default = xs[i] := by
  rw [List.getD_eq_getElem?_getD, List.getElem?_eq_getElem hi]; rfl
theorem next_pair {α : Type} [Inhabited α] {less : α → α → Bool} (tr : ∀ {a b c}, less a b = true → less b c = true → less a c = true) {xs : List α} : (∀ i, i < xs.length → nextB less xs i = true) ↔ xs.Pairwise fun a b => less a b = true := by
  constructor
  · intro h
    refine List.pairwise_iff_getElem.2 fun i j hi hj hij => ?_
    obtain ⟨d, rfl⟩ : ∃ d, j = i + 1 + d := ⟨j - (i + 1), by omega⟩
    have step : ∀ k (hk : k + 1 < xs.length), less xs[k] xs[k + 1] = true := fun k hk => by
      have := h (k + 1) hk
      unfold nextB at this
      rw [decide_eq_true (Nat.succ_pos k), Bool.not_true, Bool.false_or] at this
      rwa [Nat.add_sub_cancel, getD_at (by omega), getD_at hk] at this
    induction d with
    | zero => exact step i hj
    | succ d ih => exact tr (ih (by omega) (by omega) step) (step (i + 1 + d) hj)
  · intro h i hi
    unfold nextB
    by_cases e : 0 < i
    · rw [decide_eq_true e, Bool.not_true, Bool.false_or, getD_at (by omega), getD_at hi]
      exact List.pairwise_iff_getElem.1 h _ _ (by omega) hi (by omega)
    · rw [decide_eq_false e]; rfl
theorem hostAt_iff {hs : List HostD} {nm : ByteArray} : 0 ≤ hostAtB hs nm ↔ ∃ h ∈ hs, eqB h.name nm = true := by
  unfold hostAtB
  constructor
  · intro h
    obtain ⟨_, h2, h3⟩ := firstN_rng hs.length fun k => eqB (hs.getD k default).name nm
    have hk : (firstN hs.length fun k => eqB (hs.getD k default).name nm).toNat < hs.length := by omega
    have h4 := h3 h
    rw [getD_at hk] at h4
    exact ⟨_, List.getElem_mem _, h4⟩
  · rintro ⟨x, hx, he⟩
    obtain ⟨i, hi, rfl⟩ := List.getElem_of_mem hx
    unfold firstN
    cases h : (List.range hs.length).find? fun k => eqB (hs.getD k default).name nm with
    | none =>
      have := List.find?_range_eq_none.1 h i hi
      rw [getD_at hi, he] at this
      cases this
    | some k => exact Int.natCast_nonneg k
structure ClOk (c : ClusterD) : Prop where
  nh : c.hosts.length ≤ 8
  np : c.pods.length ≤ 12
  nx : 1 ≤ c.next ∧ c.next ≤ 1000000000
  w1 : 0 ≤ c.w1 ∧ c.w1 ≤ 10
  w2 : 0 ≤ c.w2 ∧ c.w2 ≤ 10
  w3 : 0 ≤ c.w3 ∧ c.w3 ≤ 10
  hk : ∀ h ∈ c.hosts, hostB h = true ∧ fitsB c.pods h = true
  hs : c.hosts.Pairwise fun a b => lessB a.name b.name = true
  pk : ∀ p ∈ c.pods, podB p.pod = true ∧ (1 ≤ p.seq ∧ p.seq ≤ c.next - 1) ∧ (emptyB p.on = true ∨ ∃ h ∈ c.hosts, eqB h.name p.on = true)
  ps : c.pods.Pairwise fun a b => lessB a.pod.name b.pod.name = true
  pq : c.pods.Pairwise fun a b => ¬ a.seq = b.seq
theorem clOk_iff {c : ClusterD} : clusterB c = true ↔ ClOk c := by
  unfold clusterB
  simp only [Bool.and_eq_true, decide_eq_true_eq, inB_iff, allB_iff]
  constructor
  · rintro ⟨h1, h2, h3, ⟨h4, h5, h6⟩, h7, h8⟩
    have g : ∀ i, i < c.pods.length → podB (c.pods.getD i default).pod = true ∧ nextB (fun a b => lessB a.pod.name b.pod.name) c.pods i = true ∧ (1 ≤ (c.pods.getD i default).seq ∧ (c.pods.getD i default).seq ≤ c.next - 1) ∧ (emptyB (c.pods.getD i default).on = true ∨ ∃ h ∈ c.hosts, eqB h.name (c.pods.getD i default).on = true) ∧ ∀ k, k < i → ¬ (c.pods.getD k default).seq = (c.pods.getD i default).seq := fun i hi => by
      have := h8 i hi
      unfold placedB at this
      simp only [Bool.and_eq_true, inB_iff, Bool.or_eq_true, decide_eq_true_eq, hostAt_iff, allB_iff, Bool.not_eq_true', beq_eq_false_iff_ne] at this
      exact this
    refine ⟨h1, h2, h3, h4, h5, h6, all_mem.1 fun i hi => ⟨(h7 i hi).1, (h7 i hi).2.2⟩, (next_pair (less := fun a b : HostD => lessB a.name b.name) lessB_tr).1 fun i hi => (h7 i hi).2.1, all_mem.1 fun i hi => ⟨(g i hi).1, (g i hi).2.2.1, (g i hi).2.2.2.1⟩, (next_pair (less := fun a b : PlacedD => lessB a.pod.name b.pod.name) lessB_tr).1 fun i hi => (g i hi).2.1, ?_⟩
    refine List.pairwise_iff_getElem.2 fun i j hi hj hij => ?_
    have := (g j hj).2.2.2.2 i hij
    rwa [getD_at hi, getD_at hj] at this
  · intro h
    have hk := all_mem.2 h.hk
    have hs := (next_pair (less := fun a b : HostD => lessB a.name b.name) lessB_tr).2 h.hs
    have pk := all_mem.2 h.pk
    have ps := (next_pair (less := fun a b : PlacedD => lessB a.pod.name b.pod.name) lessB_tr).2 h.ps
    refine ⟨h.nh, h.np, h.nx, ⟨h.w1, h.w2, h.w3⟩, fun i hi => ⟨(hk i hi).1, hs i hi, (hk i hi).2⟩, fun i hi => ?_⟩
    unfold placedB
    simp only [Bool.and_eq_true, inB_iff, Bool.or_eq_true, decide_eq_true_eq, hostAt_iff, allB_iff, Bool.not_eq_true', beq_eq_false_iff_ne]
    refine ⟨(pk i hi).1, ps i hi, (pk i hi).2.1, (pk i hi).2.2, fun k hk => ?_⟩
    rw [getD_at hi, getD_at (by omega)]
    exact List.pairwise_iff_getElem.1 h.pq _ _ (by omega) hi hk
/-! Sums. -/
theorem sumN_all {f : Nat → Int} (h0 : ∀ k, 0 ≤ f k) : ∀ n, sumN f n = if ((List.range n).map f).sum ≤ 9223372036854775807 then some ((List.range n).map f).sum else none
  | 0 => by simp [sumN]
  | n + 1 => by
    have hn : 0 ≤ ((List.range n).map f).sum := by
      clear sumN_all
      induction n with
      | zero => simp
      | succ n ih => rw [List.range_succ, List.map_append, List.sum_append]; have := h0 n; simp; omega
    have e : ((List.range (n + 1)).map f).sum = ((List.range n).map f).sum + f n := by
      rw [List.range_succ, List.map_append, List.sum_append]; simp
    have hf := h0 n
    show (sumN f n).bind (fun s => addB s (f n)) = _
    rw [sumN_all h0 n, e]
    by_cases h1 : ((List.range n).map f).sum ≤ 9223372036854775807
    · rw [if_pos h1]
      show addB _ _ = _
      unfold addB
      by_cases h2 : ((List.range n).map f).sum + f n ≤ 9223372036854775807
      · rw [if_neg (by omega), if_pos h2]
      · rw [if_pos (by omega), if_neg h2]
    · rw [if_neg h1, if_neg (by omega)]; rfl
theorem range_getD (ns : List Int) : (List.range ns.length).map (fun k => ns.getD k default) = ns := by
  refine List.ext_getElem (by simp) fun i h1 h2 => ?_
  rw [List.getElem_map, List.getElem_range, getD_at h2]
theorem sumL_all {ns : List Int} (h0 : ∀ x ∈ ns, 0 ≤ x) : sumL ns = if ns.sum ≤ 9223372036854775807 then some ns.sum else none := by
  unfold sumL
  rw [sumN_all, range_getD]
  intro k
  by_cases hk : k < ns.length
  · rw [getD_at hk]; exact h0 _ (List.getElem_mem _)
  · rw [List.getD_eq_getElem?_getD, List.getElem?_eq_none (by omega)]; exact Int.le_refl _
theorem sum_nn {ns : List Int} (h0 : ∀ x ∈ ns, 0 ≤ x) : 0 ≤ ns.sum := by
  induction ns with
  | nil => exact Int.le_refl _
  | cons a r ih =>
    rw [List.sum_cons]
    have := ih fun x hx => h0 x (List.mem_cons_of_mem _ hx)
    have := h0 a List.mem_cons_self
    omega
theorem sum_sub {a b : List Int} (h : a.Sublist b) (h0 : ∀ x ∈ b, 0 ≤ x) : a.sum ≤ b.sum := by
  induction h with
  | slnil => exact Int.le_refl _
  | cons x _ ih =>
    rw [List.sum_cons]
    have := ih fun y hy => h0 y (List.mem_cons_of_mem _ hy)
    have := h0 x List.mem_cons_self
    omega
  | cons_cons x _ ih =>
    rw [List.sum_cons, List.sum_cons]
    have := ih fun y hy => h0 y (List.mem_cons_of_mem _ hy)
    omega
def cpuS (ps : List PlacedD) (nm : ByteArray) : Int := ((boundB ps nm).map (·.pod.cpu)).sum
def memS (ps : List PlacedD) (nm : ByteArray) : Int := ((boundB ps nm).map (·.pod.mem)).sum
theorem bound_mem {ps : List PlacedD} {nm : ByteArray} {p : PlacedD} (h : p ∈ boundB ps nm) : p ∈ ps := by
  unfold boundB at h
  split at h
  · cases h
  · exact (List.mem_filter.1 h).1
def PodsNn (ps : List PlacedD) : Prop := ∀ p ∈ ps, 0 ≤ p.pod.cpu ∧ 0 ≤ p.pod.mem
theorem pod_nn {p : PodD} (h : podB p = true) : 0 ≤ p.cpu ∧ 0 ≤ p.mem := by
  unfold podB at h
  simp only [Bool.and_eq_true, decide_eq_true_eq] at h
  exact ⟨h.2.2.2.2.1, h.2.2.2.2.2.1⟩
theorem ClOk.nn {c : ClusterD} (h : ClOk c) : PodsNn c.pods := fun p hp => pod_nn (h.pk p hp).1
theorem used_all {ps : List PlacedD} {nm : ByteArray} (h : PodsNn ps) : usedB ps nm = if cpuS ps nm ≤ 9223372036854775807 ∧ memS ps nm ≤ 9223372036854775807 then some (cpuS ps nm, memS ps nm, ((boundB ps nm).length : Int)) else none := by
  have hc : ∀ x ∈ (boundB ps nm).map (·.pod.cpu), 0 ≤ x := fun x hx => by
    obtain ⟨p, hp, rfl⟩ := List.mem_map.1 hx
    exact (h p (bound_mem hp)).1
  have hm : ∀ x ∈ (boundB ps nm).map (·.pod.mem), 0 ≤ x := fun x hx => by
    obtain ⟨p, hp, rfl⟩ := List.mem_map.1 hx
    exact (h p (bound_mem hp)).2
  unfold usedB sumsB
  rw [List.map_map, List.map_map, show ((fun x : PodD => x.cpu) ∘ fun x : PlacedD => x.pod) = (fun x : PlacedD => x.pod.cpu) from rfl, show ((fun x : PodD => x.mem) ∘ fun x : PlacedD => x.pod) = (fun x : PlacedD => x.pod.mem) from rfl, sumL_all hc, sumL_all hm]
  show _ = if cpuS ps nm ≤ _ ∧ memS ps nm ≤ _ then _ else _
  unfold cpuS memS
  by_cases h1 : ((boundB ps nm).map (·.pod.cpu)).sum ≤ 9223372036854775807 <;> by_cases h2 : ((boundB ps nm).map (·.pod.mem)).sum ≤ 9223372036854775807 <;> simp [h1, h2]
theorem fits_iff {ps : List PlacedD} {h : HostD} (hp : PodsNn ps) (h1 : h.cpu ≤ 9223372036854775807) (h2 : h.mem ≤ 9223372036854775807) : fitsB ps h = true ↔ cpuS ps h.name ≤ h.cpu ∧ memS ps h.name ≤ h.mem ∧ ((boundB ps h.name).length : Int) ≤ h.slots := by
  unfold fitsB
  rw [used_all hp]
  by_cases e : cpuS ps h.name ≤ 9223372036854775807 ∧ memS ps h.name ≤ 9223372036854775807
  · rw [if_pos e]
    simp only [Bool.and_eq_true, decide_eq_true_eq]
  · rw [if_neg e]
    simp only [Bool.false_eq_true, false_iff]
    omega
/-! What an act leaves. -/
def Amt (c : ClusterD) : Prop := ∀ h ∈ c.hosts, h.cpu ≤ 9223372036854775807 ∧ h.mem ≤ 9223372036854775807
theorem host_name {h : HostD} (hb : hostB h = true) : emptyB h.name = false := by
  unfold hostB nmB at hb
  simp only [Bool.and_eq_true, inB_iff] at hb
  cases e : emptyB h.name with
  | false => rfl
  | true =>
    have := eqB_eq e
    rw [this] at hb
    exact absurd hb.1.1.1 (by decide)
theorem pod_name {p : PodD} (hb : podB p = true) : emptyB p.name = false := by
  unfold podB nmB at hb
  simp only [Bool.and_eq_true, inB_iff] at hb
  cases e : emptyB p.name with
  | false => rfl
  | true =>
    have := eqB_eq e
    rw [this] at hb
    exact absurd hb.1.1.1 (by decide)
theorem eqB_rfl (a : ByteArray) : eqB a a = true := by unfold eqB; exact beq_self_eq_true _
theorem bound_of {ps : List PlacedD} {nm : ByteArray} (h : emptyB nm = false) : boundB ps nm = ps.filter fun p => eqB p.on nm := by
  unfold boundB; rw [h]; rfl
/-- The rows of two clusters' pods use the same on each host of a name. -/
theorem fits_same {ps qs : List PlacedD} {h : HostD} (e : (boundB ps h.name).map (·.pod) = (boundB qs h.name).map (·.pod)) : fitsB ps h = fitsB qs h := by
  have hl : (boundB ps h.name).length = (boundB qs h.name).length := by
    have := congrArg List.length e
    rwa [List.length_map, List.length_map] at this
  unfold fitsB usedB
  rw [e, hl]
theorem fits_less {ps qs : List PlacedD} {h : HostD} (hs : (boundB ps h.name).Sublist (boundB qs h.name)) (hp : PodsNn ps) (hq : PodsNn qs) (h1 : h.cpu ≤ 9223372036854775807) (h2 : h.mem ≤ 9223372036854775807) (hf : fitsB qs h = true) : fitsB ps h = true := by
  obtain ⟨a, b, d⟩ := (fits_iff hq h1 h2).1 hf
  refine (fits_iff hp h1 h2).2 ⟨?_, ?_, ?_⟩
  · refine Int.le_trans (sum_sub (hs.map _) fun x hx => ?_) a
    obtain ⟨p, hp, rfl⟩ := List.mem_map.1 hx
    exact (hq p (bound_mem hp)).1
  · refine Int.le_trans (sum_sub (hs.map _) fun x hx => ?_) b
    obtain ⟨p, hp, rfl⟩ := List.mem_map.1 hx
    exact (hq p (bound_mem hp)).2
  · have := hs.length_le
    omega
theorem bound_sub {ps qs : List PlacedD} (h : ps.Sublist qs) (nm : ByteArray) : (boundB ps nm).Sublist (boundB qs nm) := by
  unfold boundB
  split
  · exact List.Sublist.refl _
  · exact h.filter _
theorem keep_weights {c : ClusterD} (h : ClOk c) {a b d : Int} (h1 : 0 ≤ a ∧ a ≤ 10) (h2 : 0 ≤ b ∧ b ≤ 10) (h3 : 0 ≤ d ∧ d ≤ 10) : ClOk ⟨c.hosts, c.pods, c.next, a, b, d⟩ := ⟨h.nh, h.np, h.nx, h1, h2, h3, h.hk, h.hs, h.pk, h.ps, h.pq⟩
theorem keep_delete {c : ClusterD} (h : ClOk c) (ha : Amt c) {ps : List PlacedD} (hs : ps.Sublist c.pods) : ClOk ⟨c.hosts, ps, c.next, c.w1, c.w2, c.w3⟩ := by
  have hn := h.nn
  have hn2 : PodsNn ps := fun p hp => hn p (hs.subset hp)
  refine ⟨h.nh, Nat.le_trans hs.length_le h.np, h.nx, h.w1, h.w2, h.w3, fun x hx => ⟨(h.hk x hx).1, ?_⟩, h.hs, fun p hp => h.pk p (hs.subset hp), h.ps.sublist hs, h.pq.sublist hs⟩
  exact fits_less (bound_sub hs _) hn2 hn (ha x hx).1 (ha x hx).2 (h.hk x hx).2
/-- A row with one more at its place. -/
theorem pair_ins {α : Type} {R : α → α → Prop} {xs : List α} {x : α} {k : Nat} (h : xs.Pairwise R) (h1 : ∀ a ∈ xs.take k, R a x) (h2 : ∀ b ∈ xs.drop k, R x b) : (xs.take k ++ x :: xs.drop k).Pairwise R := by
  have h3 := h
  rw [← List.take_append_drop k xs, List.pairwise_append] at h3
  refine List.pairwise_append.2 ⟨h3.1, List.pairwise_cons.2 ⟨h2, h3.2.1⟩, fun a ha b hb => ?_⟩
  rcases List.mem_cons.1 hb with rfl | hb
  · exact h1 a ha
  · exact h3.2.2 a ha b hb
theorem mem_ins {α : Type} {xs : List α} {x y : α} {k : Nat} : y ∈ xs.take k ++ x :: xs.drop k ↔ y = x ∨ y ∈ xs := by
  rw [List.mem_append, List.mem_cons]
  constructor
  · rintro (h | h | h)
    · exact .inr (List.mem_of_mem_take h)
    · exact .inl h
    · exact .inr (List.mem_of_mem_drop h)
  · rintro (h | h)
    · exact .inr (.inl h)
    · rw [← List.take_append_drop k xs, List.mem_append] at h
      rcases h with h | h
      · exact .inl h
      · exact .inr (.inr h)
theorem len_ins {α : Type} {xs : List α} {x : α} {k : Nat} : (xs.take k ++ x :: xs.drop k).length = xs.length + 1 := by
  have := congrArg List.length (List.take_append_drop k xs)
  rw [List.length_append] at this
  rw [List.length_append, List.length_cons]
  omega
theorem keep_addHost {c : ClusterD} (h : ClOk c) {x : HostD} {k : Nat} (hx : hostB x = true) (hn : ¬ 0 ≤ hostAtB c.hosts x.name) (hl : c.hosts.length < 8) (hm : x.cpu ≤ 9223372036854775807 ∧ x.mem ≤ 9223372036854775807)
    (h1 : ∀ a ∈ c.hosts.take k, lessB a.name x.name = true) (h2 : ∀ b ∈ c.hosts.drop k, lessB x.name b.name = true) : ClOk ⟨c.hosts.take k ++ x :: c.hosts.drop k, c.pods, c.next, c.w1, c.w2, c.w3⟩ := by
  have hx0 : 0 ≤ x.cpu ∧ 0 ≤ x.mem ∧ 0 ≤ x.slots := by
    unfold hostB at hx
    simp only [Bool.and_eq_true, decide_eq_true_eq, inB_iff] at hx
    omega
  have hb : boundB c.pods x.name = [] := by
    rw [bound_of (host_name hx)]
    refine List.filter_eq_nil_iff.2 fun p hp he => ?_
    rcases (h.pk p hp).2.2 with h3 | ⟨y, hy, h3⟩
    · have e1 := eqB_eq he
      have e2 := host_name hx
      rw [← e1, h3] at e2
      cases e2
    · exact hn (hostAt_iff.2 ⟨y, hy, by rw [eqB_eq h3, he]⟩)
  refine ⟨by show (c.hosts.take k ++ x :: c.hosts.drop k).length ≤ 8; rw [len_ins]; omega, h.np, h.nx, h.w1, h.w2, h.w3, fun y hy => ?_, pair_ins h.hs h1 h2, fun p hp => ?_, h.ps, h.pq⟩
  · rcases mem_ins.1 hy with rfl | hy
    · refine ⟨hx, (fits_iff h.nn hm.1 hm.2).2 ?_⟩
      unfold cpuS memS
      rw [hb]
      exact hx0
    · exact h.hk y hy
  · obtain ⟨a, b, d⟩ := h.pk p hp
    refine ⟨a, b, ?_⟩
    rcases d with d | ⟨y, hy, d⟩
    · exact .inl d
    · exact .inr ⟨y, mem_ins.2 (.inr hy), d⟩
theorem keep_submit {c : ClusterD} (h : ClOk c) (ha : Amt c) {x : PodD} {k : Nat} (hx : podB x = true) (hl : c.pods.length < 12) (hnx : c.next < 1000000000)
    (h1 : ∀ a ∈ c.pods.take k, lessB a.pod.name x.name = true) (h2 : ∀ b ∈ c.pods.drop k, lessB x.name b.pod.name = true) : ClOk ⟨c.hosts, c.pods.take k ++ ⟨x, ⟨#[]⟩, c.next⟩ :: c.pods.drop k, c.next + 1, c.w1, c.w2, c.w3⟩ := by
  have hq : ∀ p ∈ c.pods, ¬ p.seq = c.next := fun p hp => by have := (h.pk p hp).2.1; omega
  refine ⟨h.nh, by show (c.pods.take k ++ _ :: c.pods.drop k).length ≤ 12; rw [len_ins]; omega, by have := h.nx; show 1 ≤ c.next + 1 ∧ c.next + 1 ≤ _; omega, h.w1, h.w2, h.w3, fun y hy => ⟨(h.hk y hy).1, ?_⟩, h.hs, fun p hp => ?_, pair_ins h.ps h1 h2, pair_ins h.pq (fun a ha => hq a (List.mem_of_mem_take ha)) fun b hb e => hq b (List.mem_of_mem_drop hb) e.symm⟩
  · have hy0 := host_name (h.hk y hy).1
    rw [← (h.hk y hy).2]
    refine fits_same ?_
    have hne : eqB (⟨#[]⟩ : ByteArray) y.name = false := by
      cases e : eqB (⟨#[]⟩ : ByteArray) y.name with
      | false => rfl
      | true => rw [← eqB_eq e, show emptyB (⟨#[]⟩ : ByteArray) = true from eqB_rfl _] at hy0; cases hy0
    show (boundB (c.pods.take k ++ ⟨x, ⟨#[]⟩, c.next⟩ :: c.pods.drop k) y.name).map _ = _
    rw [bound_of hy0, bound_of hy0, List.filter_append, List.filter_cons_of_neg (by show ¬ eqB (⟨#[]⟩ : ByteArray) y.name = true; rw [hne]; decide), ← List.filter_append, List.take_append_drop]
  · rcases mem_ins.1 hp with rfl | hp
    · refine ⟨hx, ?_, .inl (eqB_rfl _)⟩
      have := h.nx
      show 1 ≤ c.next ∧ c.next ≤ c.next + 1 - 1
      omega
    · obtain ⟨a, b, d⟩ := h.pk p hp
      refine ⟨a, ?_, d⟩
      show 1 ≤ p.seq ∧ p.seq ≤ c.next + 1 - 1
      omega
def offB (nm : ByteArray) (p : PlacedD) : PlacedD := if eqB p.on nm then ⟨p.pod, ⟨#[]⟩, p.seq⟩ else p
theorem off_pod (nm : ByteArray) (p : PlacedD) : (offB nm p).pod = p.pod := by unfold offB; split <;> rfl
theorem off_seq (nm : ByteArray) (p : PlacedD) : (offB nm p).seq = p.seq := by unfold offB; split <;> rfl
theorem eqB_ne {a b : ByteArray} (h : ¬ a = b) : eqB a b = false := by
  cases e : eqB a b with
  | false => rfl
  | true => exact absurd (eqB_eq e) h
theorem bound_off {nm z : ByteArray} (hz : emptyB z = false) (hne : ¬ z = nm) : ∀ ps : List PlacedD, (boundB (ps.map (offB nm)) z).map (·.pod) = (boundB ps z).map (·.pod) := by
  intro ps
  rw [bound_of hz, bound_of hz]
  induction ps with
  | nil => rfl
  | cons p r ih =>
    rw [List.map_cons]
    by_cases e : eqB p.on nm = true
    · have e1 : (offB nm p).on = ⟨#[]⟩ := by unfold offB; rw [if_pos e]
      have e2 : eqB (offB nm p).on z = false := by
        rw [e1]
        refine eqB_ne fun h => ?_
        rw [← h, show emptyB (⟨#[]⟩ : ByteArray) = true from eqB_rfl _] at hz
        cases hz
      have e3 : eqB p.on z = false := eqB_ne fun h => hne (by rw [← h, eqB_eq e])
      rw [List.filter_cons_of_neg (by rw [e2]; decide), List.filter_cons_of_neg (by rw [e3]; decide), ih]
    · have e1 : offB nm p = p := by unfold offB; rw [if_neg e]
      rw [e1]
      by_cases e2 : eqB p.on z = true
      · rw [List.filter_cons_of_pos (p := fun p : PlacedD => eqB p.on z) e2, List.filter_cons_of_pos (p := fun p : PlacedD => eqB p.on z) e2, List.map_cons, List.map_cons, ih]
      · rw [List.filter_cons_of_neg (p := fun p : PlacedD => eqB p.on z) e2, List.filter_cons_of_neg (p := fun p : PlacedD => eqB p.on z) e2, ih]
theorem keep_drop {c : ClusterD} (h : ClOk c) {k : Nat} (hk : k < c.hosts.length) : ClOk ⟨c.hosts.take k ++ c.hosts.drop (k + 1), c.pods.map (offB c.hosts[k].name), c.next, c.w1, c.w2, c.w3⟩ := by
  have hs : (c.hosts.take k ++ c.hosts.drop (k + 1)).Sublist c.hosts := by
    rw [← List.eraseIdx_eq_take_drop_succ]
    exact List.eraseIdx_sublist _ _
  have hne : ∀ y ∈ c.hosts.take k ++ c.hosts.drop (k + 1), ¬ y.name = c.hosts[k].name := by
    intro y hy e
    have hp := h.hs
    rw [← List.take_append_drop k c.hosts, List.pairwise_append, List.drop_eq_getElem_cons hk, List.pairwise_cons] at hp
    rcases List.mem_append.1 hy with hy | hy
    · have := hp.2.2 y hy _ List.mem_cons_self
      rw [e, lessB_irr] at this
      cases this
    · have := hp.2.1.1 y hy
      rw [e, lessB_irr] at this
      cases this
  refine ⟨Nat.le_trans hs.length_le h.nh, by show (c.pods.map _).length ≤ 12; rw [List.length_map]; exact h.np, h.nx, h.w1, h.w2, h.w3, fun y hy => ⟨(h.hk y (hs.subset hy)).1, ?_⟩, h.hs.sublist hs, fun p hp => ?_, ?_, ?_⟩
  · rw [← (h.hk y (hs.subset hy)).2]
    exact fits_same (bound_off (host_name (h.hk y (hs.subset hy)).1) (hne y hy) c.pods)
  · obtain ⟨q, hq, rfl⟩ := List.mem_map.1 hp
    obtain ⟨a, b, d⟩ := h.pk q hq
    rw [off_pod, off_seq]
    refine ⟨a, b, ?_⟩
    by_cases e : eqB q.on c.hosts[k].name = true
    · unfold offB; rw [if_pos e]; exact .inl (eqB_rfl _)
    · unfold offB; rw [if_neg e]
      rcases d with d | ⟨y, hy, d⟩
      · exact .inl d
      · refine .inr ⟨y, ?_, d⟩
        rw [← List.take_append_drop k c.hosts, List.mem_append, List.drop_eq_getElem_cons hk, List.mem_cons] at hy
        rcases hy with hy | rfl | hy
        · exact List.mem_append.2 (.inl hy)
        · exact absurd (by rw [eqB_eq d]; exact eqB_rfl _) e
        · exact List.mem_append.2 (.inr hy)
  · show (c.pods.map (offB c.hosts[k].name)).Pairwise _
    rw [List.pairwise_map]
    refine h.ps.imp fun {a b} hab => ?_
    rw [off_pod, off_pod]; exact hab
  · show (c.pods.map (offB c.hosts[k].name)).Pairwise _
    rw [List.pairwise_map]
    refine h.pq.imp fun {a b} hab => ?_
    rw [off_seq, off_seq]; exact hab
theorem set_cut {α : Type} {xs : List α} {k : Nat} {v : α} (hk : k < xs.length) : xs.set k v = xs.take k ++ v :: xs.drop (k + 1) := by
  rw [List.set_eq_take_append_cons_drop, if_pos hk]
theorem cut_at {α : Type} {xs : List α} {k : Nat} (hk : k < xs.length) : xs = xs.take k ++ xs[k] :: xs.drop (k + 1) := by
  rw [← List.drop_eq_getElem_cons hk, List.take_append_drop]
/-- What is needed that a pod may go onto a host. -/
def RoomB (c : ClusterD) (h : HostD) (p : PodD) : Prop := cpuS c.pods h.name + p.cpu ≤ h.cpu ∧ memS c.pods h.name + p.mem ≤ h.mem ∧ ((boundB c.pods h.name).length : Int) < h.slots
theorem keep_place {c : ClusterD} (h : ClOk c) (ha : Amt c) {k : Nat} (hk : k < c.pods.length) {x : HostD} (hx : x ∈ c.hosts) (he : emptyB c.pods[k].on = true) (hr : RoomB c x c.pods[k].pod) : ClOk ⟨c.hosts, c.pods.set k ⟨c.pods[k].pod, x.name, c.pods[k].seq⟩, c.next, c.w1, c.w2, c.w3⟩ := by
  have hx0 := host_name (h.hk x hx).1
  have hpk := h.pk _ (List.getElem_mem hk)
  have hon : ∀ z, emptyB z = false → eqB c.pods[k].on z = false := fun z hz => by
    refine eqB_ne fun e => ?_
    rw [e, hz] at he
    cases he
  have hset := set_cut (v := (⟨c.pods[k].pod, x.name, c.pods[k].seq⟩ : PlacedD)) hk
  have hnn : PodsNn (c.pods.set k ⟨c.pods[k].pod, x.name, c.pods[k].seq⟩) := fun p hp => by
    rcases List.mem_or_eq_of_mem_set hp with hp | rfl
    · exact h.nn p hp
    · exact pod_nn hpk.1
  have hmem : ∀ {R : PlacedD → PlacedD → Prop}, (∀ a b : PlacedD, R a ⟨c.pods[k].pod, x.name, c.pods[k].seq⟩ ↔ R a c.pods[k]) → (∀ b : PlacedD, R ⟨c.pods[k].pod, x.name, c.pods[k].seq⟩ b ↔ R c.pods[k] b) → c.pods.Pairwise R → (c.pods.set k ⟨c.pods[k].pod, x.name, c.pods[k].seq⟩).Pairwise R := by
    intro R h1 h2 hp
    rw [hset]
    rw [cut_at hk, List.pairwise_append, List.pairwise_cons] at hp
    refine List.pairwise_append.2 ⟨hp.1, List.pairwise_cons.2 ⟨fun b hb => (h2 b).2 (hp.2.1.1 b hb), hp.2.1.2⟩, fun a ha b hb => ?_⟩
    rcases List.mem_cons.1 hb with rfl | hb
    · exact (h1 a a).2 (hp.2.2 a ha _ List.mem_cons_self)
    · exact hp.2.2 a ha b (List.mem_cons_of_mem _ hb)
  refine ⟨h.nh, by show (c.pods.set k _).length ≤ 12; rw [List.length_set]; exact h.np, h.nx, h.w1, h.w2, h.w3, fun y hy => ⟨(h.hk y hy).1, ?_⟩, h.hs, fun p hp => ?_, hmem (fun _ _ => Iff.rfl) (fun _ => Iff.rfl) h.ps, hmem (fun _ _ => Iff.rfl) (fun _ => Iff.rfl) h.pq⟩
  · have hy0 := host_name (h.hk y hy).1
    have hb : boundB c.pods y.name = (c.pods.take k).filter (fun p => eqB p.on y.name) ++ (c.pods.drop (k + 1)).filter (fun p => eqB p.on y.name) := by
      rw [bound_of hy0]
      conv => lhs; rw [cut_at hk]
      rw [List.filter_append, List.filter_cons_of_neg (by rw [hon _ hy0]; decide)]
    by_cases e : eqB x.name y.name = true
    · have hb2 : boundB (c.pods.set k ⟨c.pods[k].pod, x.name, c.pods[k].seq⟩) y.name = (c.pods.take k).filter (fun p => eqB p.on y.name) ++ ⟨c.pods[k].pod, x.name, c.pods[k].seq⟩ :: (c.pods.drop (k + 1)).filter (fun p => eqB p.on y.name) := by
        rw [bound_of hy0, hset, List.filter_append, List.filter_cons_of_pos (by exact e)]
      have exy : x = y := by
        obtain ⟨i, hi, rfl⟩ := List.getElem_of_mem hx
        obtain ⟨j, hj, rfl⟩ := List.getElem_of_mem hy
        have en := eqB_eq e
        rcases Nat.lt_trichotomy i j with hij | hij | hij
        · have := List.pairwise_iff_getElem.1 h.hs i j hi hj hij
          rw [en, lessB_irr] at this
          cases this
        · subst hij; rfl
        · have := List.pairwise_iff_getElem.1 h.hs j i hj hi hij
          rw [en, lessB_irr] at this
          cases this
      subst exy
      obtain ⟨r1, r2, r3⟩ := hr
      unfold cpuS at r1; unfold memS at r2
      rw [hb] at r1 r2 r3
      simp only [List.map_append, List.sum_append, List.length_append] at r1 r2 r3
      refine (fits_iff hnn (ha x hx).1 (ha x hx).2).2 ?_
      show cpuS (c.pods.set k _) x.name ≤ _ ∧ memS (c.pods.set k _) x.name ≤ _ ∧ _
      unfold cpuS memS
      rw [hb2]
      simp only [List.map_append, List.map_cons, List.sum_append, List.sum_cons, List.length_append, List.length_cons]
      omega
    · rw [← (h.hk y hy).2]
      refine fits_same ?_
      show (boundB (c.pods.set k _) y.name).map _ = _
      rw [hb, bound_of hy0, hset, List.filter_append, List.filter_cons_of_neg (by exact e)]
  · rcases List.mem_or_eq_of_mem_set hp with hp | rfl
    · exact h.pk p hp
    · exact ⟨hpk.1, hpk.2.1, .inr ⟨x, hx, eqB_rfl _⟩⟩
/-! The host that is chosen has room. -/
def RsnB (c : ClusterD) (nm : ByteArray) (p : PodD) : Prop := ∃ (k : Nat) (u1 u2 u3 : Int), hostAtB c.hosts nm = k ∧ k < c.hosts.length ∧ usedB c.pods nm = some (u1, u2, u3) ∧ u1 + p.cpu ≤ (c.hosts.getD k default).cpu ∧ u2 + p.mem ≤ (c.hosts.getD k default).mem ∧ u3 < (c.hosts.getD k default).slots
theorem rsn_mk {c : ClusterD} {nm : ByteArray} {p : PodD} (h1 : 0 ≤ hostAtB c.hosts nm) (h2 : hostAtB c.hosts nm < c.hosts.length) (h3 : (usedB c.pods nm).isSome = true) (h4 : (addB ((usedB c.pods nm).getD (0, 0, 0)).fst p.cpu).isSome = true) (h5 : (addB ((usedB c.pods nm).getD (0, 0, 0)).fst p.cpu).getD 0 ≤ (c.hosts.getD (hostAtB c.hosts nm).toNat default).cpu)
    (h6 : (addB ((usedB c.pods nm).getD (0, 0, 0)).snd.fst p.mem).isSome = true) (h7 : (addB ((usedB c.pods nm).getD (0, 0, 0)).snd.fst p.mem).getD 0 ≤ (c.hosts.getD (hostAtB c.hosts nm).toNat default).mem) (h8 : ((usedB c.pods nm).getD (0, 0, 0)).snd.snd < (c.hosts.getD (hostAtB c.hosts nm).toNat default).slots) : RsnB c nm p := by
  cases hu : usedB c.pods nm with
  | none => rw [hu] at h3; cases h3
  | some u =>
    obtain ⟨u1, u2, u3⟩ := u
    rw [hu] at h4 h5 h6 h7 h8
    simp only [Option.getD_some] at h4 h5 h6 h7 h8
    refine ⟨(hostAtB c.hosts nm).toNat, u1, u2, u3, by omega, by omega, hu, ?_, ?_, h8⟩
    · cases ha : addB u1 p.cpu with
      | none => rw [ha] at h4; cases h4
      | some a => rw [ha, Option.getD_some] at h5; have := addB_rng ha; omega
    · cases ha : addB u2 p.mem with
      | none => rw [ha] at h6; cases h6
      | some a => rw [ha, Option.getD_some] at h7; have := addB_rng ha; omega
structure FitW (c : ClusterD) (p : PodD) (s : ByteArray) : Prop where
  sz : s.size ≤ 1000
  room : clusterB c = true → ∃ x ∈ c.hosts, x.name = s ∧ RoomB c x p
theorem fit_of {c : ClusterD} {nm : ByteArray} {p : PodD} (hs : nm.size ≤ 1000) (h : RsnB c nm p) : FitW c p nm := by
  refine ⟨hs, fun hc => ?_⟩
  obtain ⟨k, u1, u2, u3, h1, h2, h3, h4, h5, h6⟩ := h
  have ho := clOk_iff.1 hc
  rw [getD_at h2] at h4 h5 h6
  have he : eqB c.hosts[k].name nm = true := by
    have := (firstN_rng c.hosts.length fun k => eqB (c.hosts.getD k default).name nm).2.2
    unfold hostAtB at h1
    rw [h1] at this
    have h9 := this (Int.natCast_nonneg k)
    rw [Int.toNat_natCast, getD_at h2] at h9
    exact h9
  have e := eqB_eq he
  refine ⟨_, List.getElem_mem h2, e, ?_⟩
  rw [used_all ho.nn] at h3
  split at h3
  · injection h3 with h3
    injection h3 with h7 h8
    injection h8 with h8 h9
    unfold RoomB
    rw [e, h7, h8, h9]
    exact ⟨h4, h5, h6⟩
  · cases h3
end Go.Proofs.YtidjjfjhmlndjaaGreatDoor
