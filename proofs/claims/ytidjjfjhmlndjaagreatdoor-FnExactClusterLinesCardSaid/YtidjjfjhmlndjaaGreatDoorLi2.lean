/- The lines of a cluster. -/
import Derived.Test.YtidjjfjhmlndjaaGreatDoorLi1
import Derived.Test.YtidjjfjhmlndjaaGreatDoorWt1
namespace Go.Proofs.YtidjjfjhmlndjaaGreatDoor
open Go.RowKit
set_option linter.unusedVariables false
set_option linter.unusedSimpArgs false
set_option maxRecDepth 100000
set_option maxHeartbeats 4000000

def podIq (c : ClusterD) (x : Int) : PlacedD := c.pods.getD x.toNat default
/-- The pods that wait, by their places. -/
structure WtI (c : ClusterD) (i : Nat) (o : List Int) : Prop where
  srt : Srt wtLt (o.map (podIq c))
  perm : (o.map (podIq c)).Perm (waitP c i)
  idx : ∀ x ∈ o, 0 ≤ x ∧ x < c.pods.length
theorem wtI_0 (c : ClusterD) : WtI c 0 [] := ⟨.nil, .refl _, fun x h => by cases h⟩
theorem WtI.len {c : ClusterD} {i : Nat} {o : List Int} (h : WtI c i o) : o.length ≤ i := by
  have := h.perm.length_eq
  rw [List.length_map] at this
  rw [this]; exact wait_len c i
theorem WtI.at_ {c : ClusterD} {i j : Nat} {o : List Int} (h : WtI c i o) (hj : j < o.length) : 0 ≤ o.getD j default ∧ o.getD j default < c.pods.length := by
  rw [getD_at hj]; exact h.idx _ (List.getElem_mem _)
theorem map_at {α β : Type} [Inhabited α] [Inhabited β] (f : α → β) {o : List α} {j : Nat} (h : j < o.length) : (o.map f).getD j default = f (o.getD j default) := by
  rw [getD_at (by rw [List.length_map]; exact h), getD_at h, List.getElem_map]
theorem wtI_go {c : ClusterD} {i j : Nat} {o a b : List Int} (h : WtI c i o) (hi : i < c.pods.length) (he : emptyB (c.pods.getD i default).on = true) (ha : a = o.take j) (hb : b = o.drop j) (h1 : ∀ t, t < j → wtLt (c.pods.getD i default) (podIq c (o.getD t default)) = false) (h2 : j < o.length → wtLt (c.pods.getD i default) (podIq c (o.getD j default)) = true) (hj : j ≤ o.length) : WtI c (i + 1) (a ++ [(i : Int)] ++ b) := by
  subst ha; subst hb
  have hx : podIq c (i : Int) = c.pods.getD i default := by unfold podIq; rw [Int.toNat_natCast]
  have em : (o.take j ++ [(i : Int)] ++ o.drop j).map (podIq c) = (o.map (podIq c)).take j ++ c.pods.getD i default :: (o.map (podIq c)).drop j := by
    rw [List.map_append, List.map_append, List.map_take, List.map_drop, List.append_assoc]
    show _ ++ (podIq c (i : Int) :: _) = _
    rw [hx]; rfl
  refine ⟨?_, ?_, fun x hx => ?_⟩
  · rw [em]
    exact srt_lay wt_sto h.srt (fun t ht => by rw [map_at _ (by omega)]; exact h1 t ht) (fun hl => by rw [List.length_map] at hl; rw [map_at _ hl]; exact h2 hl) (by rw [List.length_map]; exact hj)
  · rw [em]
    refine (lay_perm _ _ _).trans ?_
    rw [wait_go hi he]
    exact h.perm.append_right _
  · rcases List.mem_append.1 hx with hx | hx
    · rcases List.mem_append.1 hx with hx | hx
      · exact h.idx _ (List.mem_of_mem_take hx)
      · rw [List.mem_singleton.1 hx]; omega
    · exact h.idx _ (List.mem_of_mem_drop hx)
theorem wtI_end {c : ClusterD} {i j : Nat} {o a : List Int} (h : WtI c i o) (hi : i < c.pods.length) (he : emptyB (c.pods.getD i default).on = true) (ha : a = o.take j) (h1 : ∀ t, t < j → wtLt (c.pods.getD i default) (podIq c (o.getD t default)) = false) (hj : o.length ≤ j) : WtI c (i + 1) (a ++ [(i : Int)]) := by
  have he2 : a = o.take o.length := by rw [ha, List.take_of_length_le hj, List.take_of_length_le (Nat.le_refl _)]
  have := wtI_go (a := a) (b := []) (j := o.length) h hi he he2 (by rw [List.drop_of_length_le (Nat.le_refl _)]) (fun t ht => h1 t (by omega)) (fun hh => absurd hh (Nat.lt_irrefl _)) (Nat.le_refl _)
  rwa [List.append_nil] at this
theorem wtI_no {c : ClusterD} {i : Nat} {o : List Int} (h : WtI c i o) (hi : i < c.pods.length) (he : emptyB (c.pods.getD i default).on = false) : WtI c (i + 1) o := ⟨h.srt, by rw [wait_no hi he]; exact h.perm, h.idx⟩
theorem wt_step {c : ClusterD} {x : PlacedD} {o : List Int} {j : Nat} (h : ∀ t, t < j → wtLt x (podIq c (o.getD t default)) = false) (h1 : wtLt x (c.pods.getD (o.getD j default).toNat default) = false) : ∀ t, t < j + 1 → wtLt x (podIq c (o.getD t default)) = false := fun t ht => by
  by_cases e : t = j
  · subst e; exact h1
  · exact h t (by omega)
/-- The names of the first k that wait. -/
def wNm (q : List PlacedD) (k : Nat) : List ByteArray := (q.take k).map (·.pod.name)
theorem wNm_go {c : ClusterD} {o : List Int} {k : Nat} (h : k < o.length) : wNm (o.map (podIq c)) k ++ [(c.pods.getD (o.getD k default).toNat default).pod.name] = wNm (o.map (podIq c)) (k + 1) := by
  unfold wNm
  rw [take_snoc _ _ (by rw [List.length_map]; exact h), List.map_append, map_at _ h]; rfl
theorem wNm_len (q : List PlacedD) (k : Nat) : (wNm q k).length ≤ k := by unfold wNm; rw [List.length_map, List.length_take]; omega
theorem wNm_all (q : List PlacedD) : (wNm q q.length).length = q.length := by unfold wNm; rw [List.length_map, List.length_take, Nat.min_self]
theorem wNm_at {q : List PlacedD} {i : Nat} (h : i < q.length) : (wNm q q.length).getD i default = (q.getD i default).pod.name := by
  unfold wNm
  rw [List.take_of_length_le (Nat.le_refl _), map_at _ h]

theorem eB_t {b : ByteArray} (h : eqB b ⟨#[]⟩ = true) : emptyB b = true := h
/-- The pods that wait so far, those that came first ahead where neither is before the other. -/
structure WtJ (c : ClusterD) (i : Nat) (o : List Int) : Prop where
  w : WtI c i o
  mv : Mv wtLt (waitP c i) (o.map (podIq c))
theorem wtJ_0 (c : ClusterD) : WtJ c 0 [] := ⟨wtI_0 c, .refl _⟩
theorem wtJ_go {c : ClusterD} {i j : Nat} {o a b : List Int} (h : WtJ c i o) (hi : i < c.pods.length) (he : emptyB (c.pods.getD i default).on = true) (ha : a = o.take j) (hb : b = o.drop j) (h1 : ∀ t, t < j → wtLt (c.pods.getD i default) (podIq c (o.getD t default)) = false) (h2 : j < o.length → wtLt (c.pods.getD i default) (podIq c (o.getD j default)) = true) (hj : j ≤ o.length) : WtJ c (i + 1) (a ++ [(i : Int)] ++ b) := by
  refine ⟨wtI_go h.w hi he ha hb h1 h2 hj, ?_⟩
  subst ha; subst hb
  have hx : podIq c (i : Int) = c.pods.getD i default := by unfold podIq; rw [Int.toNat_natCast]
  have em : (o.take j ++ [(i : Int)] ++ o.drop j).map (podIq c) = (o.map (podIq c)).take j ++ ([c.pods.getD i default] ++ (o.map (podIq c)).drop j) := by
    rw [List.map_append, List.map_append, List.map_take, List.map_drop, List.append_assoc, ← hx]; rfl
  rw [em, wait_go hi he]
  have e2 : o.map (podIq c) ++ [c.pods.getD i default] = (o.map (podIq c)).take j ++ ((o.map (podIq c)).drop j ++ [c.pods.getD i default]) := by rw [← List.append_assoc, List.take_append_drop]
  refine (Mv.app h.mv (.refl [c.pods.getD i default])).trans ?_
  rw [e2]
  refine Mv.app (.refl _) (Mv.swap wt_sto fun u hu v hv => ?_)
  rw [List.mem_singleton.1 hv]
  rcases Nat.lt_or_ge j o.length with hl | hl
  · have hs := h.w.srt
    have hd : (o.map (podIq c)).drop j = podIq c (o.getD j default) :: (o.map (podIq c)).drop (j + 1) := by
      rw [List.drop_eq_getElem_cons (by rw [List.length_map]; exact hl), List.getElem_map, getD_at hl]
    rw [hd] at hu
    have hs2 : Srt wtLt ((o.map (podIq c)).drop j) := List.Pairwise.drop hs
    rw [hd] at hs2
    rcases List.mem_cons.1 hu with hu | hu
    · rw [hu]; exact h2 hl
    · have h3 := (srt_cons.1 hs2).1 u hu
      cases h4 : wtLt (c.pods.getD i default) u with
      | true => rfl
      | false => have := sto_tr wt_sto h4 h3; rw [h2 hl] at this; cases this
  · rw [List.drop_of_length_le (by rw [List.length_map]; exact hl)] at hu; cases hu
theorem wtJ_end {c : ClusterD} {i j : Nat} {o a : List Int} (h : WtJ c i o) (hi : i < c.pods.length) (he : emptyB (c.pods.getD i default).on = true) (ha : a = o.take j) (h1 : ∀ t, t < j → wtLt (c.pods.getD i default) (podIq c (o.getD t default)) = false) (hj : o.length ≤ j) : WtJ c (i + 1) (a ++ [(i : Int)]) := by
  have he2 : a = o.take o.length := by rw [ha, List.take_of_length_le hj, List.take_of_length_le (Nat.le_refl _)]
  have := wtJ_go (a := a) (b := []) (j := o.length) h hi he he2 (by rw [List.drop_of_length_le (Nat.le_refl _)]) (fun t ht => h1 t (by omega)) (fun hh => absurd hh (Nat.lt_irrefl _)) (Nat.le_refl _)
  rwa [List.append_nil] at this
theorem wtJ_no {c : ClusterD} {i : Nat} {o : List Int} (h : WtJ c i o) (hi : i < c.pods.length) (he : emptyB (c.pods.getD i default).on = false) : WtJ c (i + 1) o := ⟨wtI_no h.w hi he, by rw [wait_no hi he]; exact h.mv⟩
abbrev WtB (c : ClusterD) (q : List PlacedD) : Prop := Stb_ wtLt (waitP c c.pods.length) q
theorem WtJ.fin {c : ClusterD} {o : List Int} (h : WtJ c c.pods.length o) : WtB c (o.map (podIq c)) := ⟨h.w.srt, h.mv⟩
theorem WtB.len {c : ClusterD} {q : List PlacedD} (h : WtB c q) : q.length ≤ c.pods.length := by rw [h.mv.len]; exact wait_len _ _
theorem WtB.mem {c : ClusterD} {q : List PlacedD} (h : WtB c q) {x : PlacedD} (hx : x ∈ q) : x ∈ c.pods := by
  have := h.mv.perm.mem_iff.1 hx
  unfold waitP at this
  exact List.mem_of_mem_take (List.mem_filter.1 this).1
theorem wNm_sz {c : ClusterD} (hc : c.fine) {q : List PlacedD} (h : WtB c q) (k : Nat) : ((wNm q q.length).getD k default).size ≤ 1048576 := by
  rcases Nat.lt_or_ge k q.length with hk | hk
  · rw [wNm_at hk]
    obtain ⟨j, hj⟩ := mem_getD (h.mem (show q.getD k default ∈ q by rw [getD_at hk]; exact List.getElem_mem _))
    rw [hj]; exact (hc.pod j).name
  · rw [List.getD_eq_getElem?_getD, List.getElem?_eq_none (by rw [wNm_all]; exact hk)]; decide
theorem wNm_put {q : List PlacedD} {k : Nat} (h : k < q.length) : wNm q k ++ [(q.getD k default).pod.name] = wNm q (k + 1) := takeMap_snoc _ q k h
/-- The names of the pods on a host. -/
def bndN (ps : List PlacedD) (nm : ByteArray) : List ByteArray := (boundB ps nm).map fun p => p.pod.name
theorem bnd_len (ps : List PlacedD) (k : Nat) (nm : ByteArray) : (bndN (ps.take k) nm).length ≤ ps.length := by unfold bndN; rw [List.length_map]; exact bound_len ps k nm
theorem bnd_yes {ps : List PlacedD} {nm : ByteArray} {k : Nat} (h : k < ps.length) (h1 : emptyB nm = false) (h2 : eqB (ps.getD k default).on nm = true) : bndN (ps.take k) nm ++ [(ps.getD k default).pod.name] = bndN (ps.take (k + 1)) nm := by
  unfold bndN
  rw [boundB_snoc h, h1, h2, List.map_append]; rfl
theorem bnd_no {ps : List PlacedD} {nm : ByteArray} {k : Nat} (h : k < ps.length) (h1 : emptyB nm = true ∨ eqB (ps.getD k default).on nm = false) : bndN (ps.take k) nm = bndN (ps.take (k + 1)) nm := by
  unfold bndN
  rw [boundB_snoc h]
  rcases h1 with h1 | h1 <;> rw [h1] <;> simp
theorem bnd_end {ps : List PlacedD} {nm : ByteArray} {k : Nat} (h : ps.length ≤ k ∨ emptyB nm = true) : bndN (ps.take k) nm = bndN ps nm := by unfold bndN; rw [boundB_end h]
theorem bnd_all (ps : List PlacedD) (nm : ByteArray) : (bndN ps nm).length ≤ ps.length := by have := bnd_len ps ps.length nm; rwa [List.take_of_length_le (Nat.le_refl _)] at this
theorem bnd_sz {c : ClusterD} (hc : c.fine) (nm : ByteArray) : ∀ x ∈ bndN c.pods nm, x.size ≤ 1048576 := fun x hx => by
  unfold bndN at hx
  obtain ⟨p, hp, rfl⟩ := List.mem_map.1 hx
  unfold boundB at hp
  split at hp
  · cases hp
  · obtain ⟨j, rfl⟩ := mem_getD (List.mem_filter.1 hp).1
    exact (hc.pod j).name
theorem bnd_at {c : ClusterD} (hc : c.fine) (nm : ByteArray) (k : Nat) : ((bndN c.pods nm).getD k default).size ≤ 1048576 := by
  rcases Nat.lt_or_ge k (bndN c.pods nm).length with hk | hk
  · rw [getD_at hk]; exact bnd_sz hc nm _ (List.getElem_mem _)
  · rw [List.getD_eq_getElem?_getD, List.getElem?_eq_none hk]; decide
/-- A line so far: s, and the first k of q. -/
def lnJ (s : ByteArray) (q : List ByteArray) (k : Nat) : ByteArray := (q.take k).foldl (fun s x => s ++ ⟨#[32]⟩ ++ x) s
theorem lnJ_0 (s : ByteArray) (q : List ByteArray) : lnJ s q 0 = s := rfl
theorem lnJ_go {s : ByteArray} {q : List ByteArray} {k : Nat} (h : k < q.length) : lnJ s q k ++ ⟨#[32]⟩ ++ q.getD k default = lnJ s q (k + 1) := by unfold lnJ; rw [take_snoc q k h, List.foldl_append]; rfl
theorem fold_sz : ∀ (q : List ByteArray) (s : ByteArray), (∀ x ∈ q, x.size ≤ 1048576) → (q.foldl (fun s x => s ++ ⟨#[32]⟩ ++ x) s).size ≤ s.size + q.length * 1048577
  | [], s, _ => by show s.size ≤ _; omega
  | x :: r, s, h => by
    have h1 := fold_sz r (s ++ ⟨#[32]⟩ ++ x) fun y hy => h y (List.mem_cons_of_mem _ hy)
    have h2 := h x (List.mem_cons_self ..)
    have h3 : (s ++ ⟨#[32]⟩ ++ x).size = s.size + 1 + x.size := by rw [ByteArray.size_append, ByteArray.size_append]; rfl
    show (r.foldl _ (s ++ ⟨#[32]⟩ ++ x)).size ≤ s.size + (r.length + 1) * 1048577
    omega
theorem lnJ_sz {s : ByteArray} {q : List ByteArray} (h : ∀ x ∈ q, x.size ≤ 1048576) (k : Nat) : (lnJ s q k).size ≤ s.size + q.length * 1048577 := by
  have h1 := fold_sz (q.take k) s fun x hx => h x (List.mem_of_mem_take hx)
  have h2 : (q.take k).length ≤ q.length := by rw [List.length_take]; omega
  exact Nat.le_trans h1 (Nat.add_le_add_left (Nat.mul_le_mul h2 (Nat.le_refl _)) _)
theorem join_fold : ∀ (r : List ByteArray) (w : ByteArray), joinB (w :: r) ⟨#[32]⟩ = r.foldl (fun s x => s ++ ⟨#[32]⟩ ++ x) w
  | [], w => by
    show (⟨(Lib.join [w.data.toList] [32]).toArray⟩ : ByteArray) = w
    rw [show Lib.join [w.data.toList] [32] = w.data.toList by simp [Lib.join]]
  | v :: r, w => by
    rw [List.foldl_cons, ← join_fold r (w ++ ⟨#[32]⟩ ++ v)]
    unfold joinB
    congr 2
    cases r with
    | nil => simp [Lib.join]
    | cons x r => simp [Lib.join]
def hostHd (h : HostD) : ByteArray := ⟨#[104, 111, 115, 116, 32]⟩ ++ h.name ++ ⟨#[32]⟩ ++ amtB h.cpu ++ ⟨#[32]⟩ ++ amtB h.mem
def hostLn (c : ClusterD) (h : HostD) : ByteArray := lnJ (hostHd h) (bndN c.pods h.name) (bndN c.pods h.name).length
def hostP (c : ClusterD) (h : HostD) : List ByteArray := ⟨#[104, 111, 115, 116]⟩ :: h.name :: amtB h.cpu :: amtB h.mem :: bndN c.pods h.name
theorem hostP_ln (c : ClusterD) (h : HostD) : joinB (hostP c h) ⟨#[32]⟩ = hostLn c h := by
  unfold hostP hostLn lnJ hostHd
  rw [join_fold, List.take_of_length_le (Nat.le_refl _), List.foldl_cons, List.foldl_cons, List.foldl_cons]
  rfl
theorem hostHd_sz {h : HostD} (hh : h.fine) : (hostHd h).size ≤ 1048700 := by
  have h1 := amt_sz hh.cpu.2
  have h2 := amt_sz hh.mem.2
  have h3 := hh.name
  unfold hostHd
  rw [ByteArray.size_append, ByteArray.size_append, ByteArray.size_append, ByteArray.size_append, ByteArray.size_append]
  have e1 : (⟨#[104, 111, 115, 116, 32]⟩ : ByteArray).size = 5 := rfl
  have e2 : (⟨#[32]⟩ : ByteArray).size = 1 := rfl
  unfold strOk at h3
  omega
theorem hostLn_sz {c : ClusterD} (hc : c.fine) (k : Nat) : (hostLn c (c.hosts.getD k default)).size ≤ 1099513800000 := by
  have h1 := lnJ_sz (s := hostHd (c.hosts.getD k default)) (bnd_sz hc (c.hosts.getD k default).name) (bndN c.pods (c.hosts.getD k default).name).length
  have h2 := hostHd_sz (hc.host k)
  have h3 := bnd_all c.pods (c.hosts.getD k default).name
  have h4 := hc.plen
  unfold hostLn
  omega
theorem hostP_sz {c : ClusterD} (hc : c.fine) (k : Nat) : (joinB (hostP c (c.hosts.getD k default)) ⟨#[32]⟩).size ≤ 140737488355328 ∧ (hostP c (c.hosts.getD k default)).length ≤ 140737488355328 := by
  refine ⟨by rw [hostP_ln]; have := hostLn_sz hc k; omega, ?_⟩
  have := bnd_all c.pods (c.hosts.getD k default).name
  have h4 := hc.plen
  show (bndN c.pods (c.hosts.getD k default).name).length + 1 + 1 + 1 + 1 ≤ _
  omega
/-- The lines of the first k hosts. -/
def linH (c : ClusterD) (k : Nat) : List ByteArray := (c.hosts.take k).map (hostLn c)
theorem linH_go {c : ClusterD} {k : Nat} (h : k < c.hosts.length) : linH c k ++ [hostLn c (c.hosts.getD k default)] = linH c (k + 1) := takeMap_snoc _ _ _ h
theorem linH_len {c : ClusterD} {k : Nat} (h : k ≤ c.hosts.length) : (linH c k).length = k := takeMap_len _ _ _ h
def waitLn (x : ByteArray) : ByteArray := ⟨#[119, 97, 105, 116, 115, 32]⟩ ++ x
/-- All lines but those of the pods behind the k-th that waits. -/
def linW (c : ClusterD) (u : List ByteArray) (k : Nat) : List ByteArray := linH c c.hosts.length ++ (u.take k).map waitLn
theorem waitLn_eq (x : ByteArray) : waitLn x = ⟨#[119, 97, 105, 116, 115, 32]⟩ ++ x := rfl
theorem linW_go {c : ClusterD} {u : List ByteArray} {k : Nat} (h : k < u.length) : linW c u k ++ [waitLn (u.getD k default)] = linW c u (k + 1) := by unfold linW; rw [List.append_assoc, takeMap_snoc _ _ _ h]
theorem linW_len {c : ClusterD} {u : List ByteArray} {k : Nat} (h : k ≤ u.length) : (linW c u k).length = c.hosts.length + k := by unfold linW; rw [List.length_append, linH_len (Nat.le_refl _), takeMap_len _ _ _ h]
def cluL (c : ClusterD) (u : List ByteArray) : List ByteArray := linW c u u.length

theorem hostHd_eq (h : HostD) : hostHd h = ⟨#[104, 111, 115, 116, 32]⟩ ++ h.name ++ ⟨#[32]⟩ ++ amtB h.cpu ++ ⟨#[32]⟩ ++ amtB h.mem := rfl
theorem strs_hostP (c : ClusterD) (h : HostD) : strsD (hostP c h) = .sc (.string ⟨#[104, 111, 115, 116]⟩) :: .sc (.string h.name) :: .sc (.string (amtB h.cpu)) :: .sc (.string (amtB h.mem)) :: strsD (bndN c.pods h.name) := rfl
theorem len_hostP (c : ClusterD) (h : HostD) : (hostP c h).length = 4 + (bndN c.pods h.name).length := by show (bndN c.pods h.name).length + 1 + 1 + 1 + 1 = _; omega
theorem join_H {c : ClusterD} (hc : c.fine) (i : Nat) : Spec Tryz.prog 52 [.sl (4 + (bndN c.pods (c.hosts.getD i default).name).length) (.sc (.string ⟨#[104, 111, 115, 116]⟩) :: .sc (.string (c.hosts.getD i default).name) :: .sc (.string (amtB (c.hosts.getD i default).cpu)) :: .sc (.string (amtB (c.hosts.getD i default).mem)) :: strsD (bndN c.pods (c.hosts.getD i default).name)), .sc (.string ⟨#[32]⟩)] (fun d => d = .sc (.string (hostLn c (c.hosts.getD i default)))) := by
  have h := join_D (hostP c (c.hosts.getD i default)) ⟨#[32]⟩ (hostP_sz hc i).1 (hostP_sz hc i).2
  rw [len_hostP, hostP_ln] at h
  exact h

theorem spec_BoundOn_A (c : ClusterD) (nm : ByteArray) (hp : c.pods.length ≤ 1048576) : Spec Tryz.prog 46 [c.d, .sc (.string nm)] (fun d => d = .sl (bndN c.pods nm).length (strsD (bndN c.pods nm))) := by
  unfold ClusterD.d
  have ex0 := @strs_put; have ex1 := @strs_app; have ex2 := @placedCells.eq_1; have ex3 := @Nat.sub_zero
  refine spG_ (rs := [.tmp 4]) (nt := 38) Tryz.func46 rfl fun X hX => ?_
  refine nm_ ?_
  repeat' ((first | contradiction | (with_reducible exact tt_) | ((with_reducible show Wk (AwStepF _ _ _ _ _ _ _)); first | (refine app_ rfl ?_)) | ((with_reducible show Wk (AwStep _ _ _ _ _)); first | (refine pln_ ?_)) | ((with_reducible show Wk (AwCode _ _ _ _ _)); first | (refine lpK_ (ι := Nat × List ByteArray) [] [0, 1] 0x66 (fun ⟨k, u⟩ => [(5, .own 1 0 u.length), (6, .sc (.int .i64 (k : Int)))]) (fun ⟨k, u⟩ => [(1, ⟨9, 1, (u).length, strsD (u)⟩)]) (fun ⟨k, u⟩ => k ≤ c.pods.length ∧ u = bndN (c.pods.take k) nm) (fun ⟨k, u⟩ => c.pods.length - k) (0, []) ?_ ?_; (focus (exact ⟨Nat.zero_le _, by unfold bndN boundB; simp⟩)); rintro _ hN0 ⟨k, u⟩ hinv; (try dsimp only at hinv); obtain ⟨hk, hU⟩ := hinv; have hul : u.length ≤ c.pods.length := (by rw [hU]; exact bnd_len _ _ _); replace hU := Lib.hid hU; skip)) | ((with_reducible show Wk (boolK _ _ _ _)); first | (refine bk_ (fun h h' => ?_) (fun h h' => ?_))) | ((with_reducible show Wk (_ ∧ _)); first | (refine and_ ?_ ?_)) | ((with_reducible show Wk (retOkG _ _ _ _)); first | (refine rgg_ [.frz 1] ?_)) | (refine hN0.run ((k + 1, u ++ [(c.pods.getD k default).pod.name])) [] [0, 3] ?_ ?_; (focus (exact ⟨by show k + 1 ≤ _; omega, by show u ++ _ = _; rw [hU.out]; exact bnd_yes (by omega) (by assumption) (by assumption)⟩)); (focus (show c.pods.length - (k + 1) < c.pods.length - k; omega))) | (refine hN0.run ((k + 1, u)) [] [0, 1] ?_ ?_; (focus (exact ⟨by show k + 1 ≤ _; omega, by show u = _; rw [hU.out]; exact bnd_no (by omega) (.inr (by assumption))⟩)); (focus (show c.pods.length - (k + 1) < c.pods.length - k; omega))) | (refine hN0.run ((k + 1, u)) [] [0, 1] ?_ ?_; (focus (exact ⟨by show k + 1 ≤ _; omega, by show u = _; rw [hU.out]; exact bnd_no (by omega) (.inl (by assumption))⟩)); (focus (show c.pods.length - (k + 1) < c.pods.length - k; omega))) | fail) <;> (try refine nm_ ?_))
  all_goals clear ex0 ex1 ex2 ex3
  all_goals (refine ⟨?_⟩)
  all_goals first | contradiction | (exfalso; omega) | (have e9 := hU.out; rw [bnd_end (by first | (left; omega) | (right; assumption))] at e9; subst e9; rfl) | trace_state

theorem impl_BoundOn_A (c : ClusterD) (nm : ByteArray) (hp : c.pods.length ≤ 1048576) : Spec Tryz.prog 53 [c.d, .sc (.string nm)] (fun d => d = .sl (bndN c.pods nm).length (strsD (bndN c.pods nm))) := by
  unfold ClusterD.d
  have ex0 := @strs_put; have ex1 := @strs_app; have ex2 := @placedCells.eq_1; have ex3 := @Nat.sub_zero
  refine spG_ (rs := [.tmp 4]) (nt := 32) Tryz.func53 rfl fun X hX => ?_
  refine nm_ ?_
  repeat' ((first | contradiction | (with_reducible exact tt_) | ((with_reducible show Wk (AwStepF _ _ _ _ _ _ _)); first | (refine app_ rfl ?_)) | ((with_reducible show Wk (AwStep _ _ _ _ _)); first | (refine pln_ ?_)) | ((with_reducible show Wk (AwCode _ _ _ _ _)); first | (refine lpK_ (ι := Nat × List ByteArray) [] [0, 1] 0x1c22 (fun ⟨k, u⟩ => [(5, .own 1 0 u.length), (12, .sc (.int .i64 (k : Int)))]) (fun ⟨k, u⟩ => [(1, ⟨9, 1, (u).length, strsD (u)⟩)]) (fun ⟨k, u⟩ => k ≤ c.pods.length ∧ u = bndN (c.pods.take k) nm) (fun ⟨k, u⟩ => c.pods.length - k) (0, []) ?_ ?_; (focus (exact ⟨Nat.zero_le _, by unfold bndN boundB; simp⟩)); rintro _ hN0 ⟨k, u⟩ hinv; (try dsimp only at hinv); obtain ⟨hk, hU⟩ := hinv; have hul : u.length ≤ c.pods.length := (by rw [hU]; exact bnd_len _ _ _); replace hU := Lib.hid hU; skip)) | ((with_reducible show Wk (boolK _ _ _ _)); first | (refine bk_ (fun h h' => ?_) (fun h h' => ?_))) | ((with_reducible show Wk (_ ∧ _)); first | (refine and_ ?_ ?_)) | ((with_reducible show Wk (retOkG _ _ _ _)); first | (refine rgg_ [.frz 1] ?_)) | (refine hN0.run ((k + 1, u ++ [(c.pods.getD k default).pod.name])) [] [0, 4] ?_ ?_; (focus (exact ⟨by show k + 1 ≤ _; omega, by show u ++ _ = _; rw [hU.out]; exact bnd_yes (by omega) (by assumption) (by assumption)⟩)); (focus (show c.pods.length - (k + 1) < c.pods.length - k; omega))) | (refine hN0.run ((k + 1, u)) [] [0, 1] ?_ ?_; (focus (exact ⟨by show k + 1 ≤ _; omega, by show u = _; rw [hU.out]; exact bnd_no (by omega) (.inr (by assumption))⟩)); (focus (show c.pods.length - (k + 1) < c.pods.length - k; omega))) | (refine hN0.run ((k + 1, u)) [] [0, 1] ?_ ?_; (focus (exact ⟨by show k + 1 ≤ _; omega, by show u = _; rw [hU.out]; exact bnd_no (by omega) (.inl (by assumption))⟩)); (focus (show c.pods.length - (k + 1) < c.pods.length - k; omega))) | fail) <;> (try refine nm_ ?_))
  all_goals clear ex0 ex1 ex2 ex3
  all_goals (refine ⟨?_⟩)
  all_goals first | contradiction | (exfalso; omega) | (have e9 := hU.out; rw [bnd_end (by first | (left; omega) | (right; assumption))] at e9; subst e9; rfl) | trace_state

theorem l22First_X (x y : PlacedD) : Spec Tryz.prog 104 [.agg (placedCells x), .agg (placedCells y)] (fun d => d = .sc (.bool (wtLt x y))) := by
  unfold placedCells
  refine sp_ (rs := [.tmp 4]) (nt := 28) Tryz.func104 rfl fun X hX => ?_
  refine nm_ ?_
  repeat' ((first | contradiction | (with_reducible exact tt_) | ((with_reducible show Wk (AwStep _ _ _ _ _)); first | (refine pln_ ?_)) | ((with_reducible show Wk (boolK _ _ _ _)); first | (refine bk_ (fun h h' => ?_) (fun h h' => ?_))) | ((with_reducible show Wk (_ ∧ _)); first | (refine and_ ?_ ?_)) | fail) <;> (try refine nm_ ?_))
  all_goals (refine ⟨?_⟩)
  all_goals first | contradiction | (exfalso; omega) | (unfold wtLt; first | rfl | (simp_all; done) | (simp_all; omega)) | trace_state

theorem spec_Waiting_A (c : ClusterD) (hp : c.pods.length ≤ 1048576) : Spec Tryz.prog 47 [c.d] (fun d => ∃ q, WtB c q ∧ d = .sl (wNm q q.length).length (strsD (wNm q q.length))) := by
  unfold ClusterD.d
  have ex0 := @ints_app; have ex1 := @ints_put; have ex2 := @strs_put; have ex3 := @strs_app; have ex4 := @Nat.sub_zero
  refine spG_ (rs := [.tmp 2]) (nt := 81) Tryz.func47 rfl fun X hX => ?_
  refine nm_ ?_
  repeat' ((first | contradiction | (with_reducible exact tt_) | ((with_reducible show Wk (AwStepF _ _ _ _ _ _ _)); first | (refine cl_ rfl _ _ (l22First_X (c.pods.getD i default) (c.pods.getD (o.getD j default).toNat default)) rfl rfl ?_; rintro _ rfl) | (refine app_ rfl ?_)) | ((with_reducible show Wk (AwStep _ _ _ _ _)); first | (refine pln_ ?_)) | ((with_reducible show Wk (AwCode _ _ _ _ _)); first | (refine wo_ (id := 7) [] [(0, true), (1, true), (2, true), (3, true), (4, true), (5, true), (6, true), (7, true), (8, true), (9, true), (10, true), (11, true), (12, true), (13, true), (14, true), (15, true), (16, true), (17, true), (18, false), (19, true), (20, true)] ?_) | (refine wo_ (id := 15) [2] [(0, true), (1, true), (2, true), (3, true), (4, true), (5, true), (6, true), (7, true), (8, true), (9, true), (10, true), (11, false), (12, false), (13, true)] ?_) | ((with_reducible show Wk (AwCode _ _ (.loop (.seq (.seq (.region 13 _ _) _) _)) _ _)); refine lpK_ (ι := Nat × List ByteArray) [] [0, 1, 2] 0x18a (fun ⟨k, u⟩ => [(8, .sc (.int .i64 (k : Int))), (7, .own 2 0 u.length)]) (fun ⟨k, u⟩ => [(2, ⟨9, 1, (u).length, strsD (u)⟩)]) (fun ⟨k, u⟩ => k ≤ o.length ∧ u = wNm (o.map (podIq c)) k) (fun ⟨k, u⟩ => o.length - k) (0, []) ?_ ?_; (focus (exact ⟨Nat.zero_le _, rfl⟩)); rintro _ hN2 ⟨k, u⟩ hinv; (try dsimp only at hinv); obtain ⟨hk, hU⟩ := hinv; have hul : u.length ≤ k := (by rw [hU]; exact wNm_len _ _); replace hU := Lib.hid hU; have hkx : k < o.length → 0 ≤ o.getD k default ∧ o.getD k default < c.pods.length := fun h => hW.out.w.at_ h; skip) | ((with_reducible show Wk (AwCode _ _ (.loop (.seq (.seq (.region 7 _ _) _) _)) _ _)); refine lpK_ (ι := Nat) [] [0, 1] 0x3a (fun j => [(5, .sc (.int .i64 (j : Int)))]) (fun j => []) (fun j => j ≤ o.length ∧ ∀ t, t < j → wtLt (c.pods.getD i default) (podIq c (o.getD t default)) = false) (fun j => o.length - j) 0 ?_ ?_; (focus (exact ⟨Nat.zero_le _, fun t h => absurd h (Nat.not_lt_zero _)⟩)); rintro _ hN1 j hinv; (try dsimp only at hinv); obtain ⟨hj, hjt⟩ := hinv; replace hjt := Lib.hid hjt; obtain ⟨a, b, hcut, la, lb, ta, tb⟩ := ints_cut o j j (by omega) (by omega); replace hcut := Lib.hid hcut; have hjx : j < o.length → 0 ≤ o.getD j default ∧ o.getD j default < c.pods.length := fun h => hW.out.w.at_ h; skip) | ((with_reducible show Wk (AwCode _ _ (.loop (.seq (.seq (.region 3 _ _) _) _)) _ _)); refine lpK_ (ι := Nat × List Int) [] [0, 1] 0x1a (fun ⟨i, o⟩ => [(4, .sc (.int .i64 (i : Int))), (3, .own 1 0 o.length)]) (fun ⟨i, o⟩ => [(1, ⟨3, 1, (o).length, intsD (o)⟩)]) (fun ⟨i, o⟩ => i ≤ c.pods.length ∧ WtJ c i o) (fun ⟨i, o⟩ => c.pods.length - i) (0, []) ?_ ?_; (focus (exact ⟨Nat.zero_le _, wtJ_0 c⟩)); rintro _ hN0 ⟨i, o⟩ hinv; (try dsimp only at hinv); obtain ⟨hi, hW⟩ := hinv; have hol := hW.w.len; replace hW := Lib.hid hW; skip)) | ((with_reducible show Wk (boolK _ _ _ _)); first | (refine bk_ (fun h h' => ?_) (fun h h' => ?_))) | ((with_reducible show Wk (_ ∧ _)); first | (refine and_ ?_ ?_)) | ((with_reducible show Wk (stepK _ _ _)); first | (refine ite_ (fun hs => ?_) (fun hs => ?_))) | ((with_reducible show Wk (retOkG _ _ _ _)); first | (refine rgg_ [.frz 2] ?_)) | (refine hN2.run ((k + 1, u ++ [(c.pods.getD (o.getD k default).toNat default).pod.name])) [] [0, 1, 4] ?_ ?_; (focus (exact ⟨by show k + 1 ≤ o.length; omega, by show u ++ _ = _; rw [hU.out]; exact wNm_go (by omega)⟩)); (focus (show o.length - (k + 1) < o.length - k; omega))) | (refine hN1.run (j + 1) [] [0, 1] ?_ ?_; (focus (exact ⟨by show j + 1 ≤ o.length; omega, wt_step hjt.out (by first | assumption | (simp_all; done))⟩)); (focus (show o.length - (j + 1) < o.length - j; omega))) | (refine hN0.run ((i + 1, a ++ [(i : Int)] ++ b)) [] [0, 6] ?_ ?_; (focus (exact ⟨by show i + 1 ≤ c.pods.length; omega, wtJ_go hW.out (by omega) (eB_t (by assumption)) hcut.out.fst hcut.out.snd hjt.out (fun hl => by first | assumption | (exfalso; omega) | (simp_all; done)) (by omega)⟩)); (focus (show c.pods.length - (i + 1) < c.pods.length - i; omega))) | (refine hN0.run ((i + 1, a ++ [(i : Int)])) [] [0, 6] ?_ ?_; (focus (exact ⟨by show i + 1 ≤ c.pods.length; omega, wtJ_end hW.out (by omega) (eB_t (by assumption)) hcut.out.fst hjt.out (by omega)⟩)); (focus (show c.pods.length - (i + 1) < c.pods.length - i; omega))) | (refine hN0.run ((i + 1, o)) [] [0, 1] ?_ ?_; (focus (exact ⟨by show i + 1 ≤ c.pods.length; omega, wtJ_no hW.out (by omega) (by first | assumption | (unfold emptyB; simp_all; done))⟩)); (focus (show c.pods.length - (i + 1) < c.pods.length - i; omega))) | fail) <;> (try refine nm_ ?_))
  all_goals clear ex0 ex1 ex2 ex3 ex4
  all_goals (refine ⟨?_⟩)
  all_goals first | contradiction | (exfalso; omega) | (have ek : k = (o.map (podIq c)).length := (by rw [List.length_map]; omega); have ei : i = c.pods.length := (by omega); subst ei; have e9 := hU.out; rw [ek] at e9; refine ⟨(o.map (podIq c)), hW.out.fin, ?_⟩; rw [← e9]) | trace_state

theorem impl_Waiting_A (c : ClusterD) (hp : c.pods.length ≤ 1048576) : Spec Tryz.prog 54 [c.d] (fun d => ∃ q, WtB c q ∧ d = .sl (wNm q q.length).length (strsD (wNm q q.length))) := by
  unfold ClusterD.d
  have ex0 := @placedsD_snoc; have ex1 := @strs_put; have ex2 := @strs_app; have ex3 := @Nat.sub_zero
  refine spG_ (rs := [.tmp 2]) (nt := 42) Tryz.func54 rfl fun X hX => ?_
  refine nm_ ?_
  repeat' ((first | contradiction | (with_reducible exact tt_) | ((with_reducible show Wk (AwStepF _ _ _ _ _ _ _)); first | (refine app_ rfl ?_) | (refine awH_ rfl (sortS_X L L.length rfl (by omega)) [1] ?_; rintro _ _ _ ⟨q, hS, rfl, rfl, rfl⟩ _; (obtain ⟨N, hN⟩ : ∃ n, L.length = n := ⟨_, rfl⟩; have hql : q.length = N := (by rw [hS.mv.len]; exact hN); rw [hN]; replace hS := Lib.hid hS))) | ((with_reducible show Wk (AwStep _ _ _ _ _)); first | (refine pln_ ?_)) | ((with_reducible show Wk (AwCode _ _ _ _ _)); first | ((with_reducible show Wk (AwCode _ _ (.loop (.seq (.region 11 _ _) _)) _ _)); refine lpK_ (ι := Nat × List ByteArray) [] [0, 1, 2] 0x70000040 (fun ⟨m, u⟩ => [(30, .sc (.int .i64 (m : Int))), (6, .own 2 0 u.length)]) (fun ⟨m, u⟩ => [(2, ⟨9, 1, (u).length, strsD (u)⟩)]) (fun ⟨m, u⟩ => m ≤ N ∧ u = wNm q m) (fun ⟨m, u⟩ => N - m) (0, []) ?_ ?_; (focus (exact ⟨Nat.zero_le _, rfl⟩)); rintro _ hN1 ⟨m, u⟩ hinv; (try dsimp only at hinv); obtain ⟨hm, hU⟩ := hinv; have hul : u.length ≤ m := (by rw [hU]; exact wNm_len _ _); replace hU := Lib.hid hU; skip) | ((with_reducible show Wk (AwCode _ _ (.loop (.seq (.region 3 _ _) _)) _ _)); refine lpK_ (ι := Nat × List PlacedD) [] [0, 1] 0x3808 (fun ⟨k, L⟩ => [(13, .sc (.int .i64 (k : Int))), (3, .own 1 0 L.length)]) (fun ⟨k, L⟩ => [(1, ⟨163, 9, (L).length, placedsD (L)⟩)]) (fun ⟨k, L⟩ => k ≤ c.pods.length ∧ L = waitP c k) (fun ⟨k, L⟩ => c.pods.length - k) (0, []) ?_ ?_; (focus (exact ⟨Nat.zero_le _, rfl⟩)); rintro _ hN0 ⟨k, L⟩ hinv; (try dsimp only at hinv); obtain ⟨hk, hL⟩ := hinv; have hLl : L.length ≤ k := (by rw [hL]; exact wait_len c k); replace hL := Lib.hid hL; skip)) | ((with_reducible show Wk (boolK _ _ _ _)); first | (refine bk_ (fun h h' => ?_) (fun h h' => ?_))) | ((with_reducible show Wk (_ ∧ _)); first | (refine and_ ?_ ?_)) | ((with_reducible show Wk (retOkG _ _ _ _)); first | (refine rgg_ [.frz 2] ?_)) | (refine hN1.run ((m + 1, u ++ [(q.getD m default).pod.name])) [] [0, 1, 5] ?_ ?_; (focus (exact ⟨by show m + 1 ≤ N; omega, by show u ++ _ = _; rw [hU.out]; exact wNm_put (by omega)⟩)); (focus (show N - (m + 1) < N - m; omega))) | (refine hN0.run ((k + 1, L ++ [c.pods.getD k default])) [] [0, 4] ?_ ?_; (focus (exact ⟨by show k + 1 ≤ c.pods.length; omega, by show L ++ _ = _; rw [hL.out]; exact (wait_go (by omega) (eB_t (by assumption))).symm⟩)); (focus (show c.pods.length - (k + 1) < c.pods.length - k; omega))) | (refine hN0.run ((k + 1, L)) [] [0, 1] ?_ ?_; (focus (exact ⟨by show k + 1 ≤ c.pods.length; omega, by show L = _; rw [hL.out]; exact (wait_no (by omega) (by assumption)).symm⟩)); (focus (show c.pods.length - (k + 1) < c.pods.length - k; omega))) | fail) <;> (try refine nm_ ?_))
  all_goals clear ex0 ex1 ex2 ex3
  all_goals (refine ⟨?_⟩)
  all_goals first | contradiction | (exfalso; omega) | (have em : m = q.length := (by omega); have ek : k = c.pods.length := (by omega); have hS9 := hS.out; have hL9 := hL.out; rw [ek] at hL9; rw [hL9] at hS9; have e9 := hU.out; rw [em] at e9; refine ⟨q, hS9, ?_⟩; rw [← e9]) | trace_state

theorem spec_ClusterLines_A (c : ClusterD) (hc : c.fine) : Spec Tryz.prog 8 [c.d] (fun d => ∃ q, WtB c q ∧ d = .sl (cluL c (wNm q q.length)).length (strsD (cluL c (wNm q q.length)))) := by
  have hp := hc.plen; have hh := hc.hlen; unfold ClusterD.d
  have ex0 := @strs_put; have ex1 := @strs_app; have ex2 := @ByteArray.size_append; have ex3 := @waitLn_eq; have ex4 := @Nat.sub_zero; have ex5 := @hostHd_eq
  refine spG_ (rs := [.tmp 2]) (nt := 75) Tryz.func8 rfl fun X hX => ?_
  refine nm_ ?_
  repeat' ((first | contradiction | (with_reducible exact tt_) | ((with_reducible show Wk (AwStepF _ _ _ _ _ _ _)); first | (refine cl_ rfl _ _ (spec_AmountText_A (c.hosts.getD i default).cpu hcpu) rfl rfl ?_; rintro _ rfl) | (refine cl_ rfl _ _ (spec_AmountText_A (c.hosts.getD i default).mem hmem) rfl rfl ?_; rintro _ rfl) | (refine cl_ rfl _ _ (spec_BoundOn_A c (c.hosts.getD i default).name (by omega)) rfl rfl ?_; rintro _ rfl) | (refine cl_ rfl _ _ (spec_Waiting_A c (by omega)) rfl rfl ?_; rintro _ ⟨q, hq, rfl⟩; (have hwz := wNm_sz hc hq; have hwl := wNm_all q; have hql := hq.len; generalize hu : wNm q q.length = u at *; have hul : u.length ≤ c.pods.length := (by omega); replace hu := Lib.hid hu; have huz := Lib.hid hwz; clear hwz hwl hql; replace hq := Lib.hid hq)) | (refine app_ rfl ?_)) | ((with_reducible show Wk (AwStep _ _ _ _ _)); first | (refine pln_ ?_)) | ((with_reducible show Wk (AwCode _ _ _ _ _)); first | (refine wo_ (id := 6) [] [(0, true), (1, true), (2, true), (3, true), (4, true), (5, true), (9, true), (10, true), (6, false), (7, true), (8, true), (11, false), (12, true), (13, true)] ?_) | ((with_reducible show Wk (AwCode _ _ (.loop (.seq (.seq (.region 15 _ _) _) _)) _ _)); refine lpK_ (ι := Nat × List ByteArray) [] [0, 1] 0x608 (fun ⟨m, o⟩ => [(10, .sc (.int .i64 (m : Int))), (3, .own 1 0 o.length)]) (fun ⟨m, o⟩ => [(1, ⟨9, 1, (o).length, strsD (o)⟩)]) (fun ⟨m, o⟩ => m ≤ u.length ∧ o = linW c u m) (fun ⟨m, o⟩ => u.length - m) (0, o) ?_ ?_; (focus (exact ⟨Nat.zero_le _, by unfold linW; rw [hO.out, show i = c.hosts.length by omega]; simp⟩)); rintro _ hN2 ⟨m, o⟩ hinv; (try dsimp only at hinv); obtain ⟨hm, hO2⟩ := hinv; have hol2 : o.length = c.hosts.length + m := (by rw [hO2]; exact linW_len hm); have hum := huz.out m; replace hO2 := Lib.hid hO2; skip) | ((with_reducible show Wk (AwCode _ _ (.loop (.seq (.seq (.region 9 _ _) _) _)) _ _)); refine lpK_ (ι := Nat × ByteArray) [] [0, 1] 0x1da (fun ⟨k, s⟩ => [(6, .sc (.string s)), (8, .sc (.int .i64 (k : Int)))]) (fun ⟨k, s⟩ => []) (fun ⟨k, s⟩ => k ≤ (bndN c.pods (c.hosts.getD i default).name).length ∧ s = lnJ (hostHd (c.hosts.getD i default)) (bndN c.pods (c.hosts.getD i default).name) k) (fun ⟨k, s⟩ => (bndN c.pods (c.hosts.getD i default).name).length - k) (0, hostHd (c.hosts.getD i default)) ?_ ?_; (focus (exact ⟨Nat.zero_le _, rfl⟩)); rintro _ hN1 ⟨k, s⟩ hinv; (try dsimp only at hinv); obtain ⟨hk, hs⟩ := hinv; have hsz : s.size ≤ 1099513800000 := (by rw [hs]; have h1 := lnJ_sz (s := hostHd (c.hosts.getD i default)) (bnd_sz hc (c.hosts.getD i default).name) k; have h2 := hostHd_sz (hc.host i); omega); have hk1 := bnd_at hc (c.hosts.getD i default).name k; replace hs := Lib.hid hs; skip) | ((with_reducible show Wk (AwCode _ _ (.loop (.seq (.seq (.region 3 _ _) _) _)) _ _)); refine lpK_ (ι := Nat × List ByteArray) [] [0, 1] 0x1a (fun ⟨i, o⟩ => [(4, .sc (.int .i64 (i : Int))), (3, .own 1 0 o.length)]) (fun ⟨i, o⟩ => [(1, ⟨9, 1, (o).length, strsD (o)⟩)]) (fun ⟨i, o⟩ => i ≤ c.hosts.length ∧ o = linH c i) (fun ⟨i, o⟩ => c.hosts.length - i) (0, []) ?_ ?_; (focus (exact ⟨Nat.zero_le _, rfl⟩)); rintro _ hN0 ⟨i, o⟩ hinv; (try dsimp only at hinv); obtain ⟨hi, hO⟩ := hinv; have hol : o.length = i := (by rw [hO]; exact linH_len hi); have hcpu := (hc.host i).cpu.2; have hmem := (hc.host i).mem.2; have hnm := (hc.host i).name; unfold strOk at hnm; have hz1 := amt_sz hcpu; have hz2 := amt_sz hmem; have hbl := bnd_all c.pods (c.hosts.getD i default).name; replace hO := Lib.hid hO; skip)) | ((with_reducible show Wk (boolK _ _ _ _)); first | (refine bk_ (fun h h' => ?_) (fun h h' => ?_))) | ((with_reducible show Wk (_ ∧ _)); first | (refine and_ ?_ ?_)) | ((with_reducible show Wk (retOkG _ _ _ _)); first | (refine rgg_ [.frz 1] ?_)) | (refine hN2.run ((m + 1, o ++ [waitLn (u.getD m default)])) [] [0, 3] ?_ ?_; (focus (exact ⟨by show m + 1 ≤ _; omega, by show o ++ _ = _; rw [hO2.out]; exact linW_go (by omega)⟩)); (focus (show u.length - (m + 1) < u.length - m; omega))) | (refine hN1.run ((k + 1, _)) [] [0, 1] ?_ ?_; (focus (exact ⟨by show k + 1 ≤ _; omega, by show s ++ _ ++ _ = _; rw [hs.out]; exact lnJ_go (by omega)⟩)); (focus (show (bndN c.pods (c.hosts.getD i default).name).length - (k + 1) < (bndN c.pods (c.hosts.getD i default).name).length - k; omega))) | (refine hN0.run ((i + 1, o ++ [s])) [] [0, 3] ?_ ?_; (focus (exact ⟨by show i + 1 ≤ _; omega, by show o ++ _ = _; rw [hO.out, hs.out, show k = (bndN c.pods (c.hosts.getD i default).name).length by omega]; exact linH_go (by omega)⟩)); (focus (show c.hosts.length - (i + 1) < c.hosts.length - i; omega))) | fail) <;> (try refine nm_ ?_))
  all_goals clear ex0 ex1 ex2 ex3 ex4 ex5
  all_goals (refine ⟨?_⟩)
  all_goals first | contradiction | (exfalso; omega) | (have e9 := hO2.out; rw [show m = u.length by omega] at e9; refine ⟨q, hq.out, ?_⟩; rw [hu.out]; unfold cluL; rw [← e9, hol2]) | trace_state

theorem impl_ClusterLines_A (c : ClusterD) (hc : c.fine) : SpecH Tryz.prog 10 [c.d] [] 0 (fun d os' nb' => ∃ q, WtB c q ∧ d = .own 0 0 (cluL c (wNm q q.length)).length ∧ os' = [(0, ⟨9, 1, (cluL c (wNm q q.length)).length, strsD (cluL c (wNm q q.length))⟩)] ∧ nb' = 1) := by
  have hp := hc.plen; have hh := hc.hlen; unfold ClusterD.d
  have ex0 := @strs_put; have ex1 := @strs_app; have ex2 := @ByteArray.size_append; have ex3 := @waitLn_eq; have ex4 := @Nat.sub_zero
  refine spH_ (rs := [.tmp 2]) (nt := 51) Tryz.func10 rfl fun X hX => ?_
  refine nm_ ?_
  repeat' ((first | contradiction | (with_reducible exact tt_) | ((with_reducible show Wk (AwStepF _ _ _ _ _ _ _)); first | (refine cl_ rfl _ _ (impl_AmountText_A (c.hosts.getD i default).cpu hcpu) rfl rfl ?_; rintro _ rfl) | (refine cl_ rfl _ _ (impl_AmountText_A (c.hosts.getD i default).mem hmem) rfl rfl ?_; rintro _ rfl) | (refine cl_ rfl _ _ (impl_BoundOn_A c (c.hosts.getD i default).name (by omega)) rfl rfl ?_; rintro _ rfl) | (refine cl_ rfl _ _ (impl_Waiting_A c (by omega)) rfl rfl ?_; rintro _ ⟨q, hq, rfl⟩; (have hwz := wNm_sz hc hq; have hwl := wNm_all q; have hql := hq.len; generalize hu : wNm q q.length = u at *; have hul : u.length ≤ c.pods.length := (by omega); replace hu := Lib.hid hu; have huz := Lib.hid hwz; clear hwz hwl hql; replace hq := Lib.hid hq)) | (refine app_ rfl ?_) | (refine afz_ [4] ?_; refine nm_ ?_; refine cl_ rfl _ _ (join_H hc i) rfl rfl ?_; rintro _ rfl)) | ((with_reducible show Wk (AwStep _ _ _ _ _)); first | (refine pln_ ?_)) | ((with_reducible show Wk (AwCode _ _ _ _ _)); first | (refine wo_ (id := 5) [] [(0, true), (1, true), (2, true), (3, true), (5, true), (6, true), (4, false), (7, false), (8, false), (9, true)] ?_) | ((with_reducible show Wk (AwCode _ _ (.loop (.seq (.region 9 _ _) _)) _ _)); refine lpK_ (ι := Nat × List ByteArray) [] [0, 1] 0x1c000000008 (fun ⟨m, o⟩ => [(40, .sc (.int .i64 (m : Int))), (3, .own 1 0 o.length)]) (fun ⟨m, o⟩ => [(1, ⟨9, 1, (o).length, strsD (o)⟩)]) (fun ⟨m, o⟩ => m ≤ u.length ∧ o = linW c u m) (fun ⟨m, o⟩ => u.length - m) (0, o) ?_ ?_; (focus (exact ⟨Nat.zero_le _, by unfold linW; rw [hO.out, show i = c.hosts.length by omega]; simp⟩)); rintro _ hN1 ⟨m, o⟩ hinv; (try dsimp only at hinv); obtain ⟨hm, hO2⟩ := hinv; have hol2 : o.length = c.hosts.length + m := (by rw [hO2]; exact linW_len hm); have hum := huz.out m; replace hO2 := Lib.hid hO2; skip) | ((with_reducible show Wk (AwCode _ _ (.loop (.seq (.region 3 _ _) _)) _ _)); refine lpK_ (ι := Nat × List ByteArray) [] [0, 1] 0x380a (fun ⟨i, o⟩ => [(13, .sc (.int .i64 (i : Int))), (3, .own 1 0 o.length)]) (fun ⟨i, o⟩ => [(1, ⟨9, 1, (o).length, strsD (o)⟩)]) (fun ⟨i, o⟩ => i ≤ c.hosts.length ∧ o = linH c i) (fun ⟨i, o⟩ => c.hosts.length - i) (0, []) ?_ ?_; (focus (exact ⟨Nat.zero_le _, rfl⟩)); rintro _ hN0 ⟨i, o⟩ hinv; (try dsimp only at hinv); obtain ⟨hi, hO⟩ := hinv; have hol : o.length = i := (by rw [hO]; exact linH_len hi); have hcpu := (hc.host i).cpu.2; have hmem := (hc.host i).mem.2; have hnm := (hc.host i).name; unfold strOk at hnm; have hz1 := amt_sz hcpu; have hz2 := amt_sz hmem; have hbl := bnd_all c.pods (c.hosts.getD i default).name; replace hO := Lib.hid hO; skip)) | ((with_reducible show Wk (boolK _ _ _ _)); first | (refine bk_ (fun h h' => ?_) (fun h h' => ?_))) | ((with_reducible show Wk (_ ∧ _)); first | (refine and_ ?_ ?_)) | ((with_reducible show Wk (retOkH _ _ _ _ _)); first | (refine rh_ [1] ?_)) | (refine hN1.run ((m + 1, o ++ [waitLn (u.getD m default)])) [] [0, 3] ?_ ?_; (focus (exact ⟨by show m + 1 ≤ _; omega, by show o ++ _ = _; rw [hO2.out]; exact linW_go (by omega)⟩)); (focus (show u.length - (m + 1) < u.length - m; omega))) | (refine hN0.run ((i + 1, o ++ [hostLn c (c.hosts.getD i default)])) [] [0, 6] ?_ ?_; (focus (exact ⟨by show i + 1 ≤ _; omega, by show o ++ _ = _; rw [hO.out]; exact linH_go (by omega)⟩)); (focus (show c.hosts.length - (i + 1) < c.hosts.length - i; omega))) | fail) <;> (try refine nm_ ?_))
  all_goals clear ex0 ex1 ex2 ex3 ex4
  all_goals (refine ⟨?_⟩)
  all_goals first | contradiction | (exfalso; omega) | (have e9 := hO2.out; rw [show m = u.length by omega] at e9; refine ⟨q, hq.out, ?_⟩; rw [hu.out]; unfold cluL; rw [← e9, hol2]; first | exact ⟨rfl, rfl, rfl⟩ | exact ⟨rfl, rfl⟩ | rfl) | trace_state

end Go.Proofs.YtidjjfjhmlndjaaGreatDoor
