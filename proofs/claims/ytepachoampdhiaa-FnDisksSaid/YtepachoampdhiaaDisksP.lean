/- What is written, renamed, removed: the plain law behind FnDisks. -/
import Derived.Test.YtepachoampdhiaaFallsP
namespace Go.Proofs.Ytepachoampdhiaa
open Go.RowKit

theorem less_tri : ∀ (a b : List UInt8), Op.bytesLess a b = false → a ≠ b → Op.bytesLess b a = true
  | [], [], _, h => absurd rfl h
  | [], _ :: _, h, _ => by simp [Op.bytesLess] at h
  | _ :: _, [], _, _ => by simp [Op.bytesLess]
  | a :: xs, b :: ys, h, hne => by
    simp only [Op.bytesLess, Bool.or_eq_false_iff, Bool.and_eq_false_iff, decide_eq_false_iff_not, Bool.or_eq_true, Bool.and_eq_true, decide_eq_true_eq, beq_iff_eq, beq_eq_false_iff_ne] at h ⊢
    obtain ⟨h1, h2⟩ := h
    by_cases he : a = b
    · subst he
      refine .inr ⟨rfl, less_tri xs ys (by rcases h2 with h2 | h2; exact absurd rfl h2; exact h2) fun e => hne (by rw [e])⟩
    · left
      have h3 : ¬ a.toNat < b.toNat := h1
      have h4 : a.toNat ≠ b.toNat := fun e => he (UInt8.toNat_inj.1 e)
      show b.toNat < a.toNat
      omega
theorem ba_ne {a b : ByteArray} (h : a ≠ b) : a.toList ≠ b.toList := fun e => h (by
  rw [ByteArray.toList_eq, ByteArray.toList_eq] at e
  exact ByteArray.ext (Array.toList_inj.1 e))
def lessF (a b : FileD) : Prop := Op.bytesLess a.name.toList b.name.toList = true
def goodF (f : FileD) : Prop := NameP f.name ∧ f.text.size ≤ 20000 ∧ 0 ≤ f.synced ∧ f.synced ≤ f.text.size
def SD (fs : List FileD) : Prop := fs.Pairwise lessF ∧ ∀ f ∈ fs, goodF f
theorem sd_of {fs : List FileD} (h : DiskP fs) : SD fs := by
  refine ⟨List.pairwise_iff_getElem.2 fun i j hi hj hij => asc_lt h j i hij hj, fun f hf => ?_⟩
  obtain ⟨i, hi, rfl⟩ := List.getElem_of_mem hf
  obtain ⟨h1, _, h3, h4, h5⟩ := h.2 i hi
  exact ⟨h1, h3, h4, h5⟩
theorem sd_to {fs : List FileD} (h : SD fs) (hl : fs.length ≤ 4) : DiskP fs := by
  refine ⟨hl, fun i hi => ?_⟩
  obtain ⟨h1, h3, h4, h5⟩ := h.2 _ (List.getElem_mem hi)
  exact ⟨h1, fun h0 => List.pairwise_iff_getElem.1 h.1 (i - 1) i (by omega) hi (by omega), h3, h4, h5⟩
theorem lessF_ne {a b : FileD} (h : lessF a b) : a.name ≠ b.name := fun e => by
  unfold lessF at h
  rw [e, less_irrefl] at h
  cases h
theorem sd_uniq {fs : List FileD} (h : SD fs) {i j : Nat} (hi : i < fs.length) (hj : j < fs.length) (he : fs[i].name = fs[j].name) : i = j := by
  rcases Nat.lt_trichotomy i j with h1 | h1 | h1
  · exact absurd he (lessF_ne (List.pairwise_iff_getElem.1 h.1 i j hi hj h1))
  · exact h1
  · exact absurd he.symm (lessF_ne (List.pairwise_iff_getElem.1 h.1 j i hj hi h1))
theorem sd_erase {fs : List FileD} (h : SD fs) (k : Nat) : SD (fs.eraseIdx k) := ⟨h.1.sublist (List.eraseIdx_sublist fs k), fun f hf => h.2 f ((List.eraseIdx_sublist fs k).subset hf)⟩
theorem lay_take {fs : List FileD} (f : FileD) : ∀ x ∈ fs.take (layAt fs f.name), lessF x f := by
  intro x hx
  obtain ⟨i, hi, rfl⟩ := List.getElem_of_mem hx
  rw [List.getElem_take]
  exact layAt_lt (by simp at hi; omega)
theorem lay_drop {fs : List FileD} (h : SD fs) (f : FileD) : ∀ x ∈ fs.drop (layAt fs f.name + layEq fs f.name), lessF f x := by
  intro x hx
  obtain ⟨i, hi, rfl⟩ := List.getElem_of_mem hx
  rw [List.getElem_drop]
  simp only [List.length_drop] at hi
  have hlt : layAt fs f.name < fs.length := by omega
  have h1 := layAt_at hlt
  by_cases he : fs[layAt fs f.name].name = f.name
  · have h2 : layEq fs f.name = 1 := layEq_one hlt he
    have h3 := List.pairwise_iff_getElem.1 h.1 (layAt fs f.name) (layAt fs f.name + layEq fs f.name + i) hlt (by omega) (by omega)
    unfold lessF at h3 ⊢
    generalize fs[layAt fs f.name + layEq fs f.name + i] = y at h3 ⊢
    rw [he] at h3
    exact h3
  · have h2 := less_tri _ _ h1 (ba_ne he)
    have h4 : layEq fs f.name = 0 := layEq_ne hlt he
    rcases Nat.eq_zero_or_pos (layEq fs f.name + i) with h5 | h5
    · have : layAt fs f.name + layEq fs f.name + i = layAt fs f.name := by omega
      unfold lessF
      simp only [this]
      exact h2
    · have h3 := List.pairwise_iff_getElem.1 h.1 (layAt fs f.name) (layAt fs f.name + layEq fs f.name + i) hlt (by omega) (by omega)
      exact less_trans _ _ _ h2 h3
theorem sd_lay {fs : List FileD} (h : SD fs) {f : FileD} (hf : goodF f) : SD (layR fs f) := by
  refine ⟨?_, fun x hx => ?_⟩
  · unfold layR
    refine List.pairwise_append.2 ⟨h.1.sublist (List.take_sublist _ _), List.pairwise_cons.2 ⟨lay_drop h f, h.1.sublist (List.drop_sublist _ _)⟩, fun a ha b hb => ?_⟩
    rcases List.mem_cons.1 hb with rfl | hb
    · exact lay_take _ a ha
    · exact less_trans _ _ _ (lay_take _ a ha) (lay_drop h f b hb)
  · unfold layR at hx
    rcases List.mem_append.1 hx with h1 | h1
    · exact h.2 x (List.mem_of_mem_take h1)
    · rcases List.mem_cons.1 h1 with rfl | h1
      · exact hf
      · exact h.2 x (List.mem_of_mem_drop h1)
theorem lay_find (fs : List FileD) (f : FileD) : (layR fs f).find? (fun x => decide (x.name = f.name)) = some f := by
  unfold layR
  rw [List.find?_append, List.find?_eq_none.2 fun x hx => by simpa using lessF_ne (lay_take f x hx)]
  simp
theorem lay_text (fs : List FileD) (f : FileD) : textD (layR fs f) f.name = f.text ∧ hasD (layR fs f) f.name = true := by
  unfold textD hasD
  rw [lay_find]
  exact ⟨rfl, rfl⟩
theorem lay_len {fs : List FileD} (f : FileD) : (layR fs f).length = fs.length + 1 - layEq fs f.name := by
  unfold layR
  have := layEq_le fs f.name
  simp only [List.length_append, List.length_take, List.length_cons, List.length_drop]
  omega
theorem lay_has {fs : List FileD} (h : SD fs) {nm : ByteArray} (hat : ¬ fileAt fs nm < 0) : layEq fs nm = 1 := by
  rcases fileAt_cases fs nm with ⟨h1, _⟩ | ⟨k, hk, _, h2, _⟩
  · omega
  · have hle : layAt fs nm ≤ k := by
      rcases Nat.lt_or_ge k (layAt fs nm) with h3 | h3
      · have h4 := layAt_lt h3
        rw [h2, less_irrefl] at h4
        cases h4
      · exact h3
    have hlt : layAt fs nm < fs.length := by omega
    refine layEq_one hlt ?_
    rcases Nat.lt_or_eq_of_le hle with h3 | h3
    · have h4 := List.pairwise_iff_getElem.1 h.1 (layAt fs nm) k hlt hk h3
      unfold lessF at h4
      rw [h2, layAt_at hlt] at h4
      cases h4
    · simp only [h3]; exact h2
theorem fileAt_has {fs : List FileD} {nm : ByteArray} (h : hasD fs nm = true) : ∃ k : Nat, ∃ hk : k < fs.length, fileAt fs nm = k ∧ fs[k].name = nm ∧ textD fs nm = fs[k].text := by
  rcases fileAt_cases fs nm with ⟨_, _, _, h1⟩ | ⟨k, hk, h1, h2, _, h3, _⟩
  · rw [h] at h1; cases h1
  · exact ⟨k, hk, h1, h2, h3⟩
theorem erase_none {fs : List FileD} (h : SD fs) {k : Nat} (hk : k < fs.length) : ∀ x ∈ fs.eraseIdx k, x.name ≠ fs[k].name := by
  intro x hx he
  obtain ⟨i, hi, rfl⟩ := List.getElem_of_mem hx
  rw [List.getElem_eraseIdx] at he
  split at he
  · rename_i hik
    have := sd_uniq h (by omega) hk he
    omega
  · rename_i hik
    have := sd_uniq h _ hk he
    omega
theorem at_none {fs : List FileD} {nm : ByteArray} (h : ∀ x ∈ fs, x.name ≠ nm) : fileAt fs nm = -1 := fileAt_none fs nm fun _ hj => h _ (List.getElem_mem hj)
def zz : ByteArray := ⟨#[122, 122]⟩
theorem zz_name : NameP zz := by
  refine ⟨by decide, by decide, by decide, by decide, fun j hj => ?_⟩
  have hj' : j < 2 := hj
  rcases j with _ | _ | j
  · exact .inl (by decide)
  · exact .inl (by decide)
  · omega
/-- What FnDisks wants where the write went through. -/
theorem disks_yes {fs : List FileD} {nm tx : ByteArray} (h : DiskP fs ∧ NameP nm ∧ tx.size ≤ 20000) (h1 : ¬ (fileAt fs nm < 0 ∧ 4 ≤ fs.length)) :
    DiskP (layR fs ⟨nm, tx, 0⟩) ∧ (textD (layR fs ⟨nm, tx, 0⟩) nm = tx ∧ hasD (layR fs ⟨nm, tx, 0⟩) nm = true) ∧
    (renameR (layR fs ⟨nm, tx, 0⟩) nm zz).2 = 0 ∧ (textD (renameR (layR fs ⟨nm, tx, 0⟩) nm zz).1 zz = tx ∧ hasD (renameR (layR fs ⟨nm, tx, 0⟩) nm zz).1 zz = true) ∧
    (nm = zz ∨ fileAt (renameR (layR fs ⟨nm, tx, 0⟩) nm zz).1 nm = -1) ∧ (removeR (renameR (layR fs ⟨nm, tx, 0⟩) nm zz).1 zz).2 = 0 ∧ fileAt (removeR (renameR (layR fs ⟨nm, tx, 0⟩) nm zz).1 zz).1 zz = -1 := by
  obtain ⟨hd, hn, ht⟩ := h
  have hs := sd_of hd
  have hg : goodF ⟨nm, tx, 0⟩ := ⟨hn, ht, Int.le_refl _, by show (0 : Int) ≤ (tx.size : Int); omega⟩
  have hx := sd_lay hs hg
  have hl4 := hd.1
  have hlen : (layR fs ⟨nm, tx, 0⟩).length ≤ 4 := by
    rw [lay_len]
    by_cases hat : fileAt fs nm < 0
    · show fs.length + 1 - layEq fs nm ≤ 4
      have : ¬ 4 ≤ fs.length := fun e => h1 ⟨hat, e⟩
      omega
    · show fs.length + 1 - layEq fs nm ≤ 4
      rw [lay_has hs hat]
      omega
  have hxP := sd_to hx hlen
  obtain ⟨ht1, ht2⟩ := lay_text fs ⟨nm, tx, 0⟩
  refine ⟨hxP, ⟨ht1, ht2⟩, ?_⟩
  obtain ⟨k, hk, hat, hkn, hkt⟩ := fileAt_has (nm := nm) ht2
  have htk : (layR fs ⟨nm, tx, 0⟩)[k].text = tx := hkt.symm.trans ht1
  have hren := renameR_some (fr := nm) ⟨hxP, zz_name⟩ hk hat
  obtain ⟨_, g2, g3, g4⟩ := hx.2 _ (List.getElem_mem hk)
  have hgz : goodF ⟨zz, (layR fs ⟨nm, tx, 0⟩)[k].text, (layR fs ⟨nm, tx, 0⟩)[k].synced⟩ := ⟨zz_name, g2, g3, g4⟩
  generalize hX : layR fs ⟨nm, tx, 0⟩ = xs at *
  have hy := sd_lay (sd_erase hx k) hgz
  have hyl : (layR (xs.eraseIdx k) ⟨zz, xs[k].text, xs[k].synced⟩).length ≤ 4 := by
    have h2 := layR_len (xs.eraseIdx k) ⟨zz, xs[k].text, xs[k].synced⟩
    rw [List.length_eraseIdx_of_lt hk] at h2
    omega
  have hyP := sd_to hy hyl
  obtain ⟨hy1, hy2⟩ := lay_text (xs.eraseIdx k) ⟨zz, xs[k].text, xs[k].synced⟩
  have hnone : nm = zz ∨ fileAt (layR (xs.eraseIdx k) ⟨zz, xs[k].text, xs[k].synced⟩) nm = -1 := by
    by_cases e : nm = zz
    · exact .inl e
    · refine .inr (at_none fun x hx' => ?_)
      unfold layR at hx'
      have hin : ∀ x ∈ xs.eraseIdx k, x.name ≠ nm := fun x hx2 => by rw [← hkn]; exact erase_none hx hk x hx2
      rcases List.mem_append.1 hx' with h2 | h2
      · exact hin x (List.mem_of_mem_take h2)
      · rcases List.mem_cons.1 h2 with rfl | h2
        · exact fun e2 => e e2.symm
        · exact hin x (List.mem_of_mem_drop h2)
  rw [hren]
  obtain ⟨m, hm, hat2, hmn, _⟩ := fileAt_has (nm := zz) hy2
  have hrem := removeR_some (nm := zz) hyP hat2
  refine ⟨rfl, ⟨hy1.trans htk, hy2⟩, hnone, ?_, ?_⟩
  · rw [hrem]
  · rw [hrem]
    exact at_none fun x hx' => by rw [← hmn]; exact erase_none hy hm x hx'
end Go.Proofs.Ytepachoampdhiaa
