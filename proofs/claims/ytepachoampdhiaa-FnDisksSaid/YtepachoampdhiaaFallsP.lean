/- What falls: the plain law behind FnFalls. -/
import Derived.Test.YtepachoampdhiaaAwDraw5
namespace Go.Proofs.Ytepachoampdhiaa
open Go.RowKit

def fat (fs : List FileD) (k : Nat) : FileD := fs.getD k ⟨⟨#[]⟩, ⟨#[]⟩, 0⟩
theorem fat_at {fs : List FileD} {k : Nat} (h : k < fs.length) : fat fs k = fs[k] := by simp [fat, h]
theorem fallN_in {f : FileD} (h0 : 0 ≤ f.synced) (h1 : f.synced ≤ f.text.size) (q : Int) : f.synced ≤ fallN f q ∧ fallN f q ≤ f.text.size := by
  unfold fallN
  split
  · omega
  · split <;> omega
theorem extract_size (b : ByteArray) (n : Nat) (h : n ≤ b.size) : (b.extract 0 n).size = n := by
  rw [ByteArray.size_extract]
  omega
theorem fallF_size {f : FileD} (h0 : 0 ≤ f.synced) (h1 : f.synced ≤ f.text.size) (q : Int) : ((fallF f q).text.size : Int) = fallN f q := by
  have h2 := fallN_in h0 h1 q
  show (((f.text.extract 0 (fallN f q).toNat).size : Nat) : Int) = _
  rw [extract_size _ _ (by omega)]
  omega
theorem extract_all (b : ByteArray) : b.extract 0 b.size = b := by
  refine ByteArray.ext ?_
  rw [ByteArray.data_extract]
  exact Array.extract_size
theorem fallenR_yes {fs : List FileD} {ks : List Int} (h : DiskP fs) : fallenR fs ks = fallTo fs ks fs.length := by unfold fallenR; rw [if_pos h]
theorem fallenR_no {fs : List FileD} {ks : List Int} (h : ¬ DiskP fs) : fallenR fs ks = fs := by unfold fallenR; rw [if_neg h]
theorem fallenR_len2 (fs : List FileD) (ks : List Int) : (fallenR fs ks).length = fs.length := by
  unfold fallenR
  split
  · exact fallTo_length _ _ _
  · rfl
theorem fallTo_at {fs : List FileD} {ks : List Int} {k : Nat} (h : k < fs.length) : (fallTo fs ks fs.length)[k]'(by rw [fallTo_length]; exact h) = fallF fs[k] (ks.getD k 0) := by
  simp [fallTo, h]
theorem fall_ok {fs : List FileD} (h : DiskP fs) (ks : List Int) : DiskP (fallTo fs ks fs.length) := by
  have hl := fallTo_length fs ks fs.length
  refine ⟨by rw [hl]; exact h.1, fun i hi => ?_⟩
  have hi' : i < fs.length := by rw [← hl]; exact hi
  obtain ⟨h1, h2, h3, h4, h5⟩ := h.2 i hi'
  have h6 := fallN_in h4 h5 (ks.getD i 0)
  have h7 := fallF_size h4 h5 (ks.getD i 0)
  refine ⟨?_, fun h0 => ?_, ?_, ?_, ?_⟩
  · rw [fallTo_at hi']; exact h1
  · rw [fallTo_at hi', fallTo_at (show i - 1 < fs.length by omega)]; exact h2 h0
  · rw [fallTo_at hi']; omega
  · rw [fallTo_at hi']; show 0 ≤ fallN fs[i] (ks.getD i 0); omega
  · rw [fallTo_at hi']; show fallN fs[i] (ks.getD i 0) ≤ ((fallF fs[i] (ks.getD i 0)).text.size : Int); omega
theorem fallF_full {f : FileD} (h0 : 0 ≤ f.synced) (h1 : f.synced = f.text.size) (q : Int) : fallF f q = f := by
  have h2 := fallN_in h0 (by omega) q
  have h3 : fallN f q = f.text.size := by omega
  unfold fallF
  rw [h3]
  show (⟨f.name, f.text.extract 0 f.text.size, (f.text.size : Int)⟩ : FileD) = f
  rw [extract_all, ← h1]
theorem fallF_synced {f : FileD} (h0 : 0 ≤ f.synced) (h1 : f.synced ≤ f.text.size) (q : Int) : (fallF f q).synced = (fallF f q).text.size := (fallF_size h0 h1 q).symm
theorem fall_twice {fs : List FileD} (h : DiskP fs) (ks : List Int) : fallenR (fallTo fs ks fs.length) ks = fallTo fs ks fs.length := by
  have hl := fallTo_length fs ks fs.length
  rw [fallenR_yes (fall_ok h ks)]
  refine List.ext_getElem (by rw [fallTo_length]) fun i h1 h2 => ?_
  have hi : i < fs.length := by rw [← hl]; exact h2
  rw [fallTo_at h2, fallTo_at hi]
  obtain ⟨_, _, _, h4, h5⟩ := h.2 i hi
  have h6 := fallN_in h4 h5 (ks.getD i 0)
  exact fallF_full (by show 0 ≤ fallN fs[i] (ks.getD i 0); omega) (fallF_synced h4 h5 _) _
theorem fileAt_self {fs : List FileD} (h : DiskP fs) {k : Nat} (hk : k < fs.length) : fileAt fs fs[k].name = k := by
  refine fileAt_some fs _ k hk rfl fun j hj hjl he => ?_
  have h1 := asc_lt h k j hj hk
  rw [he, less_irrefl] at h1
  cases h1
/-- What FnFalls wants of a valid disk. -/
theorem falls_yes (fs : List FileD) (ks : List Int) (h : DiskP fs) (gs : List FileD) (hg : fallenR fs ks = gs) :
    (∀ k, k < fs.length → (fat gs k).name = (fat fs k).name) ∧ (∀ k, k < fs.length → (fat fs k).synced ≤ (fat gs k).text.size ∧ (fat gs k).text.size ≤ (fat fs k).text.size) ∧
    (∀ k, k < fs.length → (fat fs k).text.extract 0 (fat gs k).text.size = (fat gs k).text) ∧ (∀ k, k < fs.length → (fat gs k).synced = (fat gs k).text.size) ∧
    (∀ k, k < fs.length → (syncR fs (fat fs k).name).2 = 0 ∧ (syncR fs (fat fs k).name).1.length = fs.length ∧ (fat (fallenR (syncR fs (fat fs k).name).1 []) k).text = (fat fs k).text) ∧
    DiskP gs ∧ fallenR gs ks = gs := by
  rw [fallenR_yes h] at hg
  subst hg
  have hl := fallTo_length fs ks fs.length
  have hgk : ∀ k, k < fs.length → fat (fallTo fs ks fs.length) k = fallF (fat fs k) (ks.getD k 0) := fun k hk => by
    rw [fat_at (by rw [hl]; exact hk), fallTo_at hk, fat_at hk]
  have hf : ∀ k, k < fs.length → 0 ≤ (fat fs k).synced ∧ (fat fs k).synced ≤ (fat fs k).text.size := fun k hk => by
    obtain ⟨_, _, _, h4, h5⟩ := h.2 k hk
    rw [fat_at hk]
    exact ⟨h4, h5⟩
  refine ⟨fun k hk => ?_, fun k hk => ?_, fun k hk => ?_, fun k hk => ?_, fun k hk => ?_, fall_ok h ks, fall_twice h ks⟩
  · rw [hgk k hk]; rfl
  · have h1 := fallN_in (hf k hk).1 (hf k hk).2 (ks.getD k 0)
    have h2 := fallF_size (hf k hk).1 (hf k hk).2 (ks.getD k 0)
    rw [hgk k hk]
    omega
  · have h1 := fallN_in (hf k hk).1 (hf k hk).2 (ks.getD k 0)
    have h2 := fallF_size (hf k hk).1 (hf k hk).2 (ks.getD k 0)
    rw [hgk k hk]
    have h3 : (fallF (fat fs k) (ks.getD k 0)).text.size = (fallN (fat fs k) (ks.getD k 0)).toNat := by omega
    rw [h3]
    rfl
  · rw [hgk k hk]
    exact fallF_synced (hf k hk).1 (hf k hk).2 _
  · have hn : (fat fs k).name = fs[k].name := by rw [fat_at hk]
    have hat := fileAt_self h hk
    rw [hn, syncR_some h hat]
    refine ⟨rfl, sync_len fs k, ?_⟩
    have hlen : k < (fs.modify k FileD.sync).length := by rw [sync_len]; exact hk
    have hmk : (fs.modify k FileD.sync)[k] = fs[k].sync := by simp [List.getElem_modify]
    by_cases hy : DiskP (fs.modify k FileD.sync)
    · rw [fallenR_yes hy, fat_at (by rw [fallTo_length]; exact hlen), fallTo_at hlen, fat_at hk, hmk]
      rw [fallF_full (f := fs[k].sync) (by show (0 : Int) ≤ (fs[k].text.size : Int); omega) rfl]
      rfl
    · rw [fallenR_no hy, fat_at hlen, hmk, fat_at hk]
      rfl
end Go.Proofs.Ytepachoampdhiaa
