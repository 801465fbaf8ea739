/- The disk's contracts over data. -/
import Derived.Test.YtepachoampdhiaaAwOwn
import Derived.Test.YtepachoampdhiaaAwTy
import Derived.Test.YtepachoampdhiaaRename
import Derived.Test.YtepachoampdhiaaFallenI
import Derived.Test.YtepachoampdhiaaInts
import Derived.Test.YtepachoampdhiaaSync
namespace Go.Proofs.Ytepachoampdhiaa
open Go.RowKit

def filesD (fs : List FileD) : List D := enc FileD.cells fs
def diskSl (fs : List FileD) : D := .agg [.sl fs.length (filesD fs)]
theorem fileD_one : ∀ (x : FileD), ∀ v ∈ FileD.cells x, v.oneCell' = true := by
  intro x v hv
  simp [FileD.cells] at hv
  rcases hv with rfl | rfl | rfl <;> rfl
theorem file_len : ∀ (x : FileD), (FileD.cells x).length = 3 := fun _ => rfl
theorem disk_of {ro : Nat → Prop} {w : World} {fs : List FileD} {a : Value} (h : Rep (roEnv ro) w (.agg [.sl fs.length (enc FileD.cells fs)]) a) (hro : ∀ b, ro b → b < w.heap.size) (hok : ∀ f ∈ fs, f.ok) : ∃ v, a = .agg #[v] ∧ FilesR w w.heap.size v fs := by
  obtain ⟨us, rfl, hl, h1⟩ := h
  obtain ⟨v, rfl⟩ : ∃ v, us = [v] := List.length_eq_one_iff.1 (by simpa using hl)
  exact ⟨v, rfl, sl_of_rep file_len (by omega) (h1 0 _ v rfl rfl).1 hro hok⟩
theorem ints_of {ro : Nat → Prop} {w : World} {ks : List Int} {a : Value} (h : Rep (roEnv ro) w (.sl ks.length (enc intCells ks)) a) (hro : ∀ b, ro b → b < w.heap.size) (hok : ∀ k ∈ ks, IntOk k) : IntsR w w.heap.size a ks := sl_of_rep intCells_len (by omega) h hro hok
theorem ints_nil {w : World} {a : Value} (h : a = .slice none 0 0) : IntsR w w.heap.size a [] := by
  subst h
  exact ⟨none, 0, rfl, Nat.le_refl _, Nat.zero_le _, fun i hi => by simp at hi⟩
theorem args1 {args : Array Value} (h : args.size = 1) : ∃ a, args = #[a] := by
  obtain ⟨l⟩ := args
  match l, h with
  | [a], _ => exact ⟨a, rfl⟩
theorem args2 {args : Array Value} (h : args.size = 2) : ∃ a b, args = #[a, b] := by
  obtain ⟨l⟩ := args
  match l, h with
  | [a, b], _ => exact ⟨a, b, rfl⟩
theorem args3 {args : Array Value} (h : args.size = 3) : ∃ a b c, args = #[a, b, c] := by
  obtain ⟨l⟩ := args
  match l, h with
  | [a, b, c], _ => exact ⟨a, b, c, rfl⟩
noncomputable def diskB (fs : List FileD) : Bool := @decide (DiskP fs) (Classical.propDecidable _)
theorem diskB_iff (fs : List FileD) : diskB fs = true ↔ DiskP fs := by unfold diskB; exact @decide_eq_true_iff _ (Classical.propDecidable _)

theorem specSync_h (fs : List FileD) (hok : ∀ f ∈ fs, f.ok) (hn : fs.length ≤ 1048576) (s1 : ByteArray) : Hands Try.prog 32 [.agg [.sl fs.length (enc FileD.cells fs)], .sc (.string s1)] (fun u => .tuple #[.agg #[u], .int .i64 (syncR fs s1).2]) 66 3 ((syncR fs s1).1).length (((syncR fs s1).1).flatMap FileD.cells) := by
  refine ⟨callable Try.func32 rfl (by kernel_rfl), fun ro w args hro hsz hrep => ?_⟩
  obtain ⟨a0, a1, rfl⟩ := args2 hsz
  obtain ⟨v, rfl, hv⟩ := disk_of (hrep 0 _ rfl) hro hok
  obtain rfl := (hrep 1 _ rfl).1
  exact specSync_any v fs s1 w hv hn
theorem specSync_D (fs : List FileD) (hok : ∀ f ∈ fs, f.ok) (hn : fs.length ≤ 1048576) (s1 : ByteArray) : Spec Try.prog 32 [.agg [.sl fs.length (enc FileD.cells fs)], .sc (.string s1)] (fun d => d = .tup [.agg [(.sl ((syncR fs s1).1).length (filesD ((syncR fs s1).1)))], .sc (.int .i64 (syncR fs s1).2)]) := hands_spec file_len fileD_one (wraps_tup _) (specSync_h fs hok hn s1)
theorem specSync_H (fs : List FileD) (hok : ∀ f ∈ fs, f.ok) (hn : fs.length ≤ 1048576) (s1 : ByteArray) : SpecH Try.prog 32 [.agg [.sl fs.length (enc FileD.cells fs)], .sc (.string s1)] [] 0 (fun d os' nb' => d = .tup [.agg [(.own 0 0 ((syncR fs s1).1).length)], .sc (.int .i64 (syncR fs s1).2)] ∧ os' = [(0, ⟨66, 3, ((syncR fs s1).1).length, filesD ((syncR fs s1).1)⟩)] ∧ nb' = 1) := hands_specH file_len fileD_one (wraps_tup _) rfl (specSync_h fs hok hn s1)
theorem specRename_h (fs : List FileD) (hok : ∀ f ∈ fs, f.ok) (hn : fs.length ≤ 1048576) (s1 : ByteArray) (s2 : ByteArray) (hs2 : s2.size ≤ maxLen) : Hands Try.prog 50 [.agg [.sl fs.length (enc FileD.cells fs)], .sc (.string s1), .sc (.string s2)] (fun u => .tuple #[.agg #[u], .int .i64 (renameR fs s1 s2).2]) 66 3 ((renameR fs s1 s2).1).length (((renameR fs s1 s2).1).flatMap FileD.cells) := by
  refine ⟨callable Try.func50 rfl (by kernel_rfl), fun ro w args hro hsz hrep => ?_⟩
  obtain ⟨a0, a1, a2, rfl⟩ := args3 hsz
  obtain ⟨v, rfl, hv⟩ := disk_of (hrep 0 _ rfl) hro hok
  obtain rfl := (hrep 1 _ rfl).1
  obtain rfl := (hrep 2 _ rfl).1
  exact specRename_any v fs s1 s2 w hv hn hs2
theorem specRename_D (fs : List FileD) (hok : ∀ f ∈ fs, f.ok) (hn : fs.length ≤ 1048576) (s1 : ByteArray) (s2 : ByteArray) (hs2 : s2.size ≤ maxLen) : Spec Try.prog 50 [.agg [.sl fs.length (enc FileD.cells fs)], .sc (.string s1), .sc (.string s2)] (fun d => d = .tup [.agg [(.sl ((renameR fs s1 s2).1).length (filesD ((renameR fs s1 s2).1)))], .sc (.int .i64 (renameR fs s1 s2).2)]) := hands_spec file_len fileD_one (wraps_tup _) (specRename_h fs hok hn s1 s2 hs2)
theorem specRename_H (fs : List FileD) (hok : ∀ f ∈ fs, f.ok) (hn : fs.length ≤ 1048576) (s1 : ByteArray) (s2 : ByteArray) (hs2 : s2.size ≤ maxLen) : SpecH Try.prog 50 [.agg [.sl fs.length (enc FileD.cells fs)], .sc (.string s1), .sc (.string s2)] [] 0 (fun d os' nb' => d = .tup [.agg [(.own 0 0 ((renameR fs s1 s2).1).length)], .sc (.int .i64 (renameR fs s1 s2).2)] ∧ os' = [(0, ⟨66, 3, ((renameR fs s1 s2).1).length, filesD ((renameR fs s1 s2).1)⟩)] ∧ nb' = 1) := hands_specH file_len fileD_one (wraps_tup _) rfl (specRename_h fs hok hn s1 s2 hs2)
theorem specWrite_h (fs : List FileD) (hok : ∀ f ∈ fs, f.ok) (hn : fs.length ≤ 1048576) (s1 : ByteArray) (hs1 : s1.size ≤ maxLen) (s2 : ByteArray) (hs2 : s2.size ≤ maxLen) : Hands Try.prog 45 [.agg [.sl fs.length (enc FileD.cells fs)], .sc (.string s1), .sc (.string s2)] (fun u => .tuple #[.agg #[u], .int .i64 (writeR fs s1 s2).2]) 66 3 ((writeR fs s1 s2).1).length (((writeR fs s1 s2).1).flatMap FileD.cells) := by
  refine ⟨callable Try.func45 rfl (by kernel_rfl), fun ro w args hro hsz hrep => ?_⟩
  obtain ⟨a0, a1, a2, rfl⟩ := args3 hsz
  obtain ⟨v, rfl, hv⟩ := disk_of (hrep 0 _ rfl) hro hok
  obtain rfl := (hrep 1 _ rfl).1
  obtain rfl := (hrep 2 _ rfl).1
  exact specWrite_any v fs s1 s2 w hv hn hs1 hs2
theorem specWrite_D (fs : List FileD) (hok : ∀ f ∈ fs, f.ok) (hn : fs.length ≤ 1048576) (s1 : ByteArray) (hs1 : s1.size ≤ maxLen) (s2 : ByteArray) (hs2 : s2.size ≤ maxLen) : Spec Try.prog 45 [.agg [.sl fs.length (enc FileD.cells fs)], .sc (.string s1), .sc (.string s2)] (fun d => d = .tup [.agg [(.sl ((writeR fs s1 s2).1).length (filesD ((writeR fs s1 s2).1)))], .sc (.int .i64 (writeR fs s1 s2).2)]) := hands_spec file_len fileD_one (wraps_tup _) (specWrite_h fs hok hn s1 hs1 s2 hs2)
theorem specWrite_H (fs : List FileD) (hok : ∀ f ∈ fs, f.ok) (hn : fs.length ≤ 1048576) (s1 : ByteArray) (hs1 : s1.size ≤ maxLen) (s2 : ByteArray) (hs2 : s2.size ≤ maxLen) : SpecH Try.prog 45 [.agg [.sl fs.length (enc FileD.cells fs)], .sc (.string s1), .sc (.string s2)] [] 0 (fun d os' nb' => d = .tup [.agg [(.own 0 0 ((writeR fs s1 s2).1).length)], .sc (.int .i64 (writeR fs s1 s2).2)] ∧ os' = [(0, ⟨66, 3, ((writeR fs s1 s2).1).length, filesD ((writeR fs s1 s2).1)⟩)] ∧ nb' = 1) := hands_specH file_len fileD_one (wraps_tup _) rfl (specWrite_h fs hok hn s1 hs1 s2 hs2)
theorem specRemove_h (fs : List FileD) (hok : ∀ f ∈ fs, f.ok) (hn : fs.length ≤ 1048576) (s1 : ByteArray) : Hands Try.prog 36 [.agg [.sl fs.length (enc FileD.cells fs)], .sc (.string s1)] (fun u => .tuple #[.agg #[u], .int .i64 (removeR fs s1).2]) 66 3 ((removeR fs s1).1).length (((removeR fs s1).1).flatMap FileD.cells) := by
  refine ⟨callable Try.func36 rfl (by kernel_rfl), fun ro w args hro hsz hrep => ?_⟩
  obtain ⟨a0, a1, rfl⟩ := args2 hsz
  obtain ⟨v, rfl, hv⟩ := disk_of (hrep 0 _ rfl) hro hok
  obtain rfl := (hrep 1 _ rfl).1
  exact specRemove_any v fs s1 w hv hn
theorem specRemove_D (fs : List FileD) (hok : ∀ f ∈ fs, f.ok) (hn : fs.length ≤ 1048576) (s1 : ByteArray) : Spec Try.prog 36 [.agg [.sl fs.length (enc FileD.cells fs)], .sc (.string s1)] (fun d => d = .tup [.agg [(.sl ((removeR fs s1).1).length (filesD ((removeR fs s1).1)))], .sc (.int .i64 (removeR fs s1).2)]) := hands_spec file_len fileD_one (wraps_tup _) (specRemove_h fs hok hn s1)
theorem specRemove_H (fs : List FileD) (hok : ∀ f ∈ fs, f.ok) (hn : fs.length ≤ 1048576) (s1 : ByteArray) : SpecH Try.prog 36 [.agg [.sl fs.length (enc FileD.cells fs)], .sc (.string s1)] [] 0 (fun d os' nb' => d = .tup [.agg [(.own 0 0 ((removeR fs s1).1).length)], .sc (.int .i64 (removeR fs s1).2)] ∧ os' = [(0, ⟨66, 3, ((removeR fs s1).1).length, filesD ((removeR fs s1).1)⟩)] ∧ nb' = 1) := hands_specH file_len fileD_one (wraps_tup _) rfl (specRemove_h fs hok hn s1)
theorem specFallen_h (fs : List FileD) (hok : ∀ f ∈ fs, f.ok) (hn : fs.length ≤ 1048576) (ks : List Int) (hk : ∀ k ∈ ks, IntOk k) : Hands Try.prog 38 [.agg [.sl fs.length (enc FileD.cells fs)], .sl ks.length (enc intCells ks)] (fun u => .agg #[u]) 66 3 (fallenR fs ks).length ((fallenR fs ks).flatMap FileD.cells) := by
  refine ⟨callable Try.func38 rfl (by kernel_rfl), fun ro w args hro hsz hrep => ?_⟩
  obtain ⟨a0, a1, rfl⟩ := args2 hsz
  obtain ⟨v, rfl, hv⟩ := disk_of (hrep 0 _ rfl) hro hok
  have hk := ints_of (hrep 1 _ rfl) hro hk
  exact specFallen_any v fs a1 ks w hv hn hk
theorem specFallen_D (fs : List FileD) (hok : ∀ f ∈ fs, f.ok) (hn : fs.length ≤ 1048576) (ks : List Int) (hk : ∀ k ∈ ks, IntOk k) : Spec Try.prog 38 [.agg [.sl fs.length (enc FileD.cells fs)], .sl ks.length (enc intCells ks)] (fun d => d = .agg [(.sl (fallenR fs ks).length (filesD (fallenR fs ks)))]) := hands_spec file_len fileD_one wraps_agg (specFallen_h fs hok hn ks hk)
theorem specFallen_H (fs : List FileD) (hok : ∀ f ∈ fs, f.ok) (hn : fs.length ≤ 1048576) (ks : List Int) (hk : ∀ k ∈ ks, IntOk k) : SpecH Try.prog 38 [.agg [.sl fs.length (enc FileD.cells fs)], .sl ks.length (enc intCells ks)] [] 0 (fun d os' nb' => d = .agg [(.own 0 0 (fallenR fs ks).length)] ∧ os' = [(0, ⟨66, 3, (fallenR fs ks).length, filesD (fallenR fs ks)⟩)] ∧ nb' = 1) := hands_specH file_len fileD_one wraps_agg rfl (specFallen_h fs hok hn ks hk)
theorem specFallenN_h (fs : List FileD) (hok : ∀ f ∈ fs, f.ok) (hn : fs.length ≤ 1048576) : Hands Try.prog 38 [.agg [.sl fs.length (enc FileD.cells fs)], .sc (.slice none 0 0)] (fun u => .agg #[u]) 66 3 (fallenR fs []).length ((fallenR fs []).flatMap FileD.cells) := by
  refine ⟨callable Try.func38 rfl (by kernel_rfl), fun ro w args hro hsz hrep => ?_⟩
  obtain ⟨a0, a1, rfl⟩ := args2 hsz
  obtain ⟨v, rfl, hv⟩ := disk_of (hrep 0 _ rfl) hro hok
  have hk := ints_nil (w := w) (hrep 1 _ rfl).1
  exact specFallen_any v fs a1 [] w hv hn hk
theorem specFallenN_D (fs : List FileD) (hok : ∀ f ∈ fs, f.ok) (hn : fs.length ≤ 1048576) : Spec Try.prog 38 [.agg [.sl fs.length (enc FileD.cells fs)], .sc (.slice none 0 0)] (fun d => d = .agg [(.sl (fallenR fs []).length (filesD (fallenR fs [])))]) := hands_spec file_len fileD_one wraps_agg (specFallenN_h fs hok hn)
theorem specFallenN_H (fs : List FileD) (hok : ∀ f ∈ fs, f.ok) (hn : fs.length ≤ 1048576) : SpecH Try.prog 38 [.agg [.sl fs.length (enc FileD.cells fs)], .sc (.slice none 0 0)] [] 0 (fun d os' nb' => d = .agg [(.own 0 0 (fallenR fs []).length)] ∧ os' = [(0, ⟨66, 3, (fallenR fs []).length, filesD (fallenR fs [])⟩)] ∧ nb' = 1) := hands_specH file_len fileD_one wraps_agg rfl (specFallenN_h fs hok hn)
theorem specDiskOk_D (fs : List FileD) (hok : ∀ f ∈ fs, f.ok) : Spec Try.prog 30 [.agg [.sl fs.length (enc FileD.cells fs)]] (fun d => d = .sc (.bool (diskB fs))) := by
  refine ⟨callable Try.func30 rfl (by kernel_rfl), fun ro w args hro hsz hrep => ?_⟩
  obtain ⟨a0, rfl⟩ := args1 hsz
  obtain ⟨v, rfl, hv⟩ := disk_of (hrep 0 _ rfl) hro hok
  refine (specDiskOk_any v fs _ (diskB_iff fs) w hv).mono ?_
  rintro e w' ⟨rfl, hb⟩
  exact ⟨_, _, rfl, rfl, ⟨rfl, rfl⟩, hb⟩
theorem specFileAt_D (fs : List FileD) (hok : ∀ f ∈ fs, f.ok) (s1 : ByteArray) : Spec Try.prog 19 [.agg [.sl fs.length (enc FileD.cells fs)], .sc (.string s1)] (fun d => d = .sc (.int .i64 (fileAt fs s1))) := by
  refine ⟨callable Try.func19 rfl (by kernel_rfl), fun ro w args hro hsz hrep => ?_⟩
  obtain ⟨a0, a1, rfl⟩ := args2 hsz
  obtain ⟨v, rfl, hv⟩ := disk_of (hrep 0 _ rfl) hro hok
  obtain rfl := (hrep 1 _ rfl).1
  refine (specFileAt_any v fs s1 w hv).mono ?_
  rintro e w' ⟨rfl, hb⟩
  exact ⟨_, _, rfl, rfl, ⟨rfl, rfl⟩, hb⟩
theorem rep_pair {E : Env} {w : World} {s : ByteArray} {b : Bool} : Rep E w (.tup [.sc (.string s), .sc (.bool b)]) (.tuple #[.string s, .bool b]) := by
  refine ⟨[.string s, .bool b], rfl, rfl, fun j d v hd hv => ?_⟩
  rcases j with _ | _ | j
  · simp only [List.getElem?_cons_zero, Option.some.injEq] at hd hv
    subst hd; subst hv
    exact ⟨rfl, rfl⟩
  · simp only [List.getElem?_cons_zero, List.getElem?_cons_succ, Option.some.injEq] at hd hv
    subst hd; subst hv
    exact ⟨rfl, rfl⟩
  · simp at hd
theorem specTextOf_D (fs : List FileD) (hok : ∀ f ∈ fs, f.ok) (s1 : ByteArray) : Spec Try.prog 28 [.agg [.sl fs.length (enc FileD.cells fs)], .sc (.string s1)] (fun d => d = .tup [.sc (.string (textD fs s1)), .sc (.bool (hasD fs s1))]) := by
  refine ⟨callable Try.func28 rfl (by kernel_rfl), fun ro w args hro hsz hrep => ?_⟩
  obtain ⟨a0, a1, rfl⟩ := args2 hsz
  obtain ⟨v, rfl, hv⟩ := disk_of (hrep 0 _ rfl) hro hok
  obtain rfl := (hrep 1 _ rfl).1
  refine (specTextOf_any v fs s1 w hv).mono ?_
  rintro e w' ⟨rfl, hb⟩
  exact ⟨_, _, rfl, rfl, rep_pair, hb⟩
theorem implSync_h (fs : List FileD) (hok : ∀ f ∈ fs, f.ok) (hn : fs.length ≤ 1048576) (s1 : ByteArray) : Hands Try.prog 33 [.agg [.sl fs.length (enc FileD.cells fs)], .sc (.string s1)] (fun u => .tuple #[.agg #[u], .int .i64 (syncR fs s1).2]) 66 3 ((syncR fs s1).1).length (((syncR fs s1).1).flatMap FileD.cells) := by
  refine ⟨callable Try.func33 rfl (by kernel_rfl), fun ro w args hro hsz hrep => ?_⟩
  obtain ⟨a0, a1, rfl⟩ := args2 hsz
  obtain ⟨v, rfl, hv⟩ := disk_of (hrep 0 _ rfl) hro hok
  obtain rfl := (hrep 1 _ rfl).1
  exact implSync_any v fs s1 w hv hn
theorem implSync_D (fs : List FileD) (hok : ∀ f ∈ fs, f.ok) (hn : fs.length ≤ 1048576) (s1 : ByteArray) : Spec Try.prog 33 [.agg [.sl fs.length (enc FileD.cells fs)], .sc (.string s1)] (fun d => d = .tup [.agg [(.sl ((syncR fs s1).1).length (filesD ((syncR fs s1).1)))], .sc (.int .i64 (syncR fs s1).2)]) := hands_spec file_len fileD_one (wraps_tup _) (implSync_h fs hok hn s1)
theorem implSync_H (fs : List FileD) (hok : ∀ f ∈ fs, f.ok) (hn : fs.length ≤ 1048576) (s1 : ByteArray) : SpecH Try.prog 33 [.agg [.sl fs.length (enc FileD.cells fs)], .sc (.string s1)] [] 0 (fun d os' nb' => d = .tup [.agg [(.own 0 0 ((syncR fs s1).1).length)], .sc (.int .i64 (syncR fs s1).2)] ∧ os' = [(0, ⟨66, 3, ((syncR fs s1).1).length, filesD ((syncR fs s1).1)⟩)] ∧ nb' = 1) := hands_specH file_len fileD_one (wraps_tup _) rfl (implSync_h fs hok hn s1)
theorem implRename_h (fs : List FileD) (hok : ∀ f ∈ fs, f.ok) (hn : fs.length ≤ 1048576) (s1 : ByteArray) (s2 : ByteArray) (hs2 : s2.size ≤ maxLen) : Hands Try.prog 51 [.agg [.sl fs.length (enc FileD.cells fs)], .sc (.string s1), .sc (.string s2)] (fun u => .tuple #[.agg #[u], .int .i64 (renameR fs s1 s2).2]) 66 3 ((renameR fs s1 s2).1).length (((renameR fs s1 s2).1).flatMap FileD.cells) := by
  refine ⟨callable Try.func51 rfl (by kernel_rfl), fun ro w args hro hsz hrep => ?_⟩
  obtain ⟨a0, a1, a2, rfl⟩ := args3 hsz
  obtain ⟨v, rfl, hv⟩ := disk_of (hrep 0 _ rfl) hro hok
  obtain rfl := (hrep 1 _ rfl).1
  obtain rfl := (hrep 2 _ rfl).1
  exact implRename_any v fs s1 s2 w hv hn hs2
theorem implRename_D (fs : List FileD) (hok : ∀ f ∈ fs, f.ok) (hn : fs.length ≤ 1048576) (s1 : ByteArray) (s2 : ByteArray) (hs2 : s2.size ≤ maxLen) : Spec Try.prog 51 [.agg [.sl fs.length (enc FileD.cells fs)], .sc (.string s1), .sc (.string s2)] (fun d => d = .tup [.agg [(.sl ((renameR fs s1 s2).1).length (filesD ((renameR fs s1 s2).1)))], .sc (.int .i64 (renameR fs s1 s2).2)]) := hands_spec file_len fileD_one (wraps_tup _) (implRename_h fs hok hn s1 s2 hs2)
theorem implRename_H (fs : List FileD) (hok : ∀ f ∈ fs, f.ok) (hn : fs.length ≤ 1048576) (s1 : ByteArray) (s2 : ByteArray) (hs2 : s2.size ≤ maxLen) : SpecH Try.prog 51 [.agg [.sl fs.length (enc FileD.cells fs)], .sc (.string s1), .sc (.string s2)] [] 0 (fun d os' nb' => d = .tup [.agg [(.own 0 0 ((renameR fs s1 s2).1).length)], .sc (.int .i64 (renameR fs s1 s2).2)] ∧ os' = [(0, ⟨66, 3, ((renameR fs s1 s2).1).length, filesD ((renameR fs s1 s2).1)⟩)] ∧ nb' = 1) := hands_specH file_len fileD_one (wraps_tup _) rfl (implRename_h fs hok hn s1 s2 hs2)
theorem implWrite_h (fs : List FileD) (hok : ∀ f ∈ fs, f.ok) (hn : fs.length ≤ 1048576) (s1 : ByteArray) (hs1 : s1.size ≤ maxLen) (s2 : ByteArray) (hs2 : s2.size ≤ maxLen) : Hands Try.prog 46 [.agg [.sl fs.length (enc FileD.cells fs)], .sc (.string s1), .sc (.string s2)] (fun u => .tuple #[.agg #[u], .int .i64 (writeR fs s1 s2).2]) 66 3 ((writeR fs s1 s2).1).length (((writeR fs s1 s2).1).flatMap FileD.cells) := by
  refine ⟨callable Try.func46 rfl (by kernel_rfl), fun ro w args hro hsz hrep => ?_⟩
  obtain ⟨a0, a1, a2, rfl⟩ := args3 hsz
  obtain ⟨v, rfl, hv⟩ := disk_of (hrep 0 _ rfl) hro hok
  obtain rfl := (hrep 1 _ rfl).1
  obtain rfl := (hrep 2 _ rfl).1
  exact implWrite_any v fs s1 s2 w hv hn hs1 hs2
theorem implWrite_D (fs : List FileD) (hok : ∀ f ∈ fs, f.ok) (hn : fs.length ≤ 1048576) (s1 : ByteArray) (hs1 : s1.size ≤ maxLen) (s2 : ByteArray) (hs2 : s2.size ≤ maxLen) : Spec Try.prog 46 [.agg [.sl fs.length (enc FileD.cells fs)], .sc (.string s1), .sc (.string s2)] (fun d => d = .tup [.agg [(.sl ((writeR fs s1 s2).1).length (filesD ((writeR fs s1 s2).1)))], .sc (.int .i64 (writeR fs s1 s2).2)]) := hands_spec file_len fileD_one (wraps_tup _) (implWrite_h fs hok hn s1 hs1 s2 hs2)
theorem implWrite_H (fs : List FileD) (hok : ∀ f ∈ fs, f.ok) (hn : fs.length ≤ 1048576) (s1 : ByteArray) (hs1 : s1.size ≤ maxLen) (s2 : ByteArray) (hs2 : s2.size ≤ maxLen) : SpecH Try.prog 46 [.agg [.sl fs.length (enc FileD.cells fs)], .sc (.string s1), .sc (.string s2)] [] 0 (fun d os' nb' => d = .tup [.agg [(.own 0 0 ((writeR fs s1 s2).1).length)], .sc (.int .i64 (writeR fs s1 s2).2)] ∧ os' = [(0, ⟨66, 3, ((writeR fs s1 s2).1).length, filesD ((writeR fs s1 s2).1)⟩)] ∧ nb' = 1) := hands_specH file_len fileD_one (wraps_tup _) rfl (implWrite_h fs hok hn s1 hs1 s2 hs2)
theorem implRemove_h (fs : List FileD) (hok : ∀ f ∈ fs, f.ok) (hn : fs.length ≤ 1048576) (s1 : ByteArray) : Hands Try.prog 37 [.agg [.sl fs.length (enc FileD.cells fs)], .sc (.string s1)] (fun u => .tuple #[.agg #[u], .int .i64 (removeR fs s1).2]) 66 3 ((removeR fs s1).1).length (((removeR fs s1).1).flatMap FileD.cells) := by
  refine ⟨callable Try.func37 rfl (by kernel_rfl), fun ro w args hro hsz hrep => ?_⟩
  obtain ⟨a0, a1, rfl⟩ := args2 hsz
  obtain ⟨v, rfl, hv⟩ := disk_of (hrep 0 _ rfl) hro hok
  obtain rfl := (hrep 1 _ rfl).1
  exact implRemove_any v fs s1 w hv hn
theorem implRemove_D (fs : List FileD) (hok : ∀ f ∈ fs, f.ok) (hn : fs.length ≤ 1048576) (s1 : ByteArray) : Spec Try.prog 37 [.agg [.sl fs.length (enc FileD.cells fs)], .sc (.string s1)] (fun d => d = .tup [.agg [(.sl ((removeR fs s1).1).length (filesD ((removeR fs s1).1)))], .sc (.int .i64 (removeR fs s1).2)]) := hands_spec file_len fileD_one (wraps_tup _) (implRemove_h fs hok hn s1)
theorem implRemove_H (fs : List FileD) (hok : ∀ f ∈ fs, f.ok) (hn : fs.length ≤ 1048576) (s1 : ByteArray) : SpecH Try.prog 37 [.agg [.sl fs.length (enc FileD.cells fs)], .sc (.string s1)] [] 0 (fun d os' nb' => d = .tup [.agg [(.own 0 0 ((removeR fs s1).1).length)], .sc (.int .i64 (removeR fs s1).2)] ∧ os' = [(0, ⟨66, 3, ((removeR fs s1).1).length, filesD ((removeR fs s1).1)⟩)] ∧ nb' = 1) := hands_specH file_len fileD_one (wraps_tup _) rfl (implRemove_h fs hok hn s1)
theorem implFallen_h (fs : List FileD) (hok : ∀ f ∈ fs, f.ok) (hn : fs.length ≤ 1048576) (ks : List Int) (hk : ∀ k ∈ ks, IntOk k) : Hands Try.prog 40 [.agg [.sl fs.length (enc FileD.cells fs)], .sl ks.length (enc intCells ks)] (fun u => .agg #[u]) 66 3 (fallenR fs ks).length ((fallenR fs ks).flatMap FileD.cells) := by
  refine ⟨callable Try.func40 rfl (by kernel_rfl), fun ro w args hro hsz hrep => ?_⟩
  obtain ⟨a0, a1, rfl⟩ := args2 hsz
  obtain ⟨v, rfl, hv⟩ := disk_of (hrep 0 _ rfl) hro hok
  have hk := ints_of (hrep 1 _ rfl) hro hk
  exact implFallen_any v fs a1 ks w hv hn hk
theorem implFallen_D (fs : List FileD) (hok : ∀ f ∈ fs, f.ok) (hn : fs.length ≤ 1048576) (ks : List Int) (hk : ∀ k ∈ ks, IntOk k) : Spec Try.prog 40 [.agg [.sl fs.length (enc FileD.cells fs)], .sl ks.length (enc intCells ks)] (fun d => d = .agg [(.sl (fallenR fs ks).length (filesD (fallenR fs ks)))]) := hands_spec file_len fileD_one wraps_agg (implFallen_h fs hok hn ks hk)
theorem implFallen_H (fs : List FileD) (hok : ∀ f ∈ fs, f.ok) (hn : fs.length ≤ 1048576) (ks : List Int) (hk : ∀ k ∈ ks, IntOk k) : SpecH Try.prog 40 [.agg [.sl fs.length (enc FileD.cells fs)], .sl ks.length (enc intCells ks)] [] 0 (fun d os' nb' => d = .agg [(.own 0 0 (fallenR fs ks).length)] ∧ os' = [(0, ⟨66, 3, (fallenR fs ks).length, filesD (fallenR fs ks)⟩)] ∧ nb' = 1) := hands_specH file_len fileD_one wraps_agg rfl (implFallen_h fs hok hn ks hk)
theorem implFallenN_h (fs : List FileD) (hok : ∀ f ∈ fs, f.ok) (hn : fs.length ≤ 1048576) : Hands Try.prog 40 [.agg [.sl fs.length (enc FileD.cells fs)], .sc (.slice none 0 0)] (fun u => .agg #[u]) 66 3 (fallenR fs []).length ((fallenR fs []).flatMap FileD.cells) := by
  refine ⟨callable Try.func40 rfl (by kernel_rfl), fun ro w args hro hsz hrep => ?_⟩
  obtain ⟨a0, a1, rfl⟩ := args2 hsz
  obtain ⟨v, rfl, hv⟩ := disk_of (hrep 0 _ rfl) hro hok
  have hk := ints_nil (w := w) (hrep 1 _ rfl).1
  exact implFallen_any v fs a1 [] w hv hn hk
theorem implFallenN_D (fs : List FileD) (hok : ∀ f ∈ fs, f.ok) (hn : fs.length ≤ 1048576) : Spec Try.prog 40 [.agg [.sl fs.length (enc FileD.cells fs)], .sc (.slice none 0 0)] (fun d => d = .agg [(.sl (fallenR fs []).length (filesD (fallenR fs [])))]) := hands_spec file_len fileD_one wraps_agg (implFallenN_h fs hok hn)
theorem implFallenN_H (fs : List FileD) (hok : ∀ f ∈ fs, f.ok) (hn : fs.length ≤ 1048576) : SpecH Try.prog 40 [.agg [.sl fs.length (enc FileD.cells fs)], .sc (.slice none 0 0)] [] 0 (fun d os' nb' => d = .agg [(.own 0 0 (fallenR fs []).length)] ∧ os' = [(0, ⟨66, 3, (fallenR fs []).length, filesD (fallenR fs [])⟩)] ∧ nb' = 1) := hands_specH file_len fileD_one wraps_agg rfl (implFallenN_h fs hok hn)
theorem implDiskOk_D (fs : List FileD) (hok : ∀ f ∈ fs, f.ok) : Spec Try.prog 31 [.agg [.sl fs.length (enc FileD.cells fs)]] (fun d => d = .sc (.bool (diskB fs))) := by
  refine ⟨callable Try.func31 rfl (by kernel_rfl), fun ro w args hro hsz hrep => ?_⟩
  obtain ⟨a0, rfl⟩ := args1 hsz
  obtain ⟨v, rfl, hv⟩ := disk_of (hrep 0 _ rfl) hro hok
  refine (implDiskOk_any v fs _ (diskB_iff fs) w hv).mono ?_
  rintro e w' ⟨rfl, hb⟩
  exact ⟨_, _, rfl, rfl, ⟨rfl, rfl⟩, hb⟩
theorem implFileAt_D (fs : List FileD) (hok : ∀ f ∈ fs, f.ok) (s1 : ByteArray) : Spec Try.prog 21 [.agg [.sl fs.length (enc FileD.cells fs)], .sc (.string s1)] (fun d => d = .sc (.int .i64 (fileAt fs s1))) := by
  refine ⟨callable Try.func21 rfl (by kernel_rfl), fun ro w args hro hsz hrep => ?_⟩
  obtain ⟨a0, a1, rfl⟩ := args2 hsz
  obtain ⟨v, rfl, hv⟩ := disk_of (hrep 0 _ rfl) hro hok
  obtain rfl := (hrep 1 _ rfl).1
  refine (implFileAt_any v fs s1 w hv).mono ?_
  rintro e w' ⟨rfl, hb⟩
  exact ⟨_, _, rfl, rfl, ⟨rfl, rfl⟩, hb⟩
theorem implTextOf_D (fs : List FileD) (hok : ∀ f ∈ fs, f.ok) (s1 : ByteArray) : Spec Try.prog 29 [.agg [.sl fs.length (enc FileD.cells fs)], .sc (.string s1)] (fun d => d = .tup [.sc (.string (textD fs s1)), .sc (.bool (hasD fs s1))]) := by
  refine ⟨callable Try.func29 rfl (by kernel_rfl), fun ro w args hro hsz hrep => ?_⟩
  obtain ⟨a0, a1, rfl⟩ := args2 hsz
  obtain ⟨v, rfl, hv⟩ := disk_of (hrep 0 _ rfl) hro hok
  obtain rfl := (hrep 1 _ rfl).1
  refine (implTextOf_any v fs s1 w hv).mono ?_
  rintro e w' ⟨rfl, hb⟩
  exact ⟨_, _, rfl, rfl, rep_pair, hb⟩
end Go.Proofs.Ytepachoampdhiaa
