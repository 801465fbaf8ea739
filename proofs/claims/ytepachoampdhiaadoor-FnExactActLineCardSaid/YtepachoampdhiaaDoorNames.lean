/- within, l01In, NameOk: of the program and of the reference. -/
import Derived.Test.YtepachoampdhiaaDoorRows
import Derived.Test.YtepachoampdhiaaDoorMem
import Derived.PlainAid
namespace Go.Proofs.YtepachoampdhiaaDoor
open Go.RowKit Go.PlainAid

theorem within_any (n lo hi : Int) (b : Bool) (hb : b = true ↔ lo ≤ n ∧ n ≤ hi) (w : World) :
    Calls Tryd.prog 35 #[.int .i64 n, .int .i64 lo, .int .i64 hi] w fun e w' => e = .returned (.bool b) ∧ w = w' := by
  have HB := Lib.hid hb
  clear hb
  go_enter Tryd.func35, Tryd.ntmps35
  go_wp2
  all_goals go_ret
  all_goals refine ⟨?_, rfl⟩
  all_goals have hb := HB.out
  all_goals cases b <;> simp_all <;> omega

theorem l01In_any (n lo hi : Int) (b : Bool) (hb : b = true ↔ lo ≤ n ∧ n ≤ hi) (w : World) :
    Calls Tryd.prog 28 #[.int .i64 n, .int .i64 lo, .int .i64 hi] w fun e w' => e = .returned (.bool b) ∧ w = w' := by
  have HB := Lib.hid hb
  clear hb
  go_enter Tryd.func28, Tryd.ntmps28
  go_wp2
  all_goals go_ret
  all_goals refine ⟨?_, rfl⟩
  all_goals have hb := HB.out
  all_goals cases b <;> simp_all <;> omega

def ChI (c : Int) : Prop := (97 ≤ c ∧ c ≤ 122) ∨ (48 ≤ c ∧ c ≤ 57) ∨ c = 45
/-- s is a valid name. -/
def NameP (s : ByteArray) : Prop := 1 ≤ s.size ∧ s.size ≤ 20 ∧ bt s 0 ≠ 45 ∧ bt s (s.size - 1) ≠ 45 ∧ ∀ j, j < s.size → ChI (bt s j)

theorem nameP_iff {s : ByteArray} (h : ∀ j, j < s.size → ChI (bt s j)) : NameP s ↔ 1 ≤ s.size ∧ s.size ≤ 20 ∧ bt s 0 ≠ 45 ∧ bt s (s.size - 1) ≠ 45 :=
  ⟨fun ⟨a, b, c, d, _⟩ => ⟨a, b, c, d⟩, fun ⟨a, b, c, d⟩ => ⟨a, b, c, d, h⟩⟩
theorem ret_b {a b : Bool} (h : a = b) : Ending.returned (.bool a) = .returned (.bool b) := by rw [h]

theorem isLower_any (c : Int) (b : Bool) (hb : b = true ↔ 97 ≤ c ∧ c ≤ 122) (w : World) :
    Calls Tryd.prog 44 #[.int .u8 c] w fun e w' => e = .returned (.bool b) ∧ w = w' := by
  have HB := Lib.hid hb
  clear hb
  go_enter Tryd.func44, Tryd.ntmps44
  go_wp2
  all_goals go_ret
  all_goals refine ⟨?_, rfl⟩
  all_goals have hb := HB.out
  all_goals cases b <;> simp_all <;> omega

set_option maxHeartbeats 1000000 in
theorem implNameOk_any (s : ByteArray) (hs : s.size ≤ maxLen) (b : Bool) (hb : b = true ↔ NameP s) (w : World) :
    Calls Tryd.prog 34 #[.string s] w fun e w' => e = .returned (.bool b) ∧ w = w' := by
  have HB := Lib.hid hb
  clear hb
  unfold maxLen at hs
  go_enter Tryd.func34, Tryd.ntmps34
  go_wp2
  go_loop [7] (fun i => ∃ k : Nat, k ≤ s.size ∧ i = .int .i64 k ∧ Hid (∀ j, j < k → ChI (bt s j))) (fun i => s.size - (intOf i).toNat)
  case atStart => exact ⟨0, by omega, rfl, fun j hj => by omega⟩
  case round =>
    obtain ⟨k, hk, rfl, HN⟩ := hrel
    by_cases hlt : k < s.size
    · have e := get_bt s k hlt
      rcases Classical.em (ChI (s[k].toNat : Int)) with hc | hc
      · have HN' : Hid (∀ j, j < k + 1 → ChI (bt s j)) := fun j hj => by
          rcases Nat.lt_or_eq_of_le (Nat.lt_succ_iff.1 hj) with h' | rfl
          · exact HN j h'
          · rw [← e]; exact hc
        clear e
        rcases hc with ⟨hc1, hc2⟩ | ⟨hc1, hc2⟩ | hc1
        · go_wp2
          go_round
          case rel => exact ⟨k + 1, by omega, by go_num, HN'⟩
          case measure => simp [intOf]; omega
        · go_wp2
          go_round
          case rel => exact ⟨k + 1, by omega, by go_num, HN'⟩
          case measure => simp [intOf]; omega
        · have hc2 : ((s[k].toNat : Int) != 45) = false := by simpa using hc1
          have hc3 : (s[k].toNat : Int) < 48 := by omega
          clear hc1
          go_wp2
          go_round
          case rel => exact ⟨k + 1, by omega, by go_num, HN'⟩
          case measure => simp [intOf]; omega
      · have hf : Hid (b = false) := by
          have hb := HB.out
          cases b
          · rfl
          · exact absurd (by rw [e]; exact (hb.1 rfl).2.2.2.2 k hlt) hc
        clear e
        have hc' : ((s[k].toNat : Int) < 48 ∧ ((s[k].toNat : Int) != 45) = true) ∨ (57 < (s[k].toNat : Int) ∧ (s[k].toNat : Int) < 97 ∧ ((s[k].toNat : Int) != 45) = true) ∨ (122 < (s[k].toNat : Int) ∧ ((s[k].toNat : Int) != 45) = true) := by
          unfold ChI at hc
          rw [bne_iff_ne]
          omega
        clear hc
        rcases hc' with ⟨n1, n2⟩ | ⟨n1, n2, n3⟩ | ⟨n1, n2⟩
        · go_wp2
          go_ret
          exact ⟨ret_b hf.out.symm, rfl⟩
        · have d1 : decide ((s[k].toNat : Int) ≤ 57) = false := by simpa using n1
          go_wp2
          go_ret
          exact ⟨ret_b hf.out.symm, rfl⟩
        · have d1 : decide ((s[k].toNat : Int) ≤ 57) = false := by simp; omega
          have d2 : decide ((s[k].toNat : Int) ≤ 122) = false := by simp; omega
          go_wp2
          go_ret
          exact ⟨ret_b hf.out.symm, rfl⟩
    · have hb : b = true ↔ 1 ≤ s.size ∧ s.size ≤ 20 ∧ bt s 0 ≠ 45 ∧ bt s (s.size - 1) ≠ 45 := HB.out.trans (nameP_iff fun j hj => HN j (by omega))
      by_cases c1 : 1 ≤ s.size ∧ s.size ≤ 20
      · obtain ⟨c1, c2⟩ := c1
        have e0 := get_bt s 0 (by omega)
        have e1 := get_bt s (s.size - 1) (by omega)
        rw [← e0, ← e1] at hb
        clear e0 e1
        by_cases d0 : (s[0].toNat : Int) = 45
        · have d0' : ((s[0].toNat : Int) != 45) = false := by simpa using d0
          have hf : Hid (b = false) := by cases b <;> simp_all [Hid]
          clear hb d0
          go_wp2
          go_ret
          exact ⟨ret_b hf.out.symm, rfl⟩
        · have d0' : ((s[0].toNat : Int) != 45) = true := by simpa using d0
          have hf : Hid (b = ((s[s.size - 1].toNat : Int) != 45)) := by
            unfold Hid
            cases b
            · have : ¬ ((s[s.size - 1].toNat : Int) ≠ 45) := fun h => by have := hb.2 ⟨c1, c2, d0, h⟩; cases this
              simpa using this
            · have := (hb.1 rfl).2.2.2
              simpa using this
          clear hb d0
          go_wp2
          go_ret
          exact ⟨ret_b hf.out.symm, rfl⟩
      · have hf : Hid (b = false) := by
          cases b
          · rfl
          · exact absurd ⟨(hb.1 rfl).1, (hb.1 rfl).2.1⟩ c1
        have c1' : s.size < 1 ∨ 20 < s.size := by omega
        clear hb c1
        rcases c1' with c1 | c1
        all_goals go_wp2
        all_goals go_ret
        all_goals exact ⟨ret_b hf.out.symm, rfl⟩

def LetI (c : Int) : Prop := (97 ≤ c ∧ c ≤ 122) ∨ (65 ≤ c ∧ c ≤ 90) ∨ (48 ≤ c ∧ c ≤ 57)
set_option maxHeartbeats 1000000 in
theorem l14Letter_any (c : Int) (b : Bool) (hb : b = true ↔ LetI c) (w : World) :
    Calls Tryd.prog 43 #[.int .u8 c] w fun e w' => e = .returned (.bool b) ∧ w = w' := by
  have hp : (c < 48 ∧ b = false) ∨ (48 ≤ c ∧ c ≤ 57 ∧ b = true) ∨ (57 < c ∧ c < 65 ∧ b = false) ∨ (65 ≤ c ∧ c ≤ 90 ∧ b = true) ∨ (90 < c ∧ c < 97 ∧ b = false) ∨ (97 ≤ c ∧ c ≤ 122 ∧ b = true) ∨ (122 < c ∧ b = false) := by
    unfold LetI at hb
    cases b
    · have : ¬ ((97 ≤ c ∧ c ≤ 122) ∨ (65 ≤ c ∧ c ≤ 90) ∨ (48 ≤ c ∧ c ≤ 57)) := fun h => by have := hb.2 h; cases this
      simp only [and_true, reduceCtorEq, and_false, false_or]
      omega
    · have := hb.1 rfl
      simp only [and_true, reduceCtorEq, and_false, false_or]
      omega
  clear hb
  rcases hp with ⟨h1, rfl⟩ | ⟨h1, h2, rfl⟩ | ⟨h1, h2, rfl⟩ | ⟨h1, h2, rfl⟩ | ⟨h1, h2, rfl⟩ | ⟨h1, h2, rfl⟩ | ⟨h1, rfl⟩
  all_goals go_enter Tryd.func43, Tryd.ntmps43
  all_goals go_wp2
  all_goals go_ret
  all_goals exact ⟨ret_b (by simp; try omega), rfl⟩

set_option maxHeartbeats 1000000 in
theorem specNameOk_any (s : ByteArray) (hs : s.size ≤ maxLen) (b : Bool) (hb : b = true ↔ NameP s) (w : World) :
    Calls Tryd.prog 27 #[.string s] w fun e w' => e = .returned (.bool b) ∧ w = w' := by
  have HB := Lib.hid hb
  clear hb
  unfold maxLen at hs
  by_cases c1 : 1 ≤ s.size ∧ s.size ≤ 20
  · obtain ⟨c1, c2⟩ := c1
    have HL : Hid ((true : Bool) = true ↔ (1 : Int) ≤ (s.size : Int) ∧ (s.size : Int) ≤ 20) := by unfold Hid; simp; omega
    have e0 := get_bt s 0 (by omega)
    have e1 := get_bt s (s.size - 1) (by omega)
    by_cases d0 : (s[0].toNat : Int) = 45
    · have hf : Hid (b = false) := by
        have hb := HB.out
        cases b
        · rfl
        · exact absurd (e0.symm.trans d0) (hb.1 rfl).2.2.1
      have d0' : ((s[0].toNat : Int) == 45) = true := by simpa using d0
      clear e0 e1 d0
      go_enter Tryd.func27, Tryd.ntmps27
      go_wp2_with (go_at_call 28; refine (l01In_any _ _ _ true HL.out _).mono ?_; rintro e w' ⟨rfl, rfl⟩)
      go_ret
      exact ⟨ret_b hf.out.symm, rfl⟩
    · by_cases d1 : (s[s.size - 1].toNat : Int) = 45
      · have hf : Hid (b = false) := by
          have hb := HB.out
          cases b
          · rfl
          · exact absurd (e1.symm.trans d1) (hb.1 rfl).2.2.2.1
        have d0' : ((s[0].toNat : Int) == 45) = false := by simpa using d0
        have d1' : ((s[s.size - 1].toNat : Int) == 45) = true := by simpa using d1
        clear e0 e1 d0 d1
        go_enter Tryd.func27, Tryd.ntmps27
        go_wp2_with (go_at_call 28; refine (l01In_any _ _ _ true HL.out _).mono ?_; rintro e w' ⟨rfl, rfl⟩)
        go_ret
        exact ⟨ret_b hf.out.symm, rfl⟩
      · have E0 : Hid (bt s 0 ≠ 45 ∧ bt s (s.size - 1) ≠ 45) := ⟨by rw [← e0]; exact d0, by rw [← e1]; exact d1⟩
        have d0' : ((s[0].toNat : Int) == 45) = false := by simpa using d0
        have d1' : ((s[s.size - 1].toNat : Int) == 45) = false := by simpa using d1
        clear e0 e1 d0 d1
        go_enter Tryd.func27, Tryd.ntmps27
        go_wp2_with (go_at_call 28; refine (l01In_any _ _ _ true HL.out _).mono ?_; rintro e w' ⟨rfl, rfl⟩)
        go_loop [3] (fun i => ∃ k : Nat, k ≤ s.size ∧ i = .int .i64 k ∧ Hid (∀ j, j < k → ChI (bt s j))) (fun i => s.size - (intOf i).toNat)
        case atStart => exact ⟨0, by omega, rfl, fun j hj => by omega⟩
        case round =>
          obtain ⟨k, hk, rfl, HN⟩ := hrel
          by_cases hlt : k < s.size
          · have e := get_bt s k hlt
            rcases Classical.em (ChI (s[k].toNat : Int)) with hc | hc
            · have HN' : Hid (∀ j, j < k + 1 → ChI (bt s j)) := fun j hj => by
                rcases Nat.lt_or_eq_of_le (Nat.lt_succ_iff.1 hj) with h' | rfl
                · exact HN j h'
                · rw [← e]; exact hc
              clear e
              rcases hc with ⟨hc1, hc2⟩ | ⟨hc1, hc2⟩ | hc1
              · have HT : Hid (true = true ↔ LetI (s[k].toNat : Int)) := by unfold Hid LetI; simp; omega
                go_wp2_with (go_at_call 43; refine (l14Letter_any _ true HT.out _).mono ?_; rintro e w' ⟨rfl, rfl⟩)
                all_goals go_round
                case rel => exact ⟨k + 1, by omega, by go_num, HN'⟩
                case measure => simp [intOf]; omega
              · have HT : Hid (true = true ↔ LetI (s[k].toNat : Int)) := by unfold Hid LetI; simp; omega
                have d1 : decide (65 ≤ (s[k].toNat : Int)) = false := by simp; omega
                go_wp2_with (go_at_call 43; refine (l14Letter_any _ true HT.out _).mono ?_; rintro e w' ⟨rfl, rfl⟩)
                all_goals go_round
                case rel => exact ⟨k + 1, by omega, by go_num, HN'⟩
                case measure => simp [intOf]; omega
              · have HT : Hid (false = true ↔ LetI (s[k].toNat : Int)) := by unfold Hid LetI; simp; omega
                have d1 : ((s[k].toNat : Int) != 45) = false := by simpa using hc1
                clear hc1
                go_wp2_with (go_at_call 43; refine (l14Letter_any _ false HT.out _).mono ?_; rintro e w' ⟨rfl, rfl⟩)
                all_goals go_round
                case rel => exact ⟨k + 1, by omega, by go_num, HN'⟩
                case measure => simp [intOf]; omega
            · have hf : Hid (b = false) := by
                have hb := HB.out
                cases b
                · rfl
                · exact absurd (by rw [e]; exact (hb.1 rfl).2.2.2.2 k hlt) hc
              clear e
              have hc' : ((65 ≤ (s[k].toNat : Int) ∧ (s[k].toNat : Int) ≤ 90) ∨ ¬ LetI (s[k].toNat : Int)) ∧ ((s[k].toNat : Int) != 45) = true := by
                unfold ChI at hc
                unfold LetI
                rw [bne_iff_ne]
                omega
              clear hc
              obtain ⟨hc1, n1⟩ := hc'
              by_cases hL : LetI (s[k].toNat : Int)
              · have HT : Hid (true = true ↔ LetI (s[k].toNat : Int)) := by unfold Hid; simpa using hL
                obtain ⟨n2, n3⟩ : 65 ≤ (s[k].toNat : Int) ∧ (s[k].toNat : Int) ≤ 90 := hc1.resolve_right fun h => h hL
                clear hc1 hL
                go_wp2_with (go_at_call 43; refine (l14Letter_any _ true HT.out _).mono ?_; rintro e w' ⟨rfl, rfl⟩)
                go_ret
                exact ⟨ret_b hf.out.symm, rfl⟩
              · have HT : Hid (false = true ↔ LetI (s[k].toNat : Int)) := by unfold Hid; simpa using hL
                clear hc1 hL
                go_wp2_with (go_at_call 43; refine (l14Letter_any _ false HT.out _).mono ?_; rintro e w' ⟨rfl, rfl⟩)
                go_ret
                exact ⟨ret_b hf.out.symm, rfl⟩
          · have hf : Hid (b = true) := HB.out.2 ⟨c1, c2, E0.out.1, E0.out.2, fun j hj => HN j (by omega)⟩
            go_wp2
            go_ret
            exact ⟨ret_b hf.out.symm, rfl⟩
  · have hf : Hid (b = false) := by
      have hb := HB.out
      cases b
      · rfl
      · exact absurd ⟨(hb.1 rfl).1, (hb.1 rfl).2.1⟩ c1
    have HL : Hid ((false : Bool) = true ↔ (1 : Int) ≤ (s.size : Int) ∧ (s.size : Int) ≤ 20) := by unfold Hid; simp; omega
    go_enter Tryd.func27, Tryd.ntmps27
    go_wp2_with (go_at_call 28; refine (l01In_any _ _ _ false HL.out _).mono ?_; rintro e w' ⟨rfl, rfl⟩)
    go_ret
    exact ⟨ret_b hf.out.symm, rfl⟩
theorem implNameOk_t (s : ByteArray) (hs : s.size ≤ maxLen) (h : NameP s) (w : World) : Calls Tryd.prog 34 #[.string s] w fun e w' => e = .returned (.bool true) ∧ w = w' := implNameOk_any s hs true (by simpa using h) w
theorem implNameOk_f (s : ByteArray) (hs : s.size ≤ maxLen) (h : ¬ NameP s) (w : World) : Calls Tryd.prog 34 #[.string s] w fun e w' => e = .returned (.bool false) ∧ w = w' := implNameOk_any s hs false (by simpa using h) w

theorem specNameOk_t (s : ByteArray) (hs : s.size ≤ maxLen) (h : NameP s) (w : World) : Calls Tryd.prog 27 #[.string s] w fun e w' => e = .returned (.bool true) ∧ w = w' := specNameOk_any s hs true (by simpa using h) w
theorem specNameOk_f (s : ByteArray) (hs : s.size ≤ maxLen) (h : ¬ NameP s) (w : World) : Calls Tryd.prog 27 #[.string s] w fun e w' => e = .returned (.bool false) ∧ w = w' := specNameOk_any s hs false (by simpa using h) w

theorem within_t (n lo hi : Int) (h : lo ≤ n ∧ n ≤ hi) (w : World) : Calls Tryd.prog 35 #[.int .i64 n, .int .i64 lo, .int .i64 hi] w fun e w' => e = .returned (.bool true) ∧ w = w' := within_any n lo hi true (by simpa using h) w
theorem within_f (n lo hi : Int) (h : ¬ (lo ≤ n ∧ n ≤ hi)) (w : World) : Calls Tryd.prog 35 #[.int .i64 n, .int .i64 lo, .int .i64 hi] w fun e w' => e = .returned (.bool false) ∧ w = w' := within_any n lo hi false (by simpa using h) w

theorem l01In_t (n lo hi : Int) (h : lo ≤ n ∧ n ≤ hi) (w : World) : Calls Tryd.prog 28 #[.int .i64 n, .int .i64 lo, .int .i64 hi] w fun e w' => e = .returned (.bool true) ∧ w = w' := l01In_any n lo hi true (by simpa using h) w
theorem l01In_f (n lo hi : Int) (h : ¬ (lo ≤ n ∧ n ≤ hi)) (w : World) : Calls Tryd.prog 28 #[.int .i64 n, .int .i64 lo, .int .i64 hi] w fun e w' => e = .returned (.bool false) ∧ w = w' := l01In_any n lo hi false (by simpa using h) w
end Go.Proofs.YtepachoampdhiaaDoor
