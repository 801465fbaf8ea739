/- The law FnExactWorldNew: its walk. All slices are nil: each loop ends at its first test. -/
import Derived.Test.YtepachoampdhiaaGrown
import Derived.Test.YtepachoampdhiaaRows
namespace Go.Proofs.Ytepachoampdhiaa
open Go.RowKit
theorem eqNilHost (w : World) : Calls Try.prog 112 #[.slice none 0 0, .slice none 0 0] w fun e w' => e = .returned (.bool true) ∧ w = w' := by
  go_enter Try.func112, Try.ntmps112
  go_wp2
  refine wp_loop_rounds 1 ?_
  rw [rounds_succ]
  go_wp2
  go_ret
  exact ⟨rfl, rfl⟩
theorem markNilHost (k : Int) (w : World) : Calls Try.prog 114 #[.slice none 0 0, .int .i64 k] w fun e w' => e = .returned (.int .i64 k) ∧ w = w' := by
  go_enter Try.func114, Try.ntmps114
  go_wp2
  refine wp_loop_rounds 1 ?_
  rw [rounds_succ]
  go_wp2
  go_ret
  exact ⟨rfl, rfl⟩
theorem heldNilHost (k : Int) (w : World) : Calls Try.prog 116 #[.slice none 0 0, .int .i64 k] w fun e w' => e = .returned (.int .i64 k) ∧ w = w' := by
  go_enter Try.func116, Try.ntmps116
  go_wp2
  refine wp_loop_rounds 1 ?_
  rw [rounds_succ]
  go_wp2
  go_ret
  exact ⟨rfl, rfl⟩
theorem eqNilPlaced (w : World) : Calls Try.prog 113 #[.slice none 0 0, .slice none 0 0] w fun e w' => e = .returned (.bool true) ∧ w = w' := by
  go_enter Try.func113, Try.ntmps113
  go_wp2
  refine wp_loop_rounds 1 ?_
  rw [rounds_succ]
  go_wp2
  go_ret
  exact ⟨rfl, rfl⟩
theorem markNilPlaced (k : Int) (w : World) : Calls Try.prog 115 #[.slice none 0 0, .int .i64 k] w fun e w' => e = .returned (.int .i64 k) ∧ w = w' := by
  go_enter Try.func115, Try.ntmps115
  go_wp2
  refine wp_loop_rounds 1 ?_
  rw [rounds_succ]
  go_wp2
  go_ret
  exact ⟨rfl, rfl⟩
theorem heldNilPlaced (k : Int) (w : World) : Calls Try.prog 117 #[.slice none 0 0, .int .i64 k] w fun e w' => e = .returned (.int .i64 k) ∧ w = w' := by
  go_enter Try.func117, Try.ntmps117
  go_wp2
  refine wp_loop_rounds 1 ?_
  rw [rounds_succ]
  go_wp2
  go_ret
  exact ⟨rfl, rfl⟩
theorem eqNilFile (w : World) : Calls Try.prog 66 #[.slice none 0 0, .slice none 0 0] w fun e w' => e = .returned (.bool true) ∧ w = w' := by
  go_enter Try.func66, Try.ntmps66
  go_wp2
  refine wp_loop_rounds 1 ?_
  rw [rounds_succ]
  go_wp2
  go_ret
  exact ⟨rfl, rfl⟩
theorem markNilFile (k : Int) (w : World) : Calls Try.prog 76 #[.slice none 0 0, .int .i64 k] w fun e w' => e = .returned (.int .i64 k) ∧ w = w' := by
  go_enter Try.func76, Try.ntmps76
  go_wp2
  refine wp_loop_rounds 1 ?_
  rw [rounds_succ]
  go_wp2
  go_ret
  exact ⟨rfl, rfl⟩
theorem heldNilFile (k : Int) (w : World) : Calls Try.prog 77 #[.slice none 0 0, .int .i64 k] w fun e w' => e = .returned (.int .i64 k) ∧ w = w' := by
  go_enter Try.func77, Try.ntmps77
  go_wp2
  refine wp_loop_rounds 1 ?_
  rw [rounds_succ]
  go_wp2
  go_ret
  exact ⟨rfl, rfl⟩
set_option maxRecDepth 100000 in
set_option maxHeartbeats 4000000 in
theorem lawWorldNew_any (w : World) : Calls Try.prog 17 #[] w fun e w' => e = .returned (.bool true) ∧ Below w.heap.size w w' := by
  go_enter Try.func17, Try.ntmps17
  go_wp2_with (first | (go_at_call 112; refine (eqNilHost _).mono ?_; rintro e w' ⟨rfl, rfl⟩) | (go_at_call 114; refine (markNilHost _ _).mono ?_; rintro e w' ⟨rfl, rfl⟩) | (go_at_call 116; refine (heldNilHost _ _).mono ?_; rintro e w' ⟨rfl, rfl⟩) | (go_at_call 113; refine (eqNilPlaced _).mono ?_; rintro e w' ⟨rfl, rfl⟩) | (go_at_call 115; refine (markNilPlaced _ _).mono ?_; rintro e w' ⟨rfl, rfl⟩) | (go_at_call 117; refine (heldNilPlaced _ _).mono ?_; rintro e w' ⟨rfl, rfl⟩) | (go_at_call 66; refine (eqNilFile _).mono ?_; rintro e w' ⟨rfl, rfl⟩) | (go_at_call 76; refine (markNilFile _ _).mono ?_; rintro e w' ⟨rfl, rfl⟩) | (go_at_call 77; refine (heldNilFile _ _).mono ?_; rintro e w' ⟨rfl, rfl⟩) | go_in)
  go_ret
  exact ⟨rfl, by go_grown⟩
end Go.Proofs.Ytepachoampdhiaa
