/- Io, JnFnReads (what is wanted of them). -/
import Derived.Test.YtidjjfjhmlndjaaGreatDoorRows
import Derived.JoinedOf
import Derived.KernelRfl
namespace Go.Proofs.YtidjjfjhmlndjaaGreatDoor
theorem words_app : ∀ (w rest : List Char), w.all (fun c => !(c.toNat == 32)) = true → wordsSigns (w ++ Char.ofNat 32 :: rest) = w :: wordsSigns rest
  | [], rest, _ => by
    show wordsSigns (Char.ofNat 32 :: rest) = _
    rw [wordsSigns]
  | c :: w, rest, h => by
    rw [List.all_cons, Bool.and_eq_true] at h
    have h2 := words_app w rest h.2
    rw [List.cons_append, wordsSigns, h2]
    intro hc
    have h3 := h.1
    rw [hc] at h3
    exact absurd h3 (by decide)
def headNats : List Nat := [104, 97, 114, 110, 101, 115, 115]
def sumNats : List Nat := [97, 51, 48, 57, 56, 54, 97, 97, 48, 101, 54, 98, 99, 101, 102, 53, 54, 101, 54, 101, 98, 56, 102, 56, 52, 100, 57, 56, 99, 98, 48, 57, 99, 100, 101, 54, 99, 51, 55, 57, 48, 98, 54, 99, 52, 57, 49, 98, 52, 56, 100, 56, 53, 51, 53, 51, 48, 100, 56, 97, 56, 49, 51, 99]
def cutNats : List Nat := [99, 117, 116]
def restNats : List Nat := [97, 116, 32, 108, 111, 111, 112, 46, 101, 120, 97, 109, 112, 108, 101, 47, 103, 48, 48, 57, 54, 56, 47, 108, 97, 119, 115, 46, 70, 110, 69, 120, 97, 99, 116, 67, 108, 117, 115, 116, 101, 114, 76, 105, 110, 101, 115, 32, 108, 111, 111, 112, 46, 101, 120, 97, 109, 112, 108, 101, 47, 103, 48, 48, 57, 54, 56, 47, 108, 97, 119, 115, 46, 70, 110, 69, 120, 97, 99, 116, 78, 101, 101, 100, 115, 73, 110, 32, 108, 111, 111, 112, 46, 101, 120, 97, 109, 112, 108, 101, 47, 103, 48, 48, 57, 54, 56, 47, 108, 97, 119, 115, 46, 70, 110, 69, 120, 97, 99, 116, 72, 111, 115, 116, 73, 110, 32, 108, 111, 111, 112, 46, 101, 120, 97, 109, 112, 108, 101, 47, 103, 48, 48, 57, 54, 56, 47, 108, 97, 119, 115, 46, 70, 110, 82, 101, 97, 100, 115]
theorem io_eq : Tryz.prog.initOrder = String.ofList ((headNats ++ 32 :: (sumNats ++ 32 :: (cutNats ++ 32 :: restNats))).map Char.ofNat) := by kernel_rfl
theorem io_words : wordsSigns Tryz.prog.initOrder.toList = headNats.map Char.ofNat :: sumNats.map Char.ofNat :: cutNats.map Char.ofNat :: wordsSigns (restNats.map Char.ofNat) := by
  rw [io_eq, String.toList_ofList, List.map_append, List.map_cons, words_app _ _ (by decide), List.map_append, List.map_cons, words_app _ _ (by decide), List.map_append, List.map_cons, words_app _ _ (by decide)]
theorem behind_ (ws : List (List Char)) : behindMainWord (headNats.map Char.ofNat :: sumNats.map Char.ofNat :: cutNats.map Char.ofNat :: ws) = cutNats.map Char.ofNat :: ws := by kernel_rfl
theorem strip_ (ws : List (List Char)) : stripLifts liftWords (cutNats.map Char.ofNat :: ws) = ([], cutNats.map Char.ofNat :: ws) := by kernel_rfl
theorem later_ : Tryz.prog.laysLater = false := by kernel_rfl
theorem reflect_ : Tryz.prog.bearsReflect = false := by kernel_rfl
theorem door_ : Tryz.prog.doorFits [] = true := by kernel_rfl
theorem cut_ : (cutNats.map Char.ofNat == "gc".toList) = false ∧ (cutNats.map Char.ofNat == "spec".toList) = false ∧ (cutNats.map Char.ofNat == "carried".toList) = false ∧ ((some (cutNats.map Char.ofNat)) == some "cut".toList) = true := by
  refine ⟨?_, ?_, ?_, ?_⟩ <;> kernel_rfl
theorem may_of {P : Program} {h s c : List Char} {ws : List (List Char)} (hw : wordsSigns P.initOrder.toList = h :: s :: c :: ws) (hb : behindMainWord (h :: s :: c :: ws) = c :: ws) (hs : stripLifts liftWords (c :: ws) = ([], c :: ws))
    (h1 : P.laysLater = false) (h2 : P.bearsReflect = false) (h3 : P.doorFits [] = true) (k1 : (c == "gc".toList) = false) (k2 : (c == "spec".toList) = false) (k3 : (c == "carried".toList) = false) (k4 : (some c == some "cut".toList) = true) : P.mayEnter = true := by
  unfold Program.mayEnter
  rw [hw, hb]
  simp only [hs, h1, h2, h3, k1, k2, k3, k4, List.head?_cons, List.contains_nil, Bool.false_and, Bool.or_false, Bool.not_false, Bool.and_true, Bool.or_true]
theorem may_enter : Tryz.prog.mayEnter = true := may_of io_words (behind_ _) (strip_ _) later_ reflect_ door_ cut_.1 cut_.2.1 cut_.2.2.1 cut_.2.2.2
theorem lifts_of {P : Program} {h s c : List Char} {ws : List (List Char)} (hw : wordsSigns P.initOrder.toList = h :: s :: c :: ws) (hb : behindMainWord (h :: s :: c :: ws) = c :: ws) (hs : stripLifts liftWords (c :: ws) = ([], c :: ws)) (k3 : (some c == some "carried".toList) = false) : P.liftsFinal = false := by
  unfold Program.liftsFinal Program.headLifts
  rw [hw, hb, hs]
  simp only [List.head?_cons, k3, Bool.false_and, Bool.false_or]
  have e : ∀ b : Bool, (if b = true then ([] : List String) else []).contains "finals" = false := by intro b; cases b <;> rfl
  exact e _
theorem lifts_final : Tryz.prog.liftsFinal = false := lifts_of io_words (behind_ _) (strip_ _) (by kernel_rfl)
end Go.Proofs.YtidjjfjhmlndjaaGreatDoor
namespace Go.Proofs.YtidjjfjhmlndjaaGreatDoor
set_option maxRecDepth 100000 in
set_option maxHeartbeats 16000000 in
theorem joinedFnReads : joinedFacts Tryz.pinned.checked.prog 6 Tryz.f6 Rows.fnReadsSpec Rows.fnReadsRow = true := by
  unfold joinedFacts
  simp only [Bool.and_eq_true]
  repeat' (apply And.intro)
  rotate_left 25
  · exact may_enter
  · rw [show Tryz.pinned.checked.prog.liftsFinal = false from lifts_final]; rfl
  all_goals (as_aux_lemma => kernel_rfl)
end Go.Proofs.YtidjjfjhmlndjaaGreatDoor
