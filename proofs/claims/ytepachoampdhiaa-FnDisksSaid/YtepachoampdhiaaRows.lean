/-
  No cell of these rows narrows 'for every input' (looked for: loops, veiled, ifaces, maps, wideKeys, modest, calm, conditions, laid).
  DERIVED. THE GIVEN ROWS OF THIS SEAT. 15 by the template 'for every input the law returns true; each argument reads behind the call as it read before'; 0 by the template 'total and deterministic' (their statements: YtepachoampdhiaaTotals.lean).
  GIVEN WITH THE SEED: the statements are not yours to turn. If you find one false, say at which input.
  Laid BY PROGRAM, IN A SANDBOX (cutbox-rows.mjs): the forced cells as the released guide's own fill.sh prints them over the translation 43a303e156d1a85d… (all of the seat's roots in one cut). By AI agents, Wed Nov 11 2026. No macro, syntax, notation, axiom, sorry.
-/
import Derived.Test.YtepachoampdhiaaChecked
import GoSem.Claim
import GoSem.ClaimJoined
import GoSem.ClaimMapViews
import Derived.JoinedTies
import Derived.KernelRfl
namespace Go.Proofs.Ytepachoampdhiaa
/- THE CELL 'sum', in the pinned program and in every row, IS THE sha256 OF THE DUMP (.gsa) THAT YtepachoampdhiaaProg.lean LOADS. Nothing in Lean hashes anything: it is a label: what it is worth is what the hold of that sum in a sandbox is worth. -/
noncomputable def Try.pinned : Pinned := { name := "ytepachoampdhiaa", sum := "43a303e156d1a85d3257d3d55f85c78f59145444247940e7de02c73ea9a242b5", checked := Try.checked }
namespace Rows
def none {H : Type} : Left H := { results := [], args := [] }

/-- 'laws.FnExactFileAt': WHATEVER THE INPUT: true; the input reads as it did. -/
def fnExactFileAtSpec : ChangeSpec := { name := "fnExactFileAt", fn := fun _ => fun
  | [d1, d2] => { results := [.lit (.bool true)], args := [d1, d2] }
  | _ => none }
def fnExactFileAtRow : OpenClaim := { program := "ytepachoampdhiaa", sum := "43a303e156d1a85d3257d3d55f85c78f59145444247940e7de02c73ea9a242b5", func := "loop.example/g00968/laws.FnExactFileAt", spec := "fnExactFileAt", unfollowed := true, recurses := true, apart := false }
def FnExactFileAtSaid : Prop := fnExactFileAtRow.holds Try.pinned (OpenSpec.ofChange fnExactFileAtSpec)

/-- ITS FALSE NEIGHBOUR: 'it returns false'. Refute it at one input. -/
def fnExactFileAtWrong : ChangeSpec := { name := "fnExactFileAt", fn := fun _ => fun
  | [d1, d2] => { results := [.lit (.bool false)], args := [d1, d2] }
  | _ => none }
def FnExactFileAtWrongFalsely : Prop := fnExactFileAtRow.holds Try.pinned (OpenSpec.ofChange fnExactFileAtWrong)

/-- 'laws.FnExactActOk': WHATEVER THE INPUT: true; the input reads as it did. -/
def fnExactActOkSpec : ChangeSpec := { name := "fnExactActOk", fn := fun _ => fun
  | [d] => { results := [.lit (.bool true)], args := [d] }
  | _ => none }
def fnExactActOkRow : OpenClaim := { program := "ytepachoampdhiaa", sum := "43a303e156d1a85d3257d3d55f85c78f59145444247940e7de02c73ea9a242b5", func := "loop.example/g00968/laws.FnExactActOk", spec := "fnExactActOk", apart := false }
def FnExactActOkSaid : Prop := fnExactActOkRow.holds Try.pinned (OpenSpec.ofChange fnExactActOkSpec)

/-- ITS FALSE NEIGHBOUR: 'it returns false'. Refute it at one input. -/
def fnExactActOkWrong : ChangeSpec := { name := "fnExactActOk", fn := fun _ => fun
  | [d] => { results := [.lit (.bool false)], args := [d] }
  | _ => none }
def FnExactActOkWrongFalsely : Prop := fnExactActOkRow.holds Try.pinned (OpenSpec.ofChange fnExactActOkWrong)

/-- 'laws.FnExactTextOf': WHATEVER THE INPUT: true; the input reads as it did. -/
def fnExactTextOfSpec : ChangeSpec := { name := "fnExactTextOf", fn := fun _ => fun
  | [d1, d2] => { results := [.lit (.bool true)], args := [d1, d2] }
  | _ => none }
def fnExactTextOfRow : OpenClaim := { program := "ytepachoampdhiaa", sum := "43a303e156d1a85d3257d3d55f85c78f59145444247940e7de02c73ea9a242b5", func := "loop.example/g00968/laws.FnExactTextOf", spec := "fnExactTextOf", unfollowed := true, recurses := true, apart := false }
def FnExactTextOfSaid : Prop := fnExactTextOfRow.holds Try.pinned (OpenSpec.ofChange fnExactTextOfSpec)

/-- ITS FALSE NEIGHBOUR: 'it returns false'. Refute it at one input. -/
def fnExactTextOfWrong : ChangeSpec := { name := "fnExactTextOf", fn := fun _ => fun
  | [d1, d2] => { results := [.lit (.bool false)], args := [d1, d2] }
  | _ => none }
def FnExactTextOfWrongFalsely : Prop := fnExactTextOfRow.holds Try.pinned (OpenSpec.ofChange fnExactTextOfWrong)

/-- 'laws.FnExactDiskOk': WHATEVER THE INPUT: true; the input reads as it did. -/
def fnExactDiskOkSpec : ChangeSpec := { name := "fnExactDiskOk", fn := fun _ => fun
  | [d] => { results := [.lit (.bool true)], args := [d] }
  | _ => none }
def fnExactDiskOkRow : OpenClaim := { program := "ytepachoampdhiaa", sum := "43a303e156d1a85d3257d3d55f85c78f59145444247940e7de02c73ea9a242b5", func := "loop.example/g00968/laws.FnExactDiskOk", spec := "fnExactDiskOk", apart := false }
def FnExactDiskOkSaid : Prop := fnExactDiskOkRow.holds Try.pinned (OpenSpec.ofChange fnExactDiskOkSpec)

/-- ITS FALSE NEIGHBOUR: 'it returns false'. Refute it at one input. -/
def fnExactDiskOkWrong : ChangeSpec := { name := "fnExactDiskOk", fn := fun _ => fun
  | [d] => { results := [.lit (.bool false)], args := [d] }
  | _ => none }
def FnExactDiskOkWrongFalsely : Prop := fnExactDiskOkRow.holds Try.pinned (OpenSpec.ofChange fnExactDiskOkWrong)

/-- 'laws.FnExactSyncFile': WHATEVER THE INPUT: true; the input reads as it did. -/
def fnExactSyncFileSpec : ChangeSpec := { name := "fnExactSyncFile", fn := fun _ => fun
  | [d1, d2] => { results := [.lit (.bool true)], args := [d1, d2] }
  | _ => none }
def fnExactSyncFileRow : OpenClaim := { program := "ytepachoampdhiaa", sum := "43a303e156d1a85d3257d3d55f85c78f59145444247940e7de02c73ea9a242b5", func := "loop.example/g00968/laws.FnExactSyncFile", spec := "fnExactSyncFile", unfollowed := true, recurses := true, apart := false }
def FnExactSyncFileSaid : Prop := fnExactSyncFileRow.holds Try.pinned (OpenSpec.ofChange fnExactSyncFileSpec)

/-- ITS FALSE NEIGHBOUR: 'it returns false'. Refute it at one input. -/
def fnExactSyncFileWrong : ChangeSpec := { name := "fnExactSyncFile", fn := fun _ => fun
  | [d1, d2] => { results := [.lit (.bool false)], args := [d1, d2] }
  | _ => none }
def FnExactSyncFileWrongFalsely : Prop := fnExactSyncFileRow.holds Try.pinned (OpenSpec.ofChange fnExactSyncFileWrong)

/-- 'laws.FnExactRemoveFile': WHATEVER THE INPUT: true; the input reads as it did. -/
def fnExactRemoveFileSpec : ChangeSpec := { name := "fnExactRemoveFile", fn := fun _ => fun
  | [d1, d2] => { results := [.lit (.bool true)], args := [d1, d2] }
  | _ => none }
def fnExactRemoveFileRow : OpenClaim := { program := "ytepachoampdhiaa", sum := "43a303e156d1a85d3257d3d55f85c78f59145444247940e7de02c73ea9a242b5", func := "loop.example/g00968/laws.FnExactRemoveFile", spec := "fnExactRemoveFile", unfollowed := true, recurses := true, apart := false }
def FnExactRemoveFileSaid : Prop := fnExactRemoveFileRow.holds Try.pinned (OpenSpec.ofChange fnExactRemoveFileSpec)

/-- ITS FALSE NEIGHBOUR: 'it returns false'. Refute it at one input. -/
def fnExactRemoveFileWrong : ChangeSpec := { name := "fnExactRemoveFile", fn := fun _ => fun
  | [d1, d2] => { results := [.lit (.bool false)], args := [d1, d2] }
  | _ => none }
def FnExactRemoveFileWrongFalsely : Prop := fnExactRemoveFileRow.holds Try.pinned (OpenSpec.ofChange fnExactRemoveFileWrong)

/-- 'laws.FnExactFallenDisk': WHATEVER THE INPUT: true; the input reads as it did. -/
def fnExactFallenDiskSpec : ChangeSpec := { name := "fnExactFallenDisk", fn := fun _ => fun
  | [d1, d2] => { results := [.lit (.bool true)], args := [d1, d2] }
  | _ => none }
def fnExactFallenDiskRow : OpenClaim := { program := "ytepachoampdhiaa", sum := "43a303e156d1a85d3257d3d55f85c78f59145444247940e7de02c73ea9a242b5", func := "loop.example/g00968/laws.FnExactFallenDisk", spec := "fnExactFallenDisk", apart := false }
def FnExactFallenDiskSaid : Prop := fnExactFallenDiskRow.holds Try.pinned (OpenSpec.ofChange fnExactFallenDiskSpec)

/-- ITS FALSE NEIGHBOUR: 'it returns false'. Refute it at one input. -/
def fnExactFallenDiskWrong : ChangeSpec := { name := "fnExactFallenDisk", fn := fun _ => fun
  | [d1, d2] => { results := [.lit (.bool false)], args := [d1, d2] }
  | _ => none }
def FnExactFallenDiskWrongFalsely : Prop := fnExactFallenDiskRow.holds Try.pinned (OpenSpec.ofChange fnExactFallenDiskWrong)

/-- 'laws.FnExactCleared': WHATEVER THE INPUT: true; the input reads as it did. -/
def fnExactClearedSpec : ChangeSpec := { name := "fnExactCleared", fn := fun _ => fun
  | [d] => { results := [.lit (.bool true)], args := [d] }
  | _ => none }
def fnExactClearedRow : OpenClaim := { program := "ytepachoampdhiaa", sum := "43a303e156d1a85d3257d3d55f85c78f59145444247940e7de02c73ea9a242b5", func := "loop.example/g00968/laws.FnExactCleared", spec := "fnExactCleared", unfollowed := true, recurses := true, apart := false }
def FnExactClearedSaid : Prop := fnExactClearedRow.holds Try.pinned (OpenSpec.ofChange fnExactClearedSpec)

/-- ITS FALSE NEIGHBOUR: 'it returns false'. Refute it at one input. -/
def fnExactClearedWrong : ChangeSpec := { name := "fnExactCleared", fn := fun _ => fun
  | [d] => { results := [.lit (.bool false)], args := [d] }
  | _ => none }
def FnExactClearedWrongFalsely : Prop := fnExactClearedRow.holds Try.pinned (OpenSpec.ofChange fnExactClearedWrong)

/-- 'laws.FnExactWriteFile': WHATEVER THE INPUT: true; the input reads as it did. -/
def fnExactWriteFileSpec : ChangeSpec := { name := "fnExactWriteFile", fn := fun _ => fun
  | [d1, d2, d3] => { results := [.lit (.bool true)], args := [d1, d2, d3] }
  | _ => none }
def fnExactWriteFileRow : OpenClaim := { program := "ytepachoampdhiaa", sum := "43a303e156d1a85d3257d3d55f85c78f59145444247940e7de02c73ea9a242b5", func := "loop.example/g00968/laws.FnExactWriteFile", spec := "fnExactWriteFile", unfollowed := true, recurses := true, apart := false }
def FnExactWriteFileSaid : Prop := fnExactWriteFileRow.holds Try.pinned (OpenSpec.ofChange fnExactWriteFileSpec)

/-- ITS FALSE NEIGHBOUR: 'it returns false'. Refute it at one input. -/
def fnExactWriteFileWrong : ChangeSpec := { name := "fnExactWriteFile", fn := fun _ => fun
  | [d1, d2, d3] => { results := [.lit (.bool false)], args := [d1, d2, d3] }
  | _ => none }
def FnExactWriteFileWrongFalsely : Prop := fnExactWriteFileRow.holds Try.pinned (OpenSpec.ofChange fnExactWriteFileWrong)

/-- 'laws.FnFalls': WHATEVER THE INPUT: true; the input reads as it did. -/
def fnFallsSpec : ChangeSpec := { name := "fnFalls", fn := fun _ => fun
  | [d] => { results := [.lit (.bool true)], args := [d] }
  | _ => none }
def fnFallsRow : OpenClaim := { program := "ytepachoampdhiaa", sum := "43a303e156d1a85d3257d3d55f85c78f59145444247940e7de02c73ea9a242b5", func := "loop.example/g00968/laws.FnFalls", spec := "fnFalls", unfollowed := true, recurses := true, apart := false }
def FnFallsSaid : Prop := fnFallsRow.holds Try.pinned (OpenSpec.ofChange fnFallsSpec)

/-- ITS FALSE NEIGHBOUR: 'it returns false'. Refute it at one input. -/
def fnFallsWrong : ChangeSpec := { name := "fnFalls", fn := fun _ => fun
  | [d] => { results := [.lit (.bool false)], args := [d] }
  | _ => none }
def FnFallsWrongFalsely : Prop := fnFallsRow.holds Try.pinned (OpenSpec.ofChange fnFallsWrong)

/-- 'laws.FnExactRenameFile': WHATEVER THE INPUT: true; the input reads as it did. -/
def fnExactRenameFileSpec : ChangeSpec := { name := "fnExactRenameFile", fn := fun _ => fun
  | [d1, d2, d3] => { results := [.lit (.bool true)], args := [d1, d2, d3] }
  | _ => none }
def fnExactRenameFileRow : OpenClaim := { program := "ytepachoampdhiaa", sum := "43a303e156d1a85d3257d3d55f85c78f59145444247940e7de02c73ea9a242b5", func := "loop.example/g00968/laws.FnExactRenameFile", spec := "fnExactRenameFile", unfollowed := true, recurses := true, apart := false }
def FnExactRenameFileSaid : Prop := fnExactRenameFileRow.holds Try.pinned (OpenSpec.ofChange fnExactRenameFileSpec)

/-- ITS FALSE NEIGHBOUR: 'it returns false'. Refute it at one input. -/
def fnExactRenameFileWrong : ChangeSpec := { name := "fnExactRenameFile", fn := fun _ => fun
  | [d1, d2, d3] => { results := [.lit (.bool false)], args := [d1, d2, d3] }
  | _ => none }
def FnExactRenameFileWrongFalsely : Prop := fnExactRenameFileRow.holds Try.pinned (OpenSpec.ofChange fnExactRenameFileWrong)

/-- 'laws.FnDisks': WHATEVER THE INPUT: true; the input reads as it did. -/
def fnDisksSpec : ChangeSpec := { name := "fnDisks", fn := fun _ => fun
  | [d] => { results := [.lit (.bool true)], args := [d] }
  | _ => none }
def fnDisksRow : OpenClaim := { program := "ytepachoampdhiaa", sum := "43a303e156d1a85d3257d3d55f85c78f59145444247940e7de02c73ea9a242b5", func := "loop.example/g00968/laws.FnDisks", spec := "fnDisks", unfollowed := true, recurses := true, apart := false }
def FnDisksSaid : Prop := fnDisksRow.holds Try.pinned (OpenSpec.ofChange fnDisksSpec)

/-- ITS FALSE NEIGHBOUR: 'it returns false'. Refute it at one input. -/
def fnDisksWrong : ChangeSpec := { name := "fnDisks", fn := fun _ => fun
  | [d] => { results := [.lit (.bool false)], args := [d] }
  | _ => none }
def FnDisksWrongFalsely : Prop := fnDisksRow.holds Try.pinned (OpenSpec.ofChange fnDisksWrong)

/-- 'laws.FnExactSaveStep': WHATEVER THE INPUT: true; the input reads as it did. -/
def fnExactSaveStepSpec : ChangeSpec := { name := "fnExactSaveStep", fn := fun _ => fun
  | [d1, d2, d3] => { results := [.lit (.bool true)], args := [d1, d2, d3] }
  | _ => none }
def fnExactSaveStepRow : OpenClaim := { program := "ytepachoampdhiaa", sum := "43a303e156d1a85d3257d3d55f85c78f59145444247940e7de02c73ea9a242b5", func := "loop.example/g00968/laws.FnExactSaveStep", spec := "fnExactSaveStep", unfollowed := true, recurses := true, apart := false }
def FnExactSaveStepSaid : Prop := fnExactSaveStepRow.holds Try.pinned (OpenSpec.ofChange fnExactSaveStepSpec)

/-- ITS FALSE NEIGHBOUR: 'it returns false'. Refute it at one input. -/
def fnExactSaveStepWrong : ChangeSpec := { name := "fnExactSaveStep", fn := fun _ => fun
  | [d1, d2, d3] => { results := [.lit (.bool false)], args := [d1, d2, d3] }
  | _ => none }
def FnExactSaveStepWrongFalsely : Prop := fnExactSaveStepRow.holds Try.pinned (OpenSpec.ofChange fnExactSaveStepWrong)

/-- 'laws.FnExactSavedTill': WHATEVER THE INPUT: true; the input reads as it did. -/
def fnExactSavedTillSpec : ChangeSpec := { name := "fnExactSavedTill", fn := fun _ => fun
  | [d1, d2, d3] => { results := [.lit (.bool true)], args := [d1, d2, d3] }
  | _ => none }
def fnExactSavedTillRow : OpenClaim := { program := "ytepachoampdhiaa", sum := "43a303e156d1a85d3257d3d55f85c78f59145444247940e7de02c73ea9a242b5", func := "loop.example/g00968/laws.FnExactSavedTill", spec := "fnExactSavedTill", unfollowed := true, recurses := true, apart := false }
def FnExactSavedTillSaid : Prop := fnExactSavedTillRow.holds Try.pinned (OpenSpec.ofChange fnExactSavedTillSpec)

/-- ITS FALSE NEIGHBOUR: 'it returns false'. Refute it at one input. -/
def fnExactSavedTillWrong : ChangeSpec := { name := "fnExactSavedTill", fn := fun _ => fun
  | [d1, d2, d3] => { results := [.lit (.bool false)], args := [d1, d2, d3] }
  | _ => none }
def FnExactSavedTillWrongFalsely : Prop := fnExactSavedTillRow.holds Try.pinned (OpenSpec.ofChange fnExactSavedTillWrong)

/-- 'laws.FnExactWorldNew': WHATEVER THE INPUT: true; the input reads as it did. -/
def fnExactWorldNewSpec : ChangeSpec := { name := "fnExactWorldNew", fn := fun _ => fun
  | [] => { results := [.lit (.bool true)], args := [] }
  | _ => none }
def fnExactWorldNewRow : OpenClaim := { program := "ytepachoampdhiaa", sum := "43a303e156d1a85d3257d3d55f85c78f59145444247940e7de02c73ea9a242b5", func := "loop.example/g00968/laws.FnExactWorldNew", spec := "fnExactWorldNew", apart := false }
def FnExactWorldNewSaid : Prop := fnExactWorldNewRow.holds Try.pinned (OpenSpec.ofChange fnExactWorldNewSpec)

/-- ITS FALSE NEIGHBOUR: 'it returns false'. Refute it at one input. -/
def fnExactWorldNewWrong : ChangeSpec := { name := "fnExactWorldNew", fn := fun _ => fun
  | [] => { results := [.lit (.bool false)], args := [] }
  | _ => none }
def FnExactWorldNewWrongFalsely : Prop := fnExactWorldNewRow.holds Try.pinned (OpenSpec.ofChange fnExactWorldNewWrong)

/- THE SECOND FORM. 'bulk': how many values and letters a reading holds, each counted each time it is reached (what is shared counts as often as it is met; a slice's spare places count too). A statement '..UptoSaid' is the law's where the arguments, and the package variables that the reading takes, are together of bulk at most 1048576: NARROWER than '..Said'. Prove '..Said' where nothing that the law and all that it calls make is longer than what came in: it says more and counts as full. Else prove '..UptoSaid'. A law counts once. -/
mutual
def uptoBulk {H : Type} : DataW H → Nat
  | .lit (.string bytes) => bytes.length + 1
  | .lit _ => 1
  | .nil => 1
  | .ptr d => uptoBulk d + 1
  | .slice elems spare => uptoBulkAll elems + uptoBulkAll spare + 1
  | .agg parts => uptoBulkAll parts + 1
  | .iface _ d => uptoBulk d + 1
  | .map entries => uptoBulkEntries entries + 1
  | .held _ => 1
def uptoBulkAll {H : Type} : List (DataW H) → Nat
  | [] => 0
  | d :: r => uptoBulk d + uptoBulkAll r
def uptoBulkEntries {H : Type} : List (Lit × DataW H) → Nat
  | [] => 0
  | x :: r => uptoBulkEntry x + uptoBulkEntries r
def uptoBulkEntry {H : Type} : Lit × DataW H → Nat
  | (.string bytes, d) => bytes.length + uptoBulk d + 1
  | (_, d) => uptoBulk d + 1
 end
def uptoSmall : (H : Type) → List (DataW H) → Bool := fun _ ds => decide (uptoBulkAll ds ≤ 1048576)
def OpenSpec.upto (s : _root_.Go.ChangeSpec) : _root_.Go.OpenSpec := { _root_.Go.OpenSpec.ofChange s with cond := some uptoSmall }

/-- 'laws.FnExactFileAt', WHERE WHAT IT READS IS OF BULK AT MOST 1048576: true; the input reads as it did. -/
def fnExactFileAtUptoRow : OpenClaim := { program := "ytepachoampdhiaa", sum := "43a303e156d1a85d3257d3d55f85c78f59145444247940e7de02c73ea9a242b5", func := "loop.example/g00968/laws.FnExactFileAt", spec := "fnExactFileAt", unfollowed := true, recurses := true, apart := false, narrowed := true }
def FnExactFileAtUptoSaid : Prop := fnExactFileAtUptoRow.holds Try.pinned (OpenSpec.upto fnExactFileAtSpec)

/-- 'laws.FnExactActOk', WHERE WHAT IT READS IS OF BULK AT MOST 1048576: true; the input reads as it did. -/
def fnExactActOkUptoRow : OpenClaim := { program := "ytepachoampdhiaa", sum := "43a303e156d1a85d3257d3d55f85c78f59145444247940e7de02c73ea9a242b5", func := "loop.example/g00968/laws.FnExactActOk", spec := "fnExactActOk", apart := false, narrowed := true }
def FnExactActOkUptoSaid : Prop := fnExactActOkUptoRow.holds Try.pinned (OpenSpec.upto fnExactActOkSpec)

/-- 'laws.FnExactTextOf', WHERE WHAT IT READS IS OF BULK AT MOST 1048576: true; the input reads as it did. -/
def fnExactTextOfUptoRow : OpenClaim := { program := "ytepachoampdhiaa", sum := "43a303e156d1a85d3257d3d55f85c78f59145444247940e7de02c73ea9a242b5", func := "loop.example/g00968/laws.FnExactTextOf", spec := "fnExactTextOf", unfollowed := true, recurses := true, apart := false, narrowed := true }
def FnExactTextOfUptoSaid : Prop := fnExactTextOfUptoRow.holds Try.pinned (OpenSpec.upto fnExactTextOfSpec)

/-- 'laws.FnExactDiskOk', WHERE WHAT IT READS IS OF BULK AT MOST 1048576: true; the input reads as it did. -/
def fnExactDiskOkUptoRow : OpenClaim := { program := "ytepachoampdhiaa", sum := "43a303e156d1a85d3257d3d55f85c78f59145444247940e7de02c73ea9a242b5", func := "loop.example/g00968/laws.FnExactDiskOk", spec := "fnExactDiskOk", apart := false, narrowed := true }
def FnExactDiskOkUptoSaid : Prop := fnExactDiskOkUptoRow.holds Try.pinned (OpenSpec.upto fnExactDiskOkSpec)

/-- 'laws.FnExactSyncFile', WHERE WHAT IT READS IS OF BULK AT MOST 1048576: true; the input reads as it did. -/
def fnExactSyncFileUptoRow : OpenClaim := { program := "ytepachoampdhiaa", sum := "43a303e156d1a85d3257d3d55f85c78f59145444247940e7de02c73ea9a242b5", func := "loop.example/g00968/laws.FnExactSyncFile", spec := "fnExactSyncFile", unfollowed := true, recurses := true, apart := false, narrowed := true }
def FnExactSyncFileUptoSaid : Prop := fnExactSyncFileUptoRow.holds Try.pinned (OpenSpec.upto fnExactSyncFileSpec)

/-- 'laws.FnExactRemoveFile', WHERE WHAT IT READS IS OF BULK AT MOST 1048576: true; the input reads as it did. -/
def fnExactRemoveFileUptoRow : OpenClaim := { program := "ytepachoampdhiaa", sum := "43a303e156d1a85d3257d3d55f85c78f59145444247940e7de02c73ea9a242b5", func := "loop.example/g00968/laws.FnExactRemoveFile", spec := "fnExactRemoveFile", unfollowed := true, recurses := true, apart := false, narrowed := true }
def FnExactRemoveFileUptoSaid : Prop := fnExactRemoveFileUptoRow.holds Try.pinned (OpenSpec.upto fnExactRemoveFileSpec)

/-- 'laws.FnExactFallenDisk', WHERE WHAT IT READS IS OF BULK AT MOST 1048576: true; the input reads as it did. -/
def fnExactFallenDiskUptoRow : OpenClaim := { program := "ytepachoampdhiaa", sum := "43a303e156d1a85d3257d3d55f85c78f59145444247940e7de02c73ea9a242b5", func := "loop.example/g00968/laws.FnExactFallenDisk", spec := "fnExactFallenDisk", apart := false, narrowed := true }
def FnExactFallenDiskUptoSaid : Prop := fnExactFallenDiskUptoRow.holds Try.pinned (OpenSpec.upto fnExactFallenDiskSpec)

/-- 'laws.FnExactCleared', WHERE WHAT IT READS IS OF BULK AT MOST 1048576: true; the input reads as it did. -/
def fnExactClearedUptoRow : OpenClaim := { program := "ytepachoampdhiaa", sum := "43a303e156d1a85d3257d3d55f85c78f59145444247940e7de02c73ea9a242b5", func := "loop.example/g00968/laws.FnExactCleared", spec := "fnExactCleared", unfollowed := true, recurses := true, apart := false, narrowed := true }
def FnExactClearedUptoSaid : Prop := fnExactClearedUptoRow.holds Try.pinned (OpenSpec.upto fnExactClearedSpec)

/-- 'laws.FnExactWriteFile', WHERE WHAT IT READS IS OF BULK AT MOST 1048576: true; the input reads as it did. -/
def fnExactWriteFileUptoRow : OpenClaim := { program := "ytepachoampdhiaa", sum := "43a303e156d1a85d3257d3d55f85c78f59145444247940e7de02c73ea9a242b5", func := "loop.example/g00968/laws.FnExactWriteFile", spec := "fnExactWriteFile", unfollowed := true, recurses := true, apart := false, narrowed := true }
def FnExactWriteFileUptoSaid : Prop := fnExactWriteFileUptoRow.holds Try.pinned (OpenSpec.upto fnExactWriteFileSpec)

/-- 'laws.FnFalls', WHERE WHAT IT READS IS OF BULK AT MOST 1048576: true; the input reads as it did. -/
def fnFallsUptoRow : OpenClaim := { program := "ytepachoampdhiaa", sum := "43a303e156d1a85d3257d3d55f85c78f59145444247940e7de02c73ea9a242b5", func := "loop.example/g00968/laws.FnFalls", spec := "fnFalls", unfollowed := true, recurses := true, apart := false, narrowed := true }
def FnFallsUptoSaid : Prop := fnFallsUptoRow.holds Try.pinned (OpenSpec.upto fnFallsSpec)

/-- 'laws.FnExactRenameFile', WHERE WHAT IT READS IS OF BULK AT MOST 1048576: true; the input reads as it did. -/
def fnExactRenameFileUptoRow : OpenClaim := { program := "ytepachoampdhiaa", sum := "43a303e156d1a85d3257d3d55f85c78f59145444247940e7de02c73ea9a242b5", func := "loop.example/g00968/laws.FnExactRenameFile", spec := "fnExactRenameFile", unfollowed := true, recurses := true, apart := false, narrowed := true }
def FnExactRenameFileUptoSaid : Prop := fnExactRenameFileUptoRow.holds Try.pinned (OpenSpec.upto fnExactRenameFileSpec)

/-- 'laws.FnDisks', WHERE WHAT IT READS IS OF BULK AT MOST 1048576: true; the input reads as it did. -/
def fnDisksUptoRow : OpenClaim := { program := "ytepachoampdhiaa", sum := "43a303e156d1a85d3257d3d55f85c78f59145444247940e7de02c73ea9a242b5", func := "loop.example/g00968/laws.FnDisks", spec := "fnDisks", unfollowed := true, recurses := true, apart := false, narrowed := true }
def FnDisksUptoSaid : Prop := fnDisksUptoRow.holds Try.pinned (OpenSpec.upto fnDisksSpec)

/-- 'laws.FnExactSaveStep', WHERE WHAT IT READS IS OF BULK AT MOST 1048576: true; the input reads as it did. -/
def fnExactSaveStepUptoRow : OpenClaim := { program := "ytepachoampdhiaa", sum := "43a303e156d1a85d3257d3d55f85c78f59145444247940e7de02c73ea9a242b5", func := "loop.example/g00968/laws.FnExactSaveStep", spec := "fnExactSaveStep", unfollowed := true, recurses := true, apart := false, narrowed := true }
def FnExactSaveStepUptoSaid : Prop := fnExactSaveStepUptoRow.holds Try.pinned (OpenSpec.upto fnExactSaveStepSpec)

/-- 'laws.FnExactSavedTill', WHERE WHAT IT READS IS OF BULK AT MOST 1048576: true; the input reads as it did. -/
def fnExactSavedTillUptoRow : OpenClaim := { program := "ytepachoampdhiaa", sum := "43a303e156d1a85d3257d3d55f85c78f59145444247940e7de02c73ea9a242b5", func := "loop.example/g00968/laws.FnExactSavedTill", spec := "fnExactSavedTill", unfollowed := true, recurses := true, apart := false, narrowed := true }
def FnExactSavedTillUptoSaid : Prop := fnExactSavedTillUptoRow.holds Try.pinned (OpenSpec.upto fnExactSavedTillSpec)

/-- 'laws.FnExactWorldNew', WHERE WHAT IT READS IS OF BULK AT MOST 1048576: true; the input reads as it did. -/
def fnExactWorldNewUptoRow : OpenClaim := { program := "ytepachoampdhiaa", sum := "43a303e156d1a85d3257d3d55f85c78f59145444247940e7de02c73ea9a242b5", func := "loop.example/g00968/laws.FnExactWorldNew", spec := "fnExactWorldNew", apart := false, narrowed := true }
def FnExactWorldNewUptoSaid : Prop := fnExactWorldNewUptoRow.holds Try.pinned (OpenSpec.upto fnExactWorldNewSpec)

end Rows
end Go.Proofs.Ytepachoampdhiaa
