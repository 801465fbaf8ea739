/-
  No cell of these rows narrows 'for every input' (looked for: loops, veiled, ifaces, maps, wideKeys, modest, calm, conditions, laid).
  DERIVED. THE GIVEN ROWS OF THIS SEAT. 16 by the template 'for every input the law returns true; each argument reads behind the call as it read before'; 0 by the template 'total and deterministic' (their statements: YtemaanibghedlaaGreatTotals.lean).
  GIVEN WITH THE SEED: the statements are not yours to turn. If you find one false, say at which input.
  Laid BY PROGRAM, IN A SANDBOX (cutbox-rows.mjs): the forced cells as the released guide's own fill.sh prints them over the translation f4f2472730b882ba… (all of the seat's roots in one cut). By AI agents, Wed Nov 11 2026. No macro, syntax, notation, axiom, sorry.
-/
import Derived.Test.YtemaanibghedlaaGreatChecked
import GoSem.Claim
import GoSem.ClaimJoined
import GoSem.ClaimMapViews
import Derived.JoinedTies
import Derived.KernelRfl
namespace Go.Proofs.YtemaanibghedlaaGreat
/- THE CELL 'sum', in the pinned program and in every row, IS THE sha256 OF THE DUMP (.gsa) THAT YtemaanibghedlaaGreatProg.lean LOADS. Nothing in Lean hashes anything: it is a label: what it is worth is what the hold of that sum in a sandbox is worth. -/
noncomputable def Tryz.pinned : Pinned := { name := "ytemaanibghedlaagreat", sum := "f4f2472730b882ba846e167af79a9d0f9b86e9867521a4b52a83b0c1b94ffdc3", checked := Tryz.checked }
namespace Rows
def none {H : Type} : Left H := { results := [], args := [] }

/-- 'laws.FnExactUpgraded12': WHATEVER THE INPUT: true; the input reads as it did. -/
def fnExactUpgraded12Spec : ChangeSpec := { name := "fnExactUpgraded12", fn := fun _ => fun
  | [d] => { results := [.lit (.bool true)], args := [d] }
  | _ => none }
def fnExactUpgraded12Row : OpenClaim := { program := "ytemaanibghedlaagreat", sum := "f4f2472730b882ba846e167af79a9d0f9b86e9867521a4b52a83b0c1b94ffdc3", func := "loop.example/g00968/laws.FnExactUpgraded12", spec := "fnExactUpgraded12", inPlace := ["internal/bytealg.IndexByteString", "internal/bytealg.abigen_runtime_cmpstring"], unfollowed := true, recurses := true, apart := false }
def FnExactUpgraded12Said : Prop := fnExactUpgraded12Row.holds Tryz.pinned (OpenSpec.ofChange fnExactUpgraded12Spec)

/-- ITS FALSE NEIGHBOUR: 'it returns false'. Refute it at one input. -/
def fnExactUpgraded12Wrong : ChangeSpec := { name := "fnExactUpgraded12", fn := fun _ => fun
  | [d] => { results := [.lit (.bool false)], args := [d] }
  | _ => none }
def FnExactUpgraded12WrongFalsely : Prop := fnExactUpgraded12Row.holds Tryz.pinned (OpenSpec.ofChange fnExactUpgraded12Wrong)

/-- 'laws.FnExactUpgraded23': WHATEVER THE INPUT: true; the input reads as it did. -/
def fnExactUpgraded23Spec : ChangeSpec := { name := "fnExactUpgraded23", fn := fun _ => fun
  | [d] => { results := [.lit (.bool true)], args := [d] }
  | _ => none }
def fnExactUpgraded23Row : OpenClaim := { program := "ytemaanibghedlaagreat", sum := "f4f2472730b882ba846e167af79a9d0f9b86e9867521a4b52a83b0c1b94ffdc3", func := "loop.example/g00968/laws.FnExactUpgraded23", spec := "fnExactUpgraded23", inPlace := ["internal/bytealg.IndexByteString", "internal/bytealg.abigen_runtime_cmpstring"], unfollowed := true, recurses := true, apart := false }
def FnExactUpgraded23Said : Prop := fnExactUpgraded23Row.holds Tryz.pinned (OpenSpec.ofChange fnExactUpgraded23Spec)

/-- ITS FALSE NEIGHBOUR: 'it returns false'. Refute it at one input. -/
def fnExactUpgraded23Wrong : ChangeSpec := { name := "fnExactUpgraded23", fn := fun _ => fun
  | [d] => { results := [.lit (.bool false)], args := [d] }
  | _ => none }
def FnExactUpgraded23WrongFalsely : Prop := fnExactUpgraded23Row.holds Tryz.pinned (OpenSpec.ofChange fnExactUpgraded23Wrong)

/-- 'laws.FnExactExpressible': WHATEVER THE INPUT: true; the input reads as it did. -/
def fnExactExpressibleSpec : ChangeSpec := { name := "fnExactExpressible", fn := fun _ => fun
  | [d1, d2] => { results := [.lit (.bool true)], args := [d1, d2] }
  | _ => none }
def fnExactExpressibleRow : OpenClaim := { program := "ytemaanibghedlaagreat", sum := "f4f2472730b882ba846e167af79a9d0f9b86e9867521a4b52a83b0c1b94ffdc3", func := "loop.example/g00968/laws.FnExactExpressible", spec := "fnExactExpressible", inPlace := ["internal/bytealg.IndexByteString", "internal/bytealg.abigen_runtime_cmpstring"], unfollowed := true, recurses := true, apart := false }
def FnExactExpressibleSaid : Prop := fnExactExpressibleRow.holds Tryz.pinned (OpenSpec.ofChange fnExactExpressibleSpec)

/-- ITS FALSE NEIGHBOUR: 'it returns false'. Refute it at one input. -/
def fnExactExpressibleWrong : ChangeSpec := { name := "fnExactExpressible", fn := fun _ => fun
  | [d1, d2] => { results := [.lit (.bool false)], args := [d1, d2] }
  | _ => none }
def FnExactExpressibleWrongFalsely : Prop := fnExactExpressibleRow.holds Tryz.pinned (OpenSpec.ofChange fnExactExpressibleWrong)

/-- 'laws.FnExactOldestFor': WHATEVER THE INPUT: true; the input reads as it did. -/
def fnExactOldestForSpec : ChangeSpec := { name := "fnExactOldestFor", fn := fun _ => fun
  | [d] => { results := [.lit (.bool true)], args := [d] }
  | _ => none }
def fnExactOldestForRow : OpenClaim := { program := "ytemaanibghedlaagreat", sum := "f4f2472730b882ba846e167af79a9d0f9b86e9867521a4b52a83b0c1b94ffdc3", func := "loop.example/g00968/laws.FnExactOldestFor", spec := "fnExactOldestFor", inPlace := ["internal/bytealg.IndexByteString", "internal/bytealg.abigen_runtime_cmpstring"], unfollowed := true, recurses := true, apart := false }
def FnExactOldestForSaid : Prop := fnExactOldestForRow.holds Tryz.pinned (OpenSpec.ofChange fnExactOldestForSpec)

/-- ITS FALSE NEIGHBOUR: 'it returns false'. Refute it at one input. -/
def fnExactOldestForWrong : ChangeSpec := { name := "fnExactOldestFor", fn := fun _ => fun
  | [d] => { results := [.lit (.bool false)], args := [d] }
  | _ => none }
def FnExactOldestForWrongFalsely : Prop := fnExactOldestForRow.holds Tryz.pinned (OpenSpec.ofChange fnExactOldestForWrong)

/-- 'laws.FnExactSnap1Text': WHATEVER THE INPUT: true; the input reads as it did. -/
def fnExactSnap1TextSpec : ChangeSpec := { name := "fnExactSnap1Text", fn := fun _ => fun
  | [d] => { results := [.lit (.bool true)], args := [d] }
  | _ => none }
def fnExactSnap1TextRow : OpenClaim := { program := "ytemaanibghedlaagreat", sum := "f4f2472730b882ba846e167af79a9d0f9b86e9867521a4b52a83b0c1b94ffdc3", func := "loop.example/g00968/laws.FnExactSnap1Text", spec := "fnExactSnap1Text", inPlace := ["internal/bytealg.IndexByteString", "internal/bytealg.abigen_runtime_cmpstring"], unfollowed := true, recurses := true, apart := false }
def FnExactSnap1TextSaid : Prop := fnExactSnap1TextRow.holds Tryz.pinned (OpenSpec.ofChange fnExactSnap1TextSpec)

/-- ITS FALSE NEIGHBOUR: 'it returns false'. Refute it at one input. -/
def fnExactSnap1TextWrong : ChangeSpec := { name := "fnExactSnap1Text", fn := fun _ => fun
  | [d] => { results := [.lit (.bool false)], args := [d] }
  | _ => none }
def FnExactSnap1TextWrongFalsely : Prop := fnExactSnap1TextRow.holds Tryz.pinned (OpenSpec.ofChange fnExactSnap1TextWrong)

/-- 'laws.FnExactReadSnap1': WHATEVER THE INPUT: true; the input reads as it did. -/
def fnExactReadSnap1Spec : ChangeSpec := { name := "fnExactReadSnap1", fn := fun _ => fun
  | [d] => { results := [.lit (.bool true)], args := [d] }
  | _ => none }
def fnExactReadSnap1Row : OpenClaim := { program := "ytemaanibghedlaagreat", sum := "f4f2472730b882ba846e167af79a9d0f9b86e9867521a4b52a83b0c1b94ffdc3", func := "loop.example/g00968/laws.FnExactReadSnap1", spec := "fnExactReadSnap1", inPlace := ["internal/bytealg.IndexByteString", "internal/bytealg.abigen_runtime_cmpstring"], unfollowed := true, recurses := true, apart := false }
def FnExactReadSnap1Said : Prop := fnExactReadSnap1Row.holds Tryz.pinned (OpenSpec.ofChange fnExactReadSnap1Spec)

/-- ITS FALSE NEIGHBOUR: 'it returns false'. Refute it at one input. -/
def fnExactReadSnap1Wrong : ChangeSpec := { name := "fnExactReadSnap1", fn := fun _ => fun
  | [d] => { results := [.lit (.bool false)], args := [d] }
  | _ => none }
def FnExactReadSnap1WrongFalsely : Prop := fnExactReadSnap1Row.holds Tryz.pinned (OpenSpec.ofChange fnExactReadSnap1Wrong)

/-- 'laws.FnExactSnap2Text': WHATEVER THE INPUT: true; the input reads as it did. -/
def fnExactSnap2TextSpec : ChangeSpec := { name := "fnExactSnap2Text", fn := fun _ => fun
  | [d] => { results := [.lit (.bool true)], args := [d] }
  | _ => none }
def fnExactSnap2TextRow : OpenClaim := { program := "ytemaanibghedlaagreat", sum := "f4f2472730b882ba846e167af79a9d0f9b86e9867521a4b52a83b0c1b94ffdc3", func := "loop.example/g00968/laws.FnExactSnap2Text", spec := "fnExactSnap2Text", inPlace := ["internal/bytealg.IndexByteString", "internal/bytealg.abigen_runtime_cmpstring"], unfollowed := true, recurses := true, apart := false }
def FnExactSnap2TextSaid : Prop := fnExactSnap2TextRow.holds Tryz.pinned (OpenSpec.ofChange fnExactSnap2TextSpec)

/-- ITS FALSE NEIGHBOUR: 'it returns false'. Refute it at one input. -/
def fnExactSnap2TextWrong : ChangeSpec := { name := "fnExactSnap2Text", fn := fun _ => fun
  | [d] => { results := [.lit (.bool false)], args := [d] }
  | _ => none }
def FnExactSnap2TextWrongFalsely : Prop := fnExactSnap2TextRow.holds Tryz.pinned (OpenSpec.ofChange fnExactSnap2TextWrong)

/-- 'laws.FnExactReadSnap2': WHATEVER THE INPUT: true; the input reads as it did. -/
def fnExactReadSnap2Spec : ChangeSpec := { name := "fnExactReadSnap2", fn := fun _ => fun
  | [d] => { results := [.lit (.bool true)], args := [d] }
  | _ => none }
def fnExactReadSnap2Row : OpenClaim := { program := "ytemaanibghedlaagreat", sum := "f4f2472730b882ba846e167af79a9d0f9b86e9867521a4b52a83b0c1b94ffdc3", func := "loop.example/g00968/laws.FnExactReadSnap2", spec := "fnExactReadSnap2", inPlace := ["internal/bytealg.IndexByteString", "internal/bytealg.abigen_runtime_cmpstring"], unfollowed := true, recurses := true, apart := false }
def FnExactReadSnap2Said : Prop := fnExactReadSnap2Row.holds Tryz.pinned (OpenSpec.ofChange fnExactReadSnap2Spec)

/-- ITS FALSE NEIGHBOUR: 'it returns false'. Refute it at one input. -/
def fnExactReadSnap2Wrong : ChangeSpec := { name := "fnExactReadSnap2", fn := fun _ => fun
  | [d] => { results := [.lit (.bool false)], args := [d] }
  | _ => none }
def FnExactReadSnap2WrongFalsely : Prop := fnExactReadSnap2Row.holds Tryz.pinned (OpenSpec.ofChange fnExactReadSnap2Wrong)

/-- 'laws.FnExactStoredOk': WHATEVER THE INPUT: true; the input reads as it did. -/
def fnExactStoredOkSpec : ChangeSpec := { name := "fnExactStoredOk", fn := fun _ => fun
  | [d] => { results := [.lit (.bool true)], args := [d] }
  | _ => none }
def fnExactStoredOkRow : OpenClaim := { program := "ytemaanibghedlaagreat", sum := "f4f2472730b882ba846e167af79a9d0f9b86e9867521a4b52a83b0c1b94ffdc3", func := "loop.example/g00968/laws.FnExactStoredOk", spec := "fnExactStoredOk", inPlace := ["internal/bytealg.IndexByteString", "internal/bytealg.abigen_runtime_cmpstring"], unfollowed := true, recurses := true, apart := false }
def FnExactStoredOkSaid : Prop := fnExactStoredOkRow.holds Tryz.pinned (OpenSpec.ofChange fnExactStoredOkSpec)

/-- ITS FALSE NEIGHBOUR: 'it returns false'. Refute it at one input. -/
def fnExactStoredOkWrong : ChangeSpec := { name := "fnExactStoredOk", fn := fun _ => fun
  | [d] => { results := [.lit (.bool false)], args := [d] }
  | _ => none }
def FnExactStoredOkWrongFalsely : Prop := fnExactStoredOkRow.holds Tryz.pinned (OpenSpec.ofChange fnExactStoredOkWrong)

/-- 'laws.FnExactSnapAt': WHATEVER THE INPUT: true; the input reads as it did. -/
def fnExactSnapAtSpec : ChangeSpec := { name := "fnExactSnapAt", fn := fun _ => fun
  | [d1, d2] => { results := [.lit (.bool true)], args := [d1, d2] }
  | _ => none }
def fnExactSnapAtRow : OpenClaim := { program := "ytemaanibghedlaagreat", sum := "f4f2472730b882ba846e167af79a9d0f9b86e9867521a4b52a83b0c1b94ffdc3", func := "loop.example/g00968/laws.FnExactSnapAt", spec := "fnExactSnapAt", inPlace := ["internal/bytealg.IndexByteString", "internal/bytealg.abigen_runtime_cmpstring"], unfollowed := true, recurses := true, apart := false }
def FnExactSnapAtSaid : Prop := fnExactSnapAtRow.holds Tryz.pinned (OpenSpec.ofChange fnExactSnapAtSpec)

/-- ITS FALSE NEIGHBOUR: 'it returns false'. Refute it at one input. -/
def fnExactSnapAtWrong : ChangeSpec := { name := "fnExactSnapAt", fn := fun _ => fun
  | [d1, d2] => { results := [.lit (.bool false)], args := [d1, d2] }
  | _ => none }
def FnExactSnapAtWrongFalsely : Prop := fnExactSnapAtRow.holds Tryz.pinned (OpenSpec.ofChange fnExactSnapAtWrong)

/-- 'laws.FnExactRenewed': WHATEVER THE INPUT: true; the input reads as it did. -/
def fnExactRenewedSpec : ChangeSpec := { name := "fnExactRenewed", fn := fun _ => fun
  | [d] => { results := [.lit (.bool true)], args := [d] }
  | _ => none }
def fnExactRenewedRow : OpenClaim := { program := "ytemaanibghedlaagreat", sum := "f4f2472730b882ba846e167af79a9d0f9b86e9867521a4b52a83b0c1b94ffdc3", func := "loop.example/g00968/laws.FnExactRenewed", spec := "fnExactRenewed", inPlace := ["internal/bytealg.IndexByteString", "internal/bytealg.abigen_runtime_cmpstring"], unfollowed := true, recurses := true, apart := false }
def FnExactRenewedSaid : Prop := fnExactRenewedRow.holds Tryz.pinned (OpenSpec.ofChange fnExactRenewedSpec)

/-- ITS FALSE NEIGHBOUR: 'it returns false'. Refute it at one input. -/
def fnExactRenewedWrong : ChangeSpec := { name := "fnExactRenewed", fn := fun _ => fun
  | [d] => { results := [.lit (.bool false)], args := [d] }
  | _ => none }
def FnExactRenewedWrongFalsely : Prop := fnExactRenewedRow.holds Tryz.pinned (OpenSpec.ofChange fnExactRenewedWrong)

/-- 'laws.FnExactStoredText': WHATEVER THE INPUT: true; the input reads as it did. -/
def fnExactStoredTextSpec : ChangeSpec := { name := "fnExactStoredText", fn := fun _ => fun
  | [d1, d2] => { results := [.lit (.bool true)], args := [d1, d2] }
  | _ => none }
def fnExactStoredTextRow : OpenClaim := { program := "ytemaanibghedlaagreat", sum := "f4f2472730b882ba846e167af79a9d0f9b86e9867521a4b52a83b0c1b94ffdc3", func := "loop.example/g00968/laws.FnExactStoredText", spec := "fnExactStoredText", inPlace := ["internal/bytealg.IndexByteString", "internal/bytealg.abigen_runtime_cmpstring"], unfollowed := true, recurses := true, apart := false }
def FnExactStoredTextSaid : Prop := fnExactStoredTextRow.holds Tryz.pinned (OpenSpec.ofChange fnExactStoredTextSpec)

/-- ITS FALSE NEIGHBOUR: 'it returns false'. Refute it at one input. -/
def fnExactStoredTextWrong : ChangeSpec := { name := "fnExactStoredText", fn := fun _ => fun
  | [d1, d2] => { results := [.lit (.bool false)], args := [d1, d2] }
  | _ => none }
def FnExactStoredTextWrongFalsely : Prop := fnExactStoredTextRow.holds Tryz.pinned (OpenSpec.ofChange fnExactStoredTextWrong)

/-- 'laws.FnExactReadSnapAt': WHATEVER THE INPUT: true; the input reads as it did. -/
def fnExactReadSnapAtSpec : ChangeSpec := { name := "fnExactReadSnapAt", fn := fun _ => fun
  | [d1, d2] => { results := [.lit (.bool true)], args := [d1, d2] }
  | _ => none }
def fnExactReadSnapAtRow : OpenClaim := { program := "ytemaanibghedlaagreat", sum := "f4f2472730b882ba846e167af79a9d0f9b86e9867521a4b52a83b0c1b94ffdc3", func := "loop.example/g00968/laws.FnExactReadSnapAt", spec := "fnExactReadSnapAt", inPlace := ["internal/bytealg.IndexByteString", "internal/bytealg.abigen_runtime_cmpstring"], unfollowed := true, recurses := true, apart := false }
def FnExactReadSnapAtSaid : Prop := fnExactReadSnapAtRow.holds Tryz.pinned (OpenSpec.ofChange fnExactReadSnapAtSpec)

/-- ITS FALSE NEIGHBOUR: 'it returns false'. Refute it at one input. -/
def fnExactReadSnapAtWrong : ChangeSpec := { name := "fnExactReadSnapAt", fn := fun _ => fun
  | [d1, d2] => { results := [.lit (.bool false)], args := [d1, d2] }
  | _ => none }
def FnExactReadSnapAtWrongFalsely : Prop := fnExactReadSnapAtRow.holds Tryz.pinned (OpenSpec.ofChange fnExactReadSnapAtWrong)

/-- 'laws.FnExactReadStored': WHATEVER THE INPUT: true; the input reads as it did. -/
def fnExactReadStoredSpec : ChangeSpec := { name := "fnExactReadStored", fn := fun _ => fun
  | [d] => { results := [.lit (.bool true)], args := [d] }
  | _ => none }
def fnExactReadStoredRow : OpenClaim := { program := "ytemaanibghedlaagreat", sum := "f4f2472730b882ba846e167af79a9d0f9b86e9867521a4b52a83b0c1b94ffdc3", func := "loop.example/g00968/laws.FnExactReadStored", spec := "fnExactReadStored", inPlace := ["internal/bytealg.IndexByteString", "internal/bytealg.abigen_runtime_cmpstring"], unfollowed := true, recurses := true, apart := false }
def FnExactReadStoredSaid : Prop := fnExactReadStoredRow.holds Tryz.pinned (OpenSpec.ofChange fnExactReadStoredSpec)

/-- ITS FALSE NEIGHBOUR: 'it returns false'. Refute it at one input. -/
def fnExactReadStoredWrong : ChangeSpec := { name := "fnExactReadStored", fn := fun _ => fun
  | [d] => { results := [.lit (.bool false)], args := [d] }
  | _ => none }
def FnExactReadStoredWrongFalsely : Prop := fnExactReadStoredRow.holds Tryz.pinned (OpenSpec.ofChange fnExactReadStoredWrong)

/-- 'laws.FnExactSaveCluster': WHATEVER THE INPUT: true; the input reads as it did. -/
def fnExactSaveClusterSpec : ChangeSpec := { name := "fnExactSaveCluster", fn := fun _ => fun
  | [d1, d2, d3] => { results := [.lit (.bool true)], args := [d1, d2, d3] }
  | _ => none }
def fnExactSaveClusterRow : OpenClaim := { program := "ytemaanibghedlaagreat", sum := "f4f2472730b882ba846e167af79a9d0f9b86e9867521a4b52a83b0c1b94ffdc3", func := "loop.example/g00968/laws.FnExactSaveCluster", spec := "fnExactSaveCluster", inPlace := ["internal/bytealg.IndexByteString", "internal/bytealg.abigen_runtime_cmpstring"], unfollowed := true, recurses := true, apart := false }
def FnExactSaveClusterSaid : Prop := fnExactSaveClusterRow.holds Tryz.pinned (OpenSpec.ofChange fnExactSaveClusterSpec)

/-- ITS FALSE NEIGHBOUR: 'it returns false'. Refute it at one input. -/
def fnExactSaveClusterWrong : ChangeSpec := { name := "fnExactSaveCluster", fn := fun _ => fun
  | [d1, d2, d3] => { results := [.lit (.bool false)], args := [d1, d2, d3] }
  | _ => none }
def FnExactSaveClusterWrongFalsely : Prop := fnExactSaveClusterRow.holds Tryz.pinned (OpenSpec.ofChange fnExactSaveClusterWrong)

/-- 'laws.FnExactRestoreFrom': WHATEVER THE INPUT: true; the input reads as it did. -/
def fnExactRestoreFromSpec : ChangeSpec := { name := "fnExactRestoreFrom", fn := fun _ => fun
  | [d] => { results := [.lit (.bool true)], args := [d] }
  | _ => none }
def fnExactRestoreFromRow : OpenClaim := { program := "ytemaanibghedlaagreat", sum := "f4f2472730b882ba846e167af79a9d0f9b86e9867521a4b52a83b0c1b94ffdc3", func := "loop.example/g00968/laws.FnExactRestoreFrom", spec := "fnExactRestoreFrom", inPlace := ["internal/bytealg.IndexByteString", "internal/bytealg.abigen_runtime_cmpstring"], unfollowed := true, recurses := true, apart := false }
def FnExactRestoreFromSaid : Prop := fnExactRestoreFromRow.holds Tryz.pinned (OpenSpec.ofChange fnExactRestoreFromSpec)

/-- ITS FALSE NEIGHBOUR: 'it returns false'. Refute it at one input. -/
def fnExactRestoreFromWrong : ChangeSpec := { name := "fnExactRestoreFrom", fn := fun _ => fun
  | [d] => { results := [.lit (.bool false)], args := [d] }
  | _ => none }
def FnExactRestoreFromWrongFalsely : Prop := fnExactRestoreFromRow.holds Tryz.pinned (OpenSpec.ofChange fnExactRestoreFromWrong)

/- THE SECOND FORM. 'bulk': how many values and letters a reading holds, each counted each time it is reached (what is shared counts as often as it is met; a slice's spare places count too). A statement '..UptoSaid' is the law's where the arguments, and the package variables that the reading takes, are together of bulk at most 1048576: NARROWER than '..Said'. Prove '..Said' where nothing that the law and all that it calls make is longer than what came in: it says more and counts as full. Else prove '..UptoSaid'. A law counts once. -/
mutual
def uptoBulk {H : Type} : DataW H → Nat
  | .lit (.string bytes) => bytes.length + 1
  | .lit _ => 1
  | .nil => 1
  | .ptr d => uptoBulk d + 1
  | .slice elems spare => uptoBulkAll elems + uptoBulkAll spare + 1
  | .agg parts => uptoBulkAll parts + 1
  | .iface _ d => uptoBulk d + 1
  | .map entries => uptoBulkEntries entries + 1
  | .held _ => 1
def uptoBulkAll {H : Type} : List (DataW H) → Nat
  | [] => 0
  | d :: r => uptoBulk d + uptoBulkAll r
def uptoBulkEntries {H : Type} : List (Lit × DataW H) → Nat
  | [] => 0
  | x :: r => uptoBulkEntry x + uptoBulkEntries r
def uptoBulkEntry {H : Type} : Lit × DataW H → Nat
  | (.string bytes, d) => bytes.length + uptoBulk d + 1
  | (_, d) => uptoBulk d + 1
 end
def uptoSmall : (H : Type) → List (DataW H) → Bool := fun _ ds => decide (uptoBulkAll ds ≤ 1048576)
def OpenSpec.upto (s : _root_.Go.ChangeSpec) : _root_.Go.OpenSpec := { _root_.Go.OpenSpec.ofChange s with cond := some uptoSmall }

/-- 'laws.FnExactUpgraded12', WHERE WHAT IT READS IS OF BULK AT MOST 1048576: true; the input reads as it did. -/
def fnExactUpgraded12UptoRow : OpenClaim := { program := "ytemaanibghedlaagreat", sum := "f4f2472730b882ba846e167af79a9d0f9b86e9867521a4b52a83b0c1b94ffdc3", func := "loop.example/g00968/laws.FnExactUpgraded12", spec := "fnExactUpgraded12", inPlace := ["internal/bytealg.IndexByteString", "internal/bytealg.abigen_runtime_cmpstring"], unfollowed := true, recurses := true, apart := false, narrowed := true }
def FnExactUpgraded12UptoSaid : Prop := fnExactUpgraded12UptoRow.holds Tryz.pinned (OpenSpec.upto fnExactUpgraded12Spec)

/-- 'laws.FnExactUpgraded23', WHERE WHAT IT READS IS OF BULK AT MOST 1048576: true; the input reads as it did. -/
def fnExactUpgraded23UptoRow : OpenClaim := { program := "ytemaanibghedlaagreat", sum := "f4f2472730b882ba846e167af79a9d0f9b86e9867521a4b52a83b0c1b94ffdc3", func := "loop.example/g00968/laws.FnExactUpgraded23", spec := "fnExactUpgraded23", inPlace := ["internal/bytealg.IndexByteString", "internal/bytealg.abigen_runtime_cmpstring"], unfollowed := true, recurses := true, apart := false, narrowed := true }
def FnExactUpgraded23UptoSaid : Prop := fnExactUpgraded23UptoRow.holds Tryz.pinned (OpenSpec.upto fnExactUpgraded23Spec)

/-- 'laws.FnExactExpressible', WHERE WHAT IT READS IS OF BULK AT MOST 1048576: true; the input reads as it did. -/
def fnExactExpressibleUptoRow : OpenClaim := { program := "ytemaanibghedlaagreat", sum := "f4f2472730b882ba846e167af79a9d0f9b86e9867521a4b52a83b0c1b94ffdc3", func := "loop.example/g00968/laws.FnExactExpressible", spec := "fnExactExpressible", inPlace := ["internal/bytealg.IndexByteString", "internal/bytealg.abigen_runtime_cmpstring"], unfollowed := true, recurses := true, apart := false, narrowed := true }
def FnExactExpressibleUptoSaid : Prop := fnExactExpressibleUptoRow.holds Tryz.pinned (OpenSpec.upto fnExactExpressibleSpec)

/-- 'laws.FnExactOldestFor', WHERE WHAT IT READS IS OF BULK AT MOST 1048576: true; the input reads as it did. -/
def fnExactOldestForUptoRow : OpenClaim := { program := "ytemaanibghedlaagreat", sum := "f4f2472730b882ba846e167af79a9d0f9b86e9867521a4b52a83b0c1b94ffdc3", func := "loop.example/g00968/laws.FnExactOldestFor", spec := "fnExactOldestFor", inPlace := ["internal/bytealg.IndexByteString", "internal/bytealg.abigen_runtime_cmpstring"], unfollowed := true, recurses := true, apart := false, narrowed := true }
def FnExactOldestForUptoSaid : Prop := fnExactOldestForUptoRow.holds Tryz.pinned (OpenSpec.upto fnExactOldestForSpec)

/-- 'laws.FnExactSnap1Text', WHERE WHAT IT READS IS OF BULK AT MOST 1048576: true; the input reads as it did. -/
def fnExactSnap1TextUptoRow : OpenClaim := { program := "ytemaanibghedlaagreat", sum := "f4f2472730b882ba846e167af79a9d0f9b86e9867521a4b52a83b0c1b94ffdc3", func := "loop.example/g00968/laws.FnExactSnap1Text", spec := "fnExactSnap1Text", inPlace := ["internal/bytealg.IndexByteString", "internal/bytealg.abigen_runtime_cmpstring"], unfollowed := true, recurses := true, apart := false, narrowed := true }
def FnExactSnap1TextUptoSaid : Prop := fnExactSnap1TextUptoRow.holds Tryz.pinned (OpenSpec.upto fnExactSnap1TextSpec)

/-- 'laws.FnExactReadSnap1', WHERE WHAT IT READS IS OF BULK AT MOST 1048576: true; the input reads as it did. -/
def fnExactReadSnap1UptoRow : OpenClaim := { program := "ytemaanibghedlaagreat", sum := "f4f2472730b882ba846e167af79a9d0f9b86e9867521a4b52a83b0c1b94ffdc3", func := "loop.example/g00968/laws.FnExactReadSnap1", spec := "fnExactReadSnap1", inPlace := ["internal/bytealg.IndexByteString", "internal/bytealg.abigen_runtime_cmpstring"], unfollowed := true, recurses := true, apart := false, narrowed := true }
def FnExactReadSnap1UptoSaid : Prop := fnExactReadSnap1UptoRow.holds Tryz.pinned (OpenSpec.upto fnExactReadSnap1Spec)

/-- 'laws.FnExactSnap2Text', WHERE WHAT IT READS IS OF BULK AT MOST 1048576: true; the input reads as it did. -/
def fnExactSnap2TextUptoRow : OpenClaim := { program := "ytemaanibghedlaagreat", sum := "f4f2472730b882ba846e167af79a9d0f9b86e9867521a4b52a83b0c1b94ffdc3", func := "loop.example/g00968/laws.FnExactSnap2Text", spec := "fnExactSnap2Text", inPlace := ["internal/bytealg.IndexByteString", "internal/bytealg.abigen_runtime_cmpstring"], unfollowed := true, recurses := true, apart := false, narrowed := true }
def FnExactSnap2TextUptoSaid : Prop := fnExactSnap2TextUptoRow.holds Tryz.pinned (OpenSpec.upto fnExactSnap2TextSpec)

/-- 'laws.FnExactReadSnap2', WHERE WHAT IT READS IS OF BULK AT MOST 1048576: true; the input reads as it did. -/
def fnExactReadSnap2UptoRow : OpenClaim := { program := "ytemaanibghedlaagreat", sum := "f4f2472730b882ba846e167af79a9d0f9b86e9867521a4b52a83b0c1b94ffdc3", func := "loop.example/g00968/laws.FnExactReadSnap2", spec := "fnExactReadSnap2", inPlace := ["internal/bytealg.IndexByteString", "internal/bytealg.abigen_runtime_cmpstring"], unfollowed := true, recurses := true, apart := false, narrowed := true }
def FnExactReadSnap2UptoSaid : Prop := fnExactReadSnap2UptoRow.holds Tryz.pinned (OpenSpec.upto fnExactReadSnap2Spec)

/-- 'laws.FnExactStoredOk', WHERE WHAT IT READS IS OF BULK AT MOST 1048576: true; the input reads as it did. -/
def fnExactStoredOkUptoRow : OpenClaim := { program := "ytemaanibghedlaagreat", sum := "f4f2472730b882ba846e167af79a9d0f9b86e9867521a4b52a83b0c1b94ffdc3", func := "loop.example/g00968/laws.FnExactStoredOk", spec := "fnExactStoredOk", inPlace := ["internal/bytealg.IndexByteString", "internal/bytealg.abigen_runtime_cmpstring"], unfollowed := true, recurses := true, apart := false, narrowed := true }
def FnExactStoredOkUptoSaid : Prop := fnExactStoredOkUptoRow.holds Tryz.pinned (OpenSpec.upto fnExactStoredOkSpec)

/-- 'laws.FnExactSnapAt', WHERE WHAT IT READS IS OF BULK AT MOST 1048576: true; the input reads as it did. -/
def fnExactSnapAtUptoRow : OpenClaim := { program := "ytemaanibghedlaagreat", sum := "f4f2472730b882ba846e167af79a9d0f9b86e9867521a4b52a83b0c1b94ffdc3", func := "loop.example/g00968/laws.FnExactSnapAt", spec := "fnExactSnapAt", inPlace := ["internal/bytealg.IndexByteString", "internal/bytealg.abigen_runtime_cmpstring"], unfollowed := true, recurses := true, apart := false, narrowed := true }
def FnExactSnapAtUptoSaid : Prop := fnExactSnapAtUptoRow.holds Tryz.pinned (OpenSpec.upto fnExactSnapAtSpec)

/-- 'laws.FnExactRenewed', WHERE WHAT IT READS IS OF BULK AT MOST 1048576: true; the input reads as it did. -/
def fnExactRenewedUptoRow : OpenClaim := { program := "ytemaanibghedlaagreat", sum := "f4f2472730b882ba846e167af79a9d0f9b86e9867521a4b52a83b0c1b94ffdc3", func := "loop.example/g00968/laws.FnExactRenewed", spec := "fnExactRenewed", inPlace := ["internal/bytealg.IndexByteString", "internal/bytealg.abigen_runtime_cmpstring"], unfollowed := true, recurses := true, apart := false, narrowed := true }
def FnExactRenewedUptoSaid : Prop := fnExactRenewedUptoRow.holds Tryz.pinned (OpenSpec.upto fnExactRenewedSpec)

/-- 'laws.FnExactStoredText', WHERE WHAT IT READS IS OF BULK AT MOST 1048576: true; the input reads as it did. -/
def fnExactStoredTextUptoRow : OpenClaim := { program := "ytemaanibghedlaagreat", sum := "f4f2472730b882ba846e167af79a9d0f9b86e9867521a4b52a83b0c1b94ffdc3", func := "loop.example/g00968/laws.FnExactStoredText", spec := "fnExactStoredText", inPlace := ["internal/bytealg.IndexByteString", "internal/bytealg.abigen_runtime_cmpstring"], unfollowed := true, recurses := true, apart := false, narrowed := true }
def FnExactStoredTextUptoSaid : Prop := fnExactStoredTextUptoRow.holds Tryz.pinned (OpenSpec.upto fnExactStoredTextSpec)

/-- 'laws.FnExactReadSnapAt', WHERE WHAT IT READS IS OF BULK AT MOST 1048576: true; the input reads as it did. -/
def fnExactReadSnapAtUptoRow : OpenClaim := { program := "ytemaanibghedlaagreat", sum := "f4f2472730b882ba846e167af79a9d0f9b86e9867521a4b52a83b0c1b94ffdc3", func := "loop.example/g00968/laws.FnExactReadSnapAt", spec := "fnExactReadSnapAt", inPlace := ["internal/bytealg.IndexByteString", "internal/bytealg.abigen_runtime_cmpstring"], unfollowed := true, recurses := true, apart := false, narrowed := true }
def FnExactReadSnapAtUptoSaid : Prop := fnExactReadSnapAtUptoRow.holds Tryz.pinned (OpenSpec.upto fnExactReadSnapAtSpec)

/-- 'laws.FnExactReadStored', WHERE WHAT IT READS IS OF BULK AT MOST 1048576: true; the input reads as it did. -/
def fnExactReadStoredUptoRow : OpenClaim := { program := "ytemaanibghedlaagreat", sum := "f4f2472730b882ba846e167af79a9d0f9b86e9867521a4b52a83b0c1b94ffdc3", func := "loop.example/g00968/laws.FnExactReadStored", spec := "fnExactReadStored", inPlace := ["internal/bytealg.IndexByteString", "internal/bytealg.abigen_runtime_cmpstring"], unfollowed := true, recurses := true, apart := false, narrowed := true }
def FnExactReadStoredUptoSaid : Prop := fnExactReadStoredUptoRow.holds Tryz.pinned (OpenSpec.upto fnExactReadStoredSpec)

/-- 'laws.FnExactSaveCluster', WHERE WHAT IT READS IS OF BULK AT MOST 1048576: true; the input reads as it did. -/
def fnExactSaveClusterUptoRow : OpenClaim := { program := "ytemaanibghedlaagreat", sum := "f4f2472730b882ba846e167af79a9d0f9b86e9867521a4b52a83b0c1b94ffdc3", func := "loop.example/g00968/laws.FnExactSaveCluster", spec := "fnExactSaveCluster", inPlace := ["internal/bytealg.IndexByteString", "internal/bytealg.abigen_runtime_cmpstring"], unfollowed := true, recurses := true, apart := false, narrowed := true }
def FnExactSaveClusterUptoSaid : Prop := fnExactSaveClusterUptoRow.holds Tryz.pinned (OpenSpec.upto fnExactSaveClusterSpec)

/-- 'laws.FnExactRestoreFrom', WHERE WHAT IT READS IS OF BULK AT MOST 1048576: true; the input reads as it did. -/
def fnExactRestoreFromUptoRow : OpenClaim := { program := "ytemaanibghedlaagreat", sum := "f4f2472730b882ba846e167af79a9d0f9b86e9867521a4b52a83b0c1b94ffdc3", func := "loop.example/g00968/laws.FnExactRestoreFrom", spec := "fnExactRestoreFrom", inPlace := ["internal/bytealg.IndexByteString", "internal/bytealg.abigen_runtime_cmpstring"], unfollowed := true, recurses := true, apart := false, narrowed := true }
def FnExactRestoreFromUptoSaid : Prop := fnExactRestoreFromUptoRow.holds Tryz.pinned (OpenSpec.upto fnExactRestoreFromSpec)

end Rows
end Go.Proofs.YtemaanibghedlaaGreat
