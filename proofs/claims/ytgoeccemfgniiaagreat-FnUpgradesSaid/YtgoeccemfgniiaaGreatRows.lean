/-
  No cell of these rows narrows 'for every input' (looked for: loops, veiled, ifaces, maps, wideKeys, modest, calm, conditions, laid).
  DERIVED. THE GIVEN ROWS OF THIS SEAT. 9 by the template 'for every input the law returns true; each argument reads behind the call as it read before'; 0 by the template 'total and deterministic' (their statements: YtgoeccemfgniiaaGreatTotals.lean).
  GIVEN WITH THE SEED: the statements are not yours to turn. If you find one false, say at which input.
  Laid BY PROGRAM, IN A SANDBOX (cutbox-rows.mjs): the forced cells as the released guide's own fill.sh prints them over the translation b1f1b7990292b598… (all of the seat's roots in one cut). By AI agents, Wed Nov 11 2026. No macro, syntax, notation, axiom, sorry.
-/
import Derived.Test.YtgoeccemfgniiaaGreatChecked
import GoSem.Claim
import GoSem.ClaimJoined
import GoSem.ClaimMapViews
import Derived.JoinedTies
import Derived.KernelRfl
namespace Go.Proofs.YtgoeccemfgniiaaGreat
/- THE CELL 'sum', in the pinned program and in every row, IS THE sha256 OF THE DUMP (.gsa) THAT YtgoeccemfgniiaaGreatProg.lean LOADS. Nothing in Lean hashes anything: it is a label: what it is worth is what the hold of that sum in a sandbox is worth. -/
noncomputable def Tryz.pinned : Pinned := { name := "ytgoeccemfgniiaagreat", sum := "b1f1b7990292b598d270741fc2483f9ee611f1b3d678b9e40757e674bf58ba92", checked := Tryz.checked }
namespace Rows
def none {H : Type} : Left H := { results := [], args := [] }

/-- 'laws.FnExactSaveCluster': WHATEVER THE INPUT: true; the input reads as it did. -/
def fnExactSaveClusterSpec : ChangeSpec := { name := "fnExactSaveCluster", fn := fun _ => fun
  | [d1, d2, d3] => { results := [.lit (.bool true)], args := [d1, d2, d3] }
  | _ => none }
def fnExactSaveClusterRow : OpenClaim := { program := "ytgoeccemfgniiaagreat", sum := "b1f1b7990292b598d270741fc2483f9ee611f1b3d678b9e40757e674bf58ba92", func := "loop.example/g00968/laws.FnExactSaveCluster", spec := "fnExactSaveCluster", inPlace := ["internal/bytealg.IndexByteString", "internal/bytealg.abigen_runtime_cmpstring"], unfollowed := true, recurses := true, apart := false }
def FnExactSaveClusterSaid : Prop := fnExactSaveClusterRow.holds Tryz.pinned (OpenSpec.ofChange fnExactSaveClusterSpec)

/-- ITS FALSE NEIGHBOUR: 'it returns false'. Refute it at one input. -/
def fnExactSaveClusterWrong : ChangeSpec := { name := "fnExactSaveCluster", fn := fun _ => fun
  | [d1, d2, d3] => { results := [.lit (.bool false)], args := [d1, d2, d3] }
  | _ => none }
def FnExactSaveClusterWrongFalsely : Prop := fnExactSaveClusterRow.holds Tryz.pinned (OpenSpec.ofChange fnExactSaveClusterWrong)

/-- 'laws.FnExactRestoreFrom': WHATEVER THE INPUT: true; the input reads as it did. -/
def fnExactRestoreFromSpec : ChangeSpec := { name := "fnExactRestoreFrom", fn := fun _ => fun
  | [d] => { results := [.lit (.bool true)], args := [d] }
  | _ => none }
def fnExactRestoreFromRow : OpenClaim := { program := "ytgoeccemfgniiaagreat", sum := "b1f1b7990292b598d270741fc2483f9ee611f1b3d678b9e40757e674bf58ba92", func := "loop.example/g00968/laws.FnExactRestoreFrom", spec := "fnExactRestoreFrom", inPlace := ["internal/bytealg.IndexByteString", "internal/bytealg.abigen_runtime_cmpstring"], unfollowed := true, recurses := true, apart := false }
def FnExactRestoreFromSaid : Prop := fnExactRestoreFromRow.holds Tryz.pinned (OpenSpec.ofChange fnExactRestoreFromSpec)

/-- ITS FALSE NEIGHBOUR: 'it returns false'. Refute it at one input. -/
def fnExactRestoreFromWrong : ChangeSpec := { name := "fnExactRestoreFrom", fn := fun _ => fun
  | [d] => { results := [.lit (.bool false)], args := [d] }
  | _ => none }
def FnExactRestoreFromWrongFalsely : Prop := fnExactRestoreFromRow.holds Tryz.pinned (OpenSpec.ofChange fnExactRestoreFromWrong)

/-- 'laws.FnExactStanding': WHATEVER THE INPUT: true; the input reads as it did. -/
def fnExactStandingSpec : ChangeSpec := { name := "fnExactStanding", fn := fun _ => fun
  | [d] => { results := [.lit (.bool true)], args := [d] }
  | _ => none }
def fnExactStandingRow : OpenClaim := { program := "ytgoeccemfgniiaagreat", sum := "b1f1b7990292b598d270741fc2483f9ee611f1b3d678b9e40757e674bf58ba92", func := "loop.example/g00968/laws.FnExactStanding", spec := "fnExactStanding", inPlace := ["internal/bytealg.IndexByteString", "internal/bytealg.abigen_runtime_cmpstring"], unfollowed := true, recurses := true, apart := false }
def FnExactStandingSaid : Prop := fnExactStandingRow.holds Tryz.pinned (OpenSpec.ofChange fnExactStandingSpec)

/-- ITS FALSE NEIGHBOUR: 'it returns false'. Refute it at one input. -/
def fnExactStandingWrong : ChangeSpec := { name := "fnExactStanding", fn := fun _ => fun
  | [d] => { results := [.lit (.bool false)], args := [d] }
  | _ => none }
def FnExactStandingWrongFalsely : Prop := fnExactStandingRow.holds Tryz.pinned (OpenSpec.ofChange fnExactStandingWrong)

/-- 'laws.FnSchemas': WHATEVER THE INPUT: true; the input reads as it did. -/
def fnSchemasSpec : ChangeSpec := { name := "fnSchemas", fn := fun _ => fun
  | [d] => { results := [.lit (.bool true)], args := [d] }
  | _ => none }
def fnSchemasRow : OpenClaim := { program := "ytgoeccemfgniiaagreat", sum := "b1f1b7990292b598d270741fc2483f9ee611f1b3d678b9e40757e674bf58ba92", func := "loop.example/g00968/laws.FnSchemas", spec := "fnSchemas", inPlace := ["internal/bytealg.IndexByteString", "internal/bytealg.abigen_runtime_cmpstring"], unfollowed := true, recurses := true, apart := false }
def FnSchemasSaid : Prop := fnSchemasRow.holds Tryz.pinned (OpenSpec.ofChange fnSchemasSpec)

/-- ITS FALSE NEIGHBOUR: 'it returns false'. Refute it at one input. -/
def fnSchemasWrong : ChangeSpec := { name := "fnSchemas", fn := fun _ => fun
  | [d] => { results := [.lit (.bool false)], args := [d] }
  | _ => none }
def FnSchemasWrongFalsely : Prop := fnSchemasRow.holds Tryz.pinned (OpenSpec.ofChange fnSchemasWrong)

/-- 'laws.FnStoredBursts': WHATEVER THE INPUT: true; the input reads as it did. -/
def fnStoredBurstsSpec : ChangeSpec := { name := "fnStoredBursts", fn := fun _ => fun
  | [d] => { results := [.lit (.bool true)], args := [d] }
  | _ => none }
def fnStoredBurstsRow : OpenClaim := { program := "ytgoeccemfgniiaagreat", sum := "b1f1b7990292b598d270741fc2483f9ee611f1b3d678b9e40757e674bf58ba92", func := "loop.example/g00968/laws.FnStoredBursts", spec := "fnStoredBursts", inPlace := ["internal/bytealg.IndexByteString", "internal/bytealg.abigen_runtime_cmpstring"], unfollowed := true, recurses := true, apart := false }
def FnStoredBurstsSaid : Prop := fnStoredBurstsRow.holds Tryz.pinned (OpenSpec.ofChange fnStoredBurstsSpec)

/-- ITS FALSE NEIGHBOUR: 'it returns false'. Refute it at one input. -/
def fnStoredBurstsWrong : ChangeSpec := { name := "fnStoredBursts", fn := fun _ => fun
  | [d] => { results := [.lit (.bool false)], args := [d] }
  | _ => none }
def FnStoredBurstsWrongFalsely : Prop := fnStoredBurstsRow.holds Tryz.pinned (OpenSpec.ofChange fnStoredBurstsWrong)

/-- 'laws.FnStored': WHATEVER THE INPUT: true; the input reads as it did. -/
def fnStoredSpec : ChangeSpec := { name := "fnStored", fn := fun _ => fun
  | [d] => { results := [.lit (.bool true)], args := [d] }
  | _ => none }
def fnStoredRow : OpenClaim := { program := "ytgoeccemfgniiaagreat", sum := "b1f1b7990292b598d270741fc2483f9ee611f1b3d678b9e40757e674bf58ba92", func := "loop.example/g00968/laws.FnStored", spec := "fnStored", inPlace := ["internal/bytealg.IndexByteString", "internal/bytealg.abigen_runtime_cmpstring"], unfollowed := true, recurses := true, apart := false }
def FnStoredSaid : Prop := fnStoredRow.holds Tryz.pinned (OpenSpec.ofChange fnStoredSpec)

/-- ITS FALSE NEIGHBOUR: 'it returns false'. Refute it at one input. -/
def fnStoredWrong : ChangeSpec := { name := "fnStored", fn := fun _ => fun
  | [d] => { results := [.lit (.bool false)], args := [d] }
  | _ => none }
def FnStoredWrongFalsely : Prop := fnStoredRow.holds Tryz.pinned (OpenSpec.ofChange fnStoredWrong)

/-- 'laws.FnExactSafeWorld': WHATEVER THE INPUT: true; the input reads as it did. -/
def fnExactSafeWorldSpec : ChangeSpec := { name := "fnExactSafeWorld", fn := fun _ => fun
  | [d] => { results := [.lit (.bool true)], args := [d] }
  | _ => none }
def fnExactSafeWorldRow : OpenClaim := { program := "ytgoeccemfgniiaagreat", sum := "b1f1b7990292b598d270741fc2483f9ee611f1b3d678b9e40757e674bf58ba92", func := "loop.example/g00968/laws.FnExactSafeWorld", spec := "fnExactSafeWorld", inPlace := ["internal/bytealg.IndexByteString", "internal/bytealg.abigen_runtime_cmpstring"], unfollowed := true, recurses := true, apart := false }
def FnExactSafeWorldSaid : Prop := fnExactSafeWorldRow.holds Tryz.pinned (OpenSpec.ofChange fnExactSafeWorldSpec)

/-- ITS FALSE NEIGHBOUR: 'it returns false'. Refute it at one input. -/
def fnExactSafeWorldWrong : ChangeSpec := { name := "fnExactSafeWorld", fn := fun _ => fun
  | [d] => { results := [.lit (.bool false)], args := [d] }
  | _ => none }
def FnExactSafeWorldWrongFalsely : Prop := fnExactSafeWorldRow.holds Tryz.pinned (OpenSpec.ofChange fnExactSafeWorldWrong)

/-- 'laws.FnUpgrades': WHATEVER THE INPUT: true; the input reads as it did. -/
def fnUpgradesSpec : ChangeSpec := { name := "fnUpgrades", fn := fun _ => fun
  | [d] => { results := [.lit (.bool true)], args := [d] }
  | _ => none }
def fnUpgradesRow : OpenClaim := { program := "ytgoeccemfgniiaagreat", sum := "b1f1b7990292b598d270741fc2483f9ee611f1b3d678b9e40757e674bf58ba92", func := "loop.example/g00968/laws.FnUpgrades", spec := "fnUpgrades", inPlace := ["internal/bytealg.IndexByteString", "internal/bytealg.abigen_runtime_cmpstring"], unfollowed := true, recurses := true, named := ["math/bits.divideError", "math/bits.overflowError"], apart := false }
def FnUpgradesSaid : Prop := fnUpgradesRow.holds Tryz.pinned (OpenSpec.ofChange fnUpgradesSpec)

/-- ITS FALSE NEIGHBOUR: 'it returns false'. Refute it at one input. -/
def fnUpgradesWrong : ChangeSpec := { name := "fnUpgrades", fn := fun _ => fun
  | [d] => { results := [.lit (.bool false)], args := [d] }
  | _ => none }
def FnUpgradesWrongFalsely : Prop := fnUpgradesRow.holds Tryz.pinned (OpenSpec.ofChange fnUpgradesWrong)

/-- 'laws.FnSaves': WHATEVER THE INPUT: true; the input reads as it did. -/
def fnSavesSpec : ChangeSpec := { name := "fnSaves", fn := fun _ => fun
  | [d] => { results := [.lit (.bool true)], args := [d] }
  | _ => none }
def fnSavesRow : OpenClaim := { program := "ytgoeccemfgniiaagreat", sum := "b1f1b7990292b598d270741fc2483f9ee611f1b3d678b9e40757e674bf58ba92", func := "loop.example/g00968/laws.FnSaves", spec := "fnSaves", inPlace := ["internal/bytealg.IndexByteString", "internal/bytealg.abigen_runtime_cmpstring"], unfollowed := true, recurses := true, apart := false }
def FnSavesSaid : Prop := fnSavesRow.holds Tryz.pinned (OpenSpec.ofChange fnSavesSpec)

/-- ITS FALSE NEIGHBOUR: 'it returns false'. Refute it at one input. -/
def fnSavesWrong : ChangeSpec := { name := "fnSaves", fn := fun _ => fun
  | [d] => { results := [.lit (.bool false)], args := [d] }
  | _ => none }
def FnSavesWrongFalsely : Prop := fnSavesRow.holds Tryz.pinned (OpenSpec.ofChange fnSavesWrong)

/- THE SECOND FORM. 'bulk': how many values and letters a reading holds, each counted each time it is reached (what is shared counts as often as it is met; a slice's spare places count too). A statement '..UptoSaid' is the law's where the arguments, and the package variables that the reading takes, are together of bulk at most 1048576: NARROWER than '..Said'. Prove '..Said' where nothing that the law and all that it calls make is longer than what came in: it says more and counts as full. Else prove '..UptoSaid'. A law counts once. -/
mutual
def uptoBulk {H : Type} : DataW H → Nat
  | .lit (.string bytes) => bytes.length + 1
  | .lit _ => 1
  | .nil => 1
  | .ptr d => uptoBulk d + 1
  | .slice elems spare => uptoBulkAll elems + uptoBulkAll spare + 1
  | .agg parts => uptoBulkAll parts + 1
  | .iface _ d => uptoBulk d + 1
  | .map entries => uptoBulkEntries entries + 1
  | .held _ => 1
def uptoBulkAll {H : Type} : List (DataW H) → Nat
  | [] => 0
  | d :: r => uptoBulk d + uptoBulkAll r
def uptoBulkEntries {H : Type} : List (Lit × DataW H) → Nat
  | [] => 0
  | x :: r => uptoBulkEntry x + uptoBulkEntries r
def uptoBulkEntry {H : Type} : Lit × DataW H → Nat
  | (.string bytes, d) => bytes.length + uptoBulk d + 1
  | (_, d) => uptoBulk d + 1
 end
def uptoSmall : (H : Type) → List (DataW H) → Bool := fun _ ds => decide (uptoBulkAll ds ≤ 1048576)
def OpenSpec.upto (s : _root_.Go.ChangeSpec) : _root_.Go.OpenSpec := { _root_.Go.OpenSpec.ofChange s with cond := some uptoSmall }

/-- 'laws.FnExactSaveCluster', WHERE WHAT IT READS IS OF BULK AT MOST 1048576: true; the input reads as it did. -/
def fnExactSaveClusterUptoRow : OpenClaim := { program := "ytgoeccemfgniiaagreat", sum := "b1f1b7990292b598d270741fc2483f9ee611f1b3d678b9e40757e674bf58ba92", func := "loop.example/g00968/laws.FnExactSaveCluster", spec := "fnExactSaveCluster", inPlace := ["internal/bytealg.IndexByteString", "internal/bytealg.abigen_runtime_cmpstring"], unfollowed := true, recurses := true, apart := false, narrowed := true }
def FnExactSaveClusterUptoSaid : Prop := fnExactSaveClusterUptoRow.holds Tryz.pinned (OpenSpec.upto fnExactSaveClusterSpec)

/-- 'laws.FnExactRestoreFrom', WHERE WHAT IT READS IS OF BULK AT MOST 1048576: true; the input reads as it did. -/
def fnExactRestoreFromUptoRow : OpenClaim := { program := "ytgoeccemfgniiaagreat", sum := "b1f1b7990292b598d270741fc2483f9ee611f1b3d678b9e40757e674bf58ba92", func := "loop.example/g00968/laws.FnExactRestoreFrom", spec := "fnExactRestoreFrom", inPlace := ["internal/bytealg.IndexByteString", "internal/bytealg.abigen_runtime_cmpstring"], unfollowed := true, recurses := true, apart := false, narrowed := true }
def FnExactRestoreFromUptoSaid : Prop := fnExactRestoreFromUptoRow.holds Tryz.pinned (OpenSpec.upto fnExactRestoreFromSpec)

/-- 'laws.FnExactStanding', WHERE WHAT IT READS IS OF BULK AT MOST 1048576: true; the input reads as it did. -/
def fnExactStandingUptoRow : OpenClaim := { program := "ytgoeccemfgniiaagreat", sum := "b1f1b7990292b598d270741fc2483f9ee611f1b3d678b9e40757e674bf58ba92", func := "loop.example/g00968/laws.FnExactStanding", spec := "fnExactStanding", inPlace := ["internal/bytealg.IndexByteString", "internal/bytealg.abigen_runtime_cmpstring"], unfollowed := true, recurses := true, apart := false, narrowed := true }
def FnExactStandingUptoSaid : Prop := fnExactStandingUptoRow.holds Tryz.pinned (OpenSpec.upto fnExactStandingSpec)

/-- 'laws.FnSchemas', WHERE WHAT IT READS IS OF BULK AT MOST 1048576: true; the input reads as it did. -/
def fnSchemasUptoRow : OpenClaim := { program := "ytgoeccemfgniiaagreat", sum := "b1f1b7990292b598d270741fc2483f9ee611f1b3d678b9e40757e674bf58ba92", func := "loop.example/g00968/laws.FnSchemas", spec := "fnSchemas", inPlace := ["internal/bytealg.IndexByteString", "internal/bytealg.abigen_runtime_cmpstring"], unfollowed := true, recurses := true, apart := false, narrowed := true }
def FnSchemasUptoSaid : Prop := fnSchemasUptoRow.holds Tryz.pinned (OpenSpec.upto fnSchemasSpec)

/-- 'laws.FnStoredBursts', WHERE WHAT IT READS IS OF BULK AT MOST 1048576: true; the input reads as it did. -/
def fnStoredBurstsUptoRow : OpenClaim := { program := "ytgoeccemfgniiaagreat", sum := "b1f1b7990292b598d270741fc2483f9ee611f1b3d678b9e40757e674bf58ba92", func := "loop.example/g00968/laws.FnStoredBursts", spec := "fnStoredBursts", inPlace := ["internal/bytealg.IndexByteString", "internal/bytealg.abigen_runtime_cmpstring"], unfollowed := true, recurses := true, apart := false, narrowed := true }
def FnStoredBurstsUptoSaid : Prop := fnStoredBurstsUptoRow.holds Tryz.pinned (OpenSpec.upto fnStoredBurstsSpec)

/-- 'laws.FnStored', WHERE WHAT IT READS IS OF BULK AT MOST 1048576: true; the input reads as it did. -/
def fnStoredUptoRow : OpenClaim := { program := "ytgoeccemfgniiaagreat", sum := "b1f1b7990292b598d270741fc2483f9ee611f1b3d678b9e40757e674bf58ba92", func := "loop.example/g00968/laws.FnStored", spec := "fnStored", inPlace := ["internal/bytealg.IndexByteString", "internal/bytealg.abigen_runtime_cmpstring"], unfollowed := true, recurses := true, apart := false, narrowed := true }
def FnStoredUptoSaid : Prop := fnStoredUptoRow.holds Tryz.pinned (OpenSpec.upto fnStoredSpec)

/-- 'laws.FnExactSafeWorld', WHERE WHAT IT READS IS OF BULK AT MOST 1048576: true; the input reads as it did. -/
def fnExactSafeWorldUptoRow : OpenClaim := { program := "ytgoeccemfgniiaagreat", sum := "b1f1b7990292b598d270741fc2483f9ee611f1b3d678b9e40757e674bf58ba92", func := "loop.example/g00968/laws.FnExactSafeWorld", spec := "fnExactSafeWorld", inPlace := ["internal/bytealg.IndexByteString", "internal/bytealg.abigen_runtime_cmpstring"], unfollowed := true, recurses := true, apart := false, narrowed := true }
def FnExactSafeWorldUptoSaid : Prop := fnExactSafeWorldUptoRow.holds Tryz.pinned (OpenSpec.upto fnExactSafeWorldSpec)

/-- 'laws.FnUpgrades', WHERE WHAT IT READS IS OF BULK AT MOST 1048576: true; the input reads as it did. -/
def fnUpgradesUptoRow : OpenClaim := { program := "ytgoeccemfgniiaagreat", sum := "b1f1b7990292b598d270741fc2483f9ee611f1b3d678b9e40757e674bf58ba92", func := "loop.example/g00968/laws.FnUpgrades", spec := "fnUpgrades", inPlace := ["internal/bytealg.IndexByteString", "internal/bytealg.abigen_runtime_cmpstring"], unfollowed := true, recurses := true, named := ["math/bits.divideError", "math/bits.overflowError"], apart := false, narrowed := true }
def FnUpgradesUptoSaid : Prop := fnUpgradesUptoRow.holds Tryz.pinned (OpenSpec.upto fnUpgradesSpec)

/-- 'laws.FnSaves', WHERE WHAT IT READS IS OF BULK AT MOST 1048576: true; the input reads as it did. -/
def fnSavesUptoRow : OpenClaim := { program := "ytgoeccemfgniiaagreat", sum := "b1f1b7990292b598d270741fc2483f9ee611f1b3d678b9e40757e674bf58ba92", func := "loop.example/g00968/laws.FnSaves", spec := "fnSaves", inPlace := ["internal/bytealg.IndexByteString", "internal/bytealg.abigen_runtime_cmpstring"], unfollowed := true, recurses := true, apart := false, narrowed := true }
def FnSavesUptoSaid : Prop := fnSavesUptoRow.holds Tryz.pinned (OpenSpec.upto fnSavesSpec)

end Rows
end Go.Proofs.YtgoeccemfgniiaaGreat
