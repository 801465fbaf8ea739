/-
  DERIVED. GIVEN WITH THE SEED: THE CARDS: each row of YtidjjfjhmlndjaaGreatDoorRows.lean that lists a variable, with what it lists TIED to the program's text (the seventh form; the later family's looks); each row that meets fmt, with fmt's text TOLD by the authors' own Lean function (tested against real Go, not proved from fmt's source: count such statements apart). THE CARD IS WHAT COUNTS. Prove the row's statement (the work); the ties are given (YtidjjfjhmlndjaaGreatDoorTie.lean); close each card by the builder's one call (the guide's Derived/Test/ToyasCard.lean, 'card_holds'). Laid BY PROGRAM, IN A SANDBOX (cutbox-door.mjs). By AI agents, Wed Nov 11 2026. No macro, syntax, notation, axiom, sorry.
-/
import Derived.Test.YtidjjfjhmlndjaaGreatDoorRows
import GoSem.ClaimSeven
namespace Go.Proofs.YtidjjfjhmlndjaaGreatDoor
namespace Rows

/-- THE TIED CARD OF 'laws.FnExactClusterLines'. -/
def fnExactClusterLinesCard : Claim7 := { stood := { row := fnExactClusterLinesRow, standIns := [], harness := (true, "a30986aa0e6bcef56e6eb8f84d98cb09cde6c3790b6c491b48d853530d8a813c"), looks := true }, kinds := [], alts := [], laidByText := true, laidKinds := [.data, .data, .data], laidTests := true, laidLooks := .later }
def FnExactClusterLinesCardSaid : Prop := Claim7.holds Tryz.pinned (.plain (OpenSpec.ofChange fnExactClusterLinesSpec)) fnExactClusterLinesCard

/-- THE TIED CARD OF 'laws.FnExactNeedsIn'. -/
def fnExactNeedsInCard : Claim7 := { stood := { row := fnExactNeedsInRow, standIns := [], harness := (true, "a30986aa0e6bcef56e6eb8f84d98cb09cde6c3790b6c491b48d853530d8a813c"), looks := true }, kinds := [], alts := [], laidByText := true, laidKinds := [.data, .data, .data], laidTests := true, laidLooks := .later }
def FnExactNeedsInCardSaid : Prop := Claim7.holds Tryz.pinned (.plain (OpenSpec.ofChange fnExactNeedsInSpec)) fnExactNeedsInCard

/-- THE TIED CARD OF 'laws.FnExactHostIn'. -/
def fnExactHostInCard : Claim7 := { stood := { row := fnExactHostInRow, standIns := [], harness := (true, "a30986aa0e6bcef56e6eb8f84d98cb09cde6c3790b6c491b48d853530d8a813c"), looks := true }, kinds := [], alts := [], laidByText := true, laidKinds := [.data, .data, .data, .sentinel, .sentinel], laidTests := true, laidLooks := .later }
def FnExactHostInCardSaid : Prop := Claim7.holds Tryz.pinned (.plain (OpenSpec.ofChange fnExactHostInSpec)) fnExactHostInCard

/-- THE TIED CARD OF 'laws.FnReads'. -/
def fnReadsCard : Claim7 := { stood := { row := fnReadsRow, standIns := [], harness := (true, "a30986aa0e6bcef56e6eb8f84d98cb09cde6c3790b6c491b48d853530d8a813c"), looks := true }, kinds := [], alts := [], laidByText := true, laidKinds := [.data, .data, .data, .sentinel, .sentinel], laidTests := true, laidLooks := .later }
def FnReadsCardSaid : Prop := Claim7.holds Tryz.pinned (.plain (OpenSpec.ofChange fnReadsSpec)) fnReadsCard

/-- THE SECOND FORM's CARD OF 'laws.FnExactClusterLines'. -/
def fnExactClusterLinesUptoCard : Claim7 := { stood := { row := fnExactClusterLinesUptoRow, standIns := [], harness := (true, "a30986aa0e6bcef56e6eb8f84d98cb09cde6c3790b6c491b48d853530d8a813c"), looks := true }, kinds := [], alts := [], laidByText := true, laidKinds := [.data, .data, .data], laidTests := true, laidLooks := .later }
def FnExactClusterLinesUptoCardSaid : Prop := Claim7.holds Tryz.pinned (.plain (OpenSpec.upto fnExactClusterLinesSpec)) fnExactClusterLinesUptoCard

/-- THE SECOND FORM's CARD OF 'laws.FnExactNeedsIn'. -/
def fnExactNeedsInUptoCard : Claim7 := { stood := { row := fnExactNeedsInUptoRow, standIns := [], harness := (true, "a30986aa0e6bcef56e6eb8f84d98cb09cde6c3790b6c491b48d853530d8a813c"), looks := true }, kinds := [], alts := [], laidByText := true, laidKinds := [.data, .data, .data], laidTests := true, laidLooks := .later }
def FnExactNeedsInUptoCardSaid : Prop := Claim7.holds Tryz.pinned (.plain (OpenSpec.upto fnExactNeedsInSpec)) fnExactNeedsInUptoCard

/-- THE SECOND FORM's CARD OF 'laws.FnExactHostIn'. -/
def fnExactHostInUptoCard : Claim7 := { stood := { row := fnExactHostInUptoRow, standIns := [], harness := (true, "a30986aa0e6bcef56e6eb8f84d98cb09cde6c3790b6c491b48d853530d8a813c"), looks := true }, kinds := [], alts := [], laidByText := true, laidKinds := [.data, .data, .data, .sentinel, .sentinel], laidTests := true, laidLooks := .later }
def FnExactHostInUptoCardSaid : Prop := Claim7.holds Tryz.pinned (.plain (OpenSpec.upto fnExactHostInSpec)) fnExactHostInUptoCard

/-- THE SECOND FORM's CARD OF 'laws.FnReads'. -/
def fnReadsUptoCard : Claim7 := { stood := { row := fnReadsUptoRow, standIns := [], harness := (true, "a30986aa0e6bcef56e6eb8f84d98cb09cde6c3790b6c491b48d853530d8a813c"), looks := true }, kinds := [], alts := [], laidByText := true, laidKinds := [.data, .data, .data, .sentinel, .sentinel], laidTests := true, laidLooks := .later }
def FnReadsUptoCardSaid : Prop := Claim7.holds Tryz.pinned (.plain (OpenSpec.upto fnReadsSpec)) fnReadsUptoCard
end Rows
end Go.Proofs.YtidjjfjhmlndjaaGreatDoor
