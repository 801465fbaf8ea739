/-
  DERIVED. GIVEN WITH THE SEED: THE CARDS: each row of YtepachoampdhiaaDoorRows.lean that lists a variable, with what it lists TIED to the program's text (the seventh form; the later family's looks); each row that meets fmt, with fmt's text TOLD by the authors' own Lean function (tested against real Go, not proved from fmt's source: count such statements apart). THE CARD IS WHAT COUNTS. Prove the row's statement (the work); the ties are given (YtepachoampdhiaaDoorTie.lean); close each card by the builder's one call (the guide's Derived/Test/ToyasCard.lean, 'card_holds'). Laid BY PROGRAM, IN A SANDBOX (cutbox-door.mjs). By AI agents, Wed Nov 11 2026. No macro, syntax, notation, axiom, sorry.
-/
import Derived.Test.YtepachoampdhiaaDoorRows
import GoSem.ClaimSeven
namespace Go.Proofs.YtepachoampdhiaaDoor
namespace Rows

/-- THE TIED CARD OF 'laws.FnExactFaultLine'. -/
def fnExactFaultLineCard : Claim7 := { stood := { row := fnExactFaultLineRow, standIns := [], harness := (true, "0166fd3f387ef0c2fa08421163409084912043ef7e9faa2aef1bad5fb0e0f26b"), looks := false }, kinds := [], alts := [], laidByText := true, laidKinds := [.data, .data, .data], laidTests := true, laidLooks := .later }
def FnExactFaultLineCardSaid : Prop := Claim7.holds Tryd.pinned (.plain (OpenSpec.ofChange fnExactFaultLineSpec)) fnExactFaultLineCard

/-- THE TIED CARD OF 'laws.FnExactReplyLine'. -/
def fnExactReplyLineCard : Claim7 := { stood := { row := fnExactReplyLineRow, standIns := [], harness := (true, "0166fd3f387ef0c2fa08421163409084912043ef7e9faa2aef1bad5fb0e0f26b"), looks := false }, kinds := [], alts := [], laidByText := true, laidKinds := [.data, .data, .data], laidTests := true, laidLooks := .later }
def FnExactReplyLineCardSaid : Prop := Claim7.holds Tryd.pinned (.plain (OpenSpec.ofChange fnExactReplyLineSpec)) fnExactReplyLineCard

/-- THE TIED CARD OF 'laws.FnExactActLine'. -/
def fnExactActLineCard : Claim7 := { stood := { row := fnExactActLineRow, standIns := [], harness := (true, "0166fd3f387ef0c2fa08421163409084912043ef7e9faa2aef1bad5fb0e0f26b"), looks := false }, kinds := [], alts := [], laidByText := true, laidKinds := [.data, .data, .data], laidTests := true, laidLooks := .later }
def FnExactActLineCardSaid : Prop := Claim7.holds Tryd.pinned (.plain (OpenSpec.ofChange fnExactActLineSpec)) fnExactActLineCard

/-- THE SECOND FORM's CARD OF 'laws.FnExactFaultLine'. -/
def fnExactFaultLineUptoCard : Claim7 := { stood := { row := fnExactFaultLineUptoRow, standIns := [], harness := (true, "0166fd3f387ef0c2fa08421163409084912043ef7e9faa2aef1bad5fb0e0f26b"), looks := false }, kinds := [], alts := [], laidByText := true, laidKinds := [.data, .data, .data], laidTests := true, laidLooks := .later }
def FnExactFaultLineUptoCardSaid : Prop := Claim7.holds Tryd.pinned (.plain (OpenSpec.upto fnExactFaultLineSpec)) fnExactFaultLineUptoCard

/-- THE SECOND FORM's CARD OF 'laws.FnExactReplyLine'. -/
def fnExactReplyLineUptoCard : Claim7 := { stood := { row := fnExactReplyLineUptoRow, standIns := [], harness := (true, "0166fd3f387ef0c2fa08421163409084912043ef7e9faa2aef1bad5fb0e0f26b"), looks := false }, kinds := [], alts := [], laidByText := true, laidKinds := [.data, .data, .data], laidTests := true, laidLooks := .later }
def FnExactReplyLineUptoCardSaid : Prop := Claim7.holds Tryd.pinned (.plain (OpenSpec.upto fnExactReplyLineSpec)) fnExactReplyLineUptoCard

/-- THE SECOND FORM's CARD OF 'laws.FnExactActLine'. -/
def fnExactActLineUptoCard : Claim7 := { stood := { row := fnExactActLineUptoRow, standIns := [], harness := (true, "0166fd3f387ef0c2fa08421163409084912043ef7e9faa2aef1bad5fb0e0f26b"), looks := false }, kinds := [], alts := [], laidByText := true, laidKinds := [.data, .data, .data], laidTests := true, laidLooks := .later }
def FnExactActLineUptoCardSaid : Prop := Claim7.holds Tryd.pinned (.plain (OpenSpec.upto fnExactActLineSpec)) fnExactActLineUptoCard
end Rows
end Go.Proofs.YtepachoampdhiaaDoor
