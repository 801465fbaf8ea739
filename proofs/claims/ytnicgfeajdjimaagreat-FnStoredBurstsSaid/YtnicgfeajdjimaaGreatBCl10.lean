/- Cl10 (what is wanted of them). -/
import Derived.Test.YtnicgfeajdjimaaGreatBCl1
import Derived.Test.YtnicgfeajdjimaaGreatBAwb
namespace Go.Proofs.YtnicgfeajdjimaaGreat
open Go.RowKit
set_option linter.unusedVariables false
set_option linter.unusedSimpArgs false
set_option maxRecDepth 100000
set_option maxHeartbeats 1000000
def LabelD.fine (x : LabelD) : Prop := strOk x.key ∧ strOk x.value
structure PlacedD.fine (x : PlacedD) : Prop where
  pod : x.pod.fine
  on : strOk x.on
  seq : intOk x.seq
end Go.Proofs.YtnicgfeajdjimaaGreat
