/- Cl9 (what is wanted of them). -/
import Derived.Test.YtnicgfeajdjimaaGreatBCl1
import Derived.Test.YtnicgfeajdjimaaGreatBAwb
namespace Go.Proofs.YtnicgfeajdjimaaGreat
open Go.RowKit
set_option linter.unusedVariables false
set_option linter.unusedSimpArgs false
set_option maxRecDepth 100000
set_option maxHeartbeats 1000000
def oneCell (x : ByteArray) : List D := [.sc (.string x)]
end Go.Proofs.YtnicgfeajdjimaaGreat
