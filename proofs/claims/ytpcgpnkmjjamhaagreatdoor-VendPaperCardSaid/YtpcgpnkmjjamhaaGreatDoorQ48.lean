/- A receipt whose money does not add up: receipt.Check, receipt.Show. -/
import Derived.Test.YtpcgpnkmjjamhaaGreatDoorQ9
import Derived.Test.YtpcgpnkmjjamhaaGreatDoorQ1
import Derived.Test.YtpcgpnkmjjamhaaGreatDoorQ12
namespace Go.Proofs.YtpcgpnkmjjamhaaGreatDoor
open Go.RowKit
set_option linter.unusedVariables false
set_option maxRecDepth 100000
end Go.Proofs.YtpcgpnkmjjamhaaGreatDoor
