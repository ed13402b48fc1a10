/- oracle: known, Issue, Verify, May. -/
import Derived.Test.YtlkigihghpcglaaDoorOracD
import Derived.Test.YtlkigihghpcglaaDoorPushN
import Derived.Maps.Own
import Derived.WalkSpells
namespace Go.Proofs.YtlkigihghpcglaaDoor
open Go.RowKit Go.Maps Go.ChangeShapes Go.WideShapes
end Go.Proofs.YtlkigihghpcglaaDoor
