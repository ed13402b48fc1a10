/- oracle: known, Issue, Verify, May. -/
import Derived.Test.YtakdjggpengbhaaDoorOracD
import Derived.Test.YtakdjggpengbhaaDoorPushN
import Derived.Maps.Own
import Derived.WalkSpells
namespace Go.Proofs.YtakdjggpengbhaaDoor
open Go.RowKit Go.Maps Go.ChangeShapes Go.WideShapes
end Go.Proofs.YtakdjggpengbhaaDoor
