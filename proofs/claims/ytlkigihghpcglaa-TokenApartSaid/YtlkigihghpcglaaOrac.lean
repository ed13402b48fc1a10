/- oracle: known, Issue, Verify, May. -/
import Derived.Test.YtlkigihghpcglaaOracD
import Derived.Test.YtlkigihghpcglaaPushN
import Derived.Maps.Own
import Derived.WalkSpells
namespace Go.Proofs.Ytlkigihghpcglaa
open Go.RowKit Go.Maps Go.ChangeShapes Go.WideShapes
end Go.Proofs.Ytlkigihghpcglaa
