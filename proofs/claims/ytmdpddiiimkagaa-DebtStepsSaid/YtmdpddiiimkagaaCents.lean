/- cents: what its functions compute. -/
import Derived.Test.YtmdpddiiimkagaaPicked
import Derived.Test.YtmdpddiiimkagaaFit
namespace Go.Proofs.Ytmdpddiiimkagaa
open Go.RowKit
end Go.Proofs.Ytmdpddiiimkagaa
