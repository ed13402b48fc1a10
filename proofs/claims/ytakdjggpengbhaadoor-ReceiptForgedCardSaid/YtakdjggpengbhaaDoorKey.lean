/- Three numbers as the key of a map. -/
import Derived.Test.YtakdjggpengbhaaDoorOwn
import Derived.Maps.OwnSet
import Derived.Maps.OwnOps
import Derived.Maps.Views
import Derived.DeepKeys4
import Derived.ChangeKeys
namespace Go.Proofs.YtakdjggpengbhaaDoor
open Go.RowKit Go.Maps Go.ChangeShapes Go.WideShapes
/-- The key's lits. -/
def kls (a b c : Int) : List Lit := [.int .i64 a, .int .i64 b, .int .i64 c]
def kl (a b c : Int) : Lit := .string (keyBytes (kls a b c))
def wf3 (a b c : Int) : Prop := (Lit.int .i64 a).wf = true ∧ (Lit.int .i64 b).wf = true ∧ (Lit.int .i64 c).wf = true
end Go.Proofs.YtakdjggpengbhaaDoor
