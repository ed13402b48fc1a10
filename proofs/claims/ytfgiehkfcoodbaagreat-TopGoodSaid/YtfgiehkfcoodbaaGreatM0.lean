/- Numbers stand for their values; () for nought. -/
import Derived.WalkKit
namespace Go.Proofs.YtfgiehkfcoodbaaGreat
open Go.RowKit
set_option linter.unusedVariables false
set_option maxRecDepth 100000
set_option maxHeartbeats 16000000
instance:Coe Nat Value:=⟨fun n => .int .i64 ↑n⟩
instance:Coe Int Value:=⟨fun n => .int .i64 n⟩
instance:Coe Unit Value:=⟨fun _ => .int .i64 0⟩
end Go.Proofs.YtfgiehkfcoodbaaGreat
