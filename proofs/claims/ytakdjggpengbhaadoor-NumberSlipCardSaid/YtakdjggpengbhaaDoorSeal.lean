/- 'sealed': digits with their check digit behind. -/
import Derived.Test.YtakdjggpengbhaaDoorPent
import Derived.Test.YtakdjggpengbhaaDoorNum
namespace Go.Proofs.YtakdjggpengbhaaDoor
open Go.RowKit
theorem one_str' {x : Nat} (h : x ≤ 9) : strOfNums [48 + (x : Int)] = dstr [x] := by
  have := one_str (x := (x : Int)) (by omega) (by omega)
  rwa [Int.toNat_natCast] at this
/-- A text of digits whose motion is none. -/
def IsSeal (w : World) (e : Ending) (w' : World) : Prop :=
  ∃ ds : List Nat, 1 < ds.length ∧ ds.length ≤ 200 ∧ (∀ d ∈ ds, d ≤ 9) ∧ allD ds 0 = 0 ∧ e = .returned (.tuple #[.string (dstr ds), .bool true]) ∧ Below w.heap.size w w'
end Go.Proofs.YtakdjggpengbhaaDoor
