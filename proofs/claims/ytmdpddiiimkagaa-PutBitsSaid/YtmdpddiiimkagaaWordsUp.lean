/- words: what its functions compute. -/
import Derived.Test.YtmdpddiiimkagaaPicked
import Derived.Test.YtmdpddiiimkagaaFit
namespace Go.Proofs.Ytmdpddiiimkagaa
open Go.RowKit

/-- One word times m, and what is carried. -/
def tmV (m x c : Nat) : Nat := (x * m + c) % 4294967296
def tmC (m x c : Nat) : Nat := (x * m + c) / 4294967296
def adV (x c : Nat) : Nat := (x + c) % 4294967296
def adC (x c : Nat) : Nat := (x + c) / 4294967296
theorem mul_lt32 {a b : Nat} (ha : a < 4294967296) (hb : b < 4294967296) : a * b ≤ 4294967295 * 4294967295 := Nat.mul_le_mul (by omega) (by omega)
theorem tmC_lt {m x c : Nat} (hm : m < 4294967296) (hx : x < 4294967296) (hc : c < 4294967296) : tmC m x c < 4294967296 := by
  have := mul_lt32 hx hm
  unfold tmC; omega

end Go.Proofs.Ytmdpddiiimkagaa
