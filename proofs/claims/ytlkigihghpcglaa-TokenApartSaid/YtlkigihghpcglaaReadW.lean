/- words.Read: the wide number that decimal digits tell. -/
import Derived.Test.YtlkigihghpcglaaWords
import Derived.Test.YtlkigihghpcglaaDecD
import Derived.Test.YtlkigihghpcglaaStr
import Derived.Test.YtlkigihghpcglaaHeap
namespace Go.Proofs.Ytlkigihghpcglaa
open Go.RowKit
set_option linter.unusedVariables false
theorem val10_take_le {l : List Nat} (k : Nat) : val10 (l.take k) ≤ val10 l := by
  have h : val10 l = val10 (l.take k ++ l.drop k) := by rw [List.take_append_drop]
  rw [h, val10_append]
  have : val10 (l.take k) * 1 ≤ val10 (l.take k) * 10 ^ (l.drop k).length := Nat.mul_le_mul_left _ (Nat.pos_of_ne_zero (by simp))
  omega
theorem rd_c {x c V d T N : Nat} (h : x + c * 79228162514264337593543950336 = V * 10) (h1 : T = V * 10 + d) (h2 : T ≤ N) (h3 : N < 79228162514264337593543950336) : c = 0 := by omega
theorem rd_p {x n : Nat} (h : x + 0 * 79228162514264337593543950336 = n) : x = n := by omega
theorem rd_f {x f U V d T N : Nat} (h : x + f * 79228162514264337593543950336 = U + d) (h0 : U = V * 10) (h1 : T = V * 10 + d) (h2 : T ≤ N) (h3 : N < 79228162514264337593543950336) : f = 0 := by omega
theorem rd_q {x U V d T : Nat} (h : x + 0 * 79228162514264337593543950336 = U + d) (h0 : U = V * 10) (h1 : T = V * 10 + d) : x = T := by omega
/-- Three words that are together the number n; no error. -/
def IsRead (n : Nat) (w : World) (e : Ending) (w' : World) : Prop :=
  ∃ y0 y1 y2 : Nat, y0 < 4294967296 ∧ y1 < 4294967296 ∧ y2 < 4294967296 ∧ Hid (val3 y0 y1 y2 = n) ∧ e = .returned (.tuple #[.agg #[.int .u32 y0, .int .u32 y1, .int .u32 y2], .int .i64 0]) ∧ Below w.heap.size w w'
end Go.Proofs.Ytlkigihghpcglaa
