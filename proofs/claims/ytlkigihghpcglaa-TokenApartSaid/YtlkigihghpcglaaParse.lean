/- token: field, Parse. -/
import Derived.Test.YtlkigihghpcglaaParseD
import Derived.Test.YtlkigihghpcglaaReadW
import Derived.Test.YtlkigihghpcglaaDiv
import Derived.Deep.RegionHeld3
namespace Go.Proofs.Ytlkigihghpcglaa
open Go.RowKit
set_option linter.unusedVariables false
theorem sign_rune {s : ByteArray} {j : Nat} (hj : j < s.size) (hn : ¬ (48 ≤ s[j].toNat ∧ s[j].toNat ≤ 57)) : (Utf8.decode s j).1 < 48 ∨ 57 < (Utf8.decode s j).1 := by
  by_cases h : s[j].toNat < 128
  · rw [decode_ascii s j hj h]; dsimp only; omega
  · have := (decode_high s j hj (by omega)).1; omega
/-- The answer of 'Parse'. -/
def RetTok (c i a t E : Nat) (w : World) (e : Ending) (w' : World) : Prop := e = .returned (.tuple #[.agg #[.int .i64 (c : Int), .int .i64 (i : Int), .int .i64 (a : Int), .int .i64 (t : Int)], .int .i64 (E : Int)]) ∧ Below w.heap.size w w'
theorem big_y {y0 y1 y2 D : Nat} (k0 : y0 < 4294967296) (k1 : y1 < 4294967296) (h : val3 y0 y1 y2 = D) (hb : 73786976294838206464 ≤ D) : 4 ≤ y2 := by unfold val3 at h; omega
theorem small_y {y0 y1 y2 D : Nat} (h : val3 y0 y1 y2 = D) (hb : D < 73786976294838206464) : y2 < 4 := by unfold val3 at h; omega
theorem over_div {x r D : Nat} (h : x * 97 + r = D) (hr : r < 97) : x = D / 97 ∧ D % 97 = r := by omega
theorem lt_of20 {l : List Nat} (hl : ∀ d ∈ l, d ≤ 9) (h20 : l.length = 20) : val10 l < 79228162514264337593543950336 := by
  have h := val10_lt hl
  rw [h20] at h
  have e : (10 : Nat) ^ 20 = 100000000000000000000 := by decide
  rw [e] at h
  omega
end Go.Proofs.Ytlkigihghpcglaa
