/- token: Words: a token's wide number. -/
import Derived.Test.YtakdjggpengbhaaDoorTok
import Derived.Test.YtakdjggpengbhaaDoorBits
import Derived.Test.YtakdjggpengbhaaDoorWords
namespace Go.Proofs.YtakdjggpengbhaaDoor
open Go.RowKit
set_option linter.unusedVariables false
/-- The number that a token is, before it is sealed. -/
def tokN (cls id am tag : Nat) : Nat := tag + am * 65536 + id * 137438953472 + cls * 144115188075855872
theorem tokN_lt {cls id am tag : Nat} (h : TkOk cls id am tag) : tokN cls id am tag < 576460752303423488 := by
  have := h.am
  obtain ⟨h1, h2, h3, h4, h5⟩ := h
  unfold tokN; omega
theorem tokN_inj {cls id am tag cls' id' am' tag' : Nat} (h : TkOk cls id am tag) (k : TkOk cls' id' am' tag') (e : tokN cls id am tag = tokN cls' id' am' tag') : cls = cls' ∧ id = id' ∧ am = am' ∧ tag = tag' := by
  have h1 := h.am
  have h2 := k.am
  have h3 := h.h3
  have h4 := k.h3
  have h5 := h.h5
  have h6 := k.h5
  unfold tokN at e
  omega
theorem put_top {N lo m v : Nat} (h : N < 2 ^ lo) : putN N lo m v = N + 2 ^ lo * v := by
  unfold putN
  have h2 : N / 2 ^ (lo + m) = 0 := Nat.div_eq_of_lt (Nat.lt_of_lt_of_le h (Nat.pow_le_pow_right (by omega) (by omega)))
  rw [h2, Nat.mod_eq_of_lt h]; simp
theorem tokN_fields {cls id am tag : Nat} (h : TkOk cls id am tag) : bitsN (tokN cls id am tag) 0 16 = tag ∧ bitsN (tokN cls id am tag) 16 21 = am ∧ bitsN (tokN cls id am tag) 37 20 = id ∧ bitsN (tokN cls id am tag) 57 2 = cls ∧ bitsN (tokN cls id am tag) 59 32 = 0 := by
  have h1 := h.am
  obtain ⟨h2, h3, h4, h5, h6⟩ := h
  unfold bitsN tokN
  refine ⟨?_, ?_, ?_, ?_, ?_⟩ <;> omega
/-- A number is what its fields make of it. -/
theorem fields_tokN (q : Nat) (h : bitsN q 59 32 = 0) (hq : q < 2 ^ 91) : tokN (bitsN q 57 2) (bitsN q 37 20) (bitsN q 16 21) (bitsN q 0 16) = q := by
  unfold bitsN at *
  unfold tokN
  omega
end Go.Proofs.YtakdjggpengbhaaDoor
