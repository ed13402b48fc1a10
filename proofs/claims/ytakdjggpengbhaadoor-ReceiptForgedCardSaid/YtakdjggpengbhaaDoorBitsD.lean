/- Fields of wide numbers: plain. -/
import Derived.Test.YtakdjggpengbhaaDoorWords
import Derived.Laws.BitsAllLaws
namespace Go.Proofs.YtakdjggpengbhaaDoor
/-- A field. -/
def bitsN (N lo m : Nat) : Nat := N / 2 ^ lo % 2 ^ m
theorem bitsN_lt (N lo m : Nat) : bitsN N lo m < 2 ^ m := Nat.mod_lt _ (Nat.two_pow_pos m)
theorem testBit_bitsN (N lo m i : Nat) : (bitsN N lo m).testBit i = (decide (i < m) && N.testBit (lo + i)) := by
  unfold bitsN
  rw [Nat.testBit_mod_two_pow, Nat.testBit_div_two_pow, Nat.add_comm]
/-- One bit set to what it shall be. -/
def setB (x t : Nat) (b : Bool) : Nat := if b then (x &&& (4294967295 - 2 ^ t)) ||| 2 ^ t else x &&& (4294967295 - 2 ^ t)
theorem testBit_clr {x t : Nat} (hx : x < 4294967296) (ht : t < 32) (i : Nat) : (x &&& (4294967295 - 2 ^ t)).testBit i = (x.testBit i && !decide (t = i)) := by
  have h32 : (2 : Nat) ^ t < 2 ^ 32 := Nat.pow_lt_pow_right (by omega) ht
  rw [Nat.testBit_and, show 4294967295 - 2 ^ t = 2 ^ 32 - (2 ^ t + 1) by omega, Nat.testBit_two_pow_sub_succ h32, Nat.testBit_two_pow]
  by_cases h : i < 32
  · simp [h]
  · rw [Nat.testBit_lt_two_pow (show x < 2 ^ i from Nat.lt_of_lt_of_le (show x < 2 ^ 32 by omega) (Nat.pow_le_pow_right (by omega) (by omega)))]; simp
theorem testBit_setB {x t : Nat} (hx : x < 4294967296) (ht : t < 32) (b : Bool) (i : Nat) : (setB x t b).testBit i = if t = i then b else x.testBit i := by
  unfold setB
  cases b
  · simp only [Bool.false_eq_true, if_false]
    rw [testBit_clr hx ht]
    by_cases h : t = i <;> simp [h]
  · simp only [if_true]
    rw [Nat.testBit_or, testBit_clr hx ht, Nat.testBit_two_pow]
    by_cases h : t = i <;> simp [h]
theorem setB_lt {x t : Nat} (hx : x < 4294967296) (ht : t < 32) (b : Bool) : setB x t b < 4294967296 := by
  have h32 : (2 : Nat) ^ t < 2 ^ 32 := Nat.pow_lt_pow_right (by omega) ht
  have h1 : x &&& (4294967295 - 2 ^ t) < 2 ^ 32 := Nat.lt_of_le_of_lt Nat.and_le_left (by omega)
  unfold setB
  split
  · exact Nat.or_lt_two_pow h1 h32
  · exact h1
/-- The bits of a wide number, word by word. -/
theorem testBit_val3 {x0 x1 x2 : Nat} (h0 : x0 < 4294967296) (h1 : x1 < 4294967296) (i : Nat) : (val3 x0 x1 x2).testBit i = if i < 32 then x0.testBit i else if i < 64 then x1.testBit (i - 32) else x2.testBit (i - 64) := by
  have e : val3 x0 x1 x2 = 2 ^ 32 * (2 ^ 32 * x2 + x1) + x0 := by unfold val3; omega
  rw [e, Nat.testBit_two_pow_mul_add _ (by omega : x0 < 2 ^ 32)]
  split
  · rfl
  · rw [Nat.testBit_two_pow_mul_add _ (by omega : x1 < 2 ^ 32)]
    by_cases h : i < 64
    · rw [if_pos h, if_pos (by omega)]
    · rw [if_neg h, if_neg (by omega), show i - 32 - 32 = i - 64 by omega]
/-- A number whose field is another one. -/
def putN (N lo m v : Nat) : Nat := N % 2 ^ lo + 2 ^ lo * (v + 2 ^ m * (N / 2 ^ (lo + m)))
theorem testBit_putN {N lo m v : Nat} (hv : v < 2 ^ m) (i : Nat) : (putN N lo m v).testBit i = if i < lo then N.testBit i else if i < lo + m then v.testBit (i - lo) else N.testBit i := by
  unfold putN
  rw [Nat.add_comm, Nat.testBit_two_pow_mul_add _ (Nat.mod_lt _ (Nat.two_pow_pos lo)), Nat.testBit_mod_two_pow]
  split
  · rename_i h; simp [h]
  · rename_i h
    rw [Nat.add_comm v, Nat.testBit_two_pow_mul_add _ hv]
    by_cases h2 : i < lo + m
    · rw [if_pos h2, if_pos (by omega)]
    · rw [if_neg h2, if_neg (by omega), Nat.testBit_div_two_pow]; congr 1; omega
theorem putN_zero (N lo : Nat) : putN N lo 0 0 = N := by
  unfold putN
  have := Nat.mod_add_div N (2 ^ lo)
  simpa using this
theorem bits_put {N lo m v : Nat} (hv : v < 2 ^ m) : bitsN (putN N lo m v) lo m = v := by
  refine Nat.eq_of_testBit_eq fun i => ?_
  rw [testBit_bitsN, testBit_putN hv]
  by_cases h : i < m
  · rw [if_neg (by omega), if_pos (by omega), show lo + i - lo = i by omega]; simp [h]
  · rw [decide_eq_false h, Nat.testBit_lt_two_pow (show v < 2 ^ i from Nat.lt_of_lt_of_le hv (Nat.pow_le_pow_right (by omega) (by omega)))]; rfl
theorem put_back {N lo m v : Nat} (hv : v < 2 ^ m) : putN (putN N lo m v) lo m (bitsN N lo m) = N := by
  refine Nat.eq_of_testBit_eq fun i => ?_
  rw [testBit_putN (bitsN_lt _ _ _), testBit_bitsN, testBit_putN hv]
  by_cases h : i < lo
  · rw [if_pos h, if_pos h]
  · rw [if_neg h]
    by_cases h2 : i < lo + m
    · rw [if_pos h2, show lo + (i - lo) = i by omega, decide_eq_true (by omega)]; rfl
    · rw [if_neg h2, if_neg h, if_neg h2]
/-- Behind one more bit. -/
theorem putN_step {N lo i v : Nat} (j : Nat) : (putN N lo (i + 1) (v % 2 ^ (i + 1))).testBit j = if j = lo + i then v.testBit i else (putN N lo i (v % 2 ^ i)).testBit j := by
  rw [testBit_putN (Nat.mod_lt _ (Nat.two_pow_pos _)), testBit_putN (Nat.mod_lt _ (Nat.two_pow_pos _)), Nat.testBit_mod_two_pow, Nat.testBit_mod_two_pow]
  by_cases h : j = lo + i
  · subst h
    rw [if_pos rfl, if_neg (by omega), if_pos (by omega), show lo + i - lo = i by omega]; simp
  · rw [if_neg h]
    by_cases h1 : j < lo
    · rw [if_pos h1, if_pos h1]
    · rw [if_neg h1, if_neg h1]
      by_cases h2 : j < lo + i
      · rw [if_pos (by omega), if_pos h2, decide_eq_true (by omega), decide_eq_true (by omega)]
      · rw [if_neg (by omega), if_neg h2]
/-- One word changed: the number as it is behind one more bit. -/
theorem put_word {N lo i v x0 x1 x2 y0 y1 y2 : Nat} (a0 : x0 < 4294967296) (a1 : x1 < 4294967296) (b0 : y0 < 4294967296) (b1 : y1 < 4294967296) (hx : val3 x0 x1 x2 = putN N lo i (v % 2 ^ i))
    (hy : ∀ j, (if j < 32 then y0.testBit j else if j < 64 then y1.testBit (j - 32) else y2.testBit (j - 64)) = if j = lo + i then v.testBit i else if j < 32 then x0.testBit j else if j < 64 then x1.testBit (j - 32) else x2.testBit (j - 64)) :
    val3 y0 y1 y2 = putN N lo (i + 1) (v % 2 ^ (i + 1)) := by
  refine Nat.eq_of_testBit_eq fun j => ?_
  rw [testBit_val3 b0 b1, putN_step, ← hx, testBit_val3 a0 a1]
  exact hy j
theorem put_word0 {N lo i v x0 x1 x2 t : Nat} (a0 : x0 < 4294967296) (a1 : x1 < 4294967296) (hx : val3 x0 x1 x2 = putN N lo i (v % 2 ^ i)) (ht : lo + i = t) (h : t < 32) : val3 (setB x0 t (v.testBit i)) x1 x2 = putN N lo (i + 1) (v % 2 ^ (i + 1)) := by
  refine put_word a0 a1 (setB_lt a0 h _) a1 hx fun j => ?_
  rw [testBit_setB a0 h, ht]
  by_cases e : j = t
  · subst e; rw [if_pos h, if_pos rfl, if_pos rfl]
  · rw [if_neg e, if_neg (show ¬ t = j from fun h => e h.symm)]
theorem put_word1 {N lo i v x0 x1 x2 t : Nat} (a0 : x0 < 4294967296) (a1 : x1 < 4294967296) (hx : val3 x0 x1 x2 = putN N lo i (v % 2 ^ i)) (ht : lo + i = 32 + t) (h : t < 32) : val3 x0 (setB x1 t (v.testBit i)) x2 = putN N lo (i + 1) (v % 2 ^ (i + 1)) := by
  refine put_word a0 a1 a0 (setB_lt a1 h _) hx fun j => ?_
  rw [testBit_setB a1 h, ht]
  by_cases e : j = 32 + t
  · subst e
    rw [if_neg (by omega), if_pos (by omega), if_pos (by omega), if_pos rfl]
  · rw [if_neg e]
    by_cases h1 : j < 32
    · rw [if_pos h1, if_pos h1]
    · rw [if_neg h1, if_neg h1]
      by_cases h2 : j < 64
      · rw [if_pos h2, if_pos h2, if_neg (by omega)]
      · rw [if_neg h2, if_neg h2]
theorem put_word2 {N lo i v x0 x1 x2 t : Nat} (a0 : x0 < 4294967296) (a1 : x1 < 4294967296) (a2 : x2 < 4294967296) (hx : val3 x0 x1 x2 = putN N lo i (v % 2 ^ i)) (ht : lo + i = 64 + t) (h : t < 32) : val3 x0 x1 (setB x2 t (v.testBit i)) = putN N lo (i + 1) (v % 2 ^ (i + 1)) := by
  refine put_word a0 a1 a0 a1 hx fun j => ?_
  rw [testBit_setB a2 h, ht]
  by_cases e : j = 64 + t
  · subst e
    rw [if_neg (by omega), if_neg (by omega), if_pos (by omega), if_pos rfl]
  · rw [if_neg e]
    by_cases h1 : j < 32
    · rw [if_pos h1, if_pos h1]
    · rw [if_neg h1, if_neg h1]
      by_cases h2 : j < 64
      · rw [if_pos h2, if_pos h2]
      · rw [if_neg h2, if_neg h2, if_neg (by omega)]
/-- A field read from above, bit by bit. -/
theorem bits_step (N lo i m : Nat) (hi : i < m) : bitsN N (lo + i) (m - i) = 2 * bitsN N (lo + (i + 1)) (m - (i + 1)) + (N.testBit (lo + i)).toNat := by
  refine Nat.eq_of_testBit_eq fun j => ?_
  rw [testBit_bitsN]
  have e : 2 * bitsN N (lo + (i + 1)) (m - (i + 1)) + (N.testBit (lo + i)).toNat = 2 ^ 1 * bitsN N (lo + (i + 1)) (m - (i + 1)) + (N.testBit (lo + i)).toNat := rfl
  rw [e, Nat.testBit_two_pow_mul_add _ (by have := Bool.toNat_le (N.testBit (lo + i)); omega)]
  by_cases h : j < 1
  · obtain rfl : j = 0 := by omega
    rw [if_pos h, Nat.add_zero, decide_eq_true (by omega)]
    cases N.testBit (lo + i) <;> rfl
  · rw [if_neg h, testBit_bitsN]
    have e1 : lo + (i + 1) + (j - 1) = lo + i + j := by omega
    rw [e1]
    congr 1
    exact decide_eq_decide.2 (by omega)
/-- The bit of a word is the bit of the number. -/
theorem word_bit {x t : Nat} : x / 2 ^ t % 2 = (x.testBit t).toNat := by
  rw [Nat.testBit_eq_decide_div_mod_eq]
  rcases Nat.mod_two_eq_zero_or_one (x / 2 ^ t) with h | h <;> rw [h] <;> rfl
end Go.Proofs.YtakdjggpengbhaaDoor
