/- slices.stableCmpFunc's first pass: blocks of twenty, plain. -/
import Derived.Test.YtfcgpgfghidajaaStabD
import Derived.Test.YtfcgpgfghidajaaInsD
namespace Go.Proofs.Ytfcgpgfghidajaa
open Go.RowKit Go.Sort
set_option linter.unusedVariables false
/-- The first k blocks of bs are sorted; behind them nothing has been touched. -/
def Blks (key : Nat → Nat) (n bs k : Nat) (d : Array Nat) : Prop := (∀ j, j < k → Run key (j * bs) ((j + 1) * bs) d) ∧ ∀ i, k * bs ≤ i → i < n → d[i]! = i
theorem blks_run {key : Nat → Nat} {lo hi : Nat} {d d' : Array Nat} (hb : hi ≤ d.size) (h : ∀ i, lo ≤ i → i < hi → d[i]! = i) (hp : PermIn lo hi d d') (hs : Srt key lo hi d') : Run key lo hi d' :=
  ⟨hs, permIn_all d d' lo hi (fun v => lo ≤ v ∧ v < hi) hb hp (fun i h1 h2 => by rw [h i h1 h2]; omega)⟩
theorem Blks.step {key : Nat → Nat} {n bs k : Nat} {d d' : Array Nat} (h : Blks key n bs k d) (hn : (k + 1) * bs ≤ n) (hd : n = d.size) (hp : PermIn (k * bs) ((k + 1) * bs) d d') (hs : Srt key (k * bs) ((k + 1) * bs) d') : Blks key n bs (k + 1) d' := by
  refine ⟨fun j hj => ?_, fun i h1 h2 => ?_⟩
  · by_cases e : j < k
    · exact (h.1 j e).other hp (.inl (mul_le_of e))
    · obtain rfl : j = k := by omega
      exact blks_run (by omega) (fun i h1 h2 => h.2 i h1 (by omega)) hp hs
  · have := Nat.mul_le_mul_right bs (show k ≤ k + 1 by omega)
    rw [hp.2.1 i (by omega)]; exact h.2 i (by omega) h2
theorem Blks.last {key : Nat → Nat} {n bs k : Nat} {d d' : Array Nat} (h : Blks key n bs k d) (hk : k * bs ≤ n) (hn : n < (k + 1) * bs) (hd : n = d.size) (hp : PermIn (k * bs) n d d') (hs : Srt key (k * bs) n d') : Runs key n bs d' := by
  intro j
  by_cases e : j < k
  · have h1 := (h.1 j e).other hp (.inl (mul_le_of e))
    have h2 := mul_le_of (bs := bs) e
    rw [Nat.min_eq_left (by omega)]
    exact h1
  · by_cases e5 : j = k
    · subst e5
      rw [Nat.min_eq_right (by omega)]
      exact blks_run (by omega) (fun i h1 h2 => h.2 i h1 h2) hp hs
    · have := mul_le_of (bs := bs) (show k < j by omega)
      exact Run.none (by omega)
theorem Runs.all {key : Nat → Nat} {n bs : Nat} {d : Array Nat} (h : Runs key n bs d) (hn : n ≤ bs) : Srt key 0 n d := by
  have h0 := (h 0).srt
  rw [Nat.zero_mul, Nat.min_eq_right (by omega)] at h0
  exact h0
/-- What the insertion sort leaves of a stretch that rises. -/
theorem ins_id (key : Nat → Nat) (lt : Nat → Nat → Bool) (hlt : ∀ x y, y < x → lt x y = flt key x y) {a b : Nat} {d : Array Nat} (hab : a ≤ b) (hb : b ≤ d.size) (h : ∀ i, a ≤ i → i < b → d[i]! = i) : PermIn a b d (insertionSort lt d a b) ∧ Srt key a b (insertionSort lt d a b) :=
  ins_stable key lt hlt a b d hab hb (fun p q h1 h2 h3 => by rw [h p h1 (by omega), h q (by omega) h3]; exact h2)
end Go.Proofs.Ytfcgpgfghidajaa
