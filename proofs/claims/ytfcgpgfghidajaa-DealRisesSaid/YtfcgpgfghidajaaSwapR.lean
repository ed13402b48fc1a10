/- slices.swapRangeCmpFunc at a slice of ints. -/
import Derived.Test.YtfcgpgfghidajaaRotD
import Derived.Shelf.SlSortCmp.Kit1
import Derived.Sort.WalkA
import Derived.Sort.WalkB2
import Derived.Sort.WalkB12
namespace Go.Proofs.Ytfcgpgfghidajaa
open Go.RowKit Go.Sort
set_option linter.unusedVariables false
/-- A number as the program keeps it; f: what keeps it within the places. -/
def encN (f : Nat → Nat) (x : Nat) : Value := .int .i64 ((f x : Nat) : Int)
set_option maxRecDepth 100000 in
set_option maxHeartbeats 4000000 in
theorem swapR_ok (f : Nat → Nat) (g : Nat) (cb : Array Value) (blk off cap a b n : Nat) (d0 d : Array Nat) (w0 w : World) (R : Row1 (encN f) w0 blk off d0) (hs : d0.size = d.size) (S : SW (encN f) w0 blk off d w) (hab : a + n ≤ b) (hb : b + n ≤ d.size) (hsz : d.size < 4611686018427387904) :
    Calls Try.prog 17 #[.slice (some ⟨blk, off, none⟩) d.size cap, .int .i64 (a : Int), .int .i64 (b : Int), .int .i64 (n : Int), .func (.func g) #[] cb] w fun e w' => e = .returned (.tuple #[]) ∧ ∃ d', d'.size = d.size ∧ Swd a b n d d' ∧ PermIn a (b + n) d d' ∧ SW (encN f) w0 blk off d' w' := by
  have S0 := Lib.hid S
  clear S
  go_enter Try.func17, Try.ntmps17
  go_wp2
  go_loopw [10] (fun v wr => ∃ (i : Nat) (dk : Array Nat), v = .int .i64 (i : Int) ∧ i ≤ n ∧ dk.size = d.size ∧ Hid (SW (encN f) w0 blk off dk wr) ∧ Swd a b i d dk ∧ PermIn a (b + n) d dk) (fun v _ => n - (intOf v).toNat)
  case atStart => exact ⟨0, d, rfl, by omega, rfl, S0, swd_zero a b d, permIn_refl _ _ _⟩
  case round =>
    clear S0
    obtain ⟨i, dk, rfl, hi, hsk, S1, hsw, hpm⟩ := hrel
    have HP := Lib.hid (And.intro hsw hpm)
    clear hsw hpm
    by_cases hlt : i < n
    · have hltz : (i : Int) < (n : Int) := by omega
      obtain ⟨p, hp⟩ : ∃ p, a + i = p := ⟨_, rfl⟩
      obtain ⟨q, hq⟩ : ∃ q, b + i = q := ⟨_, rfl⟩
      have zp : IntKind.i64.wrap ((a : Int) + (i : Int)) = (p : Int) := by rw [IntKind.wrap_i64]; omega
      have zq : IntKind.i64.wrap ((b : Int) + (i : Int)) = (q : Int) := by rw [IntKind.wrap_i64]; omega
      have pp : (p : Int) < (d.size : Int) := by omega
      have qq : (q : Int) < (d.size : Int) := by omega
      have c1 := S1.out.c1 R (by omega) p (by omega)
      have c2 := S1.out.c1 R (by omega) q (by omega)
      have f1 := S1.out.f1 R (by omega) p (by omega)
      have f2 := S1.out.f1 R (by omega) q (by omega)
      have S2 := S1.out.swapped R p q (by omega) (by omega)
      obtain ⟨x, hx⟩ : ∃ x, dk[p]! = x := ⟨_, rfl⟩
      obtain ⟨y, hy⟩ : ∃ y, dk[q]! = y := ⟨_, rfl⟩
      rw [hx] at c1 S2
      rw [hy] at c2 S2
      unfold encN at c1 c2 S2
      obtain ⟨u, c3⟩ := S1.out.c2 R (by omega) p q (by omega) (by omega) (.int .i64 ((f y : Nat) : Int))
      have HS := Lib.hid (And.intro S2 (And.intro hp hq))
      clear S2 hp hq hx hy
      go_wp2_with fail
      go_big_region
      go_wp2
      go_roundw
      case rel =>
        obtain ⟨S2, hp, hq⟩ := HS.out
        subst hp hq
        exact ⟨i + 1, swp dk (a + i) (b + i), by go_num, by omega, by rw [size_swp]; exact hsk, S2, HP.out.1.step hsk hab hlt hb, permIn_trans _ _ _ _ _ HP.out.2 (swp_permIn dk a (b + n) (a + i) (b + i) (by omega) (by omega) (by omega) (by omega) (by omega))⟩
      case measure => simp [intOf]; omega
    · have hltz : ¬ (i : Int) < (n : Int) := by omega
      obtain rfl : i = n := by omega
      go_wp2
      go_end0
      exact ⟨rfl, dk, hsk, HP.out.1, HP.out.2, S1.out⟩
end Go.Proofs.Ytfcgpgfghidajaa
