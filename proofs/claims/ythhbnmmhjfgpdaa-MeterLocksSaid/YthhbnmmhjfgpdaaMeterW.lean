/- meter: Words, Read. -/
import Derived.Test.YthhbnmmhjfgpdaaMeter
import Derived.Deep.RegionHeld3
import Derived.BigRegion
namespace Go.Proofs.Ythhbnmmhjfgpdaa
open Go.RowKit
/-- The words of a meter. -/
def mws (me rev cr H b bad lock : Nat) : List Nat := [cr, lock * 16777216 + bad * 65536 + rev * 256 + me, H, b % 4294967296, b / 4294967296]
theorem blk_drew {w : World} {g : Nat} {t : TypeId} {cs : Array Value} (h : Blk w g t cs) : Blk w.drew g t cs := h
theorem or_add (a i c : Nat) (h : c < 2 ^ i) : (a * 2 ^ i ||| c) = a * 2 ^ i + c := by
  have := Nat.shiftLeft_add_eq_or_of_lt h a
  rw [Nat.shiftLeft_eq] at this
  exact this.symm
theorem flag_e1 {lock bad : Nat} (h1 : lock ≤ 30) (h2 : bad < 5) : bits .or .u32 ((lock : Int) * 16777216) ((bad : Int) * 65536) = ((lock * 16777216 + bad * 65536 : Nat) : Int) := by
  have h := u32_or_nat (lock * 16777216) (bad * 65536) (by omega) (by omega)
  have k := or_add lock 24 (bad * 65536) (by omega)
  rw [show (2 : Nat) ^ 24 = 16777216 by decide] at k
  rw [k] at h
  rw [← h, Int.natCast_mul, Int.natCast_mul]; rfl
theorem flag_e2 {lock bad rev : Nat} (h1 : lock ≤ 30) (h2 : bad < 5) (h3 : rev ≤ 15) : bits .or .u32 ((lock * 16777216 + bad * 65536 : Nat) : Int) ((rev : Int) * 256) = ((lock * 16777216 + bad * 65536 + rev * 256 : Nat) : Int) := by
  have h := u32_or_nat (lock * 16777216 + bad * 65536) (rev * 256) (by omega) (by omega)
  have k := or_add (lock * 256 + bad) 16 (rev * 256) (by omega)
  rw [show (2 : Nat) ^ 16 = 65536 by decide, show (lock * 256 + bad) * 65536 = lock * 16777216 + bad * 65536 by omega] at k
  rw [k] at h
  rw [← h, Int.natCast_mul]; rfl
theorem flag_e3 {lock bad rev me : Nat} (h1 : lock ≤ 30) (h2 : bad < 5) (h3 : rev ≤ 15) (h4 : me < 50) : bits .or .u32 ((lock * 16777216 + bad * 65536 + rev * 256 : Nat) : Int) (me : Int) = ((lock * 16777216 + bad * 65536 + rev * 256 + me : Nat) : Int) := by
  have h := u32_or_nat (lock * 16777216 + bad * 65536 + rev * 256) me (by omega) (by omega)
  have k := or_add (lock * 65536 + bad * 256 + rev) 8 me (by omega)
  rw [show (2 : Nat) ^ 8 = 256 by decide, show (lock * 65536 + bad * 256 + rev) * 256 = lock * 16777216 + bad * 65536 + rev * 256 by omega] at k
  rw [k] at h
  exact h
theorem wrap_lo {b lo : Nat} (h : b % 4294967296 = lo) : IntKind.u32.wrap (b : Int) = (lo : Int) := by rw [IntKind.wrap_u32]; omega
theorem mmay_bd {me rev cr h : Int} {b : Nat} {bad lock : Int} (hb : b < 2 ^ 64) (hm : mmay me rev cr h b bad lock = true) : may1 me rev cr ∧ may2 bad lock ∧ ∃ H : Nat, h = H ∧ WMay H b := by
  unfold mmay at hm
  split at hm
  · split at hm
    · exact ⟨by assumption, by assumption, (wmayB_iff hb).1 hm⟩
    · cases hm
  · cases hm
end Go.Proofs.Ythhbnmmhjfgpdaa
