/- meter: Words, Read. -/
import Derived.Test.YtakdjggpengbhaaDoorMeter
import Derived.Deep.RegionHeld3
import Derived.BigRegion
namespace Go.Proofs.YtakdjggpengbhaaDoor
open Go.RowKit
/-- The words of a meter. -/
def mws (me rev cr H b bad lock : Nat) : List Nat := [cr, lock * 16777216 + bad * 65536 + rev * 256 + me, H, b % 4294967296, b / 4294967296]
theorem blk_drew {w : World} {g : Nat} {t : TypeId} {cs : Array Value} (h : Blk w g t cs) : Blk w.drew g t cs := h
theorem or_add (a i c : Nat) (h : c < 2 ^ i) : (a * 2 ^ i ||| c) = a * 2 ^ i + c := by
  have := Nat.shiftLeft_add_eq_or_of_lt h a
  rw [Nat.shiftLeft_eq] at this
  exact this.symm
theorem flag_e1 {lock bad : Nat} (h1 : lock ≤ 30) (h2 : bad < 5) : bits .or .u32 ((lock : Int) * 16777216) ((bad : Int) * 65536) = ((lock * 16777216 + bad * 65536 : Nat) : Int) := by
  have h := u32_or_nat (lock * 16777216) (bad * 65536) (by omega) (by omega)
  have k := or_add lock 24 (bad * 65536) (by omega)
  rw [show (2 : Nat) ^ 24 = 16777216 by decide] at k
  rw [k] at h
  rw [← h, Int.natCast_mul, Int.natCast_mul]; rfl
theorem flag_e2 {lock bad rev : Nat} (h1 : lock ≤ 30) (h2 : bad < 5) (h3 : rev ≤ 15) : bits .or .u32 ((lock * 16777216 + bad * 65536 : Nat) : Int) ((rev : Int) * 256) = ((lock * 16777216 + bad * 65536 + rev * 256 : Nat) : Int) := by
  have h := u32_or_nat (lock * 16777216 + bad * 65536) (rev * 256) (by omega) (by omega)
  have k := or_add (lock * 256 + bad) 16 (rev * 256) (by omega)
  rw [show (2 : Nat) ^ 16 = 65536 by decide, show (lock * 256 + bad) * 65536 = lock * 16777216 + bad * 65536 by omega] at k
  rw [k] at h
  rw [← h, Int.natCast_mul]; rfl
theorem flag_e3 {lock bad rev me : Nat} (h1 : lock ≤ 30) (h2 : bad < 5) (h3 : rev ≤ 15) (h4 : me < 50) : bits .or .u32 ((lock * 16777216 + bad * 65536 + rev * 256 : Nat) : Int) (me : Int) = ((lock * 16777216 + bad * 65536 + rev * 256 + me : Nat) : Int) := by
  have h := u32_or_nat (lock * 16777216 + bad * 65536 + rev * 256) me (by omega) (by omega)
  have k := or_add (lock * 65536 + bad * 256 + rev) 8 me (by omega)
  rw [show (2 : Nat) ^ 8 = 256 by decide, show (lock * 65536 + bad * 256 + rev) * 256 = lock * 16777216 + bad * 65536 + rev * 256 by omega] at k
  rw [k] at h
  exact h
theorem wrap_lo {b lo : Nat} (h : b % 4294967296 = lo) : IntKind.u32.wrap (b : Int) = (lo : Int) := by rw [IntKind.wrap_u32]; omega
theorem mmay_bd {me rev cr h : Int} {b : Nat} {bad lock : Int} (hb : b < 2 ^ 64) (hm : mmay me rev cr h b bad lock = true) : may1 me rev cr ∧ may2 bad lock ∧ ∃ H : Nat, h = H ∧ WMay H b := by
  unfold mmay at hm
  split at hm
  · split at hm
    · exact ⟨by assumption, by assumption, (wmayB_iff hb).1 hm⟩
    · cases hm
  · cases hm
set_option maxRecDepth 100000 in
set_option maxHeartbeats 2000000 in
theorem mwords_ok (me rev cr H b bad lock : Nat) (w : World) (hb : b < 2 ^ 64) (hm : mmay me rev cr H b bad lock = true) :
    Calls Tryd.prog 27 #[.agg #[.int .i64 me, .int .i64 rev, .int .i64 cr, .int .i64 H, .int .u64 b, .int .i64 bad, .int .i64 lock]] w (RetWsOk (mws me rev cr H b bad lock) w) := by
  obtain ⟨⟨a1, a2, a3, a4, a5, a6⟩, ⟨b1, b2, b3, b4, b5⟩, H', hH', hW⟩ := mmay_bd hb hm
  obtain rfl : H = H' := by omega
  have hH := hW.le
  have hM := fun W => mmay_is (Lib.hid hm) W (WalkArith.wf_i64 (by omega)) hb (WalkArith.wf_i64 (by omega)) (WalkArith.wf_i64 (by omega))
  have e1 := flag_e1 (lock := lock) (bad := bad) (by omega) (by omega)
  have e2 := flag_e2 (lock := lock) (bad := bad) (rev := rev) (by omega) (by omega) (by omega)
  have e3 := flag_e3 (lock := lock) (bad := bad) (rev := rev) (me := me) (by omega) (by omega) (by omega) (by omega)
  have hF32 : lock * 16777216 + bad * 65536 + rev * 256 + me < 4294967296 := by omega
  obtain ⟨F, hF⟩ : ∃ F, lock * 16777216 + bad * 65536 + rev * 256 + me = F := ⟨_, rfl⟩
  have HF := Lib.hid hF
  rw [hF] at e3 hF32
  clear hF
  obtain ⟨X2, hX2⟩ : ∃ X2, lock * 16777216 + bad * 65536 + rev * 256 = X2 := ⟨_, rfl⟩
  rw [hX2] at e2 e3
  obtain ⟨X1, hX1⟩ : ∃ X1, lock * 16777216 + bad * 65536 = X1 := ⟨_, rfl⟩
  rw [hX1] at e1 e2
  clear hX1 hX2
  obtain ⟨lo, hlo⟩ : ∃ lo : Nat, b % 4294967296 = lo := ⟨_, rfl⟩
  obtain ⟨hi, hhi⟩ : ∃ hi : Nat, b / 4294967296 = hi := ⟨_, rfl⟩
  have e4 := wrap_lo hlo
  have e5 : (b : Int) / 4294967296 = (hi : Int) := by omega
  have hlo32 : lo < 4294967296 := by omega
  have hhi32 : hi < 4294967296 := by omega
  have HLO := Lib.hid hlo
  have HHI := Lib.hid hhi
  clear hlo hhi hm hH'
  go_enter Tryd.func27, Tryd.ntmps27
  go_wp2_with fail
  refine (hM _).mono ?_
  rintro e wa ⟨rfl, hba⟩
  obtain ⟨c, f⟩ := bcell hba
  have bA := (below_a1 w _).step hba
  clear hM
  go_wp2
  go_ret2
  have hx : mws me rev cr H b bad lock = [cr, F, H, lo, hi] := by unfold mws; rw [HF.out, HLO.out, HHI.out]
  rw [hx]
  refine ⟨_, rfl, ?_, bA.alloc (by have := bA.size; omega) _⟩
  exact isws_blk (xs := [cr, F, H, lo, hi]) (by unfold maxLen; simp) (by simp; omega) (Blk.new _ _ _)
set_option maxHeartbeats 1000000 in
theorem mwords_bad (me rev cr h : Int) (b : Nat) (bad lock : Int) (w : World) (w4 : (Lit.int .i64 h).wf = true) (hb : b < 2 ^ 64) (w5 : (Lit.int .i64 bad).wf = true) (w6 : (Lit.int .i64 lock).wf = true) (hm : mmay me rev cr h b bad lock = false) :
    Calls Tryd.prog 27 #[.agg #[.int .i64 me, .int .i64 rev, .int .i64 cr, .int .i64 h, .int .u64 b, .int .i64 bad, .int .i64 lock]] w fun e w' => e = .returned (.tuple #[.slice none 0 0, .int .i64 5]) ∧ Below w.heap.size w w' := by
  have hM := fun W => mmay_is (Lib.hid hm) W w4 hb w5 w6
  clear hm
  go_enter Tryd.func27, Tryd.ntmps27
  go_wp2_with fail
  refine (hM _).mono ?_
  rintro e wa ⟨rfl, hba⟩
  go_wp2
  go_ret2
  exact ⟨rfl, (below_a1 w _).step hba⟩
end Go.Proofs.YtakdjggpengbhaaDoor
