/- The walk of the law PartSplits. -/
import Derived.Test.YtadaanphoehlmaaCents
namespace Go.Proofs.Ytadaanphoehlmaa
open Go.RowKit
set_option maxHeartbeats 400000 in
theorem walk_partSplits (w : World) (a0 : Int) (w0 : (Lit.int .i64 a0).wf = true) (a1 : Int) (w1 : (Lit.int .i64 a1).wf = true) :
    Calls Try.prog 4 #[.int .i64 a0, .int .i64 a1] w fun e w' => e = .returned (.bool true) ∧ Below w.heap.size w w' := by
  obtain ⟨a, ha, ha0, ha1⟩ := pk_int a0 1000000000001 (by omega)
  obtain ⟨b, hb, hb0, hb1⟩ := pk_int a1 10001 (by omega)
  have h5 : 0 ≤ a * b := Int.mul_nonneg ha0 hb0
  have h6 : a * b ≤ 1000000000000 * 10000 := Int.mul_le_mul (by omega) (by omega) hb0 (by omega)
  have h7 : a * (10000 - b) = a * 10000 - a * b := by rw [Int.mul_sub]
  have h8 : 0 ≤ a * (10000 - b) := Int.mul_nonneg ha0 (by omega)
  have h9 : a * (10000 - b) ≤ 1000000000000 * 10000 := Int.mul_le_mul (by omega) (by omega) (by omega) (by omega)
  have H7 := Lib.hid h7
  clear h7
  go_enter Try.func4, Try.ntmps4
  go_wp2_with fail
  refine (picked_is _ ha w0 (by omega) (by omega)).mono ?_
  rintro e w' ⟨rfl, rfl⟩
  go_wp2_with fail
  refine (picked_is _ hb w1 (by omega) (by omega)).mono ?_
  rintro e w' ⟨rfl, rfl⟩
  go_wp2_with fail
  refine (part_ok a b _ ha0 (by omega) hb0 (by omega)).mono ?_
  rintro e w' ⟨rfl, rfl⟩
  go_wp2_with fail
  refine (part_ok a (10000 - b) _ ha0 (by omega) (by omega) (by omega)).mono ?_
  rintro e w' ⟨rfl, rfl⟩
  generalize a * (10000 - b) = t at *
  by_cases hm : a * b % 10000 = 0
  · have hm' : (a * b % 10000 == 0) = true := by simpa using hm
    have hx : a * b / 10000 + t / 10000 = a := by have := H7.out; omega
    have HX := Lib.hid hx
    clear hx hm
    go_wp2
    go_ret
    exact ⟨ret_true (by rw [HX.out]; simp), Below.refl _ _⟩
  · have hm' : (a * b % 10000 == 0) = false := by simpa using hm
    have hx : a * b / 10000 + t / 10000 = a - 1 := by have := H7.out; omega
    have HX := Lib.hid hx
    clear hx hm
    go_wp2
    go_ret
    exact ⟨ret_true (by rw [HX.out]; simp), Below.refl _ _⟩
end Go.Proofs.Ytadaanphoehlmaa
