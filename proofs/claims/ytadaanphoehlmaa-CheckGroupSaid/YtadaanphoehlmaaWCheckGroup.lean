/- The walk of the law CheckGroup. -/
import Derived.Test.YtadaanphoehlmaaPent
namespace Go.Proofs.Ytadaanphoehlmaa
open Go.RowKit
set_option maxHeartbeats 400000 in
theorem walk_checkGroup (w : World) (a0 : Int) (w0 : (Lit.int .i64 a0).wf = true) (a1 : Int) (w1 : (Lit.int .i64 a1).wf = true) (a2 : Int) (w2 : (Lit.int .i64 a2).wf = true) :
    Calls Try.prog 10 #[.int .i64 a0, .int .i64 a1, .int .i64 a2] w fun e w' => e = .returned (.bool true) ∧ Below w.heap.size w w' := by
  obtain ⟨a, ha, ha9⟩ := pk_nat a0 10 (by omega)
  obtain ⟨b, hb, hb9⟩ := pk_nat a1 10 (by omega)
  obtain ⟨c, hc, hc9⟩ := pk_nat a2 10 (by omega)
  have h1 := mulD_le a b (by omega)
  have h2 := mulD_le b c (by omega)
  have h3 := invD_le a (by omega)
  have H1 := Lib.hid (mulD_assoc a ha9 b hb9 c hc9)
  have H2 := Lib.hid (mulD_inv a ha9)
  go_enter Try.func10, Try.ntmps10
  go_wp2_with fail
  refine (picked_is _ ha w0 (by omega) (by omega)).mono ?_
  rintro e w' ⟨rfl, rfl⟩
  go_wp2_with fail
  refine (picked_is _ hb w1 (by omega) (by omega)).mono ?_
  rintro e w' ⟨rfl, rfl⟩
  go_wp2_with fail
  refine (picked_is _ hc w2 (by omega) (by omega)).mono ?_
  rintro e w' ⟨rfl, rfl⟩
  go_wp2_with fail
  refine (mul_ok a b _ (by omega) (by omega)).mono ?_
  rintro e w' ⟨rfl, rfl⟩
  go_wp2_with fail
  refine (mul_ok b c _ (by omega) (by omega)).mono ?_
  rintro e w' ⟨rfl, rfl⟩
  go_wp2_with fail
  refine (mul_ok (mulD a b) c _ (by omega) (by omega)).mono ?_
  rintro e w' ⟨rfl, rfl⟩
  go_wp2_with fail
  refine (mul_ok a (mulD b c) _ (by omega) (by omega)).mono ?_
  rintro e w' ⟨rfl, rfl⟩
  go_wp2_with fail
  refine (inv_ok a _ (by omega)).mono ?_
  rintro e w' ⟨rfl, rfl⟩
  go_wp2_with fail
  refine (mul_ok a (invD a) _ (by omega) (by omega)).mono ?_
  rintro e w' ⟨rfl, rfl⟩
  go_wp2_with fail
  refine (mul_ok (invD a) a _ (by omega) (by omega)).mono ?_
  rintro e w' ⟨rfl, rfl⟩
  go_wp2_with fail
  refine (mul_ok a 0 _ (by omega) (by omega)).mono ?_
  rintro e w' ⟨rfl, rfl⟩
  rw [H1.out, H2.out.1, H2.out.2.1, H2.out.2.2.1]
  go_wp2
  go_ret
  exact ⟨ret_true (by simp), Below.refl _ _⟩
end Go.Proofs.Ytadaanphoehlmaa
