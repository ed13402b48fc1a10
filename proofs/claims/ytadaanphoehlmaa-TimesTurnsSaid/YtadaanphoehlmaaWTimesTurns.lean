/- The walk of the law TimesTurns. -/
import Derived.Test.YtadaanphoehlmaaWords
namespace Go.Proofs.Ytadaanphoehlmaa
open Go.RowKit
theorem wide_eq {n x0 x1 x2 c y0 y1 y2 d k : Nat} (h0 : x0 < 4294967296) (h1 : x1 < 4294967296) (h2 : x2 < 4294967296) (k0 : y0 < 4294967296) (k1 : y1 < 4294967296) (k2 : y2 < 4294967296)
    (h : val3 x0 x1 x2 + c * 79228162514264337593543950336 = n + d * 79228162514264337593543950336) (k : val3 y0 y1 y2 + k * 79228162514264337593543950336 = n) : x0 = y0 ∧ x1 = y1 ∧ x2 = y2 := by
  have l1 := val3_lt h0 h1 h2
  have l2 := val3_lt k0 k1 k2
  apply val3_inj h0 h1 h2 k0 k1 k2
  omega
theorem turns_eq {x0 x1 x2 a b p0 p1 p2 c q0 q1 q2 d r0 r1 r2 f s0 s1 s2 g : Nat} (h0 : r0 < 4294967296) (h1 : r1 < 4294967296) (h2 : r2 < 4294967296) (k0 : s0 < 4294967296) (k1 : s1 < 4294967296) (k2 : s2 < 4294967296)
    (ha : val3 p0 p1 p2 + c * 79228162514264337593543950336 = val3 x0 x1 x2 * a) (hb : val3 q0 q1 q2 + d * 79228162514264337593543950336 = val3 x0 x1 x2 * b)
    (hr : val3 r0 r1 r2 + f * 79228162514264337593543950336 = val3 p0 p1 p2 * b) (hs : val3 s0 s1 s2 + g * 79228162514264337593543950336 = val3 q0 q1 q2 * a) : r0 = s0 ∧ r1 = s1 ∧ r2 = s2 := by
  have l1 := val3_lt h0 h1 h2
  have l2 := val3_lt k0 k1 k2
  apply val3_inj h0 h1 h2 k0 k1 k2
  have e1 : val3 r0 r1 r2 = val3 p0 p1 p2 * b % 79228162514264337593543950336 := by rw [← hr, Nat.add_mul_mod_self_right, Nat.mod_eq_of_lt l1]
  have e2 : val3 s0 s1 s2 = val3 q0 q1 q2 * a % 79228162514264337593543950336 := by rw [← hs, Nat.add_mul_mod_self_right, Nat.mod_eq_of_lt l2]
  have e3 : val3 x0 x1 x2 * a * b % 79228162514264337593543950336 = val3 p0 p1 p2 * b % 79228162514264337593543950336 := by
    rw [← ha, Nat.add_mul, Nat.mul_right_comm c, Nat.add_mul_mod_self_right]
  have e4 : val3 x0 x1 x2 * b * a % 79228162514264337593543950336 = val3 q0 q1 q2 * a % 79228162514264337593543950336 := by
    rw [← hb, Nat.add_mul, Nat.mul_right_comm d, Nat.add_mul_mod_self_right]
  rw [e1, e2, ← e3, ← e4, Nat.mul_right_comm]
theorem one_eq {x0 x1 x2 y0 y1 y2 c : Nat} (h0 : x0 < 4294967296) (h1 : x1 < 4294967296) (h2 : x2 < 4294967296) (k0 : y0 < 4294967296) (k1 : y1 < 4294967296) (k2 : y2 < 4294967296)
    (h : val3 y0 y1 y2 + c * 79228162514264337593543950336 = val3 x0 x1 x2 * 1) : y0 = x0 ∧ y1 = x1 ∧ y2 = x2 ∧ c = 0 := by
  have l1 := val3_lt h0 h1 h2
  have hc : c = 0 := by omega
  subst hc
  obtain ⟨a, b, d⟩ := val3_inj k0 k1 k2 h0 h1 h2 (by omega)
  exact ⟨a, b, d, rfl⟩
set_option maxHeartbeats 800000 in
theorem walk_timesTurns (w : World) (a0 : Value) (w0 : Fit Try.prog w 37 a0) (a1 : Int) (w1 : (Lit.int .u32 a1).wf = true) (a2 : Int) (w2 : (Lit.int .u32 a2).wf = true) :
    Calls Try.prog 8 #[a0, .int .u32 a1, .int .u32 a2] w fun e w' => e = .returned (.bool true) ∧ Below w.heap.size w w' := by
  obtain ⟨x0, x1, x2, rfl, h0, h1, h2⟩ := wide_fit w0
  have ba := bounds_u32 w1
  have bb := bounds_u32 w2
  obtain ⟨a, rfl⟩ := Int.eq_ofNat_of_zero_le ba.1
  obtain ⟨b, rfl⟩ := Int.eq_ofNat_of_zero_le bb.1
  have ha : a < 4294967296 := by omega
  have hb : b < 4294967296 := by omega
  clear w0 w1 w2 ba bb
  go_enter Try.func8, Try.ntmps8
  go_wp2_with fail
  refine (times_is x0 x1 x2 a _ h0 h1 h2 ha).mono ?_
  rintro e wa ⟨p0, p1, p2, c, p0l, p1l, p2l, -, hp, rfl, hb1⟩
  have s1 : w.heap.size < wa.heap.size := by have := hb1.size; simp at this; omega
  obtain ⟨c1, f1⟩ := bcell hb1
  have b1 : Below w.heap.size w wa := (below_a1 _ _).step hb1
  clear hb1
  go_wp2_with fail
  refine (times_is p0 p1 p2 b _ p0l p1l p2l hb).mono ?_
  rintro e wb ⟨r0, r1, r2, f, r0l, r1l, r2l, -, hr, rfl, hb2⟩
  have s2 : wa.heap.size < wb.heap.size := by have := hb2.size; simp at this; omega
  obtain ⟨c2, f2⟩ := bcell hb2
  have b2 : Below w.heap.size w wb := b1.step ((below_a1 _ _).step hb2)
  clear hb2 b1
  go_wp2_with fail
  refine (times_is x0 x1 x2 b _ h0 h1 h2 hb).mono ?_
  rintro e wc ⟨q0, q1, q2, d, q0l, q1l, q2l, -, hq, rfl, hb3⟩
  have s3 : wb.heap.size ≤ wc.heap.size := by have := hb3.size; simp at this; omega
  obtain ⟨c3, f3⟩ := bcell hb3
  have t0 : w.heap.size < wb.heap.size := by omega
  have t1 : w.heap.size < wc.heap.size := by omega
  have t2 : wa.heap.size < wc.heap.size := by omega
  go_wp2_with fail
  refine (times_is q0 q1 q2 a _ q0l q1l q2l ha).mono ?_
  rintro e wd ⟨u0, u1, u2, g, u0l, u1l, u2l, -, hu, rfl, hb4⟩
  obtain ⟨rfl, rfl, rfl⟩ := turns_eq r0l r1l r2l u0l u1l u2l hp.out hq.out hr.out hu.out
  have s4 : wc.heap.size < wd.heap.size := by have := hb4.size; simp at this; omega
  obtain ⟨c4, f4⟩ := bcell hb4
  have t3 : w.heap.size < wd.heap.size := by omega
  have t4 : wa.heap.size < wd.heap.size := by omega
  go_wp2_with fail
  refine (times_is x0 x1 x2 1 _ h0 h1 h2 (by omega)).mono ?_
  rintro e we ⟨y0, y1, y2, h, y0l, y1l, y2l, -, hy, rfl, hb5⟩
  obtain ⟨rfl, rfl, rfl, rfl⟩ := one_eq h0 h1 h2 y0l y1l y2l hy.out
  have s5 : wc.heap.size < we.heap.size := by have := hb5.size; simp at this; omega
  obtain ⟨c5, f5⟩ := bcell hb5
  have t5 : w.heap.size < we.heap.size := by omega
  have t6 : wa.heap.size < we.heap.size := by omega
  have t7 : wd.heap.size ≤ we.heap.size := by have := hb5.size; simp at this; omega
  have heq := wide_eql
  go_wp2
  go_ret
  refine ⟨ret_true (by simp), ?_⟩
  have b3 : Below w.heap.size w wc := by
    refine Below.trans ?_ (hb3.mono (by simp; omega))
    repeat (refine Below.setCell ?_ (by dsimp only; omega) _)
    exact b2
  have b4 : Below w.heap.size w wd := (b3.alloc (by omega) _).trans (hb4.mono (by simp; omega))
  have b5 : Below w.heap.size w we := by
    refine Below.trans ?_ (hb5.mono (by simp; omega))
    repeat (refine Below.setCell ?_ (by dsimp only; omega) _)
    exact b4
  exact b5.alloc (by omega) _
end Go.Proofs.Ytadaanphoehlmaa
