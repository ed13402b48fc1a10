/- The walk of the law OverBack. -/
import Derived.Test.YtgcahojciapegaaDiv
namespace Go.Proofs.Ytgcahojciapegaa
open Go.RowKit
/-- What the law asks: nothing runs over, and it is the number again. -/
theorem over_law {n q d r x c y m : Nat} (hn : n < 79228162514264337593543950336) (h1 : q * d + r = n) (h2 : x + c * 79228162514264337593543950336 = q * d) (h3 : y + m * 79228162514264337593543950336 = x + r) : c = 0 ∧ m = 0 ∧ y = n := by
  generalize q * d = b at *
  have hc : c = 0 := by
    rcases Nat.eq_zero_or_pos c with h | h
    · exact h
    · omega
  subst hc
  have hm : m = 0 := by
    rcases Nat.eq_zero_or_pos m with h | h
    · exact h
    · omega
  subst hm
  exact ⟨rfl, rfl, by omega⟩
set_option maxHeartbeats 2000000 in
theorem walk_overBack (w : World) (a0 : Value) (w0 : Fit Try.prog w 31 a0) (a1 : Int) (w1 : (Lit.int .u32 a1).wf = true) :
    Calls Try.prog 5 #[a0, .int .u32 a1] w fun e w' => e = .returned (.bool true) ∧ Below w.heap.size w w' := by
  obtain ⟨x0, x1, x2, rfl, h0, h1, h2⟩ := wide_fit w0
  have hb1 := bounds_u32 w1
  obtain ⟨d, rfl⟩ : ∃ d : Nat, a1 = d := ⟨a1.toNat, by omega⟩
  have hd : d < 4294967296 := by omega
  clear w0 w1 hb1
  rcases Nat.eq_zero_or_pos d with hd0 | hd0
  · subst hd0
    go_enter Try.func5, Try.ntmps5
    go_wp2_with fail
    refine (over_zero x0 x1 x2 _).mono ?_
    rintro e wa ⟨rfl, hb⟩
    go_wp2
    go_ret
    exact ⟨rfl, ((below_a1 _ _).step hb).step (below_a1 _ _)⟩
  · have g1 : ((d : Int) == 0) = false := by simp; omega
    go_enter Try.func5, Try.ntmps5
    go_wp2_with fail
    refine (over_is x0 x1 x2 d _ h0 h1 h2 hd hd0).mono ?_
    rintro e wa ⟨q0, q1, q2, r, m0, m1, m2, hr, hv, rfl, hb⟩
    have s1 : w.heap.size < wa.heap.size := by have := hb.size; simp at this; omega
    obtain ⟨c1, f1⟩ := bcell hb
    have b1 := ((below_a1 w _).step hb).step (below_a1 _ (.cells #[.int .u32 q0, .int .u32 q1, .int .u32 q2] 31))
    clear hb
    go_wp2_with fail
    refine (times_is q0 q1 q2 d _ m0 m1 m2 hd).mono ?_
    rintro e wb ⟨y0, y1, y2, c, k0, k1, k2, -, hy, rfl, hb2⟩
    have s2 : wa.heap.size < wb.heap.size := by have := hb2.size; simp at this; omega
    have s3 : w.heap.size < wb.heap.size := by omega
    obtain ⟨c2, f2⟩ := bcell hb2
    have b2 := (b1.step hb2).step (below_a1 _ (.cells #[.int .u32 y0, .int .u32 y1, .int .u32 y2] 31))
    clear hb2
    go_wp2_with fail
    refine (plus_is y0 y1 y2 r _ k0 k1 k2 (by omega)).mono ?_
    rintro e wc ⟨z0, z1, z2, m, l0, l1, l2, -, hz, rfl, hb3⟩
    have s4 : wb.heap.size < wc.heap.size := by have := hb3.size; simp at this; omega
    have s5 : w.heap.size < wc.heap.size := by omega
    have s6 : wa.heap.size < wc.heap.size := by omega
    obtain ⟨c3, f3⟩ := bcell hb3
    have b3 := b2.step hb3
    clear hb3
    obtain ⟨rfl, rfl, hzx⟩ := over_law (val3_lt h0 h1 h2) hv.out hy.out hz.out
    obtain ⟨rfl, rfl, rfl⟩ := val3_inj l0 l1 l2 h0 h1 h2 hzx
    have g2 : decide (r < d) = true := by simp; omega
    have heq := wide_eql
    clear hzx hv hy hz b1 b2
    go_wp2
    go_ret
    exact ⟨ret_true (by simp), b3.alloc b3.size _⟩
end Go.Proofs.Ytgcahojciapegaa
