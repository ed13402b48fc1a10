/- The walk of the law CmpPlus. -/
import Derived.Test.YtaobohhkoakecaaCmp
namespace Go.Proofs.Ytaobohhkoakecaa
open Go.RowKit
theorem wcmp_is {x0 x1 x2 y0 y1 y2 : Nat} {r : Int} (w : World) (hr : Hid (cmpN (val3 x0 x1 x2) (val3 y0 y1 y2) = r)) (h0 : x0 < 4294967296) (h1 : x1 < 4294967296) (h2 : x2 < 4294967296) (k0 : y0 < 4294967296) (k1 : y1 < 4294967296) (k2 : y2 < 4294967296) :
    Calls Try.prog 23 #[.agg #[.int .u32 x0, .int .u32 x1, .int .u32 x2], .agg #[.int .u32 y0, .int .u32 y1, .int .u32 y2]] w fun e w' => e = .returned (.int .i64 r) ∧ Below w.heap.size w w' := by
  rw [← hr.out]; exact wcmp_ok x0 x1 x2 y0 y1 y2 w h0 h1 h2 k0 k1 k2
/-- What the law asks of the three answers. -/
theorem plus_law {X Y c m : Nat} (h : Y + c * 79228162514264337593543950336 = X + m) (hX : X < 79228162514264337593543950336) (hY : Y < 79228162514264337593543950336) (hm : m < 4294967296) :
    (c = 0 ∧ m = 0 ∧ cmpN Y X = 0 ∧ cmpN X Y = 0) ∨ (c = 0 ∧ 0 < m ∧ cmpN Y X = 1 ∧ cmpN X Y = -1) ∨ (c = 1 ∧ 0 < m ∧ cmpN Y X = -1 ∧ cmpN X Y = 1) := by
  rcases Nat.eq_zero_or_pos c with hc | hc
  · subst hc
    rcases Nat.eq_zero_or_pos m with h0 | h0
    · refine .inl ⟨rfl, h0, ?_, ?_⟩ <;> unfold cmpN <;> rw [if_neg (by omega), if_neg (by omega)]
    · refine .inr (.inl ⟨rfl, h0, ?_, ?_⟩) <;> unfold cmpN
      · rw [if_neg (by omega), if_pos (by omega)]
      · rw [if_pos (by omega)]
  · have hc1 : c = 1 := by omega
    subst hc1
    refine .inr (.inr ⟨rfl, by omega, ?_, ?_⟩) <;> unfold cmpN
    · rw [if_pos (by omega)]
    · rw [if_neg (by omega), if_pos (by omega)]
set_option maxHeartbeats 2000000 in
theorem walk_cmpPlus (w : World) (a0 : Value) (w0 : Fit Try.prog w 47 a0) (a1 : Int) (w1 : (Lit.int .u32 a1).wf = true) :
    Calls Try.prog 6 #[a0, .int .u32 a1] w fun e w' => e = .returned (.bool true) ∧ Below w.heap.size w w' := by
  obtain ⟨x0, x1, x2, rfl, h0, h1, h2⟩ := wide_fit w0
  have hb1 := bounds_u32 w1
  obtain ⟨m, rfl⟩ : ∃ m : Nat, a1 = m := ⟨a1.toNat, by omega⟩
  have hm : m < 4294967296 := by omega
  clear w0 w1 hb1
  go_enter Try.func6, Try.ntmps6
  go_wp2_with fail
  refine (plus_is x0 x1 x2 m _ h0 h1 h2 hm).mono ?_
  rintro e wa ⟨y0, y1, y2, c, k0, k1, k2, k3, hv, rfl, hb⟩
  have hlaw := plus_law hv.out (val3_lt h0 h1 h2) (val3_lt k0 k1 k2) hm
  obtain ⟨r, hr⟩ : ∃ r, cmpN (val3 y0 y1 y2) (val3 x0 x1 x2) = r := ⟨_, rfl⟩
  obtain ⟨q, hq⟩ : ∃ q, cmpN (val3 x0 x1 x2) (val3 y0 y1 y2) = q := ⟨_, rfl⟩
  rw [hr, hq] at hlaw
  have hR := Lib.hid hr
  have hQ := Lib.hid hq
  clear hr hq hv
  have s1 : w.heap.size < wa.heap.size := by have := hb.size; simp at this; omega
  obtain ⟨ca, fa⟩ := bcell hb
  have b1 : Below w.heap.size w (wa.alloc (.cells #[.int .u32 y0, .int .u32 y1, .int .u32 y2] 47)) := ((below_a1 _ _).step hb).step (below_a1 _ _)
  clear hb
  go_wp2_with fail
  refine (wcmp_is _ hR k0 k1 k2 h0 h1 h2).mono ?_
  rintro e wb ⟨rfl, hb2⟩
  have s2 : wa.heap.size < wb.heap.size := by have := hb2.size; simp at this; omega
  have s3 : w.heap.size < wb.heap.size := by omega
  obtain ⟨cb, fb⟩ := bcell hb2
  have b2 := b1.step hb2
  clear hb2
  go_wp2_with fail
  refine (wcmp_is _ hQ h0 h1 h2 k0 k1 k2).mono ?_
  rintro e wc ⟨rfl, hb3⟩
  have b3 := b2.step hb3
  clear ca fa cb fb hb3 b1 b2 hR hQ
  rcases hlaw with ⟨rfl, rfl, rfl, rfl⟩ | ⟨rfl, g0, rfl, rfl⟩ | ⟨rfl, g0, rfl, rfl⟩
  · go_wp2
    go_ret
    exact ⟨rfl, b3⟩
  · have g1 : ((m : Int) == 0) = false := by simp; omega
    go_wp2
    go_ret
    exact ⟨rfl, b3⟩
  · have g1 : ((m : Int) == 0) = false := by simp; omega
    go_wp2
    go_ret
    exact ⟨rfl, b3⟩
end Go.Proofs.Ytaobohhkoakecaa
