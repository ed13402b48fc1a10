/- The walk of the law CalNext. -/
import Derived.Test.YtgcahojciapegaaCal
namespace Go.Proofs.Ytgcahojciapegaa
open Go.RowKit
set_option maxHeartbeats 800000 in
theorem walk_calNext (w : World) (a0 : Int) (w0 : (Lit.int .i64 a0).wf = true) :
    Calls Try.prog 3 #[.int .i64 a0] w fun e w' => e = .returned (.bool true) ∧ Below w.heap.size w w' := by
  obtain ⟨n, hn, hn0, hn1⟩ := pk_int a0 73048 (by omega)
  go_enter Try.func3, Try.ntmps3
  go_wp2_with fail
  refine (picked_is _ hn w0 (by omega) (by omega)).mono ?_
  rintro e w' ⟨rfl, rfl⟩
  go_wp2_with fail
  refine (dateof_ok n _ hn0 (by omega)).mono ?_
  rintro e wa ⟨y, m, d, hy1, hy2, hv, hnum, rfl, hb1⟩
  go_wp2_with fail
  refine (dateof_ok (n + 1) _ (by omega) (by omega)).mono ?_
  rintro e wb ⟨y', m', d', hy1', hy2', hv', hnum', rfl, hb2⟩
  obtain ⟨x1, x2, x3⟩ := num_next hv
  have hl := lng_bd y (m : Int)
  have hm1 := hv.1
  have hm2 := hv.2.1
  have hd1 := hv.2.2.1
  have hd2 := hv.2.2.2
  have s1 : wa.heap.size < wb.heap.size := by have := hb2.size; simp at this; omega
  obtain ⟨c1, f1⟩ := bcell hb2
  have b1 : Below w.heap.size w (wb.alloc (.cells #[.int .i64 y', .int .i64 m', .int .i64 d'] 24)) := ((hb1.step (below_a1 _ _)).step hb2).step (below_a1 _ _)
  clear hb1 hb2
  by_cases hlt : d < lng y (m : Int)
  · obtain ⟨v1, e1⟩ := x1 hlt
    rw [hnum.out] at e1
    obtain ⟨rfl, rfl, rfl⟩ := num_inj v1 hv' (e1.trans hnum'.out.symm)
    have g1 : (d + 1 != 1) = true := by simp; omega
    clear x1 x2 x3 e1 v1 hv hv'
    go_wp2
    go_ret
    exact ⟨ret_true (by simp), b1⟩
  · have hd : d = lng y (m : Int) := by omega
    have h28 : 28 ≤ d := by omega
    have h31 : d ≤ 31 := by omega
    by_cases h12 : m < 12
    · obtain ⟨v1, e1⟩ := x2 hd h12
      rw [hnum.out] at e1
      obtain ⟨rfl, rfl, rfl⟩ := num_inj v1 hv' (e1.trans hnum'.out.symm)
      have g1 : ((m : Int) == 12) = false := by simp; omega
      clear x1 x2 x3 e1 v1 hv hv' hd hlt
      go_wp2
      go_ret
      exact ⟨ret_true (by simp), b1⟩
    · obtain rfl : m = 12 := by omega
      obtain ⟨v1, e1⟩ := x3 hd rfl
      rw [hnum.out] at e1
      obtain ⟨rfl, rfl, rfl⟩ := num_inj v1 hv' (e1.trans hnum'.out.symm)
      clear x1 x2 x3 e1 v1 hv hv' hd hlt
      go_wp2
      go_ret
      exact ⟨ret_true (by simp), b1⟩
end Go.Proofs.Ytgcahojciapegaa
