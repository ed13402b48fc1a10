/- The walk of the law MeterBurns. -/
import Derived.Test.YtgcahojciapegaaNewM
namespace Go.Proofs.Ytgcahojciapegaa
open Go.RowKit
theorem pk_n (a : Int) (n : Int) (h : 1 ≤ n) : ∃ r : Nat, Hid (pk a n = (r : Int)) ∧ (r : Int) < n := by
  obtain ⟨r, h1, h2, h3⟩ := pk_int a n h
  exact ⟨r.toNat, by show _ = _; rw [h1.out]; omega, by omega⟩
set_option maxRecDepth 100000 in
set_option maxHeartbeats 4000000 in
theorem walk_meterBurns (w : World) (a0 : Value) (w0 : Fit Try.prog w 80 a0) (a1 : Int) (w1 : (Lit.int .i64 a1).wf = true) :
    Calls Try.prog 13 #[a0, .int .i64 a1] w fun e w' => e = .returned (.bool true) ∧ Below w.heap.size w w' := by
  obtain ⟨cs, rfl, hcf⟩ := w0.struct Try.underlying80
  obtain ⟨ns, hl, rfl, hw⟩ := hcf.ints (ks := [.i64, .i64, .i64, .i64]) (by kernel_rfl)
  match ns, hl with
  | [a, b, c, d], _ =>
    have wa := hw 0 _ _ rfl rfl
    have wb := hw 1 _ _ rfl rfl
    have wc := hw 2 _ _ rfl rfl
    have wd := hw 3 _ _ rfl rfl
    clear hw hcf w0
    obtain ⟨me, hme, m1⟩ := pk_n a 50 (by omega)
    obtain ⟨rev, hrev, m2⟩ := pk_n b 16 (by omega)
    obtain ⟨cr, hcr, m3⟩ := pk_n c 100000000 (by omega)
    obtain ⟨bad, hbad, m4⟩ := pk_n d 5 (by omega)
    obtain ⟨ld, hld, m5⟩ := pk_n a1 1001 (by omega)
    obtain ⟨bu, hbu⟩ : ∃ bu : Nat, (ld ≤ cr ∧ ld = bu) ∨ (cr < ld ∧ cr = bu) := by
      by_cases h : ld ≤ cr
      · exact ⟨ld, .inl ⟨h, rfl⟩⟩
      · exact ⟨cr, .inr ⟨by omega, rfl⟩⟩
    obtain ⟨z, hz⟩ : ∃ z : Nat, (cr : Int) - (bu : Int) = (z : Int) := ⟨cr - bu, by omega⟩
    have hnew := fun W => newm_ok a b c d W me rev cr bad wa wb wc wd hme hrev hcr hbad
    have htick := fun W => tick_ok me rev cr bad ld bu z W (by omega) (by omega) (by omega) (by omega) (by omega) hbu hz
    unfold mtr at hnew htick
    have e0 : Value.agg ⟨intsOf [.i64, .i64, .i64, .i64] [a, b, c, d]⟩ = .agg #[.int .i64 a, .int .i64 b, .int .i64 c, .int .i64 d] := rfl
    rw [e0]
    go_enter Try.func13, Try.ntmps13
    go_wp2_with fail
    refine (hnew _).mono ?_
    rintro e wx ⟨rfl, hb1⟩
    have s1 := hb1.size
    simp at s1
    clear hnew
    go_wp2_with fail
    refine (picked_is _ hld w1 (by omega) (by omega)).mono ?_
    rintro e w' ⟨rfl, rfl⟩
    go_wp2_with fail
    refine (htick _).mono ?_
    rintro e wy ⟨rfl, hb2⟩
    have s2 := hb2.size
    simp at s2
    have bb := ((below_a1 w _).step hb1).step ((below_a1 wx _).step hb2)
    have n1 : wx.heap.size < wy.heap.size := by omega
    have hcell : ∀ (i : Nat) (v : Value), (#[Value.int .i64 me, .int .i64 rev, .int .i64 cr, .int .i64 0, .int .u64 0, .int .i64 bad, .int .i64 0] : Array Value)[i]? = some v → wy.cell? ⟨wx.heap.size, i, none⟩ = some v := by
      intro i v hv
      have h1 := hb2.cell (p := ⟨wx.heap.size, i, none⟩) (by simp)
      rw [h1, cell_of_row _ _ _ _ _ _ (heap_alloc_new wx _)]
      exact hv
    have r0 : wy.cell? ⟨wx.heap.size, 0, none⟩ = some (.int .i64 me) := hcell 0 _ rfl
    have r1 : wy.cell? ⟨wx.heap.size, 1, none⟩ = some (.int .i64 rev) := hcell 1 _ rfl
    have r2 : wy.cell? ⟨wx.heap.size, 2, none⟩ = some (.int .i64 cr) := hcell 2 _ rfl
    have r3 : wy.cell? ⟨wx.heap.size, 3, none⟩ = some (.int .i64 0) := hcell 3 _ rfl
    have r4 : wy.cell? ⟨wx.heap.size, 4, none⟩ = some (.int .u64 0) := hcell 4 _ rfl
    have r5 : wy.cell? ⟨wx.heap.size, 5, none⟩ = some (.int .i64 bad) := hcell 5 _ rfl
    have r6 : wy.cell? ⟨wx.heap.size, 6, none⟩ = some (.int .i64 0) := hcell 6 _ rfl
    have g1 : decide (ld < bu) = false := by simp; omega
    clear hcell htick hb1 hb2
    rcases hbu with ⟨hbu, hbb⟩ | ⟨hbu, hbb⟩
    · subst hbb
      have m6 : (cr : Int) ≤ 99999999 := by omega
      have m7 : (ld : Int) ≤ (cr : Int) := by omega
      clear m3 m5 m1 m2 m4 hbu g1 s1 s2
      go_wp2
      go_ret
      exact ⟨ret_true (by simp), bb.alloc bb.size _⟩
    · subst hbb
      obtain rfl : z = 0 := by omega
      have m6 : (cr : Int) ≤ 99999999 := by omega
      have g5 : ((cr : Int) == (ld : Int)) = false := by simp; omega
      have g6 : decide ((ld : Int) < (cr : Int)) = false := by simp; omega
      clear m3 m5 m1 m2 m4 s1 s2 hz hbu
      go_wp2
      go_ret
      exact ⟨ret_true (by simp), bb.alloc bb.size _⟩
end Go.Proofs.Ytgcahojciapegaa
