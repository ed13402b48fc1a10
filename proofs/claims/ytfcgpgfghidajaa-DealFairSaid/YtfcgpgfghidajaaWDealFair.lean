/- The walk of the law DealFair. -/
import Derived.Test.YtfcgpgfghidajaaDealt
namespace Go.Proofs.Ytfcgpgfghidajaa
open Go.RowKit
set_option linter.unusedVariables false
theorem tdiv_n (a m : Nat) : Int.tdiv (a : Int) (m : Int) = ((a / m : Nat) : Int) := rfl
theorem div_n (a m : Nat) : (a : Int) / (m : Int) = ((a / m : Nat) : Int) := rfl
theorem w64_n (n : Nat) (h : n ≤ 2000000000000000000) : wrap64 (n : Int) = (n : Int) := IntWalk.wrap64_in _ ⟨by omega, by omega⟩
theorem i64_n (n : Nat) (h : n ≤ 2000000000000000000) : IntKind.i64.wrap (n : Int) = (n : Int) := by rw [IntWalk.i64_left]; exact w64_n n h
theorem mul_le18 {t x : Nat} (ht : t ≤ 1000000000000) (hx : x ≤ 1000000) : t * x ≤ 1000000000000000000 := by
  have h : t * x ≤ 1000000000000 * 1000000 := Nat.mul_le_mul ht hx
  omega
theorem nz_of {m : Nat} (h : 0 < m) : ((m : Int) == 0) = false ∧ ¬ (m : Int) = 0 := ⟨by simp; omega, by omega⟩
theorem down_is {t x m : Nat} (ht : t ≤ 1000000000000) (hx : x ≤ 1000000) : wrap64 ((wrap64 ((t : Int) * (x : Int))).tdiv (m : Int)) = ((t * x / m : Nat) : Int) := by
  have hpb := mul_le18 ht hx
  rw [show (t : Int) * (x : Int) = ((t * x : Nat) : Int) from (Int.natCast_mul t x).symm, w64_n _ (by omega), tdiv_n]
  exact w64_n _ (Nat.le_trans (Nat.div_le_self _ _) (by omega))
theorem up_is {t x m : Nat} (ht : t ≤ 1000000000000) (hx : x ≤ 1000000) (hm : 0 < m) (hm5 : m ≤ 50000000) : wrap64 ((wrap64 (wrap64 (wrap64 ((t : Int) * (x : Int)) + (m : Int)) - 1)).tdiv (m : Int)) = (((t * x + m - 1) / m : Nat) : Int) := by
  have hpb := mul_le18 ht hx
  rw [show (t : Int) * (x : Int) = ((t * x : Nat) : Int) from (Int.natCast_mul t x).symm, w64_n _ (by omega)]
  generalize t * x = p at *
  rw [show (p : Int) + (m : Int) = ((p + m : Nat) : Int) from (Int.natCast_add p m).symm, w64_n _ (by omega), show ((p + m : Nat) : Int) - 1 = ((p + m - 1 : Nat) : Int) by omega, w64_n _ (by omega), tdiv_n]
  exact w64_n _ (Nat.le_trans (Nat.div_le_self _ _) (by omega))
set_option maxRecDepth 100000 in
set_option maxHeartbeats 4000000 in
theorem walk_dealFair (w : World) (a0 : Int) (w0 : (Lit.int .i64 a0).wf = true) (a1 : Value) (w1 : Fit Try.prog w 22 a1) :
    Calls Try.prog 4 #[.int .i64 a0, a1] w fun e w' => e = .returned (.bool true) ∧ Below w.heap.size w w' := by
  obtain ⟨zs, hv⟩ := is_fit w1
  obtain ⟨t, ht, ht1⟩ := pk_nat a0 1000000000001 (by omega)
  have ht2 : Hid (pk a0 1000000000001 = (t : Int)) := ht
  have hP := fun W => picked_is W ht2 w0 (by omega) (by omega)
  have ht3 : t ≤ 1000000000000 := by omega
  clear ht w1 ht1
  go_enter Try.func4, Try.ntmps4
  go_wp2_with fail
  refine (hP _).mono ?_
  rintro e w' ⟨rfl, rfl⟩
  go_wp2_with fail
  refine (dealt_ok _ zs _ hv).mono ?_
  rintro e wa ⟨l, b, c, rfl, hx, h1, h2, h0, how, hba⟩
  clear hP hv
  obtain ⟨hlt, hcell⟩ : b < wa.heap.size ∧ ∀ x, x < l.length → wa.cell? ⟨b, 0 + x, none⟩ = some (.int .i64 ((l.getD x 0 : Nat) : Int)) := by
    obtain ⟨b', off, e, hB, hc⟩ := (Rd.of_own how).2 (by omega)
    injection e with e
    injection e with e1 e2
    subst e1 e2
    exact ⟨hB, fun x hx => hc x _ (by rw [nis_get hx]; simp [hx])⟩
  go_wp2_with fail
  refine (deal_ok t l b 0 c _ ⟨ht3, hx, h1, h2, h0⟩ hlt hcell).mono ?_
  rintro e wb ⟨g, o, left, rfl, hD, hbb, hB⟩
  have HB := hba.step hbb
  have HD := Lib.hid hD
  have ho : ∀ x, x < l.length → wb.cell? ⟨g, x, none⟩ = some (.int .i64 ((outF t l.sum left l o x : Nat) : Int)) := fun x hx => (hB.cell x).trans (tab_get _ hx)
  have hw : ∀ x, x < l.length → wb.cell? ⟨b, x, none⟩ = some (.int .i64 ((l.getD x 0 : Nat) : Int)) := fun x hx => by
    have h := (hbb.cell (p := ⟨b, 0 + x, none⟩) hlt).trans (hcell x hx)
    rwa [Nat.zero_add] at h
  obtain ⟨f, hf⟩ : ∃ f, outF t l.sum left l o = f := ⟨_, rfl⟩
  have HF := Lib.hid hf
  have HX := Lib.hid hx
  rw [hf] at ho
  clear hcell hba hbb hB how hD hlt hf hx
  obtain ⟨n, hn⟩ : ∃ n, l.length = n := ⟨_, rfl⟩
  have HN := Lib.hid hn
  rw [hn] at ho hw h1 h2 ⊢
  clear hn
  have hsl := sum_bound HX.out
  rw [HN.out] at hsl
  have hsl2 : l.sum ≤ 50000000 := by omega
  go_wp2_with fail
  go_loopw [9, 10] (fun s i wr => ∃ k m : Nat, k ≤ n ∧ i = .int .i64 (k : Int) ∧ s = .int .i64 (m : Int) ∧ Hid ((l.take k).sum = m) ∧ m ≤ 50000000 ∧ wr = wb) (fun _ i _ => n - (intOf i).toNat)
  case atStart => exact ⟨0, 0, by omega, rfl, rfl, Lib.hid rfl, by omega, rfl⟩
  case round =>
    obtain ⟨k, m, hk, rfl, rfl, hm, hmt, rfl⟩ := hrel
    by_cases hlt : k < n
    · have hlt2 : (k : Int) < (n : Int) := by omega
      have hs := take_succ_sum (l := l) (k := k) (by rw [HN.out]; exact hlt)
      have hle := take_sum_le l (k + 1)
      have hc := hw k hlt
      rw [hm.out] at hs
      rw [hs] at hle
      have HS := Lib.hid hs
      generalize l.getD k 0 = y at *
      clear hs ho hw
      go_wp2
      go_roundw
      case rel => exact ⟨k + 1, m + y, by omega, by go_num, by go_num, HS, by omega, trivial⟩
      case measure => simp [intOf]; omega
    · obtain rfl : k = n := by omega
      obtain rfl : l.sum = m := by
        have h := hm.out
        rwa [← HN.out, List.take_length] at h
      clear hm hmt
      go_wp2_with fail
      obtain ⟨wo, hwo⟩ : ∃ wo, wo = wr := ⟨_, rfl⟩
      subst hwo
      have hfair := fun i hi => HD.out.fair (i := i) hi
      rw [HF.out] at hfair
      rw [HN.out] at hfair
      obtain ⟨m, hm⟩ : ∃ m, l.sum = m := ⟨_, rfl⟩
      rw [hm] at hfair hsl2 h0 ⊢
      clear hm hlt hk hsl
      go_loopw [11, 12, 13] (fun i _ _ wr => ∃ j : Nat, j ≤ k ∧ i = .int .i64 (j : Int) ∧ wr = wo) (fun i _ _ _ => k - (intOf i).toNat)
      case atStart => exact ⟨0, by omega, rfl, rfl⟩
      case round =>
        obtain ⟨j, hj, rfl, rfl⟩ := hrel
        by_cases hlt : j < k
        · have hlt2 : (j : Int) < (k : Int) := by omega
          have hx := getD_le (k := j) HX.out
          have hc1 := hw j hlt
          have hc2 := ho j hlt
          obtain ⟨f1, f2⟩ := hfair j hlt
          generalize l.getD j 0 = x at *
          generalize f j = y at *
          have E1 := down_is (m := m) ht3 hx
          have E2 := up_is ht3 hx h0 hsl2
          generalize t * x / m = q at *
          generalize (t * x + m - 1) / m = u at *
          obtain ⟨z10, z11⟩ := nz_of h0
          have d1 : decide (y < q) = false := decide_eq_false (Nat.not_lt.2 f1)
          have d2 : decide (u < y) = false := decide_eq_false (Nat.not_lt.2 f2)
          clear hw ho hfair f1 f2 ht3 hx h0 hsl2 h1
          go_wp2_with fail
          go_roundw
          case rel => exact ⟨j + 1, by omega, by go_num, trivial⟩
          case measure => simp [intOf]; omega
        · obtain rfl : j = k := by omega
          clear ho hw hfair
          go_wp2
          go_ret
          exact ⟨rfl, HB⟩
end Go.Proofs.Ytfcgpgfghidajaa
