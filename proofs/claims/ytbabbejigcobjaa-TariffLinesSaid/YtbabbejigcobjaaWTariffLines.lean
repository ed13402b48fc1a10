/- The walk of the law TariffLines. -/
import Derived.Test.YtbabbejigcobjaaPrice
import Derived.Test.YtbabbejigcobjaaStepped
namespace Go.Proofs.Ytbabbejigcobjaa
open Go.RowKit
set_option linter.unusedVariables false
set_option maxRecDepth 100000 in
set_option maxHeartbeats 1000000 in
theorem walk_tariffLines (w : World) (a0 : Value) (w0 : Fit Try.prog w 38 a0) (a1 : Int) (w1 : (Lit.int .i64 a1).wf = true) (a2 : Int) (w2 : (Lit.int .i64 a2).wf = true) :
    Calls Try.prog 7 #[a0, .int .i64 a1, .int .i64 a2] w fun e w' => e = .returned (.bool true) ∧ Below w.heap.size w w' := by
  obtain ⟨n, f, hv⟩ := w0.rows (ks := [.i64, .i64]) Try.underlying38 (by kernel_rfl) (by simp) (by kernel_rfl)
  clear w0
  obtain ⟨x, hx, hx1⟩ := pk_lit a1 10000000 (by omega)
  have x9 : (x : Int) ≤ 9999999 := by omega
  clear hx1
  obtain ⟨M, hM⟩ : ∃ M : Nat, min 2097151 (10000000 - x) = M := ⟨_, rfl⟩
  have hMi : 1 ≤ M := by omega
  obtain ⟨M', hM'⟩ : ∃ M' : Int, (M : Int) + 1 = M' := ⟨_, rfl⟩
  obtain ⟨y, hy, hy1⟩ := pk_lit a2 M' (by omega)
  have y9 : (y : Int) ≤ (M : Int) := by omega
  have M1 : (1 : Int) ≤ M' := by omega
  have M2 : M' ≤ 9223372036854775807 := by omega
  have hor : ((10000000 : Int) - (x : Int) < 2097151 ∧ (10000000 : Int) - (x : Int) = (M : Int)) ∨ (¬ (10000000 : Int) - (x : Int) < 2097151 ∧ (2097152 : Int) = M') := by omega
  have hyx : x + y ≤ 10000000 := by omega
  have hy7 : y ≤ 2097151 := by omega
  clear hy1
  go_enter Try.func7, Try.ntmps7
  go_wp2_with fail
  refine (stepped_ok a0 n f w hv).mono ?_
  rintro e wa ⟨l, A, c, rfl, hT, hds, hba⟩
  go_wp2_with fail
  refine (picked_is _ hx w1 (by omega) (by omega)).mono ?_
  rintro e w' ⟨rfl, rfl⟩
  obtain ⟨P, hP⟩ : ∃ P, Hid (cost (pcs l x) y = P) := ⟨_, rfl⟩
  obtain ⟨L, hL⟩ : ∃ L, Hid (bills (pcs l x) y = L) := ⟨_, rfl⟩
  have hA1 : Ask l x y := ⟨hT, hy7, hyx⟩
  have hbd : ∀ p ∈ L, 1 ≤ p.1 ∧ p.1 ≤ 10000000 ∧ 1 ≤ p.2 ∧ p.2 ≤ 100000 := by rw [← hL.out]; exact bills_bd _ y (pcs_bd l x hT.bd)
  have hLP : Hid (lsum L = P) := by show _ = _; rw [← hL.out, bills_cost]; exact hP.out
  have hLu : Hid (lefts L = y) := by
    have h1 := bills_units (pcs l x) y
    have h2 := tok_lefts (f := x) hT (by omega)
    rw [hL.out] at h1
    show _ = _
    omega
  have hLl : L.length ≤ l.length := by rw [← hL.out]; exact Nat.le_trans (bills_len _ _) (pcs_len l x)
  have hL8 := Nat.le_trans hLl hT.len
  have hdl : decide (l.length < L.length) = false := by simp; omega
  rcases hor with ⟨o1, o2⟩ | ⟨o1, rfl⟩
  all_goals
    go_wp2_with fail
    refine (picked_is _ hy w2 M1 M2).mono ?_
    rintro e w' ⟨rfl, rfl⟩
    try clear o2
    clear hM' o1 hM hy hx hv y9 M1 M2
    go_wp2_with fail
    refine (bill_is _ l _ _ x y L wa hds hA1 rfl rfl hL).mono ?_
    rintro e wb ⟨A1, c1, rfl, hown, hbb⟩
    go_wp2_with fail
    refine (price_is _ l _ _ x y P wb (hds.below hbb) hA1 rfl rfl hP).mono ?_
    rintro e wc ⟨rfl, hbc⟩
    have hrd := (Rd.of_own hown).below hbc
    have hB := (hba.step hbb).step hbc
    obtain ⟨N, hN⟩ : ∃ N, L.length = N := ⟨_, rfl⟩
    rw [hN] at hrd hL8 hdl
    have HN := Lib.hid hN
    have hsz := hbc.size
    rw [hN]
    clear hown hN hds hT hA1 hP hL hLl
    go_wp2_with fail
    go_loopw [14, 15, 16, 17] (fun u s i _ wr => ∃ k m t : Nat, k ≤ N ∧ i = .int .i64 k ∧ s = .int .i64 m ∧ u = .int .i64 t ∧ Hid (lsum (L.take k) = m) ∧ Hid (lefts (L.take k) = t) ∧ (m : Int) ≤ (k : Int) * 1000000000000 ∧ (t : Int) ≤ (k : Int) * 10000000 ∧ Below wc.heap.size wc wr) (fun _ _ i _ _ => N - (intOf i).toNat)
    case atStart => exact ⟨0, 0, 0, by omega, rfl, rfl, rfl, rfl, rfl, by omega, by omega, Below.refl _ _⟩
    case round =>
      obtain ⟨k, m, t, hk, rfl, rfl, rfl, hm, ht, hm8, ht8, hb⟩ := hrel
      by_cases hlt : k < N
      · have hkl : k < L.length := by rw [HN.out]; exact hlt
        obtain ⟨b, off, rfl, hBk, hc⟩ := hrd.at_ (by omega)
        obtain ⟨q1, q2, q3⟩ := lns_get hkl
        have p1 := (hb.cell (p := ⟨b, off + k * 3, none⟩) (Nat.lt_of_lt_of_le hBk hsz)).trans (hc _ _ q1)
        have p2 := (hb.cell (p := ⟨b, off + k * 3 + 1, none⟩) (Nat.lt_of_lt_of_le hBk hsz)).trans (hc _ _ q2)
        have p3 := (hb.cell (p := ⟨b, off + k * 3 + 2, none⟩) (Nat.lt_of_lt_of_le hBk hsz)).trans (hc _ _ q3)
        obtain ⟨z0, z1, z3, z2⟩ := hbd _ (List.getElem_mem hkl)
        have HS : Hid (lsum (L.take (k + 1)) = m + L[k].1 * L[k].2) := by show _ = _; rw [List.take_succ_eq_append_getElem hkl, lsum_snoc, hm.out]
        have HT : Hid (lefts (L.take (k + 1)) = t + L[k].1) := by show _ = _; rw [List.take_succ_eq_append_getElem hkl, lefts_snoc, ht.out]
        have hz := Nat.mul_le_mul z1 z2
        clear hc hbd q1 q2 q3 hrd
        generalize L[k] = p at *
        obtain ⟨x0, y0⟩ := p
        simp only at HS HT hz z0 z1 z2 z3 p1 p2 p3
        obtain ⟨r, hr⟩ : ∃ r, x0 * y0 = r := ⟨_, rfl⟩
        have hre : (x0 : Int) * (y0 : Int) = (r : Int) := by rw [← hr, Int.natCast_mul]
        rw [hr] at HS hz p3
        have j1 : (m : Int) ≤ 9000000000000 := by omega
        have j2 : (t : Int) ≤ 90000000 := by omega
        have j3 : Hid ((m : Int) + (r : Int) ≤ ((k : Int) + 1) * 1000000000000 ∧ (t : Int) + (x0 : Int) ≤ ((k : Int) + 1) * 10000000) := ⟨by omega, by omega⟩
        clear hr hm8 ht8
        have hx0 : ¬ (x0 : Int) < 1 := by omega
        go_wp2
        go_roundw
        case rel => exact ⟨k + 1, m + r, t + x0, by omega, by go_num, by go_num, by go_num, HS, HT, by have := j3.out.1; omega, by have := j3.out.2; omega, hb.alloc hb.size _⟩
        case measure => (simp [intOf]; try omega)
      · obtain rfl : k = N := by omega
        have hm : Hid (lsum L = m) := by have := hm.out; rwa [List.take_of_length_le (by rw [HN.out]; exact Nat.le_refl _)] at this
        have ht : Hid (lefts L = t) := by have := ht.out; rwa [List.take_of_length_le (by rw [HN.out]; exact Nat.le_refl _)] at this
        obtain rfl : m = P := by rw [← hm.out]; exact hLP.out
        obtain rfl : t = y := by rw [← ht.out]; exact hLu.out
        clear hbd hrd
        go_wp2
        go_ret
        exact ⟨rfl, hB.step hb⟩
end Go.Proofs.Ytbabbejigcobjaa
