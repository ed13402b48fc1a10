/- The walk of the law DebtEnds. -/
import Derived.Test.YtaobohhkoakecaaOften
namespace Go.Proofs.Ytaobohhkoakecaa
open Go.RowKit
theorem share_lo (x y : Int) (h1 : 1000 ≤ x) (h2 : x ≤ 100999) (h3 : 1000 ≤ y) (h4 : y ≤ 10000) : ∃ S : Nat, Hid (x * y / 10000 = (S : Int)) ∧ 100 ≤ S ∧ S ≤ 100999 := by
  have h5 : 1000 * 1000 ≤ x * y := Int.mul_le_mul h1 h3 (by omega) (by omega)
  have h6 : x * y ≤ 100999 * 10000 := Int.mul_le_mul h2 h4 (by omega) (by omega)
  exact ⟨(x * y / 10000).toNat, by show _ = _; omega, by omega, by omega⟩
theorem often_lt {s S i : Nat} (hS : 1 ≤ S) (h : i < (s + S - 1) / S) : i * S < s := by
  have := (Nat.le_div_iff_mul_le (by omega)).1 (Nat.succ_le_of_lt h)
  rw [Nat.succ_mul] at this
  omega
theorem often_ge {s S : Nat} (hS : 1 ≤ S) : s ≤ (s + S - 1) / S * S := by
  have h1 := Nat.div_add_mod (s + S - 1) S
  have h2 := Nat.mod_lt (s + S - 1) (show S > 0 by omega)
  rw [Nat.mul_comm] at h1
  omega
set_option maxRecDepth 100000 in
set_option maxHeartbeats 1000000 in
theorem walk_debtEnds (w : World) (a0 : Value) (w0 : Fit Try.prog w 57 a0) (a1 : Int) (w1 : (Lit.int .i64 a1).wf = true) (a2 : Int) (w2 : (Lit.int .i64 a2).wf = true) :
    Calls Try.prog 8 #[a0, .int .i64 a1, .int .i64 a2] w fun e w' => e = .returned (.bool true) ∧ Below w.heap.size w w' := by
  obtain ⟨n0, f, hv⟩ := w0.rows (ks := [.i64, .i64]) Try.underlying57 (by kernel_rfl) (by simp) (by kernel_rfl)
  clear w0
  obtain ⟨x', hx, hx1, hx2⟩ := pk_int a1 100000 (by omega)
  obtain ⟨y', hy, hy1, hy2⟩ := pk_int a2 9001 (by omega)
  obtain ⟨x, hxx⟩ : ∃ x : Nat, 1000 + x' = x := ⟨(1000 + x').toNat, by omega⟩
  obtain ⟨y, hyy⟩ : ∃ y : Nat, 1000 + y' = y := ⟨(1000 + y').toNat, by omega⟩
  obtain ⟨S, hS, hS1, hS2⟩ := share_lo x y (by omega) (by omega) (by omega) (by omega)
  go_enter Try.func8, Try.ntmps8
  go_wp2_with fail
  refine (owing_ok a0 n0 f 10000 w hv (by omega)).mono ?_
  rintro e wa ⟨l, A, c, rfl, h8, hp, hds, hba⟩
  have hok : DOk l := ⟨h8, fun p h => ⟨by have := hp p h; omega, (hp p h).2⟩⟩
  have hsm : dsum l ≤ 80000 := by
    have key : ∀ l : List (Nat × Nat), (∀ p ∈ l, p.1 ≤ 10000) → dsum l ≤ 10000 * l.length := by
      intro l
      induction l with
      | nil => intro _; simp [dsum]
      | cons p l ih =>
        intro h
        have h1 := h p (by simp)
        have h2 := ih (fun q hq => h q (by simp [hq]))
        have e : dsum (p :: l) = p.1 + dsum l := by simp [dsum]
        rw [e, List.length_cons]; omega
    have := key l (fun p h => (hp p h).1)
    omega
  obtain ⟨s, hs⟩ : ∃ s, dsum l = s := ⟨_, rfl⟩
  obtain ⟨n, hn⟩ : ∃ n, (s + S - 1) / S = n := ⟨_, rfl⟩
  rw [hs] at hsm
  have hM := fun v W h => sumof_ok v l W h hok
  rw [hs] at hM
  have HS := Lib.hid hs
  have HN := Lib.hid hn
  have hn1 : n ≤ 1000 := by
    rw [← hn]
    exact Nat.le_of_lt_succ (Nat.div_lt_of_lt_mul (by omega))
  have hlt1 : ∀ i, i < n → i * S < s := fun i hi => often_lt (by omega) (by rw [HN.out]; exact hi)
  have hge1 : s ≤ n * S := by rw [← HN.out]; exact often_ge (by omega)
  have hiff : (0 < n) = (0 < s) := by
    apply propext
    constructor
    · intro h; have := hlt1 0 h; omega
    · intro h
      rcases Nat.eq_zero_or_pos n with h0 | h0
      · rw [h0] at hge1; omega
      · exact h0
  clear hs hn hp
  go_wp2_with fail
  refine (picked_is _ hx w1 (by omega) (by omega)).mono ?_
  rintro e w' ⟨rfl, rfl⟩
  go_wp2_with fail
  refine (picked_is _ hy w2 (by omega) (by omega)).mono ?_
  rintro e w' ⟨rfl, rfl⟩
  go_wp2_with fail
  refine (often_ok _ l x y S s n wa hds hok (by omega) (by omega) hS (by omega) (by omega) HS (by omega) HN.out).mono ?_
  rintro e wb ⟨rfl, hbb⟩
  have hds2 := hds.below hbb
  go_wp2_with (go_at_call 28; refine (hM _ _ hds2).mono ?_; rintro e w' ⟨rfl, rfl⟩)
  go_loopw [7, 12] (fun v i wr => ∃ (k q z : Nat) (o : List (Nat × Nat)) (A' : Option Addr) (c' : Nat), k ≤ n ∧ i = .int .i64 k ∧ Hid (k * S = q) ∧ DOk o ∧ v = .slice A' o.length c' ∧ IsDs wr (.slice A' o.length c') o ∧ Hid (dsum o = z) ∧ Hid (z = s - q) ∧ z ≤ 80000 ∧ Below wb.heap.size wb wr) (fun _ i _ => n - (intOf i).toNat)
  case atStart => exact ⟨0, 0, s, l, A, c, by omega, rfl, by show _ = _; omega, hok, rfl, hds2, HS, by show _ = _; omega, hsm, Below.refl _ _⟩
  case round =>
    obtain ⟨k, q, z, o, A', c', hk, rfl, hq, hoo, rfl, hd, hz, hzq, hz8, hbr⟩ := hrel
    have hT := fun W h => total_ok (.slice A' o.length c') o W h hoo
    rw [hz.out] at hT
    by_cases hlt : k < n
    · have hl1 := hlt1 k hlt
      have hq1 := hq.out
      have hz1 := hzq.out
      rw [hq1] at hl1
      have HQ : Hid ((k + 1) * S = q + S) := by show _ = _; rw [Nat.succ_mul, hq1]
      obtain ⟨paid, out, hro⟩ : ∃ paid out, Hid (recov S o = (paid, out)) := ⟨_, _, rfl⟩
      obtain ⟨i1, i2, i3, i4⟩ := recov_inv S o hoo.2
      have i5 := recov_paid S o
      rw [hro.out] at i1 i2 i3 i4 i5
      dsimp only at i1 i2 i3 i4 i5
      rw [hz.out] at i2 i5
      have ho8 := hoo.1
      have hok2 : DOk out := ⟨by omega, fun p h => (i4 p h).2⟩
      obtain ⟨z2, hz2⟩ : ∃ z2, dsum out = z2 := ⟨_, rfl⟩
      rw [hz2] at i2
      have HZ2 := Lib.hid hz2
      have hzz : Hid (z2 = s - (q + S)) := by show _ = _; omega
      have hz28 : z2 ≤ 80000 := by omega
      have hg : ((z : Int) == 0) = false := by simp; omega
      clear hq1 hz1 hl1 i4 i5 i2 hz2 hiff hlt1 hge1 hM
      go_wp2_with fail
      refine (hT _ hd).mono ?_
      rintro e wc ⟨rfl, hbc⟩
      clear hT
      go_wp2_with fail
      refine (recover_is _ o x y S paid out wc (hd.below hbc) hoo (by omega) (by omega) hS (by omega) hro).mono ?_
      rintro e wd ⟨B, d, rfl, hout, hbd⟩
      go_wp2
      go_roundw
      case rel => exact ⟨k + 1, q + S, z2, out, B, d, by omega, by go_num, HQ, hok2, rfl, hout, HZ2, hzz, hz28, (hbr.step hbc).step hbd⟩
      case measure => simp [intOf]; omega
    · obtain rfl : k = n := by omega
      have hz1 := hzq.out
      have hq1 := hq.out
      rw [hq1] at hge1
      obtain rfl : z = 0 := by omega
      clear hz1 hq1 hge1 hiff hlt1 hM
      go_wp2_with fail
      refine (hT _ hd).mono ?_
      rintro e wc ⟨rfl, hbc⟩
      clear hT
      go_wp2
      go_ret
      exact ⟨ret_true (by simp), ((hba.step hbb).step hbr).step hbc⟩
end Go.Proofs.Ytaobohhkoakecaa
