/- The walk of the law DebtAdds. -/
import Derived.Test.YtgcahojciapegaaRecov
import Derived.Test.YtgcahojciapegaaTotal
namespace Go.Proofs.Ytgcahojciapegaa
open Go.RowKit
theorem share_is (x y : Int) (h1 : 0 ≤ x) (h2 : x ≤ 100000000) (h3 : 0 ≤ y) (h4 : y ≤ 10000) : ∃ S : Nat, Hid (x * y / 10000 = (S : Int)) ∧ S ≤ 100000000 := by
  have h5 : 0 ≤ x * y := Int.mul_nonneg h1 h3
  have h6 : x * y ≤ 100000000 * 10000 := Int.mul_le_mul h2 h4 h3 (by omega)
  exact ⟨(x * y / 10000).toNat, by show _ = _; omega, by omega⟩
set_option maxRecDepth 100000 in
set_option maxHeartbeats 1000000 in
theorem walk_debtAdds (w : World) (a0 : Value) (w0 : Fit Try.prog w 68 a0) (a1 : Int) (w1 : (Lit.int .i64 a1).wf = true) (a2 : Int) (w2 : (Lit.int .i64 a2).wf = true) :
    Calls Try.prog 11 #[a0, .int .i64 a1, .int .i64 a2] w fun e w' => e = .returned (.bool true) ∧ Below w.heap.size w w' := by
  obtain ⟨n, f, hv⟩ := w0.rows (ks := [.i64, .i64]) Try.underlying68 (by kernel_rfl) (by simp) (by kernel_rfl)
  clear w0
  obtain ⟨x', hx, hx1, hx2⟩ := pk_int a1 100000001 (by omega)
  obtain ⟨y', hy, hy1, hy2⟩ := pk_int a2 10001 (by omega)
  obtain ⟨x, rfl⟩ : ∃ x : Nat, x' = x := ⟨x'.toNat, by omega⟩
  obtain ⟨y, rfl⟩ : ∃ y : Nat, y' = y := ⟨y'.toNat, by omega⟩
  obtain ⟨S, hS, hS2⟩ := share_is x y (by omega) (by omega) (by omega) (by omega)
  go_enter Try.func11, Try.ntmps11
  go_wp2_with fail
  refine (owing_ok a0 n f 1000000000 w hv (by omega)).mono ?_
  rintro e wa ⟨l, A, c, rfl, h8, hp, hds, hba⟩
  have hok : DOk l := ⟨h8, hp⟩
  go_wp2_with fail
  refine (picked_is _ hx w1 (by omega) (by omega)).mono ?_
  rintro e w' ⟨rfl, rfl⟩
  go_wp2_with fail
  refine (picked_is _ hy w2 (by omega) (by omega)).mono ?_
  rintro e w' ⟨rfl, rfl⟩
  go_wp2_with fail
  obtain ⟨paid, out, hro⟩ : ∃ paid out, Hid (recov S l = (paid, out)) := ⟨_, _, rfl⟩
  obtain ⟨i1, i2, i3, i4⟩ := recov_inv S l hp
  have i5 := recov_paid S l
  rw [hro.out] at i1 i2 i3 i4 i5
  dsimp only at i1 i2 i3 i4 i5
  have hok2 : DOk out := ⟨by omega, fun p h => (i4 p h).2⟩
  have hd := dsum_take_le hok 8
  rw [List.take_of_length_le h8] at hd
  have hd2 := dsum_take_le hok2 8
  rw [List.take_of_length_le hok2.1] at hd2
  refine (recover_is _ l x y S paid out wa hds hok (by omega) (by omega) hS hS2 hro).mono ?_
  rintro e wb ⟨B, d, rfl, hout, hbb⟩
  clear hro i4
  have hT1 := fun v W h => total_ok v l W h hok
  have hT2 := fun v W h => total_ok v out W h hok2
  have hM1 := fun v W h => sumof_ok v l W h hok
  have hM2 := fun v W h => sumof_ok v out W h hok2
  obtain ⟨s1, e1⟩ : ∃ s1, dsum l = s1 := ⟨_, rfl⟩
  obtain ⟨s2, e2⟩ : ∃ s2, dsum out = s2 := ⟨_, rfl⟩
  rw [e1] at hT1 hM1 i2 i5 hd
  rw [e2] at hT2 hM2 i2 hd2
  clear e1 e2
  go_wp2_with fail
  refine (hT1 _ _ (hds.below hbb)).mono ?_
  rintro e wc ⟨rfl, hbc⟩
  go_wp2_with fail
  refine (hT2 _ _ (hout.below hbc)).mono ?_
  rintro e wd ⟨rfl, hbd⟩
  have hds2 := ((hds.below hbb).below hbc).below hbd
  have hout2 := (hout.below hbc).below hbd
  have f1 : (s1 : Int) = (s2 : Int) + (paid : Int) := by omega
  go_wp2_with fail
  refine (part_is _ hS (by omega) (by omega) (by omega) (by omega)).mono ?_
  rintro e w' ⟨rfl, rfl⟩
  by_cases hm : S ≤ s1
  all_goals
    go_wp2_with (go_at_call 34; first | (with_reducible refine (hM1 _ _ hds2).mono ?_; rintro e w' ⟨rfl, rfl⟩) | (with_reducible refine (hM2 _ _ hout2).mono ?_; rintro e w' ⟨rfl, rfl⟩))
    go_ret
    exact ⟨ret_true (by first | (simp; done) | (simp; omega)), ((hba.step hbb).step hbc).step hbd⟩
end Go.Proofs.Ytgcahojciapegaa
