/- The walk of the law TariffMost. -/
import Derived.Test.YtbabbejigcobjaaPrice
import Derived.Test.YtbabbejigcobjaaMost
import Derived.Test.YtbabbejigcobjaaStepped
namespace Go.Proofs.Ytbabbejigcobjaa
open Go.RowKit
set_option linter.unusedVariables false
/-- What 'Most' comes to, for a tariff that is right. -/
theorem most_law {l : List (Nat × Nat)} {f m U P : Nat} (h : TOk l) (hf : f ≤ 10000000) (hM : most (pcs l f) m 0 0 = (U, P)) :
    cost (pcs l f) U = P ∧ P ≤ m ∧ U ≤ 2097151 ∧ f + U ≤ 10000000 ∧ (U = 2097151 ∨ f + U = 10000000 ∨ m < cost (pcs l f) (U + 1)) := by
  obtain ⟨d, h1, h2, h3, h4, h5, h6⟩ := most_is (pcs l f) m 0 0 (fun x hx => (tok_prices h x hx).2.2.1) (by omega) (by omega)
  rw [hM] at h1 h2 h3
  simp only [Nat.zero_add] at h1 h2 h3 h5 h6
  subst h1
  have hl := tok_lefts (f := f) h hf
  refine ⟨h2.symm, h3, h5, by omega, ?_⟩
  rcases h6 with h6 | h6 | h6
  · exact .inl h6
  · exact .inr (.inl (by omega))
  · exact .inr (.inr h6)
set_option maxRecDepth 100000 in
set_option maxHeartbeats 1000000 in
theorem walk_tariffMost (w : World) (a0 : Value) (w0 : Fit Try.prog w 38 a0) (a1 : Int) (w1 : (Lit.int .i64 a1).wf = true) (a2 : Int) (w2 : (Lit.int .i64 a2).wf = true) :
    Calls Try.prog 8 #[a0, .int .i64 a1, .int .i64 a2] w fun e w' => e = .returned (.bool true) ∧ Below w.heap.size w w' := by
  obtain ⟨n, f, hv⟩ := w0.rows (ks := [.i64, .i64]) Try.underlying38 (by kernel_rfl) (by simp) (by kernel_rfl)
  clear w0
  obtain ⟨x, hx, hx1⟩ := pk_lit a1 10000001 (by omega)
  have x9 : (x : Int) ≤ 10000000 := by omega
  obtain ⟨m, hm, hm1⟩ := pk_lit a2 1000000000001 (by omega)
  have m9 : (m : Int) ≤ 1000000000000 := by omega
  clear hx1 hm1
  go_enter Try.func8, Try.ntmps8
  go_wp2_with fail
  refine (stepped_ok a0 n f w hv).mono ?_
  rintro e wa ⟨l, A, c, rfl, hT, hds, hba⟩
  go_wp2_with fail
  refine (picked_is _ hx w1 (by omega) (by omega)).mono ?_
  rintro e w' ⟨rfl, rfl⟩
  go_wp2_with fail
  refine (picked_is _ hm w2 (by omega) (by omega)).mono ?_
  rintro e w' ⟨rfl, rfl⟩
  obtain ⟨⟨U, P⟩, hM⟩ : ∃ r, Hid (most (pcs l x) m 0 0 = r) := ⟨_, rfl⟩
  obtain ⟨hP, q1, q2, q3, q4⟩ := most_law hT (by omega) hM.out
  have HP := Lib.hid hP
  clear hP
  have hA1 : Ask l x U := ⟨hT, q2, q3⟩
  have U9 : (U : Int) ≤ 2097151 := by omega
  have P9 : (P : Int) ≤ 1000000000000 := by omega
  have g1 : decide ((m : Int) < (P : Int)) = false := by simp; omega
  have g1' : decide (m < P) = false := by simp; omega
  go_wp2_with fail
  refine (most_ok _ l x m U P wa hds hT (by omega) (by omega) hM).mono ?_
  rintro e wb ⟨rfl, hbb⟩
  go_wp2_with fail
  refine (price_is _ l _ _ x U P wb (hds.below hbb) hA1 rfl rfl HP).mono ?_
  rintro e wc ⟨rfl, hbc⟩
  have hB := (hba.step hbb).step hbc
  by_cases h1 : U = 2097151
  · have d1 : ((U : Int) == 2097151) = true := by simp; omega
    clear q4 h1
    go_wp2
    go_ret
    exact ⟨rfl, hB⟩
  · have d1 : ((U : Int) == 2097151) = false := by simp; omega
    by_cases h2 : x + U = 10000000
    · have d2 : ((x : Int) + (U : Int) == 10000000) = true := by simp; omega
      clear q4 h1 h2
      go_wp2
      go_ret
      exact ⟨rfl, hB⟩
    · have d2 : ((x : Int) + (U : Int) == 10000000) = false := by simp; omega
      obtain ⟨R, hR⟩ : ∃ R, Hid (cost (pcs l x) (U + 1) = R) := ⟨_, rfl⟩
      have h3 : m < R := by rw [hR.out] at q4; omega
      have d3 : decide ((m : Int) < (R : Int)) = true := by simp; omega
      have hA2 : Ask l x (U + 1) := ⟨hT, by omega, by omega⟩
      have e2 : Hid ((U : Int) + 1 = ((U + 1 : Nat) : Int)) := by show _ = _; omega
      have hv3 := (hds.below hbb).below hbc
      clear q4 h1 h2 hA1 hM HP hm hx hds hT
      go_wp2_with fail
      refine (price_is _ l _ _ x (U + 1) R wc hv3 hA2 rfl e2 hR).mono ?_
      rintro e wd ⟨rfl, hbd⟩
      go_wp2
      go_ret
      exact ⟨rfl, hB.step hbd⟩
end Go.Proofs.Ytbabbejigcobjaa
