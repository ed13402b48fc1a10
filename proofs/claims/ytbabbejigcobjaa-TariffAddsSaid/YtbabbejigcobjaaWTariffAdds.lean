/- The walk of the law TariffAdds. -/
import Derived.Test.YtbabbejigcobjaaPrice
import Derived.Test.YtbabbejigcobjaaStepped
namespace Go.Proofs.Ytbabbejigcobjaa
open Go.RowKit
set_option linter.unusedVariables false
set_option maxRecDepth 100000 in
set_option maxHeartbeats 1000000 in
theorem walk_tariffAdds (w : World) (a0 : Value) (w0 : Fit Try.prog w 38 a0) (a1 : Int) (w1 : (Lit.int .i64 a1).wf = true) (a2 : Int) (w2 : (Lit.int .i64 a2).wf = true) (a3 : Int) (w3 : (Lit.int .i64 a3).wf = true) :
    Calls Try.prog 5 #[a0, .int .i64 a1, .int .i64 a2, .int .i64 a3] w fun e w' => e = .returned (.bool true) ∧ Below w.heap.size w w' := by
  obtain ⟨n, f, hv⟩ := w0.rows (ks := [.i64, .i64]) Try.underlying38 (by kernel_rfl) (by simp) (by kernel_rfl)
  clear w0
  obtain ⟨x, hx, hx1⟩ := pk_lit a1 7000001 (by omega)
  obtain ⟨y, hy, hy1⟩ := pk_lit a2 1000001 (by omega)
  obtain ⟨z, hz, hz1⟩ := pk_lit a3 1000001 (by omega)
  have x9 : (x : Int) ≤ 7000000 := by omega
  have y9 : (y : Int) ≤ 1000000 := by omega
  have z9 : (z : Int) ≤ 1000000 := by omega
  clear hx1 hy1 hz1
  go_enter Try.func5, Try.ntmps5
  go_wp2_with fail
  refine (stepped_ok a0 n f w hv).mono ?_
  rintro e wa ⟨l, A, c, rfl, hT, hds, hba⟩
  go_wp2_with fail
  refine (picked_is _ hx w1 (by omega) (by omega)).mono ?_
  rintro e w' ⟨rfl, rfl⟩
  go_wp2_with fail
  refine (picked_is _ hy w2 (by omega) (by omega)).mono ?_
  rintro e w' ⟨rfl, rfl⟩
  go_wp2_with fail
  refine (picked_is _ hz w3 (by omega) (by omega)).mono ?_
  rintro e w' ⟨rfl, rfl⟩
  obtain ⟨P, hP⟩ : ∃ P, Hid (cost (pcs l x) y = P) := ⟨_, rfl⟩
  obtain ⟨Q, hQ⟩ : ∃ Q, Hid (cost (pcs l (x + y)) z = Q) := ⟨_, rfl⟩
  obtain ⟨R, hR⟩ : ∃ R, Hid (cost (pcs l x) (y + z) = R) := ⟨_, rfl⟩
  have hS : P + Q = R := by have := cost_add l x y z; rw [hP.out, hQ.out, hR.out] at this; exact this.symm
  have hp1 : P ≤ y * 100000 := by rw [← hP.out]; exact price_le hT
  have hp2 : y ≤ P := by rw [← hP.out]; exact price_ge hT (by omega)
  have hq1 : Q ≤ z * 100000 := by rw [← hQ.out]; exact price_le hT
  have P9 : (P : Int) ≤ 100000000000 := by omega
  have Q9 : (Q : Int) ≤ 100000000000 := by omega
  have e2 : Hid ((x : Int) + (y : Int) = ((x + y : Nat) : Int)) := by show _ = _; omega
  have e3 : Hid ((y : Int) + (z : Int) = ((y + z : Nat) : Int)) := by show _ = _; omega
  have hA1 : Ask l x y := ⟨hT, by omega, by omega⟩
  have hA2 : Ask l (x + y) z := ⟨hT, by omega, by omega⟩
  have hA3 : Ask l x (y + z) := ⟨hT, by omega, by omega⟩
  have hyp : (y = 0 ∧ P = 0 ∧ Q = R) ∨ (((y : Int) == 0) = false ∧ ((P : Int) == 0) = false) := by
    by_cases h : y = 0
    · exact .inl ⟨h, by omega, by omega⟩
    · exact .inr ⟨by simp; omega, by simp; omega⟩
  have hs : ((P : Int) + (Q : Int) == (R : Int)) = true := by simp; omega
  clear hS hp1 hp2 hq1
  go_wp2_with fail
  refine (price_is _ l _ _ x y P wa hds hA1 rfl rfl hP).mono ?_
  rintro e wb ⟨rfl, hbb⟩
  go_wp2_with fail
  refine (price_is _ l _ _ (x + y) z Q wb (hds.below hbb) hA2 e2 rfl hQ).mono ?_
  rintro e wc ⟨rfl, hbc⟩
  go_wp2_with fail
  refine (price_is _ l _ _ x (y + z) R wc ((hds.below hbb).below hbc) hA3 rfl e3 hR).mono ?_
  rintro e wd ⟨rfl, hbd⟩
  clear hds hT hA1 hA2 hA3 hP hQ hR e2 e3
  have hB := ((hba.step hbb).step hbc).step hbd
  rcases hyp with ⟨rfl, rfl, rfl⟩ | ⟨g1, g2⟩
  · clear hs
    go_wp2
    go_ret
    exact ⟨rfl, hB⟩
  · go_wp2
    go_ret
    exact ⟨rfl, hB⟩
end Go.Proofs.Ytbabbejigcobjaa
