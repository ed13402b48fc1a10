/- What a sale comes to: it buys something, or nothing. -/
import Derived.Test.YtnpkondgpmncnaaSellA
import Derived.Test.YtnpkondgpmncnaaGone
import Derived.Test.YtnpkondgpmncnaaAgreed
import Derived.Test.YtnpkondgpmncnaaTotal
namespace Go.Proofs.Ytnpkondgpmncnaa
open Go.RowKit
set_option linter.unusedVariables false
theorem sale_ex {l tl : List (Nat × Nat)} {bought fx fb db al t : Nat} (hT : TOk tl) (htm : TmOk fx fb db al) (hb : bought ≤ 10000000) (h1 : 1 ≤ t) (h9 : t ≤ 100000000) :
    ∃ (S paid f0 F : Nat) (out : List (Nat × Nat)), (∃ left U P : Nat, Sale l tl bought fx fb db t S paid f0 F left U P out ∧ 1 ≤ U) ∨ ∃ li : Int, SaleN l tl bought fx fb db t S paid f0 F li out := by
  obtain ⟨S, hS⟩ : ∃ S : Nat, (t : Int) * (db : Int) / 10000 = (S : Int) := ⟨t * db / 10000, by rw [← Int.natCast_mul]; rfl⟩
  obtain ⟨f0, hf⟩ : ∃ f0 : Nat, (t : Int) * (fb : Int) / 10000 = (f0 : Int) := ⟨t * fb / 10000, by rw [← Int.natCast_mul]; rfl⟩
  obtain ⟨paid, hp⟩ : ∃ p, (recov S l).1 = p := ⟨_, rfl⟩
  obtain ⟨out, ho⟩ : ∃ p, (recov S l).2 = p := ⟨_, rfl⟩
  have hr : recov S l = (paid, out) := by rw [← hp, ← ho]
  refine ⟨S, paid, f0, fx + f0, out, ?_⟩
  rcases Int.lt_or_le ((t : Int) - (paid : Int) - ((fx + f0 : Nat) : Int)) 0 with hn | hn
  · exact .inr ⟨_, h1, h9, hS, hr, hf, rfl, rfl, .inl hn⟩
  · obtain ⟨left, hl⟩ : ∃ left : Nat, (t : Int) - (paid : Int) - ((fx + f0 : Nat) : Int) = (left : Int) := ⟨((t : Int) - (paid : Int) - ((fx + f0 : Nat) : Int)).toNat, by omega⟩
    obtain ⟨U, hU⟩ : ∃ U, (most (pcs tl bought) left 0 0).1 = U := ⟨_, rfl⟩
    obtain ⟨P, hP⟩ : ∃ P, (most (pcs tl bought) left 0 0).2 = P := ⟨_, rfl⟩
    have hM : most (pcs tl bought) left 0 0 = (U, P) := by rw [← hU, ← hP]
    rcases Nat.eq_zero_or_pos U with h0 | h0
    · subst h0
      have := (most_law hT hb hM).1
      rw [cost_zero] at this
      subst this
      exact .inr ⟨_, h1, h9, hS, hr, hf, rfl, rfl, .inr ⟨left, hl, hM⟩⟩
    · exact .inl ⟨left, U, P, ⟨h1, h9, hS, hr, hf, rfl, hl.symm, hM⟩, h0⟩
theorem recov_fst {S paid : Nat} {l out : List (Nat × Nat)} (h : recov S l = (paid, out)) : paid = min S (dsum l) := by
  have := recov_paid S l
  rw [h] at this
  exact this
theorem part_bd {t db S : Nat} (h : (t : Int) * (db : Int) / 10000 = (S : Int)) : (S : Int) * 10000 ≤ (t : Int) * (db : Int) ∧ (t : Int) * (db : Int) < ((S : Int) + 1) * 10000 := by
  have h1 := Int.mul_ediv_add_emod ((t : Int) * (db : Int)) 10000
  have h2 := Int.emod_nonneg ((t : Int) * (db : Int)) (show (10000 : Int) ≠ 0 by omega)
  have h3 := Int.emod_lt_of_pos ((t : Int) * (db : Int)) (show (0 : Int) < 10000 by omega)
  rw [h] at h1
  omega
theorem prod_bd {t db : Nat} (h : t ≤ 100000000) (h2 : db ≤ 10000) : 0 ≤ (t : Int) * (db : Int) ∧ (t : Int) * (db : Int) ≤ 1000000000000 := by
  have : t * db ≤ 100000000 * 10000 := Nat.mul_le_mul h h2
  rw [← Int.natCast_mul]; omega
theorem dsum_bd {l : List (Nat × Nat)} (hl : DOk l) : dsum l ≤ 8000000000 := by
  have := dsum_take_le hl l.length
  simpa using this
end Go.Proofs.Ytnpkondgpmncnaa
