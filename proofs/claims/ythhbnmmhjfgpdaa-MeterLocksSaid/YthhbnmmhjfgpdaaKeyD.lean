/- What a key does to a meter: plain. -/
import Derived.Test.YthhbnmmhjfgpdaaOracD
import Derived.Test.YthhbnmmhjfgpdaaWinD
import Derived.Test.YthhbnmmhjfgpdaaTokD
namespace Go.Proofs.Ythhbnmmhjfgpdaa
open Go.RowKit
/-- Under which revision a token was sold: 0: the meter's own, 11: an earlier one, 12: none. -/
def soldE (l : List Pr) (me body rev0 : Nat) (tag : Int) : Nat → Nat
  | 0 => 12
  | n + 1 => if look l ((me : Int), (n : Int), (body : Int)) = some tag then (if n < rev0 then 11 else 0) else soldE l me body rev0 tag n
/-- What becomes of the bad tries and of the lock. -/
def badS (E bad lock : Nat) : Nat × Nat := if E = 12 then (if bad + 1 = 5 then (0, 30) else (bad + 1, lock)) else (bad, lock)
/-- A token is taken: revision, credit, window, bad tries, what was added, code. -/
def takeS (rev cr H B bad cls id am : Nat) : Nat × Nat × Nat × Nat × Nat × Nat × Nat :=
  if judge H B id ≠ 0 then (rev, cr, H, B, bad, 0, judge H B id)
  else if cls = 0 then (if 99999999 < cr + am then (rev, cr, H, B, bad, 0, 15) else (rev, cr + am, (wtake H B id).1, (wtake H B id).2, 0, am, 0))
  else if cls = 1 then (rev, 0, (wtake H B id).1, (wtake H B id).2, 0, 0, 0)
  else (if am ≤ rev then (rev, cr, H, B, bad, 0, 24) else (am, cr, (wtake H B id).1, (wtake H B id).2, 0, 0, 0))
/-- A token is keyed: revision, credit, window, bad tries, lock, what was added, code. -/
def keyS (l : List Pr) (me rev cr H B bad lock cls id am tag : Nat) : Nat × Nat × Nat × Nat × Nat × Nat × Nat × Nat :=
  if 0 < lock then (rev, cr, H, B, bad, lock, 0, 10)
  else if cls = 3 then (rev, cr, H, B, bad, lock, 0, 0)
  else if soldE l me (tbody cls id am) rev tag (rev + 1) = 0 then
    (let r := takeS rev cr H B bad cls id am; (r.1, r.2.1, r.2.2.1, r.2.2.2.1, r.2.2.2.2.1, lock, r.2.2.2.2.2.1, r.2.2.2.2.2.2))
  else (rev, cr, H, B, (badS (soldE l me (tbody cls id am) rev tag (rev + 1)) bad lock).1, (badS (soldE l me (tbody cls id am) rev tag (rev + 1)) bad lock).2, 0, soldE l me (tbody cls id am) rev tag (rev + 1))
theorem soldE_vals (l : List Pr) (me body rev0 : Nat) (tag : Int) : ∀ n, soldE l me body rev0 tag n = 0 ∨ soldE l me body rev0 tag n = 11 ∨ soldE l me body rev0 tag n = 12
  | 0 => .inr (.inr rfl)
  | n + 1 => by
    unfold soldE
    split
    · split
      · exact .inr (.inl rfl)
      · exact .inl rfl
    · exact soldE_vals l me body rev0 tag n
/-- None was sold. -/
theorem soldE_none {l : List Pr} {me body rev0 : Nat} {tag : Int} : ∀ {n : Nat}, (∀ r : Nat, r < n → look l ((me : Int), (r : Int), (body : Int)) ≠ some tag) → soldE l me body rev0 tag n = 12
  | 0, _ => rfl
  | n + 1, h => by
    unfold soldE
    rw [if_neg (h n (by omega))]
    exact soldE_none (fun r hr => h r (by omega))
/-- It was sold under the meter's own. -/
theorem soldE_own {l : List Pr} {me body rev0 : Nat} {tag : Int} (h : look l ((me : Int), (rev0 : Int), (body : Int)) = some tag) : soldE l me body rev0 tag (rev0 + 1) = 0 := by
  unfold soldE
  rw [if_pos h, if_neg (by omega)]
/-- It was sold under an earlier one. -/
theorem soldE_old {l : List Pr} {me body rev0 r0 : Nat} {tag : Int} : ∀ {n : Nat}, n ≤ rev0 → r0 < n → look l ((me : Int), (r0 : Int), (body : Int)) = some tag → soldE l me body rev0 tag n = 11
  | 0, _, h, _ => by omega
  | n + 1, h1, h2, h3 => by
    unfold soldE
    split
    · rw [if_pos (by omega)]
    · rename_i hn
      have : r0 ≠ n := fun e => hn (by rw [← e]; exact h3)
      exact soldE_old (by omega) (by omega) h3
end Go.Proofs.Ythhbnmmhjfgpdaa
