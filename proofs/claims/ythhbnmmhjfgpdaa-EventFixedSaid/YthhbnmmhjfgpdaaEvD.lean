/- Events: which may be: plain. -/
import Derived.WalkKit
namespace Go.Proofs.Ythhbnmmhjfgpdaa
/-- An event that may be, by its numbers in their order: kind, meter, month, the bill (id, tender, debt, fee, price, change, units), tag, the debt (owed, basis points). -/
def evOk (k me mo id te de fe pr ch un tg ow bp : Int) : Prop :=
  0 ≤ me ∧ me ≤ 49 ∧
  ((k = 1 ∧ mo = 0 ∧ id = 0 ∧ te = 0 ∧ de = 0 ∧ fe = 0 ∧ pr = 0 ∧ ch = 0 ∧ un = 0 ∧ tg = 0 ∧ ow = 0 ∧ bp = 0) ∨
   (k = 2 ∧ 0 ≤ de ∧ 0 ≤ fe ∧ 0 ≤ pr ∧ 0 ≤ ch ∧ 1 ≤ te ∧ te ≤ 100000000 ∧ de ≤ 100000000 ∧ fe ≤ 100000000 ∧ pr ≤ 100000000 ∧ ch ≤ 100000000 ∧ te = de + fe + pr + ch ∧ 1 ≤ un ∧ un ≤ 2097151 ∧ 0 ≤ mo ∧ mo ≤ 2399 ∧ 1 ≤ id ∧ id ≤ 1048575 ∧ 0 ≤ tg ∧ tg ≤ 65535 ∧ ow = 0 ∧ bp = 0) ∨
   (k = 3 ∧ 1 ≤ un ∧ un ≤ 2097151 ∧ 0 ≤ mo ∧ mo ≤ 2399 ∧ 1 ≤ id ∧ id ≤ 1048575 ∧ 0 ≤ tg ∧ tg ≤ 65535 ∧ te = 0 ∧ de = 0 ∧ fe = 0 ∧ pr = 0 ∧ ch = 0 ∧ ow = 0 ∧ bp = 0) ∨
   (k = 4 ∧ 1 ≤ id ∧ id ≤ 1048575 ∧ 0 ≤ tg ∧ tg ≤ 65535 ∧ mo = 0 ∧ te = 0 ∧ de = 0 ∧ fe = 0 ∧ pr = 0 ∧ ch = 0 ∧ un = 0 ∧ ow = 0 ∧ bp = 0) ∨
   (k = 5 ∧ 1 ≤ ow ∧ ow ≤ 1000000000 ∧ 0 ≤ bp ∧ bp ≤ 10000 ∧ mo = 0 ∧ id = 0 ∧ te = 0 ∧ de = 0 ∧ fe = 0 ∧ pr = 0 ∧ ch = 0 ∧ un = 0 ∧ tg = 0))
theorem evOk.bd {k me mo id te de fe pr ch un tg ow bp : Int} (h : evOk k me mo id te de fe pr ch un tg ow bp) :
    (1 ≤ k ∧ k ≤ 5) ∧ (0 ≤ me ∧ me ≤ 49) ∧ (0 ≤ mo ∧ mo ≤ 2399) ∧ (0 ≤ id ∧ id ≤ 1048575) ∧ (0 ≤ te ∧ te ≤ 100000000) ∧ (0 ≤ de ∧ de ≤ 100000000) ∧ (0 ≤ fe ∧ fe ≤ 100000000) ∧ (0 ≤ pr ∧ pr ≤ 100000000) ∧ (0 ≤ ch ∧ ch ≤ 100000000) ∧ (0 ≤ un ∧ un ≤ 2097151) ∧ (0 ≤ tg ∧ tg ≤ 65535) ∧ (0 ≤ ow ∧ ow ≤ 1000000000) ∧ (0 ≤ bp ∧ bp ≤ 10000) := by
  unfold evOk at h
  omega
end Go.Proofs.Ythhbnmmhjfgpdaa
