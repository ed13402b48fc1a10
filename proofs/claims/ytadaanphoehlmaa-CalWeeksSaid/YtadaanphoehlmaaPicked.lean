/- The contract of 'picked': what the Go text computes, as a plain function. No condition but that the second argument is at least 1. -/
import Derived.Test.YtadaanphoehlmaaProg
import Derived.WalkKit
import Derived.WalkSpells
import Derived.WalkLawsBesides
import Derived.Lib.Hide
import Derived.OpenShut
namespace Go.Proofs.Ytadaanphoehlmaa
open Go.RowKit

/-- 'picked' as a plain function. -/
def pk (n many : Int) : Int := (if n < 0 then -(n + 1) else n) % many
theorem pk_lo (n many : Int) (h : 1 ≤ many) : 0 ≤ pk n many := Int.emod_nonneg _ (by omega)
theorem pk_hi (n many : Int) (h : 1 ≤ many) : pk n many < many := Int.emod_lt_of_pos _ (by omega)
theorem pk_neg (n many : Int) (h : n < 0) : pk n many = (-(n + 1)) % many := by unfold pk; rw [if_pos h]
theorem pk_pos (n many : Int) (h : ¬ n < 0) : pk n many = n % many := by unfold pk; rw [if_neg h]

set_option maxHeartbeats 400000 in
theorem picked_any (n many : Int) (w : World) (hw : (Lit.int .i64 n).wf = true) (hm : 1 ≤ many) (hm2 : many ≤ 9223372036854775807) :
    Calls Try.prog 15 #[.int .i64 n, .int .i64 many] w fun e w' => e = .returned (.int .i64 (pk n many)) ∧ w = w' := by
  obtain ⟨h1, h2⟩ := bounds_i64 hw
  clear hw
  by_cases hn : n < 0
  · have e : -((n + 1).tmod many) = pk n many := by rw [pk_neg n many hn, ← Int.neg_tmod, Int.tmod_eq_emod_of_nonneg (by omega)]
    have E := Lib.hid e
    clear e
    go_enter Try.func15, Try.ntmps15
    go_wp2
    go_ret
    exact ⟨by rw [← E.out]; rfl, rfl⟩
  · go_enter Try.func15, Try.ntmps15
    go_wp2
    go_ret
    exact ⟨by rw [pk_pos n many (by omega)]; rfl, rfl⟩
end Go.Proofs.Ytadaanphoehlmaa
