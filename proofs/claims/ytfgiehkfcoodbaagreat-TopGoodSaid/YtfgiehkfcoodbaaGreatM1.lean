/- The contract of 'picked': what the Go text computes, as a plain function. No condition but that the second argument is at least 1. -/
import Derived.Test.YtfgiehkfcoodbaaGreatM0
import Derived.Test.YtfgiehkfcoodbaaGreatProg
import Derived.WalkKit
import Derived.WalkSpells
import Derived.WalkLawsBesides
import Derived.Lib.Hide
import Derived.OpenShut
import Derived.BigQuiet
import Derived.Deep.QuietTactic
namespace Go.Proofs.YtfgiehkfcoodbaaGreat
open Go.RowKit
set_option linter.unusedVariables false
set_option maxRecDepth 100000
set_option maxHeartbeats 16000000
def pk (n many:Int):Int:=(if n < 0 then -(n + 1) else n) % many
theorem pk_lo (n many:Int) (h:1 ≤ many):0 ≤ pk n many:=Int.emod_nonneg _ (by omega)
theorem pk_hi (n many:Int) (h:1 ≤ many):pk n many < many:=Int.emod_lt_of_pos _ (by omega)
theorem pk_neg (n many:Int) (h:n < 0):pk n many = (-(n + 1)) % many:=by unfold pk;rw [if_pos h]
theorem pk_pos (n many:Int) (h:¬ n < 0):pk n many = n % many:=by unfold pk;rw [if_neg h]
theorem picked_any (n many:Int) (w:World) (hw:(Lit.int .i64 n).wf = true) (hm:1 ≤ many) (hm2:many ≤ 9223372036854775807) :
 Calls Tryz.prog 40 #[n,many] w fun e w' => e = .returned (.int .i64 (pk n many)) ∧ w = w':=by
 obtain ⟨h1,h2⟩:=bounds_i64 hw
 clear hw
 by_cases hn:n < 0
 ·have e:-((n + 1).tmod many) = pk n many:=by rw [pk_neg n many hn,← Int.neg_tmod,Int.tmod_eq_emod_of_nonneg (by omega)]
  have E:=Lib.hid e
  clear e
  go_enter Tryz.func40,Tryz.ntmps40
  go_wp2
  go_ret
  exact ⟨by rw [← E.out];rfl,rfl⟩
 ·go_enter Tryz.func40,Tryz.ntmps40
  go_wp2
  go_ret
  exact ⟨by rw [pk_pos n many (by omega)];rfl,rfl⟩
theorem picked_is {n many r:Int} (w:World) (hr:Hid (pk n many = r)) (hw:(Lit.int .i64 n).wf = true) (hm:1 ≤ many) (hm2:many ≤ 9223372036854775807) :
 Calls Tryz.prog 40 #[n,many] w fun e w' => e = .returned (.int .i64 r) ∧ w = w':=by
 rw [← hr.out];exact picked_any n many w hw hm hm2
theorem pk_int (n many:Int) (h:1 ≤ many):∃ r,Hid (pk n many = r) ∧ 0 ≤ r ∧ r < many:=⟨_,rfl,pk_lo n many h,pk_hi n many h⟩
theorem below_draws {B:Nat} {a w:World} (h:Below B a w) (n:Nat):Below B a (w.drewN n):=⟨h.os,h.tape,h.output,h.size,h.block⟩
theorem pk_nat (n:Int) (many:Nat) (h:1 ≤ many):∃ i:Nat,Hid (pk n many = (i:Int)) ∧ i < many:=by
 have h1:=pk_lo n many (by omega)
 have h2:=pk_hi n many (by omega)
 exact ⟨(pk n many).toNat,(show pk n many = _ by omega),by omega⟩
end Go.Proofs.YtfgiehkfcoodbaaGreat
