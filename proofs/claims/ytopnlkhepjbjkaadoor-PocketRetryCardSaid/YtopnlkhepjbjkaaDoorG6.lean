/- meter: may, Words, Read. -/
import Derived.Test.YtopnlkhepjbjkaaDoorG4
import Derived.Test.YtopnlkhepjbjkaaDoorG5
import Derived.Test.YtopnlkhepjbjkaaDoorG2
import Derived.Laws.BitsAllLaws
namespace Go.Proofs.YtopnlkhepjbjkaaDoor
open Go.RowKit
def may1 (me rev cr : Int) : Prop := 0 ≤ me ∧ me < 50 ∧ 0 ≤ rev ∧ rev ≤ 15 ∧ 0 ≤ cr ∧ cr ≤ 99999999
def may2 (bad lock : Int) : Prop := 0 ≤ bad ∧ bad < 5 ∧ 0 ≤ lock ∧ lock ≤ 30 ∧ ¬ (0 < bad ∧ 0 < lock)
instance (me rev cr : Int) : Decidable (may1 me rev cr) := by unfold may1; infer_instance
instance (bad lock : Int) : Decidable (may2 bad lock) := by unfold may2; infer_instance
/-- May a meter be? -/
def mmay (me rev cr h : Int) (b : Nat) (bad lock : Int) : Bool := if may1 me rev cr then if may2 bad lock then wmayB h b else false else false
set_option maxRecDepth 100000 in
set_option maxHeartbeats 2000000 in
theorem mmay_any (me rev cr h : Int) (b : Nat) (bad lock : Int) (w : World) (w4 : (Lit.int .i64 h).wf = true) (hb : b < 2 ^ 64) (w5 : (Lit.int .i64 bad).wf = true) (w6 : (Lit.int .i64 lock).wf = true) :
    Calls Tryd.prog 33 #[.agg #[.int .i64 me, .int .i64 rev, .int .i64 cr, .int .i64 h, .int .u64 b, .int .i64 bad, .int .i64 lock]] w fun e w' => e = .returned (.bool (mmay me rev cr h b bad lock)) ∧ Below w.heap.size w w' := by
  by_cases g1 : may1 me rev cr
  · by_cases g2 : may2 bad lock
    · have HV := Lib.hid (show mmay me rev cr h b bad lock = wmayB h b by unfold mmay; rw [if_pos g1, if_pos g2])
      obtain ⟨a1, a2, a3, a4, a5, a6⟩ := g1
      obtain ⟨b1, b2, b3, b4, b5⟩ := g2
      have hc : (bad = 0) ∨ (0 < bad ∧ lock = 0) := by omega
      cases hv : wmayB h b
      · have hU := fun W => used_bad h b W w4 hb hv
        rcases hc with rfl | ⟨c1, rfl⟩
        all_goals
          go_enter Tryd.func33, Tryd.ntmps33
          go_wp2_with fail
          refine (hU _).mono ?_
          rintro e wa ⟨rfl, hba⟩
          go_wp2
          go_ret
          exact ⟨by rw [HV.out, hv]; rfl, (below_a1 _ _).step hba⟩
      · obtain ⟨H, rfl, hW⟩ := (wmayB_iff hb).1 hv
        have hU := fun W => used_ok H b W hW
        rcases hc with rfl | ⟨c1, rfl⟩
        all_goals
          go_enter Tryd.func33, Tryd.ntmps33
          go_wp2_with fail
          refine (hU _).mono ?_
          rintro e wa ⟨A1, c1, rfl, _, hba⟩
          go_wp2
          go_ret
          exact ⟨by rw [HV.out, hv]; rfl, (below_a1 _ _).step hba⟩
    · have HV := Lib.hid (show mmay me rev cr h b bad lock = false by unfold mmay; rw [if_pos g1, if_neg g2])
      obtain ⟨a1, a2, a3, a4, a5, a6⟩ := g1
      have hx : bad < 0 ∨ 5 ≤ bad ∨ (0 ≤ bad ∧ bad < 5 ∧ (lock < 0 ∨ 30 < lock ∨ (0 < bad ∧ 0 < lock ∧ lock ≤ 30))) := by unfold may2 at g2; omega
      clear g2
      rcases hx with g | g | ⟨k1, k2, g | g | ⟨k3, k4, k5⟩⟩
      all_goals
        go_enter Tryd.func33, Tryd.ntmps33
        go_wp2
        go_ret
        exact ⟨by rw [HV.out]; rfl, below_a1 _ _⟩
  · have HV := Lib.hid (show mmay me rev cr h b bad lock = false by unfold mmay; rw [if_neg g1])
    have hx : me < 0 ∨ 50 ≤ me ∨ (0 ≤ me ∧ me < 50 ∧ (rev < 0 ∨ 15 < rev ∨ (0 ≤ rev ∧ rev ≤ 15 ∧ (cr < 0 ∨ 99999999 < cr)))) := by unfold may1 at g1; omega
    clear g1
    rcases hx with g | g | ⟨k1, k2, g | g | ⟨k3, k4, g | g⟩⟩
    all_goals
      go_enter Tryd.func33, Tryd.ntmps33
      go_wp2
      go_ret
      exact ⟨by rw [HV.out]; rfl, below_a1 _ _⟩
theorem mmay_is {me rev cr h : Int} {b : Nat} {bad lock : Int} {v : Bool} (hv : Hid (mmay me rev cr h b bad lock = v)) (w : World) (w4 : (Lit.int .i64 h).wf = true) (hb : b < 2 ^ 64) (w5 : (Lit.int .i64 bad).wf = true) (w6 : (Lit.int .i64 lock).wf = true) :
    Calls Tryd.prog 33 #[.agg #[.int .i64 me, .int .i64 rev, .int .i64 cr, .int .i64 h, .int .u64 b, .int .i64 bad, .int .i64 lock]] w fun e w' => e = .returned (.bool v) ∧ Below w.heap.size w w' := by
  rw [← hv.out]; exact mmay_any me rev cr h b bad lock w w4 hb w5 w6
end Go.Proofs.YtopnlkhepjbjkaaDoor
