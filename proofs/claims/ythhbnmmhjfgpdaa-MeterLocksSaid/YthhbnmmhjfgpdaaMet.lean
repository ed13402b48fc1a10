/- What the laws of meters have in common. -/
import Derived.Test.YthhbnmmhjfgpdaaKeyM
import Derived.Test.YthhbnmmhjfgpdaaMade
import Derived.Test.YthhbnmmhjfgpdaaNewM
import Derived.Test.YthhbnmmhjfgpdaaEq
namespace Go.Proofs.Ythhbnmmhjfgpdaa
open Go.RowKit
set_option linter.unusedVariables false
set_option maxRecDepth 100000 in
theorem raw_fits {v : Value} {w : World} (h : Fit Try.prog w 46 v) : ∃ a b c d : Int, v = .agg #[.int .i64 a, .int .i64 b, .int .i64 c, .int .i64 d] ∧ (Lit.int .i64 a).wf = true ∧ (Lit.int .i64 b).wf = true ∧ (Lit.int .i64 c).wf = true ∧ (Lit.int .i64 d).wf = true := by
  obtain ⟨cs, rfl, hcf⟩ := h.struct Try.underlying46
  obtain ⟨ns, hl, rfl, hw⟩ := hcf.ints (ks := [.i64, .i64, .i64, .i64]) (by kernel_rfl)
  match ns, hl with
  | [a, b, c, d], _ => exact ⟨a, b, c, d, rfl, hw 0 _ _ rfl rfl, hw 1 _ _ rfl rfl, hw 2 _ _ rfl rfl, hw 3 _ _ rfl rfl⟩
theorem meter_eqm (a b c d e f g a' b' c' d' e' f' g' : Int) (W : World) :
    (Op.equalIn 10000 51 (.agg #[.int .i64 a, .int .i64 b, .int .i64 c, .int .i64 d, .int .u64 e, .int .i64 f, .int .i64 g]) (.agg #[.int .i64 a', .int .i64 b', .int .i64 c', .int .i64 d', .int .u64 e', .int .i64 f', .int .i64 g'])).run Try.prog W = .ok (a == a' && (b == b' && (c == c' && (d == d' && (e == e' && (f == f' && g == g')))))) W := by
  have h := eq_is (P := Try.prog) (t := 51) [.int .i64 a, .int .i64 b, .int .i64 c, .int .i64 d, .int .u64 e, .int .i64 f, .int .i64 g] [.int .i64 a', .int .i64 b', .int .i64 c', .int .i64 d', .int .u64 e', .int .i64 f', .int .i64 g'] W (by kernel_rfl) (mkv_struct Try.underlying51)
  simpa [cellsEq, leafEq] using h
theorem meter_same (a b c d e f g : Int) (W : World) :
    (Op.equalIn 10000 51 (.agg #[.int .i64 a, .int .i64 b, .int .i64 c, .int .i64 d, .int .u64 e, .int .i64 f, .int .i64 g]) (.agg #[.int .i64 a, .int .i64 b, .int .i64 c, .int .i64 d, .int .u64 e, .int .i64 f, .int .i64 g])).run Try.prog W = .ok true W := by
  rw [meter_eqm]; simp
/-- A window that took nothing yet. -/
theorem judge_new {id : Nat} (h : 1 ≤ id) : judge 0 0 id = 0 := by
  unfold judge wk
  rw [if_neg (by omega), decide_eq_false (by omega)]
  rfl
theorem wmay_new : WMay 0 0 := .inl ⟨rfl, rfl⟩
theorem mmay_of {me rev cr H B bad lock : Nat} (h1 : me < 50) (h2 : rev ≤ 15) (h3 : cr ≤ 99999999) (h4 : bad < 5) (h5 : lock ≤ 30) (h6 : ¬ (0 < bad ∧ 0 < lock)) (hW : WMay H B) : mmay me rev cr H B bad lock = true := by
  unfold mmay
  rw [if_pos (by unfold may1; omega), if_pos (by unfold may2; omega)]
  exact wmayB_of hW
/-- Under its own key, at a meter that is not locked. -/
theorem keyS_own {l : List Pr} {me rev cr H B bad cls id am tag : Nat} (hc : cls ≤ 2) (h : look l ((me : Int), (rev : Int), ((tbody cls id am : Nat) : Int)) = some (tag : Int)) :
    keyS l me rev cr H B bad 0 cls id am tag = (let r := takeS rev cr H B bad cls id am; (r.1, r.2.1, r.2.2.1, r.2.2.2.1, r.2.2.2.2.1, 0, r.2.2.2.2.2.1, r.2.2.2.2.2.2)) := by
  unfold keyS
  rw [if_neg (by omega), if_neg (by omega), if_pos (soldE_own h)]
theorem keyS_none {l : List Pr} {me rev cr H B bad cls id am tag : Nat} (hc : cls ≤ 2) (h : ∀ r : Nat, r < rev + 1 → look l ((me : Int), (r : Int), ((tbody cls id am : Nat) : Int)) ≠ some (tag : Int)) :
    keyS l me rev cr H B bad 0 cls id am tag = (rev, cr, H, B, (badS 12 bad 0).1, (badS 12 bad 0).2, 0, 12) := by
  unfold keyS
  rw [if_neg (by omega), if_neg (by omega), soldE_none h, if_neg (by omega)]
/-- What was taken at a new window is taken. -/
theorem judge_used {id y1 y2 : Nat} (h : 1 ≤ id) (hy : wtake 0 0 id = (y1, y2)) : judge y1 y2 id = 14 := by
  have h1 := take_high 0 0 id
  have h2 := take_wk wmay_new h (judge_new h) id
  rw [hy] at h1 h2
  dsimp only at h1 h2
  unfold judge
  rw [if_neg (by omega), h2]
  simp <;> omega
theorem wmay_used {id y1 y2 : Nat} (h : 1 ≤ id) (h9 : id ≤ 1048575) (hy : wtake 0 0 id = (y1, y2)) : WMay y1 y2 := by
  have := take_may wmay_new h h9 (judge_new h)
  rw [hy] at this
  exact this
theorem look_iss (l : List Pr) (x y z d : Int) : look (issL l x y z d) (x, y, z) = some (issT l x y z d) := by rw [issL_look, if_pos rfl]
theorem ook_nil : OOk [] := ⟨by simp, by simp, by simp⟩
theorem pk_zero4 : Hid (pk 0 4 = ((0 : Nat) : Int)) := by show _ = _; decide
theorem issT_new {l : List Pr} {x y z : Int} (d : Int) (h : look l (x, y, z) = none) : issT l x y z d = d := by unfold issT; rw [h]; rfl
theorem look_nil (k : Int × Int × Int) : look [] k = none := rfl
theorem wtake_one : wtake 0 0 1 = (1, 1) := by decide
theorem judge_one {id : Nat} (h : 2 ≤ id) : judge 1 1 id = 0 := by
  unfold judge wk
  rw [if_neg (by omega), decide_eq_false (by omega)]
  rfl
theorem wmay_one : WMay 1 1 := .inr ⟨by omega, by omega, by decide, by decide⟩
theorem keyS_old {l : List Pr} {me rev r0 cr H B bad cls id am tag : Nat} (hc : cls ≤ 2) (hr : r0 < rev) (h : look l ((me : Int), (r0 : Int), ((tbody cls id am : Nat) : Int)) = some (tag : Int)) (hn : look l ((me : Int), (rev : Int), ((tbody cls id am : Nat) : Int)) ≠ some (tag : Int)) :
    keyS l me rev cr H B bad 0 cls id am tag = (rev, cr, H, B, bad, 0, 0, 11) := by
  have hs : soldE l me (tbody cls id am) rev tag (rev + 1) = 11 := by
    unfold soldE
    rw [if_neg hn]
    exact soldE_old (Nat.le_refl _) hr h
  unfold keyS
  rw [if_neg (by omega), if_neg (by omega), hs, if_neg (by omega)]
  rfl
end Go.Proofs.Ythhbnmmhjfgpdaa
