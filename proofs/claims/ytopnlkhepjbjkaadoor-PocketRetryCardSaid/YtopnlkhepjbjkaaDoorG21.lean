/- fitted; slots: slots in which records were stored. token: Words: a token's wide number. What the laws of meters have in common. What a meter goes through where tokens are sold and keyed: plain. -/
import Derived.Test.YtopnlkhepjbjkaaDoorG12
import Derived.Test.YtopnlkhepjbjkaaDoorG13
import Derived.Test.YtopnlkhepjbjkaaDoorG14
import Derived.Test.YtopnlkhepjbjkaaDoorG9
import Derived.Test.YtopnlkhepjbjkaaDoorG18
import Derived.Test.YtopnlkhepjbjkaaDoorG19
import Derived.Test.YtopnlkhepjbjkaaDoorG20
import Derived.Test.YtopnlkhepjbjkaaDoorG2
import Derived.Test.YtopnlkhepjbjkaaDoorG11
namespace Go.Proofs.YtopnlkhepjbjkaaDoor
open Go.RowKit
set_option linter.unusedVariables false
theorem slW_ok {C rec old : List Nat} {n s : Nat} (h : IsSl C n old s) (hr : rec.length = n) : (∀ p ∈ slW C n rec s, p.1 < C.length) ∧ (slW C n rec s).length = n + 2 := by
  have hl := h.len
  obtain ⟨_, _, _, _, _, hs2⟩ := h.marks
  refine ⟨fun p hp => ?_, by unfold slW; rw [halfW_len, hr]⟩
  have := (halfW_at p hp).2
  rw [hl]
  rcases (show s = 0 ∨ s = 1 by omega) with rfl | rfl <;> omega
end Go.Proofs.YtopnlkhepjbjkaaDoor
namespace Go.Proofs.YtopnlkhepjbjkaaDoor
open Go.RowKit
set_option linter.unusedVariables false
/-- The number that a token is, before it is sealed. -/
def tokN (cls id am tag : Nat) : Nat := tag + am * 65536 + id * 137438953472 + cls * 144115188075855872
theorem tokN_lt {cls id am tag : Nat} (h : TkOk cls id am tag) : tokN cls id am tag < 576460752303423488 := by
  have := h.am
  obtain ⟨h1, h2, h3, h4, h5⟩ := h
  unfold tokN; omega
theorem tokN_inj {cls id am tag cls' id' am' tag' : Nat} (h : TkOk cls id am tag) (k : TkOk cls' id' am' tag') (e : tokN cls id am tag = tokN cls' id' am' tag') : cls = cls' ∧ id = id' ∧ am = am' ∧ tag = tag' := by
  have h1 := h.am
  have h2 := k.am
  have h3 := h.h3
  have h4 := k.h3
  have h5 := h.h5
  have h6 := k.h5
  unfold tokN at e
  omega
theorem put_top {N lo m v : Nat} (h : N < 2 ^ lo) : putN N lo m v = N + 2 ^ lo * v := by
  unfold putN
  have h2 : N / 2 ^ (lo + m) = 0 := Nat.div_eq_of_lt (Nat.lt_of_lt_of_le h (Nat.pow_le_pow_right (by omega) (by omega)))
  rw [h2, Nat.mod_eq_of_lt h]; simp
theorem tokN_fields {cls id am tag : Nat} (h : TkOk cls id am tag) : bitsN (tokN cls id am tag) 0 16 = tag ∧ bitsN (tokN cls id am tag) 16 21 = am ∧ bitsN (tokN cls id am tag) 37 20 = id ∧ bitsN (tokN cls id am tag) 57 2 = cls ∧ bitsN (tokN cls id am tag) 59 32 = 0 := by
  have h1 := h.am
  obtain ⟨h2, h3, h4, h5, h6⟩ := h
  unfold bitsN tokN
  refine ⟨?_, ?_, ?_, ?_, ?_⟩ <;> omega
/-- A number is what its fields make of it. -/
theorem fields_tokN (q : Nat) (h : bitsN q 59 32 = 0) (hq : q < 2 ^ 91) : tokN (bitsN q 57 2) (bitsN q 37 20) (bitsN q 16 21) (bitsN q 0 16) = q := by
  unfold bitsN at *
  unfold tokN
  omega
end Go.Proofs.YtopnlkhepjbjkaaDoor
namespace Go.Proofs.YtopnlkhepjbjkaaDoor
open Go.RowKit
set_option linter.unusedVariables false
set_option maxRecDepth 100000 in
theorem raw_fits {v : Value} {w : World} (h : Fit Tryd.prog w 45 v) : ∃ a b c d : Int, v = .agg #[.int .i64 a, .int .i64 b, .int .i64 c, .int .i64 d] ∧ (Lit.int .i64 a).wf = true ∧ (Lit.int .i64 b).wf = true ∧ (Lit.int .i64 c).wf = true ∧ (Lit.int .i64 d).wf = true := by
  obtain ⟨cs, rfl, hcf⟩ := h.struct Tryd.underlying45
  obtain ⟨ns, hl, rfl, hw⟩ := hcf.ints (ks := [.i64, .i64, .i64, .i64]) (by kernel_rfl)
  match ns, hl with
  | [a, b, c, d], _ => exact ⟨a, b, c, d, rfl, hw 0 _ _ rfl rfl, hw 1 _ _ rfl rfl, hw 2 _ _ rfl rfl, hw 3 _ _ rfl rfl⟩
theorem meter_eqm (a b c d e f g a' b' c' d' e' f' g' : Int) (W : World) :
    (Op.equalIn 10000 39 (.agg #[.int .i64 a, .int .i64 b, .int .i64 c, .int .i64 d, .int .u64 e, .int .i64 f, .int .i64 g]) (.agg #[.int .i64 a', .int .i64 b', .int .i64 c', .int .i64 d', .int .u64 e', .int .i64 f', .int .i64 g'])).run Tryd.prog W = .ok (a == a' && (b == b' && (c == c' && (d == d' && (e == e' && (f == f' && g == g')))))) W := by
  have h := eq_is (P := Tryd.prog) (t := 39) [.int .i64 a, .int .i64 b, .int .i64 c, .int .i64 d, .int .u64 e, .int .i64 f, .int .i64 g] [.int .i64 a', .int .i64 b', .int .i64 c', .int .i64 d', .int .u64 e', .int .i64 f', .int .i64 g'] W (by kernel_rfl) (mkv_struct Tryd.underlying39)
  simpa [cellsEq, leafEq] using h
theorem meter_same (a b c d e f g : Int) (W : World) :
    (Op.equalIn 10000 39 (.agg #[.int .i64 a, .int .i64 b, .int .i64 c, .int .i64 d, .int .u64 e, .int .i64 f, .int .i64 g]) (.agg #[.int .i64 a, .int .i64 b, .int .i64 c, .int .i64 d, .int .u64 e, .int .i64 f, .int .i64 g])).run Tryd.prog W = .ok true W := by
  rw [meter_eqm]; simp
/-- A window that took nothing yet. -/
theorem judge_new {id : Nat} (h : 1 ≤ id) : judge 0 0 id = 0 := by
  unfold judge wk
  rw [if_neg (by omega), decide_eq_false (by omega)]
  rfl
theorem wmay_new : WMay 0 0 := .inl ⟨rfl, rfl⟩
theorem mmay_of {me rev cr H B bad lock : Nat} (h1 : me < 50) (h2 : rev ≤ 15) (h3 : cr ≤ 99999999) (h4 : bad < 5) (h5 : lock ≤ 30) (h6 : ¬ (0 < bad ∧ 0 < lock)) (hW : WMay H B) : mmay me rev cr H B bad lock = true := by
  unfold mmay
  rw [if_pos (by unfold may1; omega), if_pos (by unfold may2; omega)]
  exact wmayB_of hW
/-- Under its own key, at a meter that is not locked. -/
theorem keyS_own {l : List Pr} {me rev cr H B bad cls id am tag : Nat} (hc : cls ≤ 2) (h : look l ((me : Int), (rev : Int), ((tbody cls id am : Nat) : Int)) = some (tag : Int)) :
    keyS l me rev cr H B bad 0 cls id am tag = (let r := takeS rev cr H B bad cls id am; (r.1, r.2.1, r.2.2.1, r.2.2.2.1, r.2.2.2.2.1, 0, r.2.2.2.2.2.1, r.2.2.2.2.2.2)) := by
  unfold keyS
  rw [if_neg (by omega), if_neg (by omega), if_pos (soldE_own h)]
theorem keyS_none {l : List Pr} {me rev cr H B bad cls id am tag : Nat} (hc : cls ≤ 2) (h : ∀ r : Nat, r < rev + 1 → look l ((me : Int), (r : Int), ((tbody cls id am : Nat) : Int)) ≠ some (tag : Int)) :
    keyS l me rev cr H B bad 0 cls id am tag = (rev, cr, H, B, (badS 12 bad 0).1, (badS 12 bad 0).2, 0, 12) := by
  unfold keyS
  rw [if_neg (by omega), if_neg (by omega), soldE_none h, if_neg (by omega)]
/-- What was taken at a new window is taken. -/
theorem judge_used {id y1 y2 : Nat} (h : 1 ≤ id) (hy : wtake 0 0 id = (y1, y2)) : judge y1 y2 id = 14 := by
  have h1 := take_high 0 0 id
  have h2 := take_wk wmay_new h (judge_new h) id
  rw [hy] at h1 h2
  dsimp only at h1 h2
  unfold judge
  rw [if_neg (by omega), h2]
  simp <;> omega
theorem wmay_used {id y1 y2 : Nat} (h : 1 ≤ id) (h9 : id ≤ 1048575) (hy : wtake 0 0 id = (y1, y2)) : WMay y1 y2 := by
  have := take_may wmay_new h h9 (judge_new h)
  rw [hy] at this
  exact this
theorem look_iss (l : List Pr) (x y z d : Int) : look (issL l x y z d) (x, y, z) = some (issT l x y z d) := by rw [issL_look, if_pos rfl]
theorem ook_nil : OOk [] := ⟨by simp, by simp, by simp⟩
theorem pk_zero4 : Hid (pk 0 4 = ((0 : Nat) : Int)) := by show _ = _; decide
theorem issT_new {l : List Pr} {x y z : Int} (d : Int) (h : look l (x, y, z) = none) : issT l x y z d = d := by unfold issT; rw [h]; rfl
theorem look_nil (k : Int × Int × Int) : look [] k = none := rfl
theorem wtake_one : wtake 0 0 1 = (1, 1) := by decide
theorem judge_one {id : Nat} (h : 2 ≤ id) : judge 1 1 id = 0 := by
  unfold judge wk
  rw [if_neg (by omega), decide_eq_false (by omega)]
  rfl
theorem wmay_one : WMay 1 1 := .inr ⟨by omega, by omega, by decide, by decide⟩
theorem keyS_old {l : List Pr} {me rev r0 cr H B bad cls id am tag : Nat} (hc : cls ≤ 2) (hr : r0 < rev) (h : look l ((me : Int), (r0 : Int), ((tbody cls id am : Nat) : Int)) = some (tag : Int)) (hn : look l ((me : Int), (rev : Int), ((tbody cls id am : Nat) : Int)) ≠ some (tag : Int)) :
    keyS l me rev cr H B bad 0 cls id am tag = (rev, cr, H, B, bad, 0, 0, 11) := by
  have hs : soldE l me (tbody cls id am) rev tag (rev + 1) = 11 := by
    unfold soldE
    rw [if_neg hn]
    exact soldE_old (Nat.le_refl _) hr h
  unfold keyS
  rw [if_neg (by omega), if_neg (by omega), hs, if_neg (by omega)]
  rfl
end Go.Proofs.YtopnlkhepjbjkaaDoor
namespace Go.Proofs.YtopnlkhepjbjkaaDoor
open Go.RowKit
set_option linter.unusedVariables false
theorem keyS_ne5 (l : List Pr) (me rev cr H B bad lock cls id am tag : Nat) : (keyS l me rev cr H B bad lock cls id am tag).2.2.2.2.2.2.2 ≠ 5 := by
  unfold keyS
  by_cases g1 : 0 < lock
  · rw [if_pos g1]; (dsimp only; decide)
  · rw [if_neg g1]
    by_cases g2 : cls = 3
    · rw [if_pos g2]; (dsimp only; decide)
    · rw [if_neg g2]
      rcases soldE_vals l me (tbody cls id am) rev tag (rev + 1) with h | h | h
      · rw [h, if_pos rfl]
        dsimp only
        unfold takeS
        by_cases g4 : judge H B id ≠ 0
        · rw [if_pos g4]
          show judge H B id ≠ 5
          unfold judge
          split
          · decide
          · split <;> decide
        · rw [if_neg g4]
          split
          · split <;> (dsimp only; decide)
          · split
            · (dsimp only; decide)
            · split <;> (dsimp only; decide)
      · rw [h, if_neg (by decide)]; (dsimp only; decide)
      · rw [h, if_neg (by decide)]; (dsimp only; decide)
/-- A meter (revision, credit, highest number, window's bits, bad tries, lock) at which tokens were sold and keyed, one behind the other; all that was tagged. -/
inductive Path (me : Nat) : List (Int × Int × Int × Int) → Nat → Nat → Nat → Nat → Nat → Nat → List Pr → Prop
  | nil : Path me [] 0 0 0 0 0 0 []
  | step {L rev cr H b bad lock l a p q d cls id am tag t2 l2 r2 c2 h2 b2 d2 k2 ad E} : Path me L rev cr H b bad lock l → TkOk cls id am t2 → pk a 4 = ((cls : Nat) : Int) → madeV cls p q d = (((id : Nat) : Int), ((am : Nat) : Int), ((tag : Nat) : Int)) → issL l (me : Int) (rev : Int) (tbody cls id am : Nat) (tag : Int) = l2 → issT l (me : Int) (rev : Int) (tbody cls id am : Nat) (tag : Int) = ((t2 : Nat) : Int) →
      keyS l2 me rev cr H b bad lock cls id am t2 = (r2, c2, h2, b2, d2, k2, ad, E) → Path me (L ++ [(a, p, q, d)]) r2 c2 h2 b2 d2 k2 l2
theorem path_one {me : Nat} {x : Int × Int × Int × Int} {r2 c2 h2 b2 d2 k2 : Nat} {l2 : List Pr} (h : Path me [x] r2 c2 h2 b2 d2 k2 l2) :
    ∃ cls id am tag t2 ad E : Nat, TkOk cls id am t2 ∧ pk x.1 4 = ((cls : Nat) : Int) ∧ madeV cls x.2.1 x.2.2.1 x.2.2.2 = ((id : Int), (am : Int), (tag : Int)) ∧ issL [] (me : Int) ((0 : Nat) : Int) (tbody cls id am : Nat) (tag : Int) = l2 ∧ issT [] (me : Int) ((0 : Nat) : Int) (tbody cls id am : Nat) (tag : Int) = ((t2 : Nat) : Int) ∧ keyS l2 me 0 0 0 0 0 0 cls id am t2 = (r2, c2, h2, b2, d2, k2, ad, E) := by
  generalize hX : [x] = X at h
  cases h with
  | nil => cases hX
  | @step L rev cr H b bad lock l a p q d cls id am tag t2 _ _ _ _ _ _ _ ad E h0 hk h1 h2 h3 h4 h5 =>
    have hL : L = [] := by
      cases L with
      | nil => rfl
      | cons y ys => simp at hX
    subst hL
    obtain rfl : x = (a, p, q, d) := by simpa using hX
    generalize hY : ([] : List (Int × Int × Int × Int)) = Y at h0
    cases h0 with
    | nil => exact ⟨cls, id, am, tag, t2, ad, E, hk, h1, h2, h3, h4, h5⟩
    | step => simp at hY
theorem judge_newP {j : Nat} (h : 1 ≤ j) : judge 0 0 j = 0 := by
  unfold judge wk
  rw [if_neg (by omega)]
  have : decide (j ≤ 0) = false := by simp; omega
  rw [this]
  rfl
/-- One token of credit, keyed at a new meter. -/
theorem path_credit {me : Nat} {q : Int} {r c h b d k : Nat} {l : List Pr} (hp : Path me [(0, 0, q, 0)] r c h b d k l) : r = 0 ∧ (c : Int) = 1 + pk q 2097151 ∧ d = 0 ∧ k = 0 := by
  obtain ⟨cls, id, am, tag, t2, ad, E, hk, h1, h2, h3, h4, h5⟩ := path_one hp
  have hc : cls = 0 := by
    have : pk 0 4 = 0 := by decide
    dsimp only at h1
    omega
  subst hc
  have hl : look l ((me : Int), ((0 : Nat) : Int), ((tbody 0 id am : Nat) : Int)) = some ((t2 : Nat) : Int) := by
    rw [← h3, issL_look, if_pos rfl, h4]
  unfold keyS at h5
  rw [if_neg (by omega), if_neg (by decide), soldE_own hl, if_pos rfl] at h5
  unfold takeS at h5
  rw [judge_newP hk.h2] at h5
  have k4 := hk.h4
  rw [if_neg (by decide), if_pos rfl, if_neg (by omega)] at h5
  dsimp only at h5
  injection h5 with e1 h5
  injection h5 with e2 h5
  injection h5 with e3 h5
  injection h5 with e4 h5
  injection h5 with e5 h5
  injection h5 with e6 h5
  unfold madeV at h2
  rw [if_pos rfl] at h2
  injection h2 with m1 h2
  injection h2 with m2 m3
  dsimp only at m2
  omega
/-- The raw numbers of tokens, by their places. -/
def rawsL (f : Nat → Nat → Int) (k : Nat) : List (Int × Int × Int × Int) := (List.range k).map fun i => (f i 0, f i 1, f i 2, f i 3)
theorem rawsL_succ (f : Nat → Nat → Int) (k : Nat) : rawsL f (k + 1) = rawsL f k ++ [(f k 0, f k 1, f k 2, f k 3)] := by unfold rawsL; rw [List.range_succ, List.map_append]; rfl
theorem keyS_eq {l : List Pr} {me rev cr H B bad lock cls id am tag : Nat} : ∃ r2 c2 h2 b2 d2 k2 ad E : Nat, keyS l me rev cr H B bad lock cls id am tag = (r2, c2, h2, b2, d2, k2, ad, E) ∧ E ≠ 5 := by
  have h := keyS_ne5 l me rev cr H B bad lock cls id am tag
  generalize keyS l me rev cr H B bad lock cls id am tag = x at h
  obtain ⟨a, b, c, d, e, f, g, i⟩ := x
  exact ⟨a, b, c, d, e, f, g, i, rfl, h⟩
end Go.Proofs.YtopnlkhepjbjkaaDoor
