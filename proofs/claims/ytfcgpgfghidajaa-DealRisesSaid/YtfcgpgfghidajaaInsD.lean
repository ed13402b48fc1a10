/- Insertion sort is stable where the numbers rise: plain. -/
import Derived.Test.YtfcgpgfghidajaaMergD
namespace Go.Proofs.Ytfcgpgfghidajaa
open Go.RowKit Go.Sort
set_option linter.unusedVariables false
def flt (key : Nat → Nat) (x y : Nat) : Bool := decide (key y < key x ∨ (key x = key y ∧ x < y))
theorem flt_iff {key : Nat → Nat} {x y : Nat} : flt key x y = true ↔ Fst key x y := by unfold flt Fst; simp
theorem ins_perm (lt : Nat → Nat → Bool) (a : Nat) : ∀ (j : Nat) (d : Array Nat), j < d.size → a ≤ j → PermIn a (j + 1) d (insInner lt a j d) := by
  intro j
  induction j with
  | zero => intro d _ _; exact permIn_refl _ _ _
  | succ j ih =>
    intro d hj ha
    simp only [insInner]
    split
    · rename_i h
      simp only [Bool.and_eq_true, decide_eq_true_eq, gt_iff_lt] at h
      have h1 : PermIn a (j + 2) d (swp d (j + 1) j) := swp_permIn d a (j + 2) (j + 1) j (by omega) (by omega) (by omega) (by omega) (by omega)
      have h2 := permIn_mono _ _ a (j + 1) a (j + 2) (Nat.le_refl _) (by omega) (by rw [size_swp]; omega) (ih (swp d (j + 1) j) (by rw [size_swp]; omega) (by omega))
      exact permIn_trans _ _ _ _ _ h1 h2
    · exact permIn_refl _ _ _
theorem ins_inner_eq (key : Nat → Nat) (lt : Nat → Nat → Bool) (hlt : ∀ x y, y < x → lt x y = flt key x y) (a : Nat) : ∀ (j : Nat) (d : Array Nat), j < d.size → (∀ q, a ≤ q → q < j → d[q]! < d[j]!) → insInner lt a j d = insInner (flt key) a j d := by
  intro j
  induction j with
  | zero => intro d _ _; rfl
  | succ j ih =>
    intro d hj h
    simp only [insInner]
    by_cases ha : a ≤ j
    · rw [hlt _ _ (h j ha (by omega))]
      split
      · refine ih (swp d (j + 1) j) (by rw [size_swp]; omega) (fun q h1 h2 => ?_)
        rw [swp_at d (by omega) (by omega), swp_at d (by omega) (by omega), if_neg (by omega), if_neg (by omega), if_pos rfl]
        exact h q h1 (by omega)
      · rfl
    · have e : decide (j + 1 > a) = false := decide_eq_false (by omega)
      rw [e]
      rfl
theorem ins_outer_eq (key : Nat → Nat) (lt : Nat → Nat → Bool) (hlt : ∀ x y, y < x → lt x y = flt key x y) (a b : Nat) : ∀ (n i : Nat) (d : Array Nat), b - i = n → a ≤ i → b ≤ d.size → (∀ p q, a ≤ p → p < q → i ≤ q → q < b → d[p]! < d[q]!) → insOuter lt a b i d = insOuter (flt key) a b i d := by
  intro n
  induction n with
  | zero => intro i d hn _ _ _; rw [insOuter, if_neg (by omega), insOuter, if_neg (by omega)]
  | succ n ih =>
    intro i d hn ha hb h
    rw [insOuter, if_pos (by omega)]
    conv => rhs; rw [insOuter, if_pos (show i < b by omega)]
    have e := ins_inner_eq key lt hlt a i d (by omega) (fun q h1 h2 => h q i h1 h2 (Nat.le_refl _) (by omega))
    rw [e]
    have hp := ins_perm (flt key) a i d (by omega) ha
    refine ih (i + 1) _ (by omega) (by omega) (by rw [hp.1]; exact hb) (fun p q h1 h2 h3 h4 => ?_)
    have eq : (insInner (flt key) a i d)[q]! = d[q]! := hp.2.1 q (by omega)
    rw [eq]
    by_cases hpi : p ≤ i
    · exact permIn_all d _ a (i + 1) (fun v => v < d[q]!) (by omega) hp (fun x h5 h6 => h x q h5 (by omega) (by omega) h4) p h1 (by omega)
    · rw [show (insInner (flt key) a i d)[p]! = d[p]! from hp.2.1 p (by omega)]
      exact h p q h1 h2 (by omega) h4
theorem flt_swo (key : Nat → Nat) : SWO (flt key) := by
  constructor
  all_goals intros
  all_goals simp only [flt, decide_eq_true_eq, decide_eq_false_iff_not] at *
  all_goals omega
/-- What is left by a stable insertion sort. -/
theorem ins_stable (key : Nat → Nat) (lt : Nat → Nat → Bool) (hlt : ∀ x y, y < x → lt x y = flt key x y) (a b : Nat) (d : Array Nat) (hab : a ≤ b) (hb : b ≤ d.size) (h : ∀ p q, a ≤ p → p < q → q < b → d[p]! < d[q]!) :
    PermIn a b d (insertionSort lt d a b) ∧ Srt key a b (insertionSort lt d a b) := by
  have e : insertionSort lt d a b = insertionSort (flt key) d a b := ins_outer_eq key lt hlt a b _ (a + 1) d rfl (by omega) hb (fun p q h1 h2 _ h4 => h p q h1 h2 h4)
  obtain ⟨h1, h2⟩ := insertionSort_holds (flt_swo key) d a b hab hb
  rw [e]
  refine ⟨h1, fun i j hi hij hj => ?_⟩
  have h3 := h2 i j hi hij hj
  have hne : (insertionSort (flt key) d a b)[i]! ≠ (insertionSort (flt key) d a b)[j]! := by
    have hnd : (d.extract a b).toList.Nodup := by
      rw [extract_toList d a b hb]
      show List.Pairwise (fun x y => x ≠ y) _
      rw [List.pairwise_iff_getElem]
      intro p q hp hq hpq
      simp at hp hq
      simp only [List.getElem_map, List.getElem_range']
      have := h (a + 1 * p) (a + 1 * q) (by omega) (by omega) (by omega)
      omega
    have hnd2 : List.Pairwise (fun x y => x ≠ y) _ := h1.2.2.nodup_iff.2 hnd
    have hs := h1.1
    rw [extract_toList _ a b (by omega), List.pairwise_iff_getElem] at hnd2
    have := hnd2 (i - a) (j - a) (by simp; omega) (by simp; omega) (by omega)
    simp only [List.getElem_map, List.getElem_range'] at this
    rw [show a + 1 * (i - a) = i by omega, show a + 1 * (j - a) = j by omega] at this
    exact this
  simp only [flt, decide_eq_false_iff_not] at h3
  unfold Fst
  omega
end Go.Proofs.Ytfcgpgfghidajaa
