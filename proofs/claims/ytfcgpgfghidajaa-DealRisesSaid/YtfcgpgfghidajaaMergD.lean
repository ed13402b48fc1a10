/- Merging two runs in place: plain. -/
import Derived.Test.YtfcgpgfghidajaaRotD
namespace Go.Proofs.Ytfcgpgfghidajaa
open Go.RowKit Go.Sort
set_option linter.unusedVariables false
theorem Fst.trans {key : Nat → Nat} {i j k : Nat} (h : Fst key i j) (h2 : Fst key j k) : Fst key i k := by unfold Fst at *; omega
def Srt (key : Nat → Nat) (a b : Nat) (d : Array Nat) : Prop := ∀ i j, a ≤ i → i < j → j < b → Fst key d[i]! d[j]!
/-- The places of the left run hold lesser numbers. -/
def Low (a m b : Nat) (d : Array Nat) : Prop := ∀ i j, a ≤ i → i < m → m ≤ j → j < b → d[i]! < d[j]!
theorem Srt.le {key : Nat → Nat} {a b : Nat} {d : Array Nat} (h : Srt key a b d) {i j : Nat} (h1 : a ≤ i) (h2 : i ≤ j) (h3 : j < b) {x : Nat} (h4 : Fst key d[j]! x) : Fst key d[i]! x := by
  rcases Nat.lt_or_eq_of_le h2 with e | rfl
  · exact (h i j h1 e h3).trans h4
  · exact h4
theorem Srt.ge {key : Nat → Nat} {a b : Nat} {d : Array Nat} (h : Srt key a b d) {i j : Nat} (h1 : a ≤ i) (h2 : i ≤ j) (h3 : j < b) {x : Nat} (h4 : Fst key x d[i]!) : Fst key x d[j]! := by
  rcases Nat.lt_or_eq_of_le h2 with e | rfl
  · exact h4.trans (h i j h1 e h3)
  · exact h4
/-- The comparison tells who comes first, if the left one is of the left run. -/
theorem fst_right {key : Nat → Nat} {x y : Nat} (h : x < y) : Fst key y x ↔ key x < key y := by unfold Fst; omega
theorem fst_left {key : Nat → Nat} {x y : Nat} (h : x < y) : Fst key x y ↔ ¬ key x < key y := by unfold Fst; omega
theorem merge_up {key : Nat → Nat} {a b i : Nat} {d d' : Array Nat} (hb : b ≤ d.size) (hi : a + 1 ≤ i) (hib : i ≤ b) (hs : Srt key (a + 1) b d) (h1 : ∀ h, a + 1 ≤ h → h < i → Fst key d[h]! d[a]!) (h2 : ∀ h, i ≤ h → h < b → Fst key d[a]! d[h]!) (hU : Up a (i - 1) d d') : Srt key a b d' := by
  intro x y hx hxy hy
  rw [hU x (by omega), hU y (by omega)]
  repeat' split
  all_goals first | (exfalso; omega) | exact hs _ _ (by omega) (by omega) (by omega) | exact h1 _ (by omega) (by omega) | exact h2 _ (by omega) (by omega)
theorem merge_dn {key : Nat → Nat} {a m i : Nat} {d d' : Array Nat} (hb : m < d.size) (hi : a ≤ i) (him : i ≤ m) (hs : Srt key a m d) (h1 : ∀ h, a ≤ h → h < i → Fst key d[h]! d[m]!) (h2 : ∀ h, i ≤ h → h < m → Fst key d[m]! d[h]!) (hD : Dn m i d d') : Srt key a (m + 1) d' := by
  intro x y hx hxy hy
  rw [hD x (by omega), hD y (by omega)]
  repeat' split
  all_goals first | (exfalso; omega) | exact hs _ _ (by omega) (by omega) (by omega) | exact h1 _ (by omega) (by omega) | exact h2 _ (by omega) (by omega)
/-- Both halves behind the rotation. -/
theorem merge_rot {key : Nat → Nat} {a s m e b mid : Nat} {d d' : Array Nat} (hb : b ≤ d.size) (g1 : a ≤ s) (g2 : s ≤ m) (g3 : m ≤ e) (g4 : e ≤ b) (hmid : s + (e - m) = mid) (hL : Srt key a m d) (hR : Srt key m b d) (hlow : Low a m b d)
    (H1 : ∀ x y, a ≤ x → x < s → e ≤ y → y < b → Fst key d[x]! d[y]!) (H2 : ∀ x y, s ≤ x → x < m → m ≤ y → y < e → Fst key d[y]! d[x]!) (hrot : Rot s m e d d') :
    Srt key a s d' ∧ Srt key s mid d' ∧ Low a s mid d' ∧ Srt key mid e d' ∧ Srt key e b d' ∧ Low mid e b d' ∧ ∀ x y, a ≤ x → x < mid → mid ≤ y → y < b → Fst key d'[x]! d'[y]! := by
  refine ⟨fun x y hx hxy hy => ?_, fun x y hx hxy hy => ?_, fun x y hx hxy hy hz => ?_, fun x y hx hxy hy => ?_, fun x y hx hxy hy => ?_, fun x y hx hxy hy hz => ?_, fun x y hx hxy hy hz => ?_⟩
  all_goals rw [hrot x (by omega), hrot y (by omega)]
  all_goals repeat' split
  all_goals first | (exfalso; omega) | exact hL _ _ (by omega) (by omega) (by omega) | exact hR _ _ (by omega) (by omega) (by omega) | exact hlow _ _ (by omega) (by omega) (by omega) (by omega) | exact H1 _ _ (by omega) (by omega) (by omega) (by omega) | exact H2 _ _ (by omega) (by omega) (by omega) (by omega)
/-- The whole, once both halves are sorted. -/
theorem merge_all {key : Nat → Nat} {a b mid : Nat} {d d2 d3 : Array Nat} (hb : b ≤ d.size) (g1 : a ≤ mid) (g2 : mid ≤ b) (hc : ∀ x y, a ≤ x → x < mid → mid ≤ y → y < b → Fst key d[x]! d[y]!) (p1 : PermIn a mid d d2) (s1 : Srt key a mid d2) (p2 : PermIn mid b d2 d3) (s2 : Srt key mid b d3) : Srt key a b d3 := by
  intro x y hx hxy hy
  by_cases hx2 : x < mid
  · have e1 : d3[x]! = d2[x]! := p2.2.1 x (by omega)
    by_cases hy2 : y < mid
    · have e2 : d3[y]! = d2[y]! := p2.2.1 y (by omega)
      rw [e1, e2]; exact s1 x y hx hxy hy2
    · have k1 : ∀ y, mid ≤ y → y < b → ∀ x, a ≤ x → x < mid → Fst key d2[x]! d[y]! := fun y h1 h2 => permIn_all d d2 a mid (fun v => Fst key v d[y]!) (by omega) p1 (fun x h3 h4 => hc x y h3 h4 h1 h2)
      have k2 : ∀ y, mid ≤ y → y < b → Fst key d2[x]! d2[y]! := fun y h1 h2 => by rw [show d2[y]! = d[y]! from p1.2.1 y (by omega)]; exact k1 y h1 h2 x hx hx2
      rw [e1]
      exact permIn_all d2 d3 mid b (fun v => Fst key d2[x]! v) (by rw [p1.1]; exact hb) p2 k2 y (by omega) hy
  · exact s2 x y (by omega) hxy hy
/-- Where the binary search has cut. -/
theorem merge_cut {key : Nat → Nat} {a m b mid s s0 r0 : Nat} {d : Array Nat} (hb : b ≤ d.size) (ham : a < m) (hmb : m < b) (hmid : mid = (a + b) / 2) (hs0 : s0 = if mid < m then mid + m - b else a) (hr0 : r0 = if mid < m then mid else m) (h1 : s0 ≤ s) (h2 : s ≤ r0) (hL : Srt key a m d) (hR : Srt key m b d)
    (hlo : s0 < s → Fst key d[s - 1]! d[mid + m - 1 - (s - 1)]!) (hhi : s < r0 → Fst key d[mid + m - 1 - s]! d[s]!) :
    a ≤ s ∧ s ≤ m ∧ m ≤ mid + m - s ∧ mid + m - s ≤ b ∧ s + (mid + m - s - m) = mid ∧ s ≤ mid ∧
    (∀ x y, a ≤ x → x < s → mid + m - s ≤ y → y < b → Fst key d[x]! d[y]!) ∧ (∀ x y, s ≤ x → x < m → m ≤ y → y < mid + m - s → Fst key d[y]! d[x]!) := by
  have hq : a ≤ s0 ∧ r0 ≤ m ∧ r0 ≤ mid ∧ mid + m - b ≤ s0 ∧ (s0 = a ∨ s0 = mid + m - b) ∧ (r0 = m ∨ r0 = mid) := by
    by_cases h : mid < m
    · rw [if_pos h] at hs0 hr0; omega
    · rw [if_neg h] at hs0 hr0; omega
  obtain ⟨q1, q2, q3, q4, q5, q6⟩ := hq
  refine ⟨by omega, by omega, by omega, by omega, by omega, by omega, fun x y hx hxs hy hyb => ?_, fun x y hx hxm hy hye => ?_⟩
  · by_cases e : s0 < s
    · have k := hlo e
      have e1 : mid + m - 1 - (s - 1) = mid + m - s := by omega
      rw [e1] at k
      exact hR.ge (by omega) hy hyb (hL.le hx (show x ≤ s - 1 by omega) (by omega) k)
    · omega
  · by_cases e : s < r0
    · have k := hhi e
      have e1 : mid + m - 1 - s = mid + m - s - 1 := by omega
      rw [e1] at k
      exact hL.ge (by omega) hx hxm (hR.le hy (show y ≤ mid + m - s - 1 by omega) (by omega) k)
    · omega
end Go.Proofs.Ytfcgpgfghidajaa
