/- Amounts as texts: plain. -/
import Derived.Test.YthhbnmmhjfgpdaaDoorStr
import Derived.Test.YthhbnmmhjfgpdaaDoorDecD
import Derived.Laws.RangeAny
import Derived.Lib.Bytealg
import Derived.Lib.ItoaNum
namespace Go.Proofs.YthhbnmmhjfgpdaaDoor
open Go.RowKit
set_option linter.unusedVariables false
/-- An amount's text out of its sign, its whole units' digits, its cents' digits. -/
def moneyS (neg : Bool) (D : List Nat) (a b : Nat) : ByteArray := (if neg then ⟨#[45]⟩ else ⟨#[]⟩) ++ (dstr D ++ ⟨#[46]⟩ ++ dstr [a, b])
/-- The text of an amount. -/
def shown (m : Int) : ByteArray := moneyS (decide (m < 0)) (dec (m.natAbs / 100)) (m.natAbs % 100 / 10) (m.natAbs % 10)
theorem cat_assoc (a b c : ByteArray) : a ++ b ++ c = a ++ (b ++ c) := by apply str_ext; simp
theorem decDigits_dec (u : Nat) : Lib.decDigits u = (dec u).map dg := by
  induction u using Nat.strongRecOn with
  | _ u ih =>
    by_cases h : u < 10
    · rw [Lib.decDigits, dif_pos h, dec_small h]; rfl
    · rw [Lib.decDigits, dif_neg h, dec_big h, ih (u / 10) (by omega), List.map_append]; rfl
theorem itoa_str (u : Nat) : (⟨(Lib.itoa (u : Int)).toArray⟩ : ByteArray) = dstr (dec u) := by
  have e : Lib.itoa (u : Int) = Lib.decDigits u := by unfold Lib.itoa; rw [if_neg (by omega)]; simp
  rw [e, decDigits_dec]; rfl
theorem dec_three (r : Nat) (h : r < 100) : dec (100 + r) = [1, r / 10, r % 10] := by
  rw [dec_big (by omega), dec_big (by omega), dec_small (by omega)]
  simp
  omega
/-- What is read: the sign is right, the whole digits are canonical. -/
def Canon (neg : Bool) (D : List Nat) (a b : Nat) : Prop :=
  0 < D.length ∧ (∀ d ∈ D, d ≤ 9) ∧ a ≤ 9 ∧ b ≤ 9 ∧ (D.length = 1 ∨ D[0]? ≠ some 0) ∧ val10 (D ++ [a, b]) ≤ 1000000000000 ∧ (neg = true → 0 < val10 (D ++ [a, b]))
theorem val_two (D : List Nat) (a b : Nat) : val10 (D ++ [a, b]) = val10 D * 100 + a * 10 + b := by
  rw [show D ++ [a, b] = (D ++ [a]) ++ [b] by simp, val10_snoc, val10_snoc]; omega
def signed (neg : Bool) (n : Nat) : Int := if neg then -(n : Int) else n
theorem shown_canon {neg : Bool} {D : List Nat} {a b : Nat} (h : Canon neg D a b) : shown (signed neg (val10 (D ++ [a, b]))) = moneyS neg D a b := by
  obtain ⟨h0, h1, h2, h3, h4, h5, h6⟩ := h
  obtain ⟨v, hv⟩ : ∃ v, val10 (D ++ [a, b]) = v := ⟨_, rfl⟩
  have hvd := val_two D a b
  rw [hv] at hvd h6 ⊢
  have e1 : (signed neg v).natAbs = v := by unfold signed; split <;> omega
  have e2 : decide (signed neg v < 0) = neg := by
    unfold signed
    cases neg with
    | true => have := h6 rfl; simp; omega
    | false => simp
  unfold shown
  rw [e1, e2, show v / 100 = val10 D by omega, show v % 100 / 10 = a by omega, show v % 10 = b by omega, dec_val h0 h1 h4]
theorem canon_shown (m : Int) (h0 : -1000000000000 ≤ m) (h1 : m ≤ 1000000000000) : Canon (decide (m < 0)) (dec (m.natAbs / 100)) (m.natAbs % 100 / 10) (m.natAbs % 10) ∧ signed (decide (m < 0)) (val10 (dec (m.natAbs / 100) ++ [m.natAbs % 100 / 10, m.natAbs % 10])) = m := by
  obtain ⟨v, hv⟩ : ∃ v, m.natAbs = v := ⟨_, rfl⟩
  rw [hv]
  have e : val10 (dec (v / 100) ++ [v % 100 / 10, v % 10]) = v := by rw [val_two, val10_dec]; omega
  refine ⟨⟨dec_pos _, dec_le _, by omega, by omega, ?_, by rw [e]; omega, ?_⟩, ?_⟩
  · by_cases hz : v / 100 = 0
    · rw [hz, dec_small (by omega)]; exact .inl rfl
    · obtain ⟨d, l, hd, hd1⟩ := dec_head (v / 100) (by omega)
      rw [hd]
      refine .inr ?_
      simp; omega
  · rw [e]; simp; omega
  · rw [e]; unfold signed
    by_cases hm : m < 0
    · simp [hm]; omega
    · simp [hm]; omega
/-- Where a byte stands first. -/
theorem indexByte_spec (c : UInt8) : ∀ l : List UInt8, (Lib.indexByte l c = -1 ∧ c ∉ l) ∨ (∃ (p q : List UInt8), l = p ++ c :: q ∧ c ∉ p ∧ Lib.indexByte l c = (p.length : Int))
  | [] => .inl ⟨rfl, by simp⟩
  | b :: l => by
    by_cases hb : b = c
    · subst hb
      refine .inr ⟨[], l, rfl, by simp, ?_⟩
      simp [Lib.indexByte]
    · have hbc : (b == c) = false := by simpa using hb
      rcases indexByte_spec c l with ⟨h1, h2⟩ | ⟨p, q, rfl, h2, h3⟩
      · refine .inl ⟨?_, ?_⟩
        · simp [Lib.indexByte, hbc, h1]
        · simp; exact ⟨fun h => hb h.symm, h2⟩
      · refine .inr ⟨b :: p, q, rfl, ?_, ?_⟩
        · simp; exact ⟨fun h => hb h.symm, h2⟩
        · have h9 : ((p.length : Int) == -1) = false := by rw [beq_eq_false_iff_ne]; omega
          simp only [Lib.indexByte, hbc, Bool.false_eq_true, if_false, h3, h9]
          simp
/-- Text before and behind the first full stop; is there one? -/
theorem cut_spec (s : ByteArray) : (Lib.indexByte s.data.toList 46 = -1) ∨ (∃ (wh la : ByteArray), s = wh ++ ⟨#[46]⟩ ++ la ∧ (46 : UInt8) ∉ wh.data.toList ∧ Lib.indexByte s.data.toList 46 = (wh.size : Int) ∧ s.extract 0 wh.size = wh ∧ s.extract (wh.size + 1) s.size = la ∧ s.size = wh.size + 1 + la.size) := by
  rcases indexByte_spec 46 s.data.toList with ⟨h, _⟩ | ⟨p, q, h1, h2, h3⟩
  · exact .inl h
  · have hp : (⟨p.toArray⟩ : ByteArray).data.toList = p := by simp
    have hq : (⟨q.toArray⟩ : ByteArray).data.toList = q := by simp
    have hps : (⟨p.toArray⟩ : ByteArray).size = p.length := by show p.toArray.size = _; simp
    have hqs : (⟨q.toArray⟩ : ByteArray).size = q.length := by show q.toArray.size = _; simp
    have hss : s.size = p.length + 1 + q.length := by
      show s.data.size = _
      rw [← Array.length_toList, h1]; simp; omega
    refine .inr ⟨⟨p.toArray⟩, ⟨q.toArray⟩, ?_, by rw [hp]; exact h2, by rw [hps]; exact h3, ?_, ?_, by rw [hps, hqs]; exact hss⟩
    · apply str_ext
      rw [app_toList, app_toList, hp, hq, h1]
      simp
    · apply str_ext
      rw [Lib.extract_data, hp, hps, h1]
      simp
    · apply str_ext
      rw [Lib.extract_data, hq, hps, hss, h1]
      simp
theorem prefix_spec (s : ByteArray) : (Lib.hasPrefix s.data.toList [45] = true ∧ ∃ B : ByteArray, s = ⟨#[45]⟩ ++ B ∧ (⟨(Lib.trimPrefix s.data.toList [45]).toArray⟩ : ByteArray) = B ∧ s.size = B.size + 1) ∨ (Lib.hasPrefix s.data.toList [45] = false ∧ (⟨(Lib.trimPrefix s.data.toList [45]).toArray⟩ : ByteArray) = s) := by
  unfold Lib.trimPrefix Lib.hasPrefix
  cases h : s.data.toList with
  | nil =>
    refine .inr ⟨rfl, ?_⟩
    apply str_ext; simp [h]
  | cons c l =>
    by_cases hc : c = 45
    · subst hc
      refine .inl ⟨by simp, ⟨l.toArray⟩, ?_, by simp, ?_⟩
      · apply str_ext; rw [app_toList, h]; simp
      · show s.data.size = l.toArray.size + 1
        rw [← Array.length_toList, h]; simp
    · have hp : ([45] : List UInt8).isPrefixOf (c :: l) = false := by
        simp [List.isPrefixOf]; exact fun h => hc h.symm
      refine .inr ⟨hp, ?_⟩
      rw [hp]
      apply str_ext; simp [h]
/-- A text is digits, or it has a first sign that is none. -/
theorem digits_or (s : ByteArray) : (∃ l : List Nat, (∀ d ∈ l, d ≤ 9) ∧ s = dstr l) ∨ (∃ (j : Nat) (hj : j < s.size), ¬ (48 ≤ s[j].toNat ∧ s[j].toNat ≤ 57) ∧ ∀ (i : Nat) (hi : i < j), 48 ≤ (s[i]'(by omega)).toNat ∧ (s[i]'(by omega)).toNat ≤ 57) := by
  by_cases h : ∃ (j : Nat) (hj : j < s.size), ¬ (48 ≤ s[j].toNat ∧ s[j].toNat ≤ 57)
  · refine .inr ?_
    obtain ⟨j, hj, hn⟩ := h
    induction j using Nat.strongRecOn with
    | _ j ih =>
      by_cases h2 : ∃ (i : Nat) (hi : i < j), ¬ (48 ≤ (s[i]'(by omega)).toNat ∧ (s[i]'(by omega)).toNat ≤ 57)
      · obtain ⟨i, hi, hni⟩ := h2
        exact ih i hi (by omega) hni
      · exact ⟨j, hj, hn, fun i hi => Classical.byContradiction fun hc => h2 ⟨i, hi, hc⟩⟩
  · refine .inl ⟨s.data.toList.map fun b => b.toNat - 48, fun d hd => ?_, ?_⟩
    · obtain ⟨b, hb, rfl⟩ := List.mem_map.1 hd
      obtain ⟨i, hi, rfl⟩ := List.getElem_of_mem hb
      have hi' : i < s.size := by simpa using hi
      have := Classical.byContradiction fun hc => h ⟨i, hi', hc⟩
      have e : s.data.toList[i] = s[i]'hi' := by simp; rfl
      rw [e]; omega
    · apply str_ext
      rw [dstr_toList, List.map_map]
      conv => lhs; rw [← List.map_id s.data.toList]
      refine List.map_congr_left fun b hb => ?_
      obtain ⟨i, hi, rfl⟩ := List.getElem_of_mem hb
      have hi' : i < s.size := by simpa using hi
      have := Classical.byContradiction fun hc => h ⟨i, hi', hc⟩
      have e : s.data.toList[i] = s[i]'hi' := by simp; rfl
      rw [e]
      show s[i] = dg (s[i].toNat - 48)
      unfold dg
      rw [show 48 + (s[i].toNat - 48) = s[i].toNat by omega]
      simp
theorem sign_run {s : ByteArray} {j : Nat} (hj : j < s.size) (hn : ¬ (48 ≤ s[j].toNat ∧ s[j].toNat ≤ 57)) : (Utf8.decode s j).1 < 48 ∨ 57 < (Utf8.decode s j).1 := by
  by_cases h : s[j].toNat < 128
  · rw [decode_ascii s j hj h]; dsimp only; omega
  · have := (decode_high s j hj (by omega)).1; omega
/-- A number's digits, never beyond a bound. -/
def satv (l : List Nat) : Nat := min (val10 l) 1000000000001
theorem satv_nil : satv [] = 0 := rfl
theorem satv_snoc (l : List Nat) (d : Nat) : satv (l ++ [d]) = min (satv l * 10 + d) 1000000000001 := by
  unfold satv; rw [val10_snoc]; omega
theorem satv_small {l : List Nat} (h : val10 l ≤ 1000000000000) : satv l = val10 l := by unfold satv; omega
theorem satv_big {l : List Nat} (h : ¬ val10 l ≤ 1000000000000) : satv l = 1000000000001 := by unfold satv; omega
theorem satv_le (l : List Nat) : satv l ≤ 1000000000001 := by unfold satv; omega
end Go.Proofs.YthhbnmmhjfgpdaaDoor
