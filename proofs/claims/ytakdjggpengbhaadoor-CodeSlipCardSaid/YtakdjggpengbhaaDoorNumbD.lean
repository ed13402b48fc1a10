/- Numbers as digits, read by the library: plain. -/
import Derived.Test.YtakdjggpengbhaaDoorStr
import Derived.Test.YtakdjggpengbhaaDoorDecD
import Derived.Lib.Atoi
import Derived.Lib.ParseIntB
namespace Go.Proofs.YtakdjggpengbhaaDoor
open Go.RowKit
set_option linter.unusedVariables false
theorem digitVal_dg {d : Nat} (h : d ≤ 9) : Lib.digitVal (dg d) = some d := by
  unfold Lib.digitVal
  rw [dg_toNat h, if_pos (by omega)]
  congr 1; omega
theorem decFrom_dig : ∀ (l : List Nat) (acc : Nat), (∀ d ∈ l, d ≤ 9) → Lib.decFrom acc (l.map dg) = some (l.foldl (fun n d => n * 10 + d) acc)
  | [], acc, _ => rfl
  | d :: l, acc, h => by
    rw [List.map_cons, Lib.decFrom, digitVal_dg (h d (by simp))]
    exact decFrom_dig l _ (fun x hx => h x (by simp [hx]))
theorem atoi_dig {l : List Nat} (h : ∀ d ∈ l, d ≤ 9) (h0 : 0 < l.length) : Lib.atoi (dstr l).data.toList = some (val10 l : Int) := by
  rw [dstr_toList]
  cases l with
  | nil => simp at h0
  | cons d l =>
    have h9 := h d (by simp)
    have n1 : (dg d == 45) = false := by
      have : dg d ≠ 45 := fun e => by have := congrArg UInt8.toNat e; rw [dg_toNat h9] at this; simp at this; omega
      simpa using this
    have n2 : (dg d == 43) = false := by
      have : dg d ≠ 43 := fun e => by have := congrArg UInt8.toNat e; rw [dg_toNat h9] at this; simp at this; omega
      simpa using this
    have hd := decFrom_dig (d :: l) 0 h
    rw [List.map_cons] at hd ⊢
    unfold Lib.atoi
    simp only [n1, n2, Bool.false_eq_true, if_false]
    unfold Lib.decNat
    simp only [List.isEmpty_cons, Bool.false_eq_true, if_false, hd]
    rfl
/-- A one ahead of a number of fixed width. -/
theorem dec_lead {k n : Nat} (h : n < 10 ^ k) (h0 : 0 < k) : dec (10 ^ k + n) = 1 :: pad k n := by
  have hl := pad_len h h0
  have hv : val10 (1 :: pad k n) = 10 ^ k + n := by rw [val10_cons, val10_pad, hl]; omega
  have hd := dec_val (l := 1 :: pad k n) (by simp) (fun d hd => by
    rcases List.mem_cons.1 hd with h | h
    · omega
    · exact pad_le _ _ d h) (.inr (by simp))
  rw [hv] at hd
  exact hd
theorem fold_ge : ∀ (l : List Nat) (a : Nat), a ≤ l.foldl (fun n d => n * 10 + d) a
  | [], a => Nat.le_refl _
  | d :: l, a => Nat.le_trans (by omega : a ≤ a * 10 + d) (fold_ge l _)
theorem parseM_dig (M : Nat) (hM : 1000000000000000000 ≤ M) : ∀ (l : List Nat) (acc : Nat), (∀ d ∈ l, d ≤ 9) → l.foldl (fun n d => n * 10 + d) acc ≤ 1000000000000000000 → Lib.parseUintM M acc (l.map dg) = .ok (l.foldl (fun n d => n * 10 + d) acc)
  | [], acc, _, _ => rfl
  | d :: l, acc, h, hb => by
    have h9 := h d (by simp)
    have hg := fold_ge l (acc * 10 + d)
    rw [List.foldl_cons] at hb
    rw [List.map_cons, Lib.parseUintM, dg_toNat h9, if_pos (by omega), if_neg (by omega), show acc * 10 + (48 + d - 48) = acc * 10 + d by omega, if_neg (by omega)]
    exact parseM_dig M hM l _ (fun x hx => h x (by simp [hx])) hb
theorem parseI_dig {l : List Nat} (h : ∀ d ∈ l, d ≤ 9) (h0 : 0 < l.length) (hv : val10 l ≤ 1000000000000000000) : Lib.parseIntB 64 (dstr l).data.toList = .ok (val10 l : Int) := by
  rw [dstr_toList]
  cases l with
  | nil => simp at h0
  | cons d l =>
    have h9 := h d (by simp)
    have hp := parseM_dig (2 ^ 64 - 1) (by decide) (d :: l) 0 h hv
    have hd := dg_toNat h9
    rw [List.map_cons] at hp ⊢
    unfold Lib.parseIntB
    dsimp only
    rw [if_neg (by rw [hd]; omega)]
    unfold Lib.parseUintB
    rw [if_neg (by simp), hp]
    dsimp only
    have hv' : (d :: l).foldl (fun n d => n * 10 + d) 0 ≤ 1000000000000000000 := hv
    rw [if_neg (by rintro ⟨_, h2⟩; omega), if_neg (by rintro ⟨h2, _⟩; omega), if_neg (by omega)]
    rfl
end Go.Proofs.YtakdjggpengbhaaDoor
