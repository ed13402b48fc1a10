/- The keypad's laws: what they share. -/
import Derived.Test.YthhbnmmhjfgpdaaDoorKeys
import Derived.Test.YthhbnmmhjfgpdaaDoorNum
import Derived.Test.YthhbnmmhjfgpdaaDoorEq
namespace Go.Proofs.YthhbnmmhjfgpdaaDoor
open Go.RowKit
set_option linter.unusedVariables false
theorem runeOf_valid {r : Int} (h : Utf8.valid r = true) : ((runeOf r : Nat) : Int) = r := by
  unfold runeOf
  rw [if_pos h]
  unfold Utf8.valid at h
  simp at h
  omega
theorem kv_plain (d : Nat) (h : d ≤ 9) : kv (48 + (d : Int)) = d := by
  unfold kv
  rw [if_pos (by omega)]
  omega
/-- Digits and an end behind them. -/
theorem kkeys_end (R : List Int) (hk : ∀ r ∈ R, 0 ≤ kv r) (h0 : 0 < R.length) (hl : R.length ≤ 30) :
    kkeys (R ++ [35]) (([], false), []) = (([], false), [(R.map (fun r => (kv r).toNat), 0)]) := by
  rw [kkeys_append, kkeys_digits R hk [] false (by simpa using hl), List.nil_append]
  have hne : R.map (fun r => (kv r).toNat) ≠ [] := by
    intro h
    have := congrArg List.length h
    simp at this; subst this; simp at h0
  simp [kkeys, kstep, kpress, hne]
theorem keys_runes (R : List Int) (w : World) (hv : ∀ r ∈ R, Utf8.valid r = true) (hs : R.length ≤ 500) :
    Calls Tryd.prog 10 #[.string (rtext R)] w (RetKeys (kkeys R (([], false), [])) w) := by
  have h := keys_told (rtext R) (R.map runeOf) w (told_all R) (by have := rtext_size R; omega)
  rw [List.map_map] at h
  have e : R.map ((fun n : Nat => (n : Int)) ∘ runeOf) = R := by
    conv => rhs; rw [← List.map_id R]
    exact List.map_congr_left fun r hr => runeOf_valid (hv r hr)
  rw [e] at h
  exact h
theorem rtext_end (R : List Int) : rtext (R ++ [35]) = rtext R ++ ⟨#[35]⟩ := by
  rw [rtext_append]; rfl
/-- One entry, an empty pad. -/
def RetOne (ds : List Nat) (w : World) (e : Ending) (w' : World) : Prop :=
  ∃ (A : Option Addr) (c : Nat), e = .returned (.tuple #[.slice A 1 c, .agg #[.string ByteArray.empty, .bool false], .int .i64 0]) ∧ w'.ownsRow w.heap.size 31 2 (.slice A 1 c) 1 [.string (dstr ds), .int .i64 0] ∧ Below w.heap.size w w'
theorem keys_one (R : List Int) (ds : List Nat) (w : World) (hv : ∀ r ∈ R, Utf8.valid r = true) (hk : ∀ r ∈ R, 0 ≤ kv r) (h0 : 0 < R.length) (hl : R.length ≤ 30) (hds : R.map (fun r => (kv r).toNat) = ds) :
    Calls Tryd.prog 10 #[.string (rtext R ++ ⟨#[35]⟩)] w (RetOne ds w) := by
  have h := keys_runes (R ++ [35]) w (fun r hr => by
    rcases List.mem_append.1 hr with h1 | h1
    · exact hv r h1
    · simp at h1; subst h1; decide) (by simp; omega)
  rw [rtext_end, kkeys_end R hk h0 hl, hds] at h
  exact h
theorem keys_digits (ds : List Nat) (w : World) (hd : ∀ d ∈ ds, d ≤ 9) (h0 : 0 < ds.length) (hl : ds.length ≤ 30) :
    Calls Tryd.prog 10 #[.string (dstr ds ++ ⟨#[35]⟩)] w (RetOne ds w) := by
  have e := rtext_dstr ds hd
  rw [← e]
  refine keys_one _ ds w (fun r hr => ?_) (fun r hr => ?_) (by simpa using h0) (by simpa using hl) ?_
  · obtain ⟨d, hm, rfl⟩ := List.mem_map.1 hr
    have := hd d hm
    unfold Utf8.valid; simp; omega
  · obtain ⟨d, hm, rfl⟩ := List.mem_map.1 hr
    have := kv_plain d (hd d hm)
    simp at this ⊢; omega
  · rw [List.map_map]
    conv => rhs; rw [← List.map_id ds]
    refine List.map_congr_left fun d hm => ?_
    have := kv_plain d (hd d hm)
    simp at this ⊢; omega
theorem pad_eql (s s' : ByteArray) (b b' : Bool) (W : World) : (Op.equalIn 10000 26 (.agg #[.string s, .bool b]) (.agg #[.string s', .bool b'])).run Tryd.prog W = .ok ((s.toList == s'.toList) && (b == b')) W := by
  have h := eq_is (P := Tryd.prog) (t := 26) [.string s, .bool b] [.string s', .bool b'] W (by kernel_rfl) (mkv_struct Tryd.underlying26)
  simpa [cellsEq, leafEq] using h
theorem ent_eql (s s' : ByteArray) (b b' : Int) (W : World) : (Op.equalIn 10000 31 (.agg #[.string s, .int .i64 b]) (.agg #[.string s', .int .i64 b'])).run Tryd.prog W = .ok ((s.toList == s'.toList) && (b == b')) W := by
  have h := eq_is (P := Tryd.prog) (t := 31) [.string s, .int .i64 b] [.string s', .int .i64 b'] W (by kernel_rfl) (mkv_struct Tryd.underlying31)
  simpa [cellsEq, leafEq] using h
end Go.Proofs.YthhbnmmhjfgpdaaDoor
