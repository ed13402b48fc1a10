/- Tokens: bounds, faults, bodies: plain. -/
import Derived.Laws.Bits64b
import Derived.WalkKit
import Derived.Lib.Hide
import Derived.IntWalk
namespace Go.Proofs.Ythhbnmmhjfgpdaa
open Go.RowKit
/-- The bounds of the amount of a class. -/
def cb (cls : Int) : Int × Int × Bool := if cls = 0 then (1, 2097151, true) else if cls = 2 then (1, 15, true) else if cls = 1 ∨ cls = 3 then (0, 0, true) else (0, 0, false)
/-- What is wrong with a token. -/
def tfault (cls id am tag : Int) : Int :=
  if (cb cls).2.2 = false then 9 else if id < 1 ∨ 1048575 < id ∨ am < (cb cls).1 ∨ (cb cls).2.1 < am ∨ tag < 0 ∨ 65535 < tag then 2 else 0
/-- A token that may be. -/
structure TkOk (cls id am tag : Nat) : Prop where
  h1 : cls ≤ 3
  h2 : 1 ≤ id
  h3 : id ≤ 1048575
  h4 : (cls = 0 ∧ 1 ≤ am ∧ am ≤ 2097151) ∨ (cls = 1 ∧ am = 0) ∨ (cls = 2 ∧ 1 ≤ am ∧ am ≤ 15) ∨ (cls = 3 ∧ am = 0)
  h5 : tag ≤ 65535
theorem TkOk.am {cls id am tag : Nat} (h : TkOk cls id am tag) : am ≤ 2097151 := by have := h.h4; omega
theorem tfault_zero {cls id am tag : Int} (h : tfault cls id am tag = 0) : ∃ c i a t : Nat, cls = c ∧ id = i ∧ am = a ∧ tag = t ∧ TkOk c i a t := by
  have key : ∀ lo hi : Int, cb cls = (lo, hi, true) → 1 ≤ id ∧ id ≤ 1048575 ∧ lo ≤ am ∧ am ≤ hi ∧ 0 ≤ tag ∧ tag ≤ 65535 := by
    intro lo hi hc
    unfold tfault at h
    rw [hc] at h
    dsimp only at h
    rw [if_neg (by simp)] at h
    by_cases hx : id < 1 ∨ 1048575 < id ∨ am < lo ∨ hi < am ∨ tag < 0 ∨ 65535 < tag
    · rw [if_pos hx] at h; cases h
    · omega
  by_cases c0 : cls = 0
  · subst c0
    have := key 1 2097151 (by unfold cb; rw [if_pos rfl])
    exact ⟨0, id.toNat, am.toNat, tag.toNat, by omega, by omega, by omega, by omega, ⟨by omega, by omega, by omega, by omega, by omega⟩⟩
  · by_cases c2 : cls = 2
    · subst c2
      have := key 1 15 (by unfold cb; rw [if_neg c0, if_pos rfl])
      exact ⟨2, id.toNat, am.toNat, tag.toNat, by omega, by omega, by omega, by omega, ⟨by omega, by omega, by omega, by omega, by omega⟩⟩
    · by_cases c13 : cls = 1 ∨ cls = 3
      · have := key 0 0 (by unfold cb; rw [if_neg c0, if_neg c2, if_pos c13])
        exact ⟨cls.toNat, id.toNat, am.toNat, tag.toNat, by omega, by omega, by omega, by omega, ⟨by omega, by omega, by omega, by omega, by omega⟩⟩
      · unfold tfault at h
        rw [show cb cls = (0, 0, false) by unfold cb; rw [if_neg c0, if_neg c2, if_neg c13]] at h
        simp at h
theorem tfault_ok {cls id am tag : Nat} (h : TkOk cls id am tag) : tfault cls id am tag = 0 := by
  obtain ⟨h1, h2, h3, h4, h5⟩ := h
  unfold tfault cb
  rcases h4 with ⟨rfl, h6, h7⟩ | ⟨rfl, h6⟩ | ⟨rfl, h6, h7⟩ | ⟨rfl, h6⟩ <;> simp <;> omega
/-- The body of a token. -/
def tbody (cls id am : Nat) : Nat := cls * 2199023255552 + id * 2097152 + am
theorem tbody_eq (cls id am : Nat) : (cls * 1048576 + id) * 2097152 + am = tbody cls id am := by
  unfold tbody
  rw [Nat.add_mul, Nat.mul_assoc]
theorem tbody_le {cls id am tag : Nat} (h : TkOk cls id am tag) : tbody cls id am ≤ 8796093022207 := by
  have := h.am
  obtain ⟨h1, h2, h3, h4, h5⟩ := h
  unfold tbody; omega
theorem tbody_inj {cls id am tag cls' id' am' tag' : Nat} (h : TkOk cls id am tag) (k : TkOk cls' id' am' tag') (e : tbody cls id am = tbody cls' id' am') : cls = cls' ∧ id = id' ∧ am = am' := by
  have h1 := h.am
  have h2 := k.am
  have h3 := h.h3
  have h4 := k.h3
  unfold tbody at e
  omega
theorem or_i64_nat (a b : Nat) (ha : a < 4611686018427387904) (hb : b < 4611686018427387904) : bits .or .i64 (a : Int) (b : Int) = ((a ||| b : Nat) : Int) := by
  have hx : a ||| b < 2 ^ 62 := Nat.or_lt_two_pow (by omega) (by omega)
  have h1 : (BitVec.ofInt 64 (a : Int)).toNat = a := by
    rw [BitVec.ofInt_natCast, BitVec.toNat_ofNat]; exact Nat.mod_eq_of_lt (by omega)
  have h2 : (BitVec.ofInt 64 (b : Int)).toNat = b := by
    rw [BitVec.ofInt_natCast, BitVec.toNat_ofNat]; exact Nat.mod_eq_of_lt (by omega)
  show IntKind.i64.wrap ((BitVec.ofInt 64 (a : Int) ||| BitVec.ofInt 64 (b : Int)).toNat : Int) = _
  rw [BitVec.toNat_or, h1, h2]
  exact IntWalk.i64_in _ (by omega)
theorem or_addN (a i c : Nat) (h : c < 2 ^ i) : (a * 2 ^ i ||| c) = a * 2 ^ i + c := by
  have := Nat.shiftLeft_add_eq_or_of_lt h a
  rw [Nat.shiftLeft_eq] at this
  exact this.symm
theorem body_e1 {cls id : Nat} (h1 : cls ≤ 3) (h2 : id ≤ 1048575) : bits .or .i64 ((cls : Int) * 1048576) (id : Int) = ((cls * 1048576 + id : Nat) : Int) := by
  have h := or_i64_nat (cls * 1048576) id (by omega) (by omega)
  have k := or_addN cls 20 id (by omega)
  rw [show (2 : Nat) ^ 20 = 1048576 by decide] at k
  rw [k] at h
  rw [← h, Int.natCast_mul]; rfl
theorem body_e2 {x am : Nat} (h1 : x ≤ 4194303) (h2 : am ≤ 2097151) : bits .or .i64 ((x : Int) * 2097152) (am : Int) = ((x * 2097152 + am : Nat) : Int) := by
  have h := or_i64_nat (x * 2097152) am (by omega) (by omega)
  have k := or_addN x 21 am (by omega)
  rw [show (2 : Nat) ^ 21 = 2097152 by decide] at k
  rw [k] at h
  rw [← h, Int.natCast_mul]; rfl
end Go.Proofs.Ythhbnmmhjfgpdaa
