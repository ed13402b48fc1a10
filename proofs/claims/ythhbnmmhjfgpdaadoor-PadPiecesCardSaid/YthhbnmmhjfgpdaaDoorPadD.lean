/- The keypad: which keys a text tells, and what pressing them makes: plain. -/
import Derived.Test.YthhbnmmhjfgpdaaDoorStr
import Derived.Laws.Cover4
import Derived.Laws.RangeAny
import Derived.Lib.DecodeN
namespace Go.Proofs.YthhbnmmhjfgpdaaDoor
open Go.RowKit
set_option linter.unusedVariables false
/-- What a rune is behind its encoding. -/
def runeOf (r : Int) : Nat := if Utf8.valid r then r.toNat else 65533
theorem get_mid (p e q : ByteArray) (k : Nat) (hk : k < e.size) : (p ++ e ++ q).get! (p.size + k) = e.get! k := by
  cases p with | mk p => cases e with | mk e => cases q with | mk q =>
  have hd : (ByteArray.mk p ++ ByteArray.mk e ++ ByteArray.mk q) = ByteArray.mk (p ++ e ++ q) := by
    apply str_ext; simp
  rw [hd]
  have hk' : k < e.size := hk
  show (p ++ e ++ q)[p.size + k]! = e[k]!
  rw [getElem!_pos (p ++ e ++ q) _ (by simp; omega), getElem!_pos e k hk']
  rw [Array.getElem_append_left (by simp; omega), Array.getElem_append_right (by omega)]
  simp
theorem app_size (a b : ByteArray) : (a ++ b).size = a.size + b.size := ByteArray.size_append
theorem u8_of {n : Nat} (h : n < 256) : (UInt8.ofNat n).toNat = n := by rw [UInt8.toNat_ofNat', Nat.mod_eq_of_lt h]
theorem dec_enc (p q : ByteArray) (r : Int) : Utf8.decode (p ++ Utf8.encode r ++ q) p.size = (runeOf r, (Utf8.encode r).size) := by
  have hs : (p ++ Utf8.encode r ++ q).size - p.size = (Utf8.encode r).size + q.size := by rw [app_size, app_size]; omega
  have g := fun k => get_mid p (Utf8.encode r) q k
  obtain ⟨c, hc⟩ : ∃ c, runeOf r = c := ⟨_, rfl⟩
  have hv : Utf8.valid c = true := by
    rw [← hc]; unfold runeOf
    by_cases h : Utf8.valid r = true
    · rw [if_pos h]
      unfold Utf8.valid at h ⊢
      simp at h ⊢
      omega
    · rw [if_neg h]; decide
  have he : Utf8.encode r = Utf8.encode c := by
    have h2 : (c : Int).toNat = c := by omega
    unfold Utf8.encode
    rw [hv, ← hc]
    unfold runeOf Utf8.runeError
    simp
  have hval : c < 55296 ∨ (57344 ≤ c ∧ c ≤ 1114111) := by unfold Utf8.valid at hv; simp at hv; omega
  rw [Lib.decode_at, hs, hc]
  have g0 := g 0
  have g1 := g 1
  have g2 := g 2
  have g3 := g 3
  rw [he] at g0 g1 g2 g3 ⊢
  clear hs g he hc
  generalize p ++ Utf8.encode r ++ q = s at *
  have en : Utf8.encode c = if c < 0x80 then ⟨#[UInt8.ofNat c]⟩
      else if c < 0x800 then ⟨#[UInt8.ofNat (0xC0 + c / 64), UInt8.ofNat (0x80 + c % 64)]⟩
      else if c < 0x10000 then ⟨#[UInt8.ofNat (0xE0 + c / 4096), UInt8.ofNat (0x80 + c / 64 % 64), UInt8.ofNat (0x80 + c % 64)]⟩
      else ⟨#[UInt8.ofNat (0xF0 + c / 262144), UInt8.ofNat (0x80 + c / 4096 % 64), UInt8.ofNat (0x80 + c / 64 % 64), UInt8.ofNat (0x80 + c % 64)]⟩ := by
    unfold Utf8.encode; rw [hv]; simp
  by_cases h1 : c < 0x80
  · rw [if_pos h1] at en
    rw [en] at g0 ⊢
    have k0 := g0 (by show 0 < 1; omega)
    rw [Nat.add_zero] at k0
    rw [k0]
    show Lib.decodeN (1 + q.size) (UInt8.ofNat c).toNat _ _ _ = (c, 1)
    rw [u8_of (by omega)]
    unfold Lib.decodeN
    rw [if_pos h1]
  · rw [if_neg h1] at en
    by_cases h2 : c < 0x800
    · rw [if_pos h2] at en
      rw [en] at g0 g1 ⊢
      have k0 := g0 (by show 0 < 2; omega)
      have k1 := g1 (by show 1 < 2; omega)
      rw [Nat.add_zero] at k0
      rw [k0, k1]
      show Lib.decodeN (2 + q.size) (UInt8.ofNat (0xC0 + c / 64)).toNat (UInt8.ofNat (0x80 + c % 64)).toNat _ _ = (c, 2)
      rw [u8_of (by omega), u8_of (by omega)]
      unfold Lib.decodeN
      have a1 : ¬ (192 + c / 64 < 128) := by omega
      have a2 : (192 + c / 64) / 32 = 6 := by omega
      have a3 : (128 + c % 64) / 64 = 2 := by omega
      have a4 : (192 + c / 64) % 32 * 64 + (128 + c % 64) % 64 = c := by omega
      rw [if_neg a1, if_pos ⟨a2, by omega, a3⟩, a4, if_pos (by omega)]
    · rw [if_neg h2] at en
      by_cases h3 : c < 0x10000
      · rw [if_pos h3] at en
        rw [en] at g0 g1 g2 ⊢
        have k0 := g0 (by show 0 < 3; omega)
        have k1 := g1 (by show 1 < 3; omega)
        have k2 := g2 (by show 2 < 3; omega)
        rw [Nat.add_zero] at k0
        rw [k0, k1, k2]
        show Lib.decodeN (3 + q.size) (UInt8.ofNat (0xE0 + c / 4096)).toNat (UInt8.ofNat (0x80 + c / 64 % 64)).toNat (UInt8.ofNat (0x80 + c % 64)).toNat _ = (c, 3)
        rw [u8_of (by omega), u8_of (by omega), u8_of (by omega)]
        unfold Lib.decodeN
        have a1 : ¬ (224 + c / 4096 < 128) := by omega
        have a2 : ¬ ((224 + c / 4096) / 32 = 6) := by omega
        have a3 : (224 + c / 4096) / 16 = 14 := by omega
        have a4 : (128 + c % 64) / 64 = 2 := by omega
        have a5 : (128 + c / 64 % 64) / 64 = 2 := by omega
        have a6 : (224 + c / 4096) % 16 * 4096 + (128 + c / 64 % 64) % 64 * 64 + (128 + c % 64) % 64 = c := by omega
        have a7 : 2048 ≤ c := by omega
        rw [if_neg a1, if_neg (fun h => a2 h.1), if_pos ⟨a3, ⟨by omega, a5⟩, by omega, a4⟩, a6, if_pos ⟨a7, hval.imp id (fun h => ⟨h.1, h.2⟩)⟩]
      · rw [if_neg h3] at en
        rw [en] at g0 g1 g2 g3 ⊢
        have k0 := g0 (by show 0 < 4; omega)
        have k1 := g1 (by show 1 < 4; omega)
        have k2 := g2 (by show 2 < 4; omega)
        have k3 := g3 (by show 3 < 4; omega)
        rw [Nat.add_zero] at k0
        rw [k0, k1, k2, k3]
        show Lib.decodeN (4 + q.size) (UInt8.ofNat (0xF0 + c / 262144)).toNat (UInt8.ofNat (0x80 + c / 4096 % 64)).toNat (UInt8.ofNat (0x80 + c / 64 % 64)).toNat (UInt8.ofNat (0x80 + c % 64)).toNat = (c, 4)
        rw [u8_of (by omega), u8_of (by omega), u8_of (by omega), u8_of (by omega)]
        unfold Lib.decodeN
        have a1 : ¬ (240 + c / 262144 < 128) := by omega
        have a2 : ¬ ((240 + c / 262144) / 32 = 6) := by omega
        have a3 : ¬ ((240 + c / 262144) / 16 = 14) := by omega
        have a3' : (240 + c / 262144) / 8 = 30 := by omega
        have a4 : (128 + c % 64) / 64 = 2 := by omega
        have a5 : (128 + c / 64 % 64) / 64 = 2 := by omega
        have a5' : (128 + c / 4096 % 64) / 64 = 2 := by omega
        have a6 : (240 + c / 262144) % 8 * 262144 + (128 + c / 4096 % 64) % 64 * 4096 + (128 + c / 64 % 64) % 64 * 64 + (128 + c % 64) % 64 = c := by omega
        have a7 : 65536 ≤ c := by omega
        rw [if_neg a1, if_neg (fun h => a2 h.1), if_neg (fun h => a3 h.1), if_pos ⟨a3', ⟨by omega, a5'⟩, ⟨by omega, a5⟩, by omega, a4⟩, a6, if_pos ⟨a7, hval.imp id (fun h => ⟨h.1, h.2⟩)⟩]
theorem dec_pos (s : ByteArray) (j : Nat) (h : j < s.size) : 1 ≤ (Utf8.decode s j).2 := by
  by_cases ha : (s[j]'h).toNat < 128
  · rw [decode_ascii s j h ha]; exact Nat.le_refl _
  · exact (decode_high s j h (by omega)).2
/-- The text tells these runes from a place on. -/
def Told (s : ByteArray) : Nat → List Nat → Prop
  | j, [] => s.size ≤ j
  | j, r :: R => j < s.size ∧ (Utf8.decode s j).1 = r ∧ Told s (j + (Utf8.decode s j).2) R
/-- The text of runes. -/
def rtext (R : List Int) : ByteArray := R.foldl (fun r n => r ++ Utf8.encode n) ByteArray.empty
theorem app_assoc (a b c : ByteArray) : a ++ b ++ c = a ++ (b ++ c) := by apply str_ext; simp
theorem app_nil (a : ByteArray) : a ++ ByteArray.empty = a := by apply str_ext; simp
theorem nil_app (a : ByteArray) : ByteArray.empty ++ a = a := by apply str_ext; simp
theorem rtext_from (R : List Int) : ∀ s : ByteArray, R.foldl (fun r n => r ++ Utf8.encode n) s = s ++ rtext R := by
  induction R with
  | nil => intro s; simp [rtext]
  | cons x R ih => intro s; unfold rtext; rw [List.foldl_cons, List.foldl_cons, ih, ih (ByteArray.empty ++ _), nil_app, app_assoc]
theorem rtext_cons (x : Int) (R : List Int) : rtext (x :: R) = Utf8.encode x ++ rtext R := by
  show (x :: R).foldl _ _ = _
  rw [List.foldl_cons, rtext_from, nil_app]
theorem rtext_append (a b : List Int) : rtext (a ++ b) = rtext a ++ rtext b := by
  unfold rtext; rw [List.foldl_append, rtext_from]; rfl
theorem enc_pos (x : Int) : 0 < (Utf8.encode x).size := by
  unfold Utf8.encode
  simp only
  repeat' split
  all_goals simp [ByteArray.size]
theorem told_at (R : List Int) : ∀ p : ByteArray, Told (p ++ rtext R) p.size (R.map runeOf) := by
  induction R with
  | nil => intro p; show _ ≤ _; simp [rtext]
  | cons x R ih =>
    intro p
    rw [rtext_cons, ← app_assoc]
    have h := dec_enc p (rtext R) x
    refine ⟨?_, by rw [h], ?_⟩
    · rw [app_size, app_size]; have := enc_pos x; omega
    · rw [h]
      have h2 := ih (p ++ Utf8.encode x)
      rw [app_size] at h2
      exact h2
theorem told_all (R : List Int) : Told (rtext R) 0 (R.map runeOf) := by
  have h := told_at R ByteArray.empty
  rw [nil_app] at h
  exact h
theorem enc_ascii {n : Nat} (h : n < 128) : Utf8.encode (n : Int) = ⟨#[UInt8.ofNat n]⟩ := by
  have hv : Utf8.valid (n : Int) = true := by unfold Utf8.valid; simp; omega
  unfold Utf8.encode; rw [hv]; simp [h]
theorem rtext_dstr (l : List Nat) (hl : ∀ d ∈ l, d ≤ 9) : rtext (l.map fun d => ((48 + d : Nat) : Int)) = dstr l := by
  induction l with
  | nil => rfl
  | cons d l ih =>
    have h9 := hl d (by simp)
    rw [List.map_cons, rtext_cons, ih (fun x hx => hl x (by simp [hx])), enc_ascii (by omega)]
    apply str_ext
    rw [app_toList, dstr_toList, dstr_toList]
    simp [dg]
theorem rtext_size (R : List Int) : (rtext R).size ≤ 4 * R.length := runesBytes_size_le R
/-- The digit of a key; -1: it is none. -/
def kv (r : Int) : Int :=
  if 48 ≤ r ∧ r < 58 then r - 48 else if 1632 ≤ r ∧ r < 1642 then r - 1632 else if 1776 ≤ r ∧ r < 1786 then r - 1776
  else if 2406 ≤ r ∧ r < 2416 then r - 2406 else if 2534 ≤ r ∧ r < 2544 then r - 2534 else if 65296 ≤ r ∧ r < 65306 then r - 65296 else -1
theorem kv_bd (r : Int) : -1 ≤ kv r ∧ kv r ≤ 9 := by unfold kv; repeat' split <;> try omega
/-- A pad: its digits; is it bad? -/
abbrev PadS := List Nat × Bool
/-- An entry: its digits, its code. -/
abbrev EntS := List Nat × Nat
def kpress (p : PadS) (r : Int) : PadS × Option EntS :=
  if r = 32 ∨ r = 45 ∨ r = 160 then (p, none)
  else if r = 42 then ((p.1.dropLast, p.2), none)
  else if r = 35 then (([], false), if p.2 then some ([], 3) else if p.1 = [] then none else some (p.1, 0))
  else if kv r < 0 ∨ p.1.length = 30 then ((p.1, true), none)
  else ((p.1 ++ [(kv r).toNat], p.2), none)
def PadOk (p : PadS) : Prop := p.1.length ≤ 30 ∧ ∀ d ∈ p.1, d ≤ 9
theorem kpress_ok {p : PadS} (h : PadOk p) (r : Int) : PadOk (kpress p r).1 := by
  obtain ⟨h1, h2⟩ := h
  unfold kpress
  split
  · exact ⟨h1, h2⟩
  · split
    · exact ⟨by simp; omega, fun d hd => h2 d (List.dropLast_subset _ hd)⟩
    · split
      · exact ⟨by simp, by simp⟩
      · split
        · exact ⟨h1, h2⟩
        · rename_i h3
          have := kv_bd r
          refine ⟨?_, fun d hd => ?_⟩
          · simp; omega
          · rcases List.mem_append.1 hd with h4 | h4
            · exact h2 d h4
            · simp at h4; omega
/-- The keys, one by one: the pad behind them, the entries that came. -/
def kstep (x : PadS × List EntS) (r : Int) : PadS × List EntS := ((kpress x.1 r).1, x.2 ++ (kpress x.1 r).2.toList)
def kkeys (R : List Int) (x : PadS × List EntS) : PadS × List EntS := R.foldl kstep x
theorem kkeys_append (a b : List Int) (x : PadS × List EntS) : kkeys (a ++ b) x = kkeys b (kkeys a x) := by unfold kkeys; rw [List.foldl_append]
theorem kkeys_out (R : List Int) : ∀ (p : PadS) (o : List EntS), kkeys R (p, o) = ((kkeys R (p, [])).1, o ++ (kkeys R (p, [])).2) := by
  induction R with
  | nil => intro p o; simp [kkeys]
  | cons r R ih =>
    intro p o
    show kkeys R (kstep (p, o) r) = ((kkeys R (kstep (p, []) r)).1, o ++ (kkeys R (kstep (p, []) r)).2)
    unfold kstep
    rw [ih _ (o ++ _), ih _ ([] ++ _)]
    simp
theorem kkeys_ok (R : List Int) : ∀ (x : PadS × List EntS), PadOk x.1 → PadOk (kkeys R x).1 := by
  induction R with
  | nil => intro x h; exact h
  | cons r R ih => intro x h; exact ih _ (kpress_ok h r)
/-- An entry that may be. -/
def EntOk (e : EntS) : Prop := (∀ d ∈ e.1, d ≤ 9) ∧ e.1.length ≤ 30 ∧ e.2 < 100
theorem kkeys_ents (R : List Int) : ∀ (x : PadS × List EntS), PadOk x.1 → (∀ e ∈ x.2, EntOk e) → ∀ e ∈ (kkeys R x).2, EntOk e := by
  induction R with
  | nil => intro x _ h; exact h
  | cons r R ih =>
    intro x hp h
    refine ih _ (kpress_ok hp r) ?_
    intro e he
    rcases List.mem_append.1 he with h1 | h1
    · exact h e h1
    · unfold kpress at h1
      split at h1
      · simp at h1
      · split at h1
        · simp at h1
        · split at h1
          · split at h1
            · simp at h1; subst h1; exact ⟨by simp, by simp, by simp⟩
            · split at h1
              · simp at h1
              · simp at h1; subst h1; exact ⟨hp.2, hp.1, by simp⟩
          · split at h1 <;> simp at h1
theorem kkeys_len (R : List Int) : ∀ (x : PadS × List EntS), (kkeys R x).2.length ≤ x.2.length + R.length := by
  induction R with
  | nil => intro x; simp [kkeys]
  | cons r R ih =>
    intro x
    have h := ih (kstep x r)
    have h2 : (kstep x r).2.length ≤ x.2.length + 1 := by
      unfold kstep
      cases (kpress x.1 r).2 <;> simp
    show (kkeys R (kstep x r)).2.length ≤ _
    simp; omega
/-- Digits, keyed in whatever script. -/
theorem kkeys_digits (R : List Int) (hk : ∀ r ∈ R, 0 ≤ kv r) : ∀ (D : List Nat) (b : Bool), D.length + R.length ≤ 30 → kkeys R ((D, b), []) = ((D ++ R.map (fun r => (kv r).toNat), b), []) := by
  induction R with
  | nil => intro D b _; simp [kkeys]
  | cons r R ih =>
    intro D b hl
    have h0 := hk r (by simp)
    have h1 : kstep ((D, b), []) r = ((D ++ [(kv r).toNat], b), []) := by
      have n1 : ¬ (r = 32 ∨ r = 45 ∨ r = 160) := by rintro (h | h | h) <;> (subst h; revert h0; decide)
      have n2 : ¬ r = 42 := by intro h; subst h; revert h0; decide
      have n3 : ¬ r = 35 := by intro h; subst h; revert h0; decide
      have n4 : ¬ (kv r < 0 ∨ D.length = 30) := by simp at hl; omega
      simp [kstep, kpress, n1, n2, n3, n4]
    show kkeys R (kstep ((D, b), []) r) = _
    rw [h1, ih (fun x hx => hk x (by simp [hx])) _ _ (by simp at hl ⊢; omega)]
    simp
end Go.Proofs.YthhbnmmhjfgpdaaDoor
