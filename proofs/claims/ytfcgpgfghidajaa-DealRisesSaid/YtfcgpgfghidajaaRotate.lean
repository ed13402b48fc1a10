/- slices.rotateCmpFunc at a slice of ints. -/
import Derived.Test.YtfcgpgfghidajaaSwapR
namespace Go.Proofs.Ytfcgpgfghidajaa
open Go.RowKit Go.Sort
set_option linter.unusedVariables false
set_option maxRecDepth 100000 in
set_option maxHeartbeats 4000000 in
theorem rotate_ok (f : Nat → Nat) (g : Nat) (cb : Array Value) (blk off cap a m b : Nat) (d0 d : Array Nat) (w0 w : World) (R : Row1 (encN f) w0 blk off d0) (hs : d0.size = d.size) (S : SW (encN f) w0 blk off d w) (ham : a < m) (hmb : m < b) (hb : b ≤ d.size) (hsz : d.size < 4611686018427387904) :
    Calls Try.prog 16 #[.slice (some ⟨blk, off, none⟩) d.size cap, .int .i64 (a : Int), .int .i64 (m : Int), .int .i64 (b : Int), .func (.func g) #[] cb] w fun e w' => e = .returned (.tuple #[]) ∧ ∃ d', d'.size = d.size ∧ Rot a m b d d' ∧ PermIn a b d d' ∧ SW (encN f) w0 blk off d' w' := by
  have hSw := fun (a b n : Nat) (dk : Array Nat) (W : World) (hsk : dk.size = d.size) h1 h2 h3 => swapR_ok f g cb blk off cap a b n d0 dk w0 W R (by omega) h1 h2 h3 (by omega)
  have S0 := Lib.hid S
  clear S
  obtain ⟨i0, hi0⟩ : ∃ i0, m - a = i0 := ⟨_, rfl⟩
  obtain ⟨j0, hj0⟩ : ∃ j0, b - m = j0 := ⟨_, rfl⟩
  have z1 : IntKind.i64.wrap ((m : Int) - (a : Int)) = (i0 : Int) := by rw [IntKind.wrap_i64]; omega
  have z2 : IntKind.i64.wrap ((b : Int) - (m : Int)) = (j0 : Int) := by rw [IntKind.wrap_i64]; omega
  have HI := Lib.hid (And.intro hi0 hj0)
  clear hi0 hj0
  go_enter Try.func16, Try.ntmps16
  go_wp2
  clear z1 z2
  go_loopw [10, 11] (fun v u wr => ∃ (i j : Nat) (dk : Array Nat), v = .int .i64 (i : Int) ∧ u = .int .i64 (j : Int) ∧ 1 ≤ i ∧ 1 ≤ j ∧ i ≤ m - a ∧ j ≤ b - m ∧ dk.size = d.size ∧ Hid (SW (encN f) w0 blk off dk wr) ∧ PermIn a b d dk ∧ Hid (∀ d', Rot (m - i) m (m + j) dk d' → Rot a m b d d')) (fun v u _ => (intOf v).toNat + (intOf u).toNat)
  case atStart =>
    obtain ⟨hi0, hj0⟩ := HI.out
    refine ⟨i0, j0, d, rfl, rfl, by omega, by omega, by omega, by omega, rfl, S0, permIn_refl _ _ _, Lib.hid fun d' h => ?_⟩
    rwa [show m - i0 = a by omega, show m + j0 = b by omega] at h
  case round =>
    clear S0 HI
    obtain ⟨i, j, dk, rfl, rfl, h1, h2, h3, h4, hsk, S1, hpm, hK⟩ := hrel
    have HP := Lib.hid hpm
    clear hpm
    obtain ⟨q, hq⟩ : ∃ q, m - i = q := ⟨_, rfl⟩
    have zq : IntKind.i64.wrap ((m : Int) - (i : Int)) = (q : Int) := by rw [IntKind.wrap_i64]; omega
    have hS1 := fun n h1 h2 => hSw q m n dk wr hsk S1.out h1 h2
    by_cases hij : i = j
    · subst hij
      have hC := hS1 i (by omega) (by omega)
      have HQ := Lib.hid hq
      clear hS1 hq
      rw [hsk] at hC
      go_wp2_with fail
      refine hC.mono ?_
      rintro e w' ⟨rfl, d', hs', hsw, hp', S'⟩
      have hq := HQ.out
      subst hq
      have hrot := hK.out d' (rot_eq (by omega) hsw)
      have hpp := permIn_trans _ _ _ _ _ HP.out (permIn_mono _ _ _ _ a b (by omega) (by omega) (by omega) hp')
      clear hC
      go_wp2
      go_end0
      exact ⟨rfl, d', by omega, hrot, hpp, S'⟩
    · have hne : ((i : Int) == (j : Int)) = false := by simp; omega
      have hneI : ¬ (i : Int) = (j : Int) := by omega
      by_cases hgt : j < i
      · have hgtI : (j : Int) < (i : Int) := by omega
        have hC := hS1 j (by omega) (by omega)
        obtain ⟨r, hr⟩ : ∃ r, i - j = r := ⟨_, rfl⟩
        have zr : IntKind.i64.wrap ((i : Int) - (j : Int)) = (r : Int) := by rw [IntKind.wrap_i64]; omega
        have HQ := Lib.hid (And.intro hq hr)
        clear hS1 hq hr
        rw [hsk] at hC
        go_wp2_with fail
        refine hC.mono ?_
        rintro e w' ⟨rfl, d2, hs', hsw, hp', S'⟩
        obtain ⟨hq, hr⟩ := HQ.out
        subst hq hr
        have hpp := permIn_trans _ _ _ _ _ HP.out (permIn_mono _ _ _ _ a b (by omega) (by omega) (by omega) hp')
        have hK2 := Lib.hid (fun d' h => hK.out d' (rot_left (by omega) (by omega) hgt (by omega) hsw h))
        have HZ := Lib.hid (And.intro S' hpp)
        clear hC hsw hp' S' hpp HQ
        go_wp2
        go_roundw
        case rel => exact ⟨i - j, j, d2, by go_num, rfl, by omega, by omega, by omega, by omega, by omega, HZ.out.1, HZ.out.2, hK2⟩
        case measure => simp [intOf]; omega
      · have hgtI : ¬ (j : Int) < (i : Int) := by omega
        obtain ⟨r, hr⟩ : ∃ r, j - i = r := ⟨_, rfl⟩
        obtain ⟨t, ht⟩ : ∃ t, m + j = t := ⟨_, rfl⟩
        obtain ⟨s, hs2⟩ : ∃ s, m + j - i = s := ⟨_, rfl⟩
        have zr : IntKind.i64.wrap ((j : Int) - (i : Int)) = (r : Int) := by rw [IntKind.wrap_i64]; omega
        have zt : IntKind.i64.wrap ((m : Int) + (j : Int)) = (t : Int) := by rw [IntKind.wrap_i64]; omega
        have zs : IntKind.i64.wrap ((t : Int) - (i : Int)) = (s : Int) := by rw [IntKind.wrap_i64]; omega
        have hC := hSw q s i dk wr hsk S1.out (by omega) (by omega)
        have HQ := Lib.hid (And.intro hq (And.intro hr (And.intro ht hs2)))
        clear hS1 hq hr ht hs2
        rw [hsk] at hC
        go_wp2_with fail
        refine hC.mono ?_
        rintro e w' ⟨rfl, d2, hs', hsw, hp', S'⟩
        obtain ⟨hq, hr, ht, hs2⟩ := HQ.out
        subst hq hr hs2
        have hpp := permIn_trans _ _ _ _ _ HP.out (permIn_mono _ _ _ _ a b (by omega) (by omega) (by omega) hp')
        have hK2 := Lib.hid (fun d' h => hK.out d' (rot_right (by omega) (by omega) (by omega) (by omega) hsw h))
        have HZ := Lib.hid (And.intro S' hpp)
        clear hC hsw hp' S' hpp HQ ht
        go_wp2
        go_roundw
        case rel => exact ⟨i, j - i, d2, rfl, by go_num, by omega, by omega, by omega, by omega, by omega, HZ.out.1, HZ.out.2, hK2⟩
        case measure => simp [intOf]; omega
end Go.Proofs.Ytfcgpgfghidajaa
