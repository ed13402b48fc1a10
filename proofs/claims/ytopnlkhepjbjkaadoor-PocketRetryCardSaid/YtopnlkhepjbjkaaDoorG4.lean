/- window.Used. -/
import Derived.Test.YtopnlkhepjbjkaaDoorG3
import Derived.Test.YtopnlkhepjbjkaaDoorG2
import Derived.Laws.BitsAllLaws
namespace Go.Proofs.YtopnlkhepjbjkaaDoor
open Go.RowKit
theorem andnot_top {b t : Nat} (hb : b < 2 ^ 64) (ht : t < 64) (h1 : 2 ^ t ≤ b) (h2 : b < 2 ^ (t + 1)) : bits .andNot .u64 (b : Int) (IntKind.u64.wrap (2 ^ t)) = ((b - 2 ^ t : Nat) : Int) := by
  have h64 : (2 : Nat) ^ t < 2 ^ 64 := Nat.pow_lt_pow_right (by omega) ht
  have e : IntKind.u64.wrap (2 ^ t) = ((2 ^ t : Nat) : Int) := by
    rw [IntKind.wrap_u64, Int.natCast_pow]
    have : ((2 : Nat) ^ t : Int) < 18446744073709551616 := by
      have : (((2 : Nat) ^ t : Nat) : Int) < 18446744073709551616 := by omega
      rwa [Int.natCast_pow] at this
    exact Int.emod_eq_of_lt (by exact Int.le_of_lt (Int.pow_pos (by omega))) this
  rw [e, u64_andNot_nat b _ (by omega) (by omega)]
  congr 1
  have hlt : b - 2 ^ t < 2 ^ t := by rw [Nat.pow_succ] at h2; omega
  refine Nat.eq_of_testBit_eq fun i => ?_
  rw [Nat.testBit_and, show 18446744073709551615 - 2 ^ t = 2 ^ 64 - (2 ^ t + 1) by omega, Nat.testBit_two_pow_sub_succ h64, Nat.testBit_two_pow]
  have e : b = 2 ^ t + (b - 2 ^ t) := by omega
  rcases Nat.lt_trichotomy i t with h | h | h
  · have : b.testBit i = (b - 2 ^ t).testBit i := by
      conv => lhs; rw [e]
      exact Nat.testBit_two_pow_add_gt h _
    rw [this]; simp; intro _; omega
  · subst h
    rw [Nat.testBit_lt_two_pow hlt]; simp
  · rw [Nat.testBit_lt_two_pow (Nat.lt_of_lt_of_le h2 (Nat.pow_le_pow_right (by omega) h)), Nat.testBit_lt_two_pow (Nat.lt_of_lt_of_le hlt (Nat.pow_le_pow_right (by omega) (by omega)))]
    simp
/-- Numbers as a slice, and no error. -/
def RetNs (l : List Nat) (w : World) (e : Ending) (w' : World) : Prop := ∃ (A : Option Addr) (c : Nat), e = .returned (.tuple #[.slice A l.length c, .int .i64 0]) ∧ IsNs w' (.slice A l.length c) l ∧ Below w.heap.size w w'
set_option maxHeartbeats 1000000 in
theorem used_ok (H B : Nat) (w : World) (hm : WMay H B) :
    Calls Tryd.prog 61 #[.agg #[.int .i64 H, .int .u64 B]] w (RetNs (lowIds H B 64) w) := by
  have hB := hm.lt
  have hH := hm.le
  have hHB := hm.high
  have hM := Lib.hid (wmayB_of hm)
  have hW : (Lit.int .i64 (H : Int)).wf = true := WalkArith.wf_i64 (by omega)
  have hlen := low_len H B 64
  go_enter Tryd.func61, Tryd.ntmps61
  go_wp2_with fail
  refine (may_is hM _ hW hB).mono ?_
  rintro e wa ⟨rfl, hb⟩
  have hs := hb.size
  simp at hs
  have n1 : w.heap.size < wa.heap.size := by omega
  have hblk := (Blk.new w 37 #[.int .i64 H, .int .u64 B]).below hb (by simp)
  have bb := (below_a1 _ _).step hb
  have r0 : wa.cell? ⟨w.heap.size, 0, none⟩ = some (.int .i64 H) := hblk.cell 0
  have rf0 : wa.frozen? ⟨w.heap.size, 0, none⟩ = false := hblk.frozen 0
  have r1 : wa.cell? ⟨w.heap.size, 1, none⟩ = some (.int .u64 B) := hblk.cell 1
  have rf1 : wa.frozen? ⟨w.heap.size, 1, none⟩ = false := hblk.frozen 1
  clear hb
  go_wp2
  go_loopw [4, 5] (fun v u wr => ∃ (m b : Nat) (L : List Nat) (A' : Option Addr) (c' : Nat), b ≤ B ∧ Hid (L.length = m) ∧ Hid (L ++ lowIds H b 64 = lowIds H B 64) ∧ v = .slice A' m c' ∧ u = .int .u64 b ∧ wr.ownsRow (w.heap.size + 1) 3 1 (.slice A' m c') m (nis L) ∧ Blk wr w.heap.size 37 #[.int .i64 H, .int .u64 B] ∧ Below w.heap.size w wr) (fun _ u _ => (intOf u).toNat)
  case atStart => exact ⟨0, B, [], none, 0, Nat.le_refl _, rfl, rfl, rfl, rfl, World.ownsRow_nil _ _ _ _, hblk, bb⟩
  case round =>
    obtain ⟨m, b, L, A', c', hbB, HL, HE, rfl, rfl, hown, hblk, hb⟩ := hrel
    have hglt := hblk.lt
    have hml : m + (lowIds H b 64).length ≤ 64 := by
      have h := congrArg List.length HE.out
      rw [List.length_append, HL.out] at h
      omega
    clear r0 rf0 r1 rf1 bb
    have r0 : wr.cell? ⟨w.heap.size, 0, none⟩ = some (.int .i64 H) := hblk.cell 0
    have rf0 : wr.frozen? ⟨w.heap.size, 0, none⟩ = false := hblk.frozen 0
    have r1 : wr.cell? ⟨w.heap.size, 1, none⟩ = some (.int .u64 B) := hblk.cell 1
    have rf1 : wr.frozen? ⟨w.heap.size, 1, none⟩ = false := hblk.frozen 1
    by_cases h0 : b = 0
    · have e1 : ((b : Int) != 0) = false := by simp; omega
      have HF : Hid (L = lowIds H B 64) := by
        have h := HE.out
        rw [h0, low_zero, List.append_nil] at h
        exact h
      clear hml
      go_wp2
      go_ret2
      rw [← HF.out]
      exact ⟨A', c', by rw [HL.out]; rfl, by rw [HL.out]; exact isns_own HL.out hown, hb⟩
    · have e1 : ((b : Int) != 0) = true := by simp; omega
      obtain ⟨g1, g2⟩ := bl_spec b (by omega)
      obtain ⟨g3, g4⟩ := g2 h0
      have g5 := bl_64 (x := b) (by omega)
      obtain ⟨t, ht⟩ : ∃ t, Lib.bitLen b = t + 1 := ⟨Lib.bitLen b - 1, by omega⟩
      rw [ht] at g1 g4 g5
      simp only [Nat.add_sub_cancel] at g4
      have htH : t < H := by
        rcases Nat.lt_or_ge t H with h | h
        · exact h
        · have := Nat.pow_le_pow_right (n := 2) (by omega) h
          omega
      have hAN := andnot_top (by omega) (by omega) g4 g1
      have hst := low_step H b t g4 g1 (by omega)
      obtain ⟨b2, hb2⟩ : ∃ b2, b - 2 ^ t = b2 := ⟨_, rfl⟩
      have hlt2 : b2 < b := by have := Nat.two_pow_pos t; omega
      rw [hb2] at hAN hst
      obtain ⟨d, hd⟩ : ∃ d : Nat, (H : Int) - (t : Int) = (d : Int) := ⟨H - t, by omega⟩
      have hd2 : H - t = d := by omega
      rw [hd2] at hst
      have hml2 : m + 1 ≤ 64 := by rw [hst] at hml; simp at hml; omega
      have HST := Lib.hid hst
      have hLen : ∀ W : World, Calls Tryd.prog 78 #[.int .u64 (b : Int)] W fun e w' => e = .returned (.int .i64 ((t : Int) + 1)) ∧ W = w' := fun W => by
        refine (Tryd.bits_Len64 (b : Int) W (by omega) (by omega)).mono ?_
        rintro e w' ⟨rfl, rfl⟩
        rw [Int.toNat_natCast, ht]
        exact ⟨rfl, rfl⟩
      have ht64 : t < 64 := by omega
      clear hst hml ht g1 g2 g4 hb2 hd2 g3 g5
      go_wp2_with fail
      refine (hLen _).mono ?_
      rintro e w' ⟨rfl, rfl⟩
      go_wp2_with (at_builtin; refine wpList_push el_int rfl (.tmp 17) (.tmp 22) rfl wr (w.heap.size + 1) _ m _ [.int .i64 d] rfl hown rfl rfl (fun u hu => by simp at hu; subst hu; rfl) (by omega) (by unfold maxLen; omega) (by omega) ?_; intro A1 c1 w1 hown' hb' _)
      go_roundw
      case rel => exact ⟨m + 1, b2, L ++ [d], A1, c1, by omega, by show _ = _; rw [List.length_append, HL.out]; rfl, by show _ = _; rw [List.append_assoc]; have := HE.out; rw [HST.out] at this; exact this, rfl, rfl, by rw [nis_append]; exact hown', hblk.below hb' (by omega), hb.trans (hb'.mono (by omega))⟩
      case measure => simp [intOf]; omega
set_option maxHeartbeats 1000000 in
theorem used_bad (h : Int) (B : Nat) (w : World) (hw : (Lit.int .i64 h).wf = true) (hB : B < 2 ^ 64) (hm : wmayB h B = false) :
    Calls Tryd.prog 61 #[.agg #[.int .i64 h, .int .u64 B]] w fun e w' => e = .returned (.tuple #[.slice none 0 0, .int .i64 5]) ∧ Below w.heap.size w w' := by
  have hM := Lib.hid hm
  clear hm
  go_enter Tryd.func61, Tryd.ntmps61
  go_wp2_with fail
  refine (may_is hM _ hw hB).mono ?_
  rintro e wa ⟨rfl, hb⟩
  go_wp2
  go_ret2
  exact ⟨rfl, (below_a1 _ _).step hb⟩
end Go.Proofs.YtopnlkhepjbjkaaDoor
