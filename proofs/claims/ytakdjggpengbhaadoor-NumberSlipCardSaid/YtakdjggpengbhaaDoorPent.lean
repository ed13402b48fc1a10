/- check: the motions of the pentagon, and the digit that tells a slip. -/
import Derived.Test.YtakdjggpengbhaaDoorCheck
import Derived.Test.YtakdjggpengbhaaDoorPentD
namespace Go.Proofs.YtakdjggpengbhaaDoor
open Go.RowKit
set_option maxHeartbeats 400000 in
theorem then_ok (a b : Nat) (w : World) (ha : a ≤ 9) (hb : b ≤ 9) :
    Calls Tryd.prog 74 #[.int .i64 a, .int .i64 b] w fun e w' => e = .returned (.int .i64 (mulD a b)) ∧ w = w' := by
  by_cases h : a < 5
  · have HM := Lib.hid (show mulD a b = 5 * (b / 5) + (a + b % 5) % 5 by unfold mulD; rw [if_pos h])
    go_enter Tryd.func74, Tryd.ntmps74
    go_wp2
    go_ret
    exact ⟨ret_int (by rw [HM.out]; omega), rfl⟩
  · by_cases h5 : b < 5
    · have HM := Lib.hid (show mulD a b = 5 + (a + 5 - b % 5) % 5 by unfold mulD; rw [if_neg h, if_pos h5])
      have ht := tmod5 ((a : Int) - 5 - (b : Int) % 5 + 5 * ((b : Int) / 5))
      obtain ⟨ht0, ht1, ht2⟩ := ht
      have HT := Lib.hid ht0
      clear ht0
      have hq : ((b : Int) / 5 == 1) = false := by simp; omega
      go_enter Tryd.func74, Tryd.ntmps74
      go_wp2
      go_ret
      exact ⟨ret_int (by rw [HT.out, HM.out]; omega), rfl⟩
    · have HM := Lib.hid (show mulD a b = (a + 5 - b % 5) % 5 by unfold mulD; rw [if_neg h, if_neg h5])
      have hq : ((b : Int) / 5 == 1) = true := by simp; omega
      have hx : (0 : Int) ≤ (a : Int) - 5 - (b : Int) % 5 + 5 * ((b : Int) / 5) := by omega
      go_enter Tryd.func74, Tryd.ntmps74
      go_wp2
      go_ret
      exact ⟨ret_int (by rw [HM.out]; omega), rfl⟩
set_option maxHeartbeats 400000 in
theorem back_ok (a : Nat) (w : World) (ha : a ≤ 9) :
    Calls Tryd.prog 50 #[.int .i64 a] w fun e w' => e = .returned (.int .i64 (invD a)) ∧ w = w' := by
  by_cases h : 5 ≤ a
  · have HM := Lib.hid (show invD a = a by unfold invD; rw [if_pos h])
    go_enter Tryd.func50, Tryd.ntmps50
    go_wp2
    go_ret
    exact ⟨ret_int (by rw [HM.out]), rfl⟩
  · have HM := Lib.hid (show invD a = (5 - a) % 5 by unfold invD; rw [if_neg h])
    go_enter Tryd.func50, Tryd.ntmps50
    go_wp2
    go_ret
    exact ⟨ret_int (by rw [HM.out]; omega), rfl⟩

theorem to_cell (w : World) (t : TypeId) (d : Nat) (h : d ≤ 9) :
    (w.alloc (.cells #[.int .i64 1, .int .i64 5, .int .i64 7, .int .i64 6, .int .i64 2, .int .i64 8, .int .i64 3, .int .i64 0, .int .i64 9, .int .i64 4] t)).cell? ⟨w.heap.size, d, none⟩ = some (.int .i64 (T10 d)) := by
  rw [cell_of_row _ _ _ _ _ _ (heap_alloc_new w _)]
  match d, h with
  | 0, _ => rfl
  | 1, _ => rfl
  | 2, _ => rfl
  | 3, _ => rfl
  | 4, _ => rfl
  | 5, _ => rfl
  | 6, _ => rfl
  | 7, _ => rfl
  | 8, _ => rfl
  | 9, _ => rfl
  | n + 10, h => omega
set_option maxHeartbeats 400000 in
theorem moved_ok (d p : Nat) (w : World) (hd : d ≤ 9) (hp : p ≤ 1000000) :
    Calls Tryd.prog 75 #[.int .i64 d, .int .i64 p] w fun e w' => e = .returned (.int .i64 (mv d p)) ∧ Below w.heap.size w w' := by
  go_enter Tryd.func75, Tryd.ntmps75
  go_wp2
  have hm : p % 8 ≤ 7 := by omega
  go_loop [0, 9] (fun u i => ∃ k : Nat, k ≤ p % 8 ∧ i = .int .i64 k ∧ u = .int .i64 (mvK k d)) (fun _ i => p % 8 - (intOf i).toNat)
  case atStart => exact ⟨0, by omega, rfl, rfl⟩
  case round =>
    obtain ⟨k, hk, rfl, rfl⟩ := hrel
    have hq := mvK_le (k := k) hd
    have HS := Lib.hid (show mvK (k + 1) d = T10 (mvK k d) from rfl)
    have hc := to_cell w 180 (mvK k d) hq
    by_cases hlt : k < p % 8
    · have hlt' : (k : Int) < (p : Int) % 8 := by omega
      generalize mvK k d = q at *
      go_wp2
      go_round
      case rel => exact ⟨k + 1, by omega, by go_num, by rw [HS.out]⟩
      case measure => simp [intOf]; omega
    · have hlt' : ¬ (k : Int) < (p : Int) % 8 := by omega
      have hk' : k = p % 8 := by omega
      have HR := Lib.hid (show mv d p = mvK k d by rw [hk']; rfl)
      clear hk'
      generalize mvK k d = q at *
      go_wp2
      go_ret
      exact ⟨by rw [HR.out]; rfl, (Below.refl _ _).alloc (Nat.le_refl _) _⟩
set_option maxHeartbeats 400000 in
theorem all_ok (l : List Nat) (f : Nat) (w : World) (hl : ∀ d ∈ l, d ≤ 9) (h1 : l.length ≤ 1000) (hf : f ≤ 1000) :
    Calls Tryd.prog 49 #[.string (dstr l), .int .i64 f] w fun e w' => e = .returned (.int .i64 (allD l f)) ∧ Below w.heap.size w w' := by
  have hsz := dstr_size l
  go_enter Tryd.func49, Tryd.ntmps49
  go_wp2
  go_loopw [5, 6, 9] (fun c _ i wr => ∃ k : Nat, k ≤ l.length ∧ i = .int .i64 k ∧ c = .int .i64 (allK l f k) ∧ Below w.heap.size w wr) (fun _ _ i _ => l.length - (intOf i).toNat)
  case atStart => exact ⟨0, by omega, rfl, rfl, Below.refl _ _⟩
  case round =>
    obtain ⟨k, hk, rfl, rfl, hb⟩ := hrel
    have hq := allK_le hl f k
    by_cases hlt : k < l.length
    · have hidx : l.length - 1 - k < l.length := by omega
      have hbt := dstr_byte hl (l.length - 1 - k) (by omega)
      have hg : l[l.length - 1 - k] = l.getD (l.length - 1 - k) 0 := by rw [List.getD_eq_getElem?_getD, List.getElem?_eq_getElem hidx]; rfl
      rw [hg] at hbt
      clear hg
      have hd := getD_le hl (l.length - 1 - k)
      have HS := Lib.hid (show allK l f (k + 1) = mulD (allK l f k) (mv (l.getD (l.length - 1 - k) 0) (f + k)) from rfl)
      generalize l.getD (l.length - 1 - k) 0 = x at *
      generalize allK l f k = c at *
      have hi : ((l.length : Int) - 1 - (k : Int)).toNat = l.length - 1 - k := by omega
      have hi0 : (0 : Int) ≤ (l.length : Int) - 1 - (k : Int) := by omega
      have hi1 : (l.length : Int) - 1 - (k : Int) < (l.length : Int) := by omega
      go_wp2_with fail
      rw [show (48 + (x : Int) - 48) = (x : Int) from by omega, show ((f : Int) + (k : Int)) = ((f + k : Nat) : Int) from by omega]
      refine (moved_ok x (f + k) _ hd (by omega)).mono ?_
      rintro e w1 ⟨rfl, hb1⟩
      have hm := mv_le (p := f + k) hd
      generalize mv x (f + k) = y at *
      go_wp2_with fail
      refine (then_ok c y _ hq hm).mono ?_
      rintro e w2 ⟨rfl, rfl⟩
      go_wp2
      go_roundw
      case rel => exact ⟨k + 1, by omega, by go_num, by rw [HS.out], hb.step hb1⟩
      case measure => simp [intOf]; omega
    · obtain rfl : k = l.length := by omega
      go_wp2
      go_ret
      exact ⟨rfl, hb⟩
set_option maxHeartbeats 400000 in
theorem good_ok (l : List Nat) (w : World) (hl : ∀ d ∈ l, d ≤ 9) (h0 : 1 < l.length) (h1 : l.length ≤ 200) :
    Calls Tryd.prog 25 #[.string (dstr l)] w fun e w' => e = .returned (.bool (decide (allD l 0 = 0))) ∧ Below w.heap.size w w' := by
  have hsz := dstr_size l
  go_enter Tryd.func25, Tryd.ntmps25
  go_wp2_with fail
  refine (digits_ok l _ hl (by omega) h1).mono ?_
  rintro e w1 ⟨rfl, hb1⟩
  go_wp2_with fail
  refine (all_ok l 0 _ hl (by omega) (by omega)).mono ?_
  rintro e w2 ⟨rfl, hb2⟩
  generalize hc : allD l 0 = c at *
  have Hc := Lib.hid hc
  clear hc
  go_wp2
  go_ret
  exact ⟨ret_bool (by rw [Hc.out, Bool.eq_iff_iff]; simp), hb1.step hb2⟩
set_option maxHeartbeats 400000 in
theorem digit_of_ok (l : List Nat) (w : World) (hl : ∀ d ∈ l, d ≤ 9) (h0 : 0 < l.length) (h1 : l.length ≤ 200) :
    Calls Tryd.prog 23 #[.string (dstr l)] w fun e w' => e = .returned (.tuple #[.int .i64 (invD (allD l 1)), .int .i64 0]) ∧ Below w.heap.size w w' := by
  have hsz := dstr_size l
  have hq := allK_le hl 1 l.length
  go_enter Tryd.func23, Tryd.ntmps23
  go_wp2_with fail
  refine (digits_ok l _ hl (by omega) h1).mono ?_
  rintro e w1 ⟨rfl, hb1⟩
  go_wp2_with fail
  refine (all_ok l 1 _ hl (by omega) (by omega)).mono ?_
  rintro e w2 ⟨rfl, hb2⟩
  go_wp2_with fail
  refine (back_ok _ _ hq).mono ?_
  rintro e w3 ⟨rfl, rfl⟩
  go_wp2
  go_ret2
  exact ⟨rfl, hb1.step hb2⟩
end Go.Proofs.YtakdjggpengbhaaDoor
