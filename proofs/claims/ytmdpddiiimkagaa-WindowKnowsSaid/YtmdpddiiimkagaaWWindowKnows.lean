/- The walk of the law WindowKnows. -/
import Derived.Test.YtmdpddiiimkagaaUsed
import Derived.Test.YtmdpddiiimkagaaWWindowOnce
namespace Go.Proofs.Ytmdpddiiimkagaa
open Go.RowKit
/-- The marks of what was taken. -/
def tks (L : List Nat) : List Value := (List.range 301).map fun i => Value.bool (decide (i ∈ L))
theorem tks_len (L : List Nat) : (tks L).length = 301 := by simp [tks]
theorem tks_get (L : List Nat) {i : Nat} (h : i < 301) : (tks L)[i]? = some (.bool (decide (i ∈ L))) := by simp [tks, h]
theorem tks_nil : tks [] = List.replicate 301 (.bool false) := by
  apply List.ext_getElem?
  intro i
  rw [List.getElem?_replicate]
  by_cases h : i < 301
  · rw [tks_get [] h, if_pos h]; simp
  · rw [if_neg h, List.getElem?_eq_none]; rw [tks_len]; omega
theorem tks_snoc (L : List Nat) (j : Nat) (hj : j < 301) : (tks L).set j (.bool true) = tks (L ++ [j]) := by
  apply List.ext_getElem?
  intro i
  rw [List.getElem?_set]
  by_cases h : i < 301
  · rw [tks_get _ h, tks_get _ h, tks_len]
    by_cases e : j = i
    · subst e; simp [hj]
    · rw [if_neg e]; simp [show ¬ i = j by omega]
  · rw [List.getElem?_eq_none (by rw [tks_len]; omega), if_neg (by omega), List.getElem?_eq_none (by rw [tks_len]; omega)]
/-- The known numbers from one on. -/
def knownFrom (H B i : Nat) : List Nat := (List.range' i (301 - i)).filter (fun j => wk H B j && decide (H < j + 64))
theorem known_step {H B i : Nat} (hi : i ≤ 300) : knownFrom H B i = if (wk H B i && decide (H < i + 64)) = true then i :: knownFrom H B (i + 1) else knownFrom H B (i + 1) := by
  unfold knownFrom
  rw [show 301 - i = (301 - (i + 1)) + 1 by omega, List.range'_succ, List.filter_cons]
theorem known_end (H B : Nat) : knownFrom H B 301 = [] := rfl
set_option maxRecDepth 100000 in
set_option maxHeartbeats 2000000 in
theorem walk_windowKnows (w : World) (a0 : Value) (w0 : Fit Try.prog w 53 a0) :
    Calls Try.prog 9 #[a0] w fun e w' => e = .returned (.bool true) ∧ Below w.heap.size w w' := by
  obtain ⟨n, f, hv⟩ := w0.intRow Try.underlying53 (by kernel_rfl) (by kernel_rfl)
  clear w0
  obtain ⟨A, d, rfl, hL1, hL2, hwf, hcell⟩ := hv
  have hL : n ≤ 9223372036854775807 := by unfold maxLen at hL2; omega
  clear hL1 hL2
  obtain ⟨T0, hT0⟩ : ∃ T0 : Array Value, Hid ((tks []).toArray = T0) := ⟨_, rfl⟩
  have hmk : ∀ W : World, (Instr.makeSlice 63 (.int .i64 301) (.int .i64 301)).run Try.prog W = .ok (.slice (some ⟨W.heap.size, 0, none⟩) 301 301) (W.alloc (.cells T0 4)) := fun W => by
    have h := run_make_z (P := Try.prog) Try.underlying63 (show (Try.prog.info? 4).map (fun i => (i.zero, i.size, i.bytes)) = some (some (.bool false), 1, 1) by kernel_rfl) rfl 301 (by omega) (by omega) W
    rw [← tks_nil, hT0.out] at h
    exact h
  go_enter Try.func9, Try.ntmps9
  go_wp2_with fail
  go_loopw [5] (fun i wr => ∃ (k H B : Nat) (L : List Nat), k ≤ n ∧ k ≤ 300 ∧ H ≤ 300 ∧ i = .int .i64 k ∧ WMay H B ∧ Had H B L ∧ ((k = 0 ∧ H = 0) ∨ (1 ≤ k ∧ 1 ≤ H)) ∧ Blk wr w.heap.size 55 #[.int .i64 H, .int .u64 B] ∧ Blk wr (w.heap.size + 1) 4 (tks L).toArray ∧ Below w.heap.size w wr) (fun i _ => 300 - (intOf i).toNat)
  case atStart => exact ⟨0, 0, 0, [], by omega, by omega, by omega, rfl, .inl ⟨rfl, rfl⟩, ⟨by simp, fun j h1 _ => by unfold wk; simp⟩, .inl ⟨rfl, rfl⟩, (Blk.new _ _ _).alloc _, by rw [hT0.out]; exact heap_alloc2 _ _ _, below_a2 _ _ _⟩
  case round =>
    obtain ⟨k, H, B, L, hk, hk3, hH, rfl, hm, hd, h0, hblk, htk, hb⟩ := hrel
    clear hmk hT0
    have hglt := hblk.lt
    have htlt := htk.lt
    by_cases hlt : k < n ∧ k < 300
    · obtain ⟨hlt, hlt3⟩ := hlt
      obtain ⟨b, off, rfl, hB, hc⟩ := hcell (by omega)
      have q1 : wr.cell? ⟨b, off + k, none⟩ = some (.int .i64 (f k 0)) := by
        have := (hb.cell (p := ⟨b, off + (k * 1 + 0), none⟩) hB).trans (hc k hlt 0 _ rfl)
        simpa using this
      have z1 := hwf k hlt 0 _ rfl
      clear hc hcell hwf
      generalize f k 0 = x at *
      obtain ⟨r, hr, hrl⟩ := pk_nat x 300 (by omega)
      obtain ⟨j, hj⟩ : ∃ j : Nat, 1 + (r : Int) = (j : Int) := ⟨1 + r, by omega⟩
      have hj1 : 1 ≤ j := by omega
      have hj2 : j ≤ 300 := by omega
      have i1 : (k : Int) < (n : Int) := by omega
      have i2 : (k : Int) < 300 := by omega
      have r0 : wr.cell? ⟨w.heap.size, 0, none⟩ = some (.int .i64 H) := hblk.cell 0
      have rf0 : wr.frozen? ⟨w.heap.size, 0, none⟩ = false := hblk.frozen 0
      have r1 : wr.cell? ⟨w.heap.size, 1, none⟩ = some (.int .u64 B) := hblk.cell 1
      have rf1 : wr.frozen? ⟨w.heap.size, 1, none⟩ = false := hblk.frozen 1
      have HTS := Lib.hid (tks_snoc L j (by omega))
      obtain ⟨old, hold⟩ : ∃ old, (tks L).toArray[j]? = some old := ⟨.bool (decide (j ∈ L)), by simpa using tks_get L (i := j) (by omega)⟩
      have HOLD := Lib.hid hold
      clear hold
      by_cases hj0 : judge H B j = 0
      · have hT := take_may hm hj1 (by omega) hj0
        have hD := had_take hm hd hj1 hj0
        have hh := take_high H B j
        have hTk := fun W => take_ok H B j W hm hj1 (by omega) hj0
        obtain ⟨H2, h2⟩ : ∃ H2, (wtake H B j).1 = H2 := ⟨_, rfl⟩
        rw [h2] at hT hD hTk hh
        generalize (wtake H B j).2 = B2 at *
        have hH2 : H2 ≤ 300 := by omega
        have hH3 : 1 ≤ H2 := by omega
        clear h2 hh hj0
        go_wp2_with fail
        refine (picked_is _ hr z1 (by omega) (by omega)).mono ?_
        rintro e w' ⟨rfl, rfl⟩
        go_wp2_with fail
        refine (hTk _).mono ?_
        rintro e wb ⟨rfl, hbb⟩
        have hblk2 := hblk.below hbb hblk.lt
        have htk2 := htk.below hbb htk.lt
        have hs := hbb.size
        have n1 : w.heap.size < wb.heap.size := by omega
        have n2 : w.heap.size + 1 < wb.heap.size := by omega
        clear r0 rf0 r1 rf1
        have r0 : wb.cell? ⟨w.heap.size, 0, none⟩ = some (.int .i64 H) := hblk2.cell 0
        have rf0 : wb.frozen? ⟨w.heap.size, 0, none⟩ = false := hblk2.frozen 0
        have r1 : wb.cell? ⟨w.heap.size, 1, none⟩ = some (.int .u64 B) := hblk2.cell 1
        have rf1 : wb.frozen? ⟨w.heap.size, 1, none⟩ = false := hblk2.frozen 1
        have u0 : wb.cell? ⟨w.heap.size + 1, j, none⟩ = some old := (htk2.cell j).trans HOLD.out
        have u1 : wb.frozen? ⟨w.heap.size + 1, j, none⟩ = false := htk2.frozen j
        have hblk3 := (((hblk2.set_ 0 (.int .i64 H2)).set_ 1 (.int .u64 B2)).far (p := ⟨w.heap.size + 1, j, none⟩) (by show _ ≠ _; dsimp only; omega) (.bool true)).alloc (.cells #[.int .i64 H2, .int .u64 B2] 55)
        have htk3 := (((htk2.far (p := ⟨w.heap.size, 0, none⟩) (by show _ ≠ _; dsimp only; omega) (.int .i64 H2)).far (p := ⟨w.heap.size, 1, none⟩) (by show _ ≠ _; dsimp only; omega) (.int .u64 B2)).set_ j (.bool true)).alloc (.cells #[.int .i64 H2, .int .u64 B2] 55)
        have bb := ((((hb.trans (hbb.mono hb.size)).setCell (p := ⟨w.heap.size, 0, none⟩) (Nat.le_refl _) (.int .i64 H2)).setCell (p := ⟨w.heap.size, 1, none⟩) (Nat.le_refl _) (.int .u64 B2)).setCell (p := ⟨w.heap.size + 1, j, none⟩) (by show _ ≤ _; dsimp only; omega) (.bool true)).alloc (by simp; omega) (.cells #[.int .i64 H2, .int .u64 B2] 55)
        go_wp2
        go_roundw
        case rel => exact ⟨k + 1, H2, B2, L ++ [j], by omega, by omega, hH2, by go_num, hT, hD, .inr ⟨by omega, hH3⟩, hblk3, by rw [← HTS.out]; simpa using htk3, bb⟩
        case measure => simp [intOf]; omega
      · obtain ⟨c2, hc2⟩ : ∃ c2, judge H B j = c2 := ⟨_, rfl⟩
        have hH1 : 1 ≤ H := by
          rcases Nat.eq_zero_or_pos H with h | h
          · exact absurd (judge_new (by omega)) hj0
          · exact h
        rw [hc2] at hj0
        have HJ := Lib.hid hc2
        clear hc2
        have hTk := fun W => take_no H B j c2 W hm hj1 (by omega) HJ (by omega)
        have e0 : ((c2 : Int) == 0) = false := by simp; omega
        go_wp2_with fail
        refine (picked_is _ hr z1 (by omega) (by omega)).mono ?_
        rintro e w' ⟨rfl, rfl⟩
        go_wp2_with fail
        refine (hTk _).mono ?_
        rintro e wb ⟨rfl, hbb⟩
        go_wp2
        go_roundw
        case rel => exact ⟨k + 1, H, B, L, by omega, by omega, by omega, by go_num, hm, hd, .inr ⟨by omega, hH1⟩, (hblk.below hbb hblk.lt).alloc _, (htk.below hbb htk.lt).alloc _, (hb.trans (hbb.mono hb.size)).alloc (by have := hbb.size; omega) _⟩
        case measure => simp [intOf]; omega
    · have hlt1 : ((k : Int) < (n : Int) ∧ ¬ (k : Int) < 300) ∨ ¬ (k : Int) < (n : Int) := by omega
      have hn0 : (n = 0 ∧ H = 0) ∨ (1 ≤ n ∧ 1 ≤ H) := by omega
      clear hcell hwf hlt h0
      have hU := fun W => used_ok H B W hm
      have hK : lowIds H B 64 = knownFrom H B 1 := low_range hm hH
      have hZ : (lowIds H B 64).length = 0 ↔ H = 0 := by
        rcases hm with ⟨rfl, rfl⟩ | ⟨g1, _, g3, _⟩
        · rw [low_zero]; simp
        · have := low_some (H := H) g3 64 (by omega)
          rw [List.length_eq_zero_iff]
          constructor
          · intro h; exact absurd h this
          · intro h; omega
      have h64 := low_len H B 64
      generalize lowIds H B 64 = l at *
      have HK := Lib.hid hK
      clear hK
      have r0 : wr.cell? ⟨w.heap.size, 0, none⟩ = some (.int .i64 H) := hblk.cell 0
      have rf0 : wr.frozen? ⟨w.heap.size, 0, none⟩ = false := hblk.frozen 0
      have r1 : wr.cell? ⟨w.heap.size, 1, none⟩ = some (.int .u64 B) := hblk.cell 1
      have rf1 : wr.frozen? ⟨w.heap.size, 1, none⟩ = false := hblk.frozen 1
      rcases hlt1 with ⟨g1, g2⟩ | g1
      all_goals
        go_wp2_with fail
        refine (hU _).mono ?_
        rintro e wb ⟨A1, c1, rfl, hns, hbb⟩
        have hs := hbb.size
        have n1 : w.heap.size < wb.heap.size := by omega
        have hblk2 := hblk.below hbb hblk.lt
        have htk2 := htk.below hbb htk.lt
        have bb := hb.trans (hbb.mono hb.size)
        have hat := fun i hi => hns.at_ (k := i) hi
        clear r0 rf0 r1 rf1 hU
        have r0 : wb.cell? ⟨w.heap.size, 0, none⟩ = some (.int .i64 H) := hblk2.cell 0
        have rf0 : wb.frozen? ⟨w.heap.size, 0, none⟩ = false := hblk2.frozen 0
        have r1 : wb.cell? ⟨w.heap.size, 1, none⟩ = some (.int .u64 B) := hblk2.cell 1
        have rf1 : wb.frozen? ⟨w.heap.size, 1, none⟩ = false := hblk2.frozen 1
        clear hns hblk hblk2 htk hbb hb
        go_wp2_with fail
        go_loop [11, 12] (fun u i => ∃ (p i' : Nat), p ≤ l.length ∧ 1 ≤ i' ∧ i' ≤ 301 ∧ u = .int .i64 p ∧ i = .int .i64 i' ∧ Hid (l.drop p = knownFrom H B i')) (fun _ i => 301 - (intOf i).toNat)
        case atStart => exact ⟨0, 1, by omega, by omega, by omega, rfl, rfl, HK⟩
        case round =>
          obtain ⟨p, i, hp, hi1, hi2, rfl, rfl, HD⟩ := hrel
          by_cases hi3 : i ≤ 300
          · have hst := known_step (H := H) (B := B) hi3
            have hwk := hd.2 i hi1
            by_cases hiL : i ∈ L
            · have u0 : wb.cell? ⟨w.heap.size + 1, i, none⟩ = some (.bool true) := by
                have h := tks_get L (i := i) (by omega)
                rw [decide_eq_true hiL] at h
                exact (htk2.cell i).trans (by simpa using h)
              by_cases h64 : H < i + 64
              · rw [if_pos (by rw [(hwk h64).2 hiL, decide_eq_true h64]; rfl)] at hst
                have HD2 : Hid (l.drop p = i :: knownFrom H B (i + 1)) := by show _ = _; rw [HD.out, hst]
                have hpl : p < l.length := by
                  rcases Nat.lt_or_ge p l.length with h | h
                  · exact h
                  · have h2 := HD2.out
                    rw [List.drop_eq_nil_of_le h] at h2
                    cases h2
                have hlp : l[p] = i := by
                  have h2 := HD2.out
                  rw [List.drop_eq_getElem_cons hpl] at h2
                  injection h2
                have HD3 : Hid (l.drop (p + 1) = knownFrom H B (i + 1)) := by
                  have h2 := HD2.out
                  rw [List.drop_eq_getElem_cons hpl] at h2
                  injection h2
                obtain ⟨b2, o2, rfl, hB2, p1⟩ := hat p hpl
                rw [hlp] at p1
                clear hst hwk hat HD2 hlp hiL HD
                have i5 : (p : Int) < (l.length : Int) := by omega
                go_wp2
                go_round
                case rel => exact ⟨p + 1, i + 1, by omega, by omega, by omega, by go_num, by go_num, HD3⟩
                case measure => simp [intOf]; omega
              · rw [if_neg (by rw [decide_eq_false h64]; simp)] at hst
                have HD2 : Hid (l.drop p = knownFrom H B (i + 1)) := by show _ = _; rw [HD.out, hst]
                clear hst hwk hat hiL HD
                go_wp2
                go_round
                case rel => exact ⟨p, i + 1, by omega, by omega, by omega, rfl, by go_num, HD2⟩
                case measure => simp [intOf]; omega
            · have u0 : wb.cell? ⟨w.heap.size + 1, i, none⟩ = some (.bool false) := by
                have h := tks_get L (i := i) (by omega)
                rw [decide_eq_false hiL] at h
                exact (htk2.cell i).trans (by simpa using h)
              have hkf : ¬ (wk H B i && decide (H < i + 64)) = true := by
                intro h
                rw [Bool.and_eq_true, decide_eq_true_eq] at h
                exact hiL ((hwk h.2).1 h.1)
              rw [if_neg hkf] at hst
              have HD2 : Hid (l.drop p = knownFrom H B (i + 1)) := by show _ = _; rw [HD.out, hst]
              clear hst hwk hat hiL HD hkf
              go_wp2
              go_round
              case rel => exact ⟨p, i + 1, by omega, by omega, by omega, rfl, by go_num, HD2⟩
              case measure => simp [intOf]; omega
          · obtain rfl : i = 301 := by omega
            have hpl : p = l.length := by
              have h2 := HD.out
              rw [known_end] at h2
              have := List.drop_eq_nil_iff.1 h2
              omega
            subst hpl
            clear hat HD
            rcases hn0 with ⟨h1, h2⟩ | ⟨h1, h2⟩
            · have hz : l.length = 0 := hZ.2 h2
              rw [hz]
              subst h1
              clear hZ
              go_wp2
              go_ret
              exact ⟨ret_true (by simp), bb⟩
            · have hz : 1 ≤ l.length := by
                rcases Nat.eq_zero_or_pos l.length with h | h
                · have := hZ.1 h; omega
                · exact h
              have e1 : ((n : Int) == 0) = false := by simp; omega
              have e2 : ((l.length : Int) == 0) = false := by rw [beq_eq_false_iff_ne]; omega
              clear hZ
              go_wp2
              go_ret
              exact ⟨ret_true (by simp), bb⟩
end Go.Proofs.Ytmdpddiiimkagaa
