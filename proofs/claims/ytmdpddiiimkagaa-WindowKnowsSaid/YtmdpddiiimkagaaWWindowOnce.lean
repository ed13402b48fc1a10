/- The walk of the law WindowOnce. -/
import Derived.Test.YtmdpddiiimkagaaWin
import Derived.Test.YtmdpddiiimkagaaOwn
import Derived.Test.YtmdpddiiimkagaaWWindowRises
namespace Go.Proofs.Ytmdpddiiimkagaa
open Go.RowKit
/-- What is known of the numbers that were taken. -/
def Had (H B : Nat) (L : List Nat) : Prop := (∀ j ∈ L, j ≤ H) ∧ ∀ j, 1 ≤ j → H < j + 64 → (wk H B j = true ↔ j ∈ L)
theorem had_judge {H B : Nat} {L : List Nat} (h : Had H B L) {j : Nat} (h1 : 1 ≤ j) : judge H B j = if j + 64 ≤ H then 13 else if j ∈ L then 14 else 0 := by
  unfold judge
  by_cases g : j + 64 ≤ H
  · rw [if_pos g, if_pos g]
  · rw [if_neg g, if_neg g]
    have := h.2 j h1 (by omega)
    by_cases g2 : j ∈ L
    · rw [if_pos (this.2 g2), if_pos g2]
    · rw [if_neg (fun h => g2 (this.1 h)), if_neg g2]
theorem had_take {H B : Nat} {L : List Nat} (hm : WMay H B) (h : Had H B L) {j : Nat} (h1 : 1 ≤ j) (hj : judge H B j = 0) : Had (wtake H B j).1 (wtake H B j).2 (L ++ [j]) := by
  refine ⟨fun i hi => ?_, fun i hi h64 => ?_⟩
  · rw [take_high]
    rcases List.mem_append.1 hi with h' | h'
    · have := h.1 i h'; omega
    · simp at h'; omega
  · rw [take_high] at h64
    rw [take_wk hm h1 hj i]
    have := h.2 i hi (by omega)
    rw [List.mem_append, ← this]
    simp; constructor
    · rintro ⟨_, rfl | h⟩
      · exact .inr rfl
      · exact .inl h
    · rintro (h | rfl)
      · exact ⟨by omega, .inr h⟩
      · exact ⟨by omega, .inl rfl⟩
theorem mem_take_succ {L : List Nat} {k : Nat} (h : k < L.length) (j : Nat) : j ∈ L.take (k + 1) ↔ j ∈ L.take k ∨ j = L[k] := by
  rw [List.take_succ_eq_append_getElem h, List.mem_append]; simp
set_option maxRecDepth 100000 in
set_option maxHeartbeats 2000000 in
theorem walk_windowOnce (w : World) (a0 : Value) (w0 : Fit Try.prog w 53 a0) :
    Calls Try.prog 6 #[a0] w fun e w' => e = .returned (.bool true) ∧ Below w.heap.size w w' := by
  obtain ⟨n, f, hv⟩ := w0.intRow Try.underlying53 (by kernel_rfl) (by kernel_rfl)
  clear w0
  obtain ⟨A, d, rfl, hL1, hL2, hwf, hcell⟩ := hv
  have hL : n ≤ 9223372036854775807 := by unfold maxLen at hL2; omega
  clear hL1 hL2
  go_enter Try.func6, Try.ntmps6
  go_wp2
  go_loopw [4, 5, 6] (fun v h i wr => ∃ (k H B m : Nat) (L : List Nat) (A' : Option Addr) (c' : Nat), k ≤ n ∧ k ≤ 300 ∧ m ≤ k ∧ H ≤ 300 ∧ Hid (L.length = m) ∧ v = .slice A' m c' ∧ h = .int .i64 H ∧ i = .int .i64 k ∧ WMay H B ∧ Had H B L ∧ wr.ownsRow (w.heap.size + 1) 3 1 (.slice A' m c') m (nis L) ∧ Blk wr w.heap.size 55 #[.int .i64 H, .int .u64 B] ∧ Below w.heap.size w wr) (fun _ _ i _ => 300 - (intOf i).toNat)
  case atStart => exact ⟨0, 0, 0, 0, [], none, 0, by omega, by omega, by omega, by omega, rfl, rfl, rfl, rfl, .inl ⟨rfl, rfl⟩, ⟨by simp, fun j h1 _ => by unfold wk; simp⟩, World.ownsRow_nil _ _ _ _, Blk.new _ _ _, below_a1 _ _⟩
  case round =>
    obtain ⟨k, H, B, m, L, A', c', hk, hk3, hmk, hH, HL, rfl, rfl, rfl, hm, hd, hown, hblk, hb⟩ := hrel
    have hglt := hblk.lt
    by_cases hlt : k < n ∧ k < 300
    · obtain ⟨hlt, hlt3⟩ := hlt
      obtain ⟨b, off, rfl, hB, hc⟩ := hcell (by omega)
      have q1 : wr.cell? ⟨b, off + k, none⟩ = some (.int .i64 (f k 0)) := by
        have := (hb.cell (p := ⟨b, off + (k * 1 + 0), none⟩) hB).trans (hc k hlt 0 _ rfl)
        simpa using this
      have z1 := hwf k hlt 0 _ rfl
      clear hc hcell hwf
      generalize f k 0 = x at *
      obtain ⟨r, hr, hrl⟩ := pk_nat x 300 (by omega)
      obtain ⟨j, hj⟩ : ∃ j : Nat, 1 + (r : Int) = (j : Int) := ⟨1 + r, by omega⟩
      have hj1 : 1 ≤ j := by omega
      have hj2 : j ≤ 300 := by omega
      have hJ := Lib.hid (had_judge hd hj1)
      have hisn := isns_own HL.out hown
      have hat := fun i hi => hisn.at_ (k := i) hi
      clear hisn
      obtain ⟨wo, rfl⟩ : ∃ wo : World, wo = wr := ⟨_, rfl⟩
      go_wp2_with fail
      refine (picked_is _ hr z1 (by omega) (by omega)).mono ?_
      rintro e w' ⟨rfl, rfl⟩
      go_wp2_with fail
      go_loop [8, 9] (fun u i => ∃ (p c : Nat), p ≤ m ∧ u = .int .i64 c ∧ i = .int .i64 p ∧ Hid (c = if j ∈ L.take p then 14 else 0)) (fun _ i => m - (intOf i).toNat)
      case atStart => exact ⟨0, 0, by omega, rfl, rfl, by show _ = _; simp⟩
      case round =>
        obtain ⟨p, c, hp, rfl, rfl, HC⟩ := hrel
        by_cases hpm : p < m
        · have hpL : p < L.length := by rw [HL.out]; exact hpm
          obtain ⟨b2, o2, rfl, hB2, p1⟩ := hat p hpL
          have HM := Lib.hid (mem_take_succ hpL j)
          clear hat
          generalize L[p] = y at *
          by_cases hy : y = j
          · have e1 : ((y : Int) == (j : Int)) = true := by simp; omega
            have HC2 : Hid (14 = if j ∈ L.take (p + 1) then 14 else 0) := by show _ = _; rw [if_pos (HM.out.2 (.inr hy.symm))]
            clear hy
            go_wp2
            go_round
            case rel => exact ⟨p + 1, 14, by omega, rfl, by go_num, HC2⟩
            case measure => simp [intOf]; omega
          · have e1 : ((y : Int) == (j : Int)) = false := by simp; omega
            have HC2 : Hid (c = if j ∈ L.take (p + 1) then 14 else 0) := by
              show _ = _
              rw [HC.out]
              by_cases g : j ∈ L.take p
              · rw [if_pos g, if_pos (HM.out.2 (.inl g))]
              · rw [if_neg g, if_neg (fun h => (HM.out.1 h).elim g (fun h => hy h.symm))]
            clear hy
            go_wp2
            go_round
            case rel => exact ⟨p + 1, c, by omega, rfl, by go_num, HC2⟩
            case measure => simp [intOf]; omega
        · obtain rfl : p = m := by omega
          have HC2 : Hid (c = if j ∈ L then 14 else 0) := by
            have := HC.out
            rw [← HL.out, List.take_length] at this
            exact this
          clear HC hat
          have hex : ∃ c2 : Nat, Hid (judge H B j = c2) ∧ ((j + 64 ≤ H ∧ c2 = 13) ∨ (¬ j + 64 ≤ H ∧ c2 = c)) := by
            refine ⟨judge H B j, rfl, ?_⟩
            rw [hJ.out, HC2.out]
            by_cases g : j + 64 ≤ H
            · exact .inl ⟨g, if_pos g⟩
            · exact .inr ⟨g, if_neg g⟩
          have hc01 : c = 14 ∨ c = 0 := by
            rw [HC2.out]; by_cases g : j ∈ L
            · exact .inl (if_pos g)
            · exact .inr (if_neg g)
          clear HC2 hJ
          obtain ⟨c2, HJ, hc2⟩ := hex
          have r0 : wo.cell? ⟨w.heap.size, 0, none⟩ = some (.int .i64 H) := hblk.cell 0
          have rf0 : wo.frozen? ⟨w.heap.size, 0, none⟩ = false := hblk.frozen 0
          have r1 : wo.cell? ⟨w.heap.size, 1, none⟩ = some (.int .u64 B) := hblk.cell 1
          have rf1 : wo.frozen? ⟨w.heap.size, 1, none⟩ = false := hblk.frozen 1
          by_cases hc0 : c2 = 0
          · subst hc0
            have hg : ¬ j + 64 ≤ H ∧ c = 0 := by
              rcases hc2 with ⟨_, h⟩ | ⟨h1, h2⟩
              · cases h
              · exact ⟨h1, h2.symm⟩
            obtain ⟨g1, rfl⟩ := hg
            clear hc2 hc01
            have hT := take_may hm hj1 (by omega) HJ.out
            have hD := had_take hm hd hj1 HJ.out
            have hh := take_high H B j
            have hTk := fun W => take_ok H B j W hm hj1 (by omega) HJ.out
            obtain ⟨H2, h2⟩ : ∃ H2, (wtake H B j).1 = H2 := ⟨_, rfl⟩
            rw [h2] at hT hD hTk hh
            generalize (wtake H B j).2 = B2 at *
            have hH2 : H2 ≤ 300 := by omega
            have HH := Lib.hid hh
            clear h2 hh
            go_wp2_with fail
            refine (hTk _).mono ?_
            rintro e wb ⟨rfl, hbb⟩
            have hblk2 := hblk.below hbb hblk.lt
            have hown2 := own_below hown hbb
            have hs := hbb.size
            have n1 : w.heap.size < wb.heap.size := by omega
            clear r0 rf0 r1 rf1
            have r0 : wb.cell? ⟨w.heap.size, 0, none⟩ = some (.int .i64 H) := hblk2.cell 0
            have rf0 : wb.frozen? ⟨w.heap.size, 0, none⟩ = false := hblk2.frozen 0
            have r1 : wb.cell? ⟨w.heap.size, 1, none⟩ = some (.int .u64 B) := hblk2.cell 1
            have rf1 : wb.frozen? ⟨w.heap.size, 1, none⟩ = false := hblk2.frozen 1
            have hblk3 := ((hblk2.set_ 0 (.int .i64 H2)).set_ 1 (.int .u64 B2)).alloc (.cells #[.int .i64 H2, .int .u64 B2] 55)
            have hown3 := (own_far (own_far hown2 (p := ⟨w.heap.size, 0, none⟩) (by show _ < _; simp) (.int .i64 H2)) (p := ⟨w.heap.size, 1, none⟩) (by show _ < _; simp) (.int .u64 B2)).alloc (.cells #[.int .i64 H2, .int .u64 B2] 55)
            have bb := (((hb.trans (hbb.mono hb.size)).setCell (p := ⟨w.heap.size, 0, none⟩) (Nat.le_refl _) (.int .i64 H2)).setCell (p := ⟨w.heap.size, 1, none⟩) (Nat.le_refl _) (.int .u64 B2)).alloc (by simp; omega) (.cells #[.int .i64 H2, .int .u64 B2] 55)
            obtain ⟨W0, hW0⟩ : ∃ W0 : World, Hid (((wb.setCell ⟨w.heap.size, 0, none⟩ (.int .i64 H2)).setCell ⟨w.heap.size, 1, none⟩ (.int .u64 B2)).alloc (.cells #[.int .i64 H2, .int .u64 B2] 55) = W0) := ⟨_, rfl⟩
            have hz0 : W0.heap.size = wb.heap.size + 1 := by rw [← hW0.out]; simp
            have hng := heap_new_at W0 (.cells #[.int .i64 j] 3) _ hz0
            rw [hW0.out] at bb hown3 hblk3
            have HNG := Lib.hid hng
            clear hng
            rw [← hW0.out] at HNG
            have hown4 := hown3.alloc (.cells #[.int .i64 j] 3)
            rw [← hW0.out] at hown4
            have hb4 := (Below.refl (w.heap.size + 1) W0).alloc (by omega) (.cells #[.int .i64 j] 3)
            have hz1 : w.heap.size + 1 ≤ W0.heap.size := by omega
            have HZ0 := Lib.hid hz0
            clear hz0
            have hb5 : Below (w.heap.size + 1) W0 ((((wb.setCell ⟨w.heap.size, 0, none⟩ (.int .i64 H2)).setCell ⟨w.heap.size, 1, none⟩ (.int .u64 B2)).alloc (.cells #[.int .i64 H2, .int .u64 B2] 55)).alloc (.cells #[.int .i64 j] 3)) := by rw [hW0.out]; exact hb4
            clear hb4
            go_wp2_with (at_builtin; go_must (refine wpList_pushg el_int rfl (.tmp 56) (.tmp 58) rfl _ (w.heap.size + 1) (wb.heap.size + 1) _ p _ [.int .i64 j] rfl hown4 rfl HNG.out rfl (fun u hu => by simp at hu; subst hu; rfl) (by omega) (by unfold maxLen; omega) W0 hb5 hz1 ?_); intro A1 c1 w1 hown' hb')
            go_roundw
            case rel => exact ⟨k + 1, H2, B2, p + 1, L ++ [j], A1, c1, by omega, by omega, by omega, hH2, by show _ = _; rw [List.length_append, HL.out]; rfl, rfl, by rw [HH.out]; congr 1; omega, by go_num, hT, hD, by rw [nis_append]; exact hown', hblk3.below hb' (by omega), bb.trans (hb'.mono (by omega))⟩
            case measure => simp [intOf]; omega
          · have hTk := fun W => take_no H B j c2 W hm hj1 (by omega) HJ (by omega)
            have e0 : ((c2 : Int) == 0) = false := by simp; omega
            have hw3 : ∃ W : Nat, Hid (W = c2) := ⟨_, rfl⟩
            by_cases g : j + 64 ≤ H
            · obtain rfl : c2 = 13 := by rcases hc2 with ⟨_, h⟩ | ⟨h, _⟩ <;> omega
              go_wp2_with fail
              refine (hTk _).mono ?_
              rintro e wb ⟨rfl, hbb⟩
              go_wp2
              go_roundw
              case rel => exact ⟨k + 1, H, B, p, L, A', c', by omega, by omega, by omega, by omega, HL, rfl, rfl, by go_num, hm, hd, (own_below hown hbb).alloc _, (hblk.below hbb hblk.lt).alloc _, (hb.trans (hbb.mono hb.size)).alloc (by have := hbb.size; omega) _⟩
              case measure => simp [intOf]; omega
            · obtain rfl : c2 = c := by rcases hc2 with ⟨h, _⟩ | ⟨_, h⟩ <;> omega
              go_wp2_with fail
              refine (hTk _).mono ?_
              rintro e wb ⟨rfl, hbb⟩
              go_wp2
              go_roundw
              case rel => exact ⟨k + 1, H, B, p, L, A', c', by omega, by omega, by omega, by omega, HL, rfl, rfl, by go_num, hm, hd, (own_below hown hbb).alloc _, (hblk.below hbb hblk.lt).alloc _, (hb.trans (hbb.mono hb.size)).alloc (by have := hbb.size; omega) _⟩
              case measure => simp [intOf]; omega
    · have hlt1 : ((k : Int) < (n : Int) ∧ ¬ (k : Int) < 300) ∨ ¬ (k : Int) < (n : Int) := by omega
      clear hcell hwf
      have r0 : wr.cell? ⟨w.heap.size, 0, none⟩ = some (.int .i64 H) := hblk.cell 0
      have rf0 : wr.frozen? ⟨w.heap.size, 0, none⟩ = false := hblk.frozen 0
      have r1 : wr.cell? ⟨w.heap.size, 1, none⟩ = some (.int .u64 B) := hblk.cell 1
      have rf1 : wr.frozen? ⟨w.heap.size, 1, none⟩ = false := hblk.frozen 1
      rcases hlt1 with ⟨g1, g2⟩ | g1
      all_goals
        go_wp2
        go_ret
        exact ⟨ret_true (by simp), hb⟩
end Go.Proofs.Ytmdpddiiimkagaa
