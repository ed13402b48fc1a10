/- The walk of the law MeterLocks. -/
import Derived.Test.YthhbnmmhjfgpdaaLock
import Derived.Test.YthhbnmmhjfgpdaaFlat
import Derived.Deep.RegionHeld3
import Derived.Deep.DeepCutAuto
namespace Go.Proofs.Ythhbnmmhjfgpdaa
open Go.RowKit
set_option linter.unusedVariables false
/-- Bad tries and lock behind so many bad tries. -/
def bl (i : Nat) : Nat × Nat := if i < 5 then (i, 0) else (0, 30)
theorem tmod_next {t z : Nat} (e : ((t : Int) + 1) % 65536 = (z : Int)) : ((t : Int) + 1).tmod 65536 = (z : Int) := by
  rw [Int.tmod_eq_emod_of_nonneg (by omega)]; exact e
theorem wrap_next {t : Nat} (h : t ≤ 65535) : wrap64 ((t : Int) + 1) = (t : Int) + 1 := by unfold wrap64; omega
theorem bl_step {i : Nat} (h : i < 5) : badS 12 i 0 = bl (i + 1) := by
  unfold badS bl
  rw [if_pos rfl]
  by_cases h4 : i + 1 = 5
  · rw [if_pos h4, if_neg (by omega)]
  · rw [if_neg h4, if_pos (by omega)]
theorem key_wrong (v : Value) (l : List Pr) (me i cls id am tag bd lk : Nat) (w : World) (hv : IsPs w v l) (hl : OOk l) (hme : me < 50) (hi : i < 5) (hc : cls ≤ 2) (hk : TkOk cls id am tag) (hn : look l ((me : Int), (0 : Int), ((tbody cls id am : Nat) : Int)) ≠ some (tag : Int)) (hb : badS 12 i 0 = (bd, lk)) :
    Calls Try.prog 19 #[.agg #[.int .i64 (me : Int), .int .i64 0, .int .i64 0, .int .i64 0, .int .u64 0, .int .i64 (i : Int), .int .i64 0], .agg #[v], .agg #[.int .i64 (cls : Int), .int .i64 (id : Int), .int .i64 (am : Int), .int .i64 (tag : Int)]] w fun e w' => e = .returned (.tuple #[.agg #[.int .i64 (me : Int), .int .i64 0, .int .i64 0, .int .i64 0, .int .u64 0, .int .i64 (bd : Int), .int .i64 (lk : Int)], .int .i64 0, .int .i64 12]) ∧ Below w.heap.size w w' :=
  key_ok v l me 0 0 0 0 i 0 cls id am tag 0 0 0 0 bd lk 0 12 w hv hl (by decide) (mmay_of (by omega) (by omega) (by omega) (by omega) (by omega) (by omega) wmay_new) hk (Lib.hid (by
    rw [keyS_none hc (fun r hr => by obtain rfl : r = 0 := by omega
                                     exact hn), hb]))
theorem key_locked (v : Value) (l : List Pr) (me lock cls id am tag : Nat) (w : World) (hv : IsPs w v l) (hl : OOk l) (hme : me < 50) (hk0 : 0 < lock) (hk3 : lock ≤ 30) (hk : TkOk cls id am tag) :
    Calls Try.prog 19 #[.agg #[.int .i64 (me : Int), .int .i64 0, .int .i64 0, .int .i64 0, .int .u64 0, .int .i64 0, .int .i64 (lock : Int)], .agg #[v], .agg #[.int .i64 (cls : Int), .int .i64 (id : Int), .int .i64 (am : Int), .int .i64 (tag : Int)]] w fun e w' => e = .returned (.tuple #[.agg #[.int .i64 (me : Int), .int .i64 0, .int .i64 0, .int .i64 0, .int .u64 0, .int .i64 0, .int .i64 (lock : Int)], .int .i64 0, .int .i64 10]) ∧ Below w.heap.size w w' :=
  key_ok v l me 0 0 0 0 0 lock cls id am tag 0 0 0 0 0 lock 0 10 w hv hl (by decide) (mmay_of (by omega) (by omega) (by omega) (by omega) (by omega) (by omega) wmay_new) hk (Lib.hid (by unfold keyS; rw [if_pos hk0]))
theorem key_good (v : Value) (l : List Pr) (me id am tag y1 y2 : Nat) (w : World) (hv : IsPs w v l) (hl : OOk l) (hme : me < 50) (hk : TkOk 0 id am tag) (h : look l ((me : Int), (0 : Int), ((tbody 0 id am : Nat) : Int)) = some (tag : Int)) (hy : wtake 0 0 id = (y1, y2)) :
    Calls Try.prog 19 #[.agg #[.int .i64 (me : Int), .int .i64 0, .int .i64 0, .int .i64 0, .int .u64 0, .int .i64 0, .int .i64 0], .agg #[v], .agg #[.int .i64 0, .int .i64 (id : Int), .int .i64 (am : Int), .int .i64 (tag : Int)]] w fun e w' => e = .returned (.tuple #[.agg #[.int .i64 (me : Int), .int .i64 0, .int .i64 (am : Int), .int .i64 (y1 : Int), .int .u64 (y2 : Int), .int .i64 0, .int .i64 0], .int .i64 (am : Int), .int .i64 0]) ∧ Below w.heap.size w w' :=
  key_ok v l me 0 0 0 0 0 0 0 id am tag 0 am y1 y2 0 0 am 0 w hv hl (by decide) (mmay_of (by omega) (by omega) (by omega) (by omega) (by omega) (by omega) wmay_new) hk (Lib.hid (by
    rw [keyS_own (by omega) h]
    unfold takeS
    have ham := hk.am
    rw [judge_new hk.h2, if_neg (by omega), if_pos rfl, if_neg (by omega), hy, Nat.zero_add]))
set_option maxRecDepth 100000 in
set_option maxHeartbeats 60000000 in
theorem walk_meterLocks (w : World) (a0 : Int) (w0 : (Lit.int .i64 a0).wf = true) (a1 : Value) (w1 : Fit Try.prog w 44 a1) (a2 : Value) (w2 : Fit Try.prog w 46 a2) (a3 : Int) (w3 : (Lit.int .i64 a3).wf = true) :
    Calls Try.prog 8 #[.int .i64 a0, a1, a2, .int .i64 a3] w fun e w' => e = .returned (.bool true) ∧ Below w.heap.size w w' := by
  obtain ⟨n, F, A1, c1, rfl, hn1, hn2, hFw, hFc⟩ := w1.rows (ks := [.i64, .i64, .i64, .i64]) Try.underlying44 (by kernel_rfl) (by simp) (by kernel_rfl)
  have hnm : n ≤ 9223372036854775807 := by unfold maxLen at hn2; omega
  obtain ⟨e, f, g, h, rfl, we, wf, wg, wh⟩ := raw_fits w2
  obtain ⟨me, hme, m1⟩ := pk_natI a0 50 (by omega)
  obtain ⟨ld, hld, l1⟩ := pk_natI a3 1001 (by omega)
  have hB := fun W => begin_ok me W (by omega)
  have hS := fun W => vsold_ok (.slice none 0 0) [] me 0 0 0 0 0 0 0 f g h 0 W (isps_nil W) ook_nil (by simp) (by omega) (by omega) (by decide) wf wg wh pk_zero4
  clear w1 w2 hn1 hn2
  have HM := Mem.init w
  obtain ⟨W0, hW0⟩ : ∃ W0, (w).alloc (.cells #[.int .i64 e, .int .i64 f, .int .i64 g, .int .i64 h] 46) = W0 := ⟨_, rfl⟩
  replace HM : Mem (w) [] _ [.blk (w.heap.size) 46 #[.int .i64 e, .int .i64 f, .int .i64 g, .int .i64 h]] := Mem.alloc HM (w.heap.size) (by first | (simp; done) | (simp; omega)) #[.int .i64 e, .int .i64 f, .int .i64 g, .int .i64 h] 46
  rw [hW0] at HM
  have rx0 : (W0).cell? ⟨w.heap.size, 0, none⟩ = some (.int .i64 e) := (HM.blk 0 rfl).cell 0
  have rxf0 : (W0).frozen? ⟨w.heap.size, 0, none⟩ = false := (HM.blk 0 rfl).frozen 0
  have rx1 : (W0).cell? ⟨w.heap.size, 1, none⟩ = some (.int .i64 f) := (HM.blk 0 rfl).cell 1
  have rxf1 : (W0).frozen? ⟨w.heap.size, 1, none⟩ = false := (HM.blk 0 rfl).frozen 1
  have rx2 : (W0).cell? ⟨w.heap.size, 2, none⟩ = some (.int .i64 g) := (HM.blk 0 rfl).cell 2
  have rxf2 : (W0).frozen? ⟨w.heap.size, 2, none⟩ = false := (HM.blk 0 rfl).frozen 2
  have rx3 : (W0).cell? ⟨w.heap.size, 3, none⟩ = some (.int .i64 h) := (HM.blk 0 rfl).cell 3
  have rxf3 : (W0).frozen? ⟨w.heap.size, 3, none⟩ = false := (HM.blk 0 rfl).frozen 3
  have rxlt : w.heap.size < (W0).heap.size := HM.lt 0 rfl
  go_enter Try.func8, Try.ntmps8
  go_wp2_with (go_at_call 13; (with_reducible refine (picked_is _ hme w0 (by omega) (by omega)).mono ?_); rintro e1 w9 ⟨rfl, hw9⟩; subst hw9)
  refine (hB _).mono ?_
  rintro e1 wa ⟨rfl, hba⟩
  replace HM : Mem (w) [] (wa) [.blk (w.heap.size) 46 #[.int .i64 e, .int .i64 f, .int .i64 g, .int .i64 h]] := Mem.call HM hba
  clear rx0 rxf0 rx1 rxf1 rx2 rxf2 rx3 rxf3 rxlt
  have rx0 : (wa).cell? ⟨w.heap.size, 0, none⟩ = some (.int .i64 e) := (HM.blk 0 rfl).cell 0
  have rxf0 : (wa).frozen? ⟨w.heap.size, 0, none⟩ = false := (HM.blk 0 rfl).frozen 0
  have rx1 : (wa).cell? ⟨w.heap.size, 1, none⟩ = some (.int .i64 f) := (HM.blk 0 rfl).cell 1
  have rxf1 : (wa).frozen? ⟨w.heap.size, 1, none⟩ = false := (HM.blk 0 rfl).frozen 1
  have rx2 : (wa).cell? ⟨w.heap.size, 2, none⟩ = some (.int .i64 g) := (HM.blk 0 rfl).cell 2
  have rxf2 : (wa).frozen? ⟨w.heap.size, 2, none⟩ = false := (HM.blk 0 rfl).frozen 2
  have rx3 : (wa).cell? ⟨w.heap.size, 3, none⟩ = some (.int .i64 h) := (HM.blk 0 rfl).cell 3
  have rxf3 : (wa).frozen? ⟨w.heap.size, 3, none⟩ = false := (HM.blk 0 rfl).frozen 3
  have rxlt : w.heap.size < (wa).heap.size := HM.lt 0 rfl
  clear hba hB hW0 hme w0
  go_wp2_with fail
  obtain ⟨Wb, hWb⟩ : ∃ Wb, ((wa).setCell ⟨w.heap.size, 0, none⟩ (.int .i64 0)).alloc (.cells #[.int .i64 (me : Int), .int .i64 0, .int .i64 0, .int .i64 0, .int .u64 0, .int .i64 0, .int .i64 0] 51) = Wb := ⟨_, rfl⟩
  replace HM : Mem (w) [] _ [.blk (w.heap.size) 46 #[.int .i64 0, .int .i64 f, .int .i64 g, .int .i64 h]] := Mem.set 0 HM rfl 0 (.int .i64 0)
  replace HM : Mem (w) [] _ [.blk (w.heap.size) 46 #[.int .i64 0, .int .i64 f, .int .i64 g, .int .i64 h], .blk (wa.heap.size) 51 #[.int .i64 (me : Int), .int .i64 0, .int .i64 0, .int .i64 0, .int .u64 0, .int .i64 0, .int .i64 0]] := Mem.alloc HM (wa.heap.size) (by first | (simp; done) | (simp; omega)) #[.int .i64 (me : Int), .int .i64 0, .int .i64 0, .int .i64 0, .int .u64 0, .int .i64 0, .int .i64 0] 51
  rw [hWb] at HM ⊢
  clear hWb
  refine (hS _).mono ?_
  rintro e1 wb ⟨id, am, tag, t2, l2, A, cc, rfl, hk, hl2, ht2, hO2, hown, hbb⟩
  replace HM : Mem (w) [] (wb) [.blk (w.heap.size) 46 #[.int .i64 0, .int .i64 f, .int .i64 g, .int .i64 h], .blk (wa.heap.size) 51 #[.int .i64 (me : Int), .int .i64 0, .int .i64 0, .int .i64 0, .int .u64 0, .int .i64 0, .int .i64 0], .row (Wb.heap.size) (104) (4) (.slice A l2.length cc) (l2.length) (prs l2)] := Mem.row HM hbb hown (Nat.le_refl _)
  clear rx0 rxf0 rx1 rxf1 rx2 rxf2 rx3 rxf3 rxlt
  have mt0 : (wb).cell? ⟨wa.heap.size, 0, none⟩ = some (.int .i64 (me : Int)) := (HM.blk 1 rfl).cell 0
  have mtf0 : (wb).frozen? ⟨wa.heap.size, 0, none⟩ = false := (HM.blk 1 rfl).frozen 0
  have mt1 : (wb).cell? ⟨wa.heap.size, 1, none⟩ = some (.int .i64 0) := (HM.blk 1 rfl).cell 1
  have mtf1 : (wb).frozen? ⟨wa.heap.size, 1, none⟩ = false := (HM.blk 1 rfl).frozen 1
  have mt2 : (wb).cell? ⟨wa.heap.size, 2, none⟩ = some (.int .i64 0) := (HM.blk 1 rfl).cell 2
  have mtf2 : (wb).frozen? ⟨wa.heap.size, 2, none⟩ = false := (HM.blk 1 rfl).frozen 2
  have mt3 : (wb).cell? ⟨wa.heap.size, 3, none⟩ = some (.int .i64 0) := (HM.blk 1 rfl).cell 3
  have mtf3 : (wb).frozen? ⟨wa.heap.size, 3, none⟩ = false := (HM.blk 1 rfl).frozen 3
  have mt4 : (wb).cell? ⟨wa.heap.size, 4, none⟩ = some (.int .u64 0) := (HM.blk 1 rfl).cell 4
  have mtf4 : (wb).frozen? ⟨wa.heap.size, 4, none⟩ = false := (HM.blk 1 rfl).frozen 4
  have mt5 : (wb).cell? ⟨wa.heap.size, 5, none⟩ = some (.int .i64 0) := (HM.blk 1 rfl).cell 5
  have mtf5 : (wb).frozen? ⟨wa.heap.size, 5, none⟩ = false := (HM.blk 1 rfl).frozen 5
  have mt6 : (wb).cell? ⟨wa.heap.size, 6, none⟩ = some (.int .i64 0) := (HM.blk 1 rfl).cell 6
  have mtf6 : (wb).frozen? ⟨wa.heap.size, 6, none⟩ = false := (HM.blk 1 rfl).frozen 6
  have mtlt : wa.heap.size < (wb).heap.size := HM.lt 1 rfl
  clear hS hbb hown
  have hlk := look_iss [] (me : Int) (0 : Int) ((tbody 0 id am : Nat) : Int) (tag : Int)
  have hnone : ∀ b : Nat, b ≠ tbody 0 id am → look l2 ((me : Int), (0 : Int), (b : Int)) = none := fun b hb => by
    rw [← hl2, show ((0 : Nat) : Int) = (0 : Int) from rfl, issL_look, if_neg (fun hh => hb (by injection hh with _ h2; injection h2 with _ h3; omega))]
    rfl
  rw [show ((0 : Nat) : Int) = (0 : Int) from rfl] at hl2 ht2
  rw [hl2, ht2] at hlk
  have hwfP := ook_wf hO2
  have hps := fun (W : World) (h : W.ownsRow Wb.heap.size 104 4 (.slice A l2.length cc) l2.length (prs l2)) => isps_own rfl hwfP h
  clear hl2 ht2
  go_wp2_with fail
  obtain ⟨Wc, hWc⟩ : ∃ Wc, ((wb).alloc (.cells #[.slice A l2.length cc] 56)).alloc (.cells #[.int .i64 0, .int .i64 (id : Int), .int .i64 (am : Int), .int .i64 (t2 : Int)] 57) = Wc := ⟨_, rfl⟩
  replace HM : Mem (w) [] _ [.blk (w.heap.size) 46 #[.int .i64 0, .int .i64 f, .int .i64 g, .int .i64 h], .blk (wa.heap.size) 51 #[.int .i64 (me : Int), .int .i64 0, .int .i64 0, .int .i64 0, .int .u64 0, .int .i64 0, .int .i64 0], .row (Wb.heap.size) (104) (4) (.slice A l2.length cc) (l2.length) (prs l2), .blk (wb.heap.size) 56 #[.slice A l2.length cc]] := Mem.alloc HM (wb.heap.size) (by first | (simp; done) | (simp; omega)) #[.slice A l2.length cc] 56
  replace HM : Mem (w) [] _ [.blk (w.heap.size) 46 #[.int .i64 0, .int .i64 f, .int .i64 g, .int .i64 h], .blk (wa.heap.size) 51 #[.int .i64 (me : Int), .int .i64 0, .int .i64 0, .int .i64 0, .int .u64 0, .int .i64 0, .int .i64 0], .row (Wb.heap.size) (104) (4) (.slice A l2.length cc) (l2.length) (prs l2), .blk (wb.heap.size) 56 #[.slice A l2.length cc], .blk (wb.heap.size + 1) 57 #[.int .i64 0, .int .i64 (id : Int), .int .i64 (am : Int), .int .i64 (t2 : Int)]] := Mem.alloc HM (wb.heap.size + 1) (by first | (simp; done) | (simp; omega)) #[.int .i64 0, .int .i64 (id : Int), .int .i64 (am : Int), .int .i64 (t2 : Int)] 57
  rw [hWc] at HM ⊢
  clear hWc
  go_wp2
  go_loopw [14] (fun v wr => ∃ (i bad lock : Nat), i ≤ 5 ∧ v = .int .i64 (i : Int) ∧ Hid (bl i = (bad, lock)) ∧ Mem w [] wr [.blk (w.heap.size) 46 #[.int .i64 0, .int .i64 f, .int .i64 g, .int .i64 h], .blk (wa.heap.size) 51 #[.int .i64 (me : Int), .int .i64 0, .int .i64 0, .int .i64 0, .int .u64 0, .int .i64 (bad : Int), .int .i64 (lock : Int)], .row (Wb.heap.size) (104) (4) (.slice A l2.length cc) (l2.length) (prs l2), .blk (wb.heap.size) 56 #[.slice A l2.length cc], .blk (wb.heap.size + 1) 57 #[.int .i64 0, .int .i64 (id : Int), .int .i64 (am : Int), .int .i64 (t2 : Int)]]) (fun v _ => 5 - (intOf v).toNat)
  case atStart => exact ⟨0, 0, 0, by omega, rfl, rfl, HM⟩
  case round =>
    obtain ⟨i, bad, lock, hi, rfl, hbl, HM1⟩ := hrel
    clear HM
    by_cases hlt : i < 5
    · have hb2 := hbl.out
      unfold bl at hb2
      rw [if_pos hlt] at hb2
      injection hb2 with hb3 hb4
      subst hb3
      subst hb4
      obtain ⟨bd, lk, hbd⟩ : ∃ bd lk, badS 12 i 0 = (bd, lk) := ⟨_, _, rfl⟩
      have HBL : Hid (bl (i + 1) = (bd, lk)) := by show _ = _; rw [← bl_step hlt, hbd]
      have HM : Mem (w) [] (wr) [.blk (w.heap.size) 46 #[.int .i64 0, .int .i64 f, .int .i64 g, .int .i64 h], .blk (wa.heap.size) 51 #[.int .i64 (me : Int), .int .i64 0, .int .i64 0, .int .i64 0, .int .u64 0, .int .i64 (i : Int), .int .i64 0], .row (Wb.heap.size) (104) (4) (.slice A l2.length cc) (l2.length) (prs l2), .blk (wb.heap.size) 56 #[.slice A l2.length cc], .blk (wb.heap.size + 1) 57 #[.int .i64 0, .int .i64 (id : Int), .int .i64 (am : Int), .int .i64 (t2 : Int)]] := HM1
      clear HM1 hbl hi
      have hltI : (i : Int) < 5 := by omega
      go_upto_if 60 with (fail)
      obtain ⟨wy0, hwy0⟩ : ∃ wy0, (wr).alloc (.cells #[.int .i64 0, .int .i64 (i : Int), .int .i64 0, .int .i64 0] 46) = wy0 := ⟨_, rfl⟩
      replace HM : Mem (w) [] _ [.blk (w.heap.size) 46 #[.int .i64 0, .int .i64 f, .int .i64 g, .int .i64 h], .blk (wa.heap.size) 51 #[.int .i64 (me : Int), .int .i64 0, .int .i64 0, .int .i64 0, .int .u64 0, .int .i64 (i : Int), .int .i64 0], .row (Wb.heap.size) (104) (4) (.slice A l2.length cc) (l2.length) (prs l2), .blk (wb.heap.size) 56 #[.slice A l2.length cc], .blk (wb.heap.size + 1) 57 #[.int .i64 0, .int .i64 (id : Int), .int .i64 (am : Int), .int .i64 (t2 : Int)], .blk (wr.heap.size) 46 #[.int .i64 0, .int .i64 (i : Int), .int .i64 0, .int .i64 0]] := Mem.alloc HM (wr.heap.size) (by first | (simp; done) | (simp; omega)) #[.int .i64 0, .int .i64 (i : Int), .int .i64 0, .int .i64 0] 46
      rw [hwy0] at HM ⊢
      clear hwy0
      clear mt0 mtf0 mt1 mtf1 mt2 mtf2 mt3 mtf3 mt4 mtf4 mt5 mtf5 mt6 mtf6 mtlt
      have ys0 : (wy0).cell? ⟨wr.heap.size, 0, none⟩ = some (.int .i64 0) := (HM.blk 5 rfl).cell 0
      have ysf0 : (wy0).frozen? ⟨wr.heap.size, 0, none⟩ = false := (HM.blk 5 rfl).frozen 0
      have ys1 : (wy0).cell? ⟨wr.heap.size, 1, none⟩ = some (.int .i64 (i : Int)) := (HM.blk 5 rfl).cell 1
      have ysf1 : (wy0).frozen? ⟨wr.heap.size, 1, none⟩ = false := (HM.blk 5 rfl).frozen 1
      have ys2 : (wy0).cell? ⟨wr.heap.size, 2, none⟩ = some (.int .i64 0) := (HM.blk 5 rfl).cell 2
      have ysf2 : (wy0).frozen? ⟨wr.heap.size, 2, none⟩ = false := (HM.blk 5 rfl).frozen 2
      have ys3 : (wy0).cell? ⟨wr.heap.size, 3, none⟩ = some (.int .i64 0) := (HM.blk 5 rfl).cell 3
      have ysf3 : (wy0).frozen? ⟨wr.heap.size, 3, none⟩ = false := (HM.blk 5 rfl).frozen 3
      have yslt : wr.heap.size < (wy0).heap.size := HM.lt 5 rfl

      go_cut [] (fun wx => ∃ y0 y1 y2 y3 : Int, (Lit.int .i64 y0).wf = true ∧ (Lit.int .i64 y1).wf = true ∧ (Lit.int .i64 y2).wf = true ∧ (Lit.int .i64 y3).wf = true ∧ Mem w [] wx [.blk (w.heap.size) 46 #[.int .i64 0, .int .i64 f, .int .i64 g, .int .i64 h], .blk (wa.heap.size) 51 #[.int .i64 (me : Int), .int .i64 0, .int .i64 0, .int .i64 0, .int .u64 0, .int .i64 (i : Int), .int .i64 0], .row (Wb.heap.size) (104) (4) (.slice A l2.length cc) (l2.length) (prs l2), .blk (wb.heap.size) 56 #[.slice A l2.length cc], .blk (wb.heap.size + 1) 57 #[.int .i64 0, .int .i64 (id : Int), .int .i64 (am : Int), .int .i64 (t2 : Int)], .blk (wr.heap.size) 46 #[.int .i64 y0, .int .i64 y1, .int .i64 y2, .int .i64 y3]])
      case first =>
        by_cases hin : i < n
        · obtain ⟨b, off, rfl, hBn, hFq⟩ := hFc (by omega)
          have c0 := hFq i hin 0 .i64 rfl
          have c1' := hFq i hin 1 .i64 rfl
          have c2 := hFq i hin 2 .i64 rfl
          have c3 := hFq i hin 3 .i64 rfl
          obtain ⟨y0, hy0⟩ : ∃ y, F i 0 = y := ⟨_, rfl⟩
          obtain ⟨y1, hy1⟩ : ∃ y, F i 1 = y := ⟨_, rfl⟩
          obtain ⟨y2, hy2⟩ : ∃ y, F i 2 = y := ⟨_, rfl⟩
          obtain ⟨y3, hy3⟩ : ∃ y, F i 3 = y := ⟨_, rfl⟩
          have wy0' := hFw i hin 0 .i64 rfl
          have wy1 := hFw i hin 1 .i64 rfl
          have wy2 := hFw i hin 2 .i64 rfl
          have wy3 := hFw i hin 3 .i64 rfl
          rw [hy0] at c0 wy0'
          rw [hy1] at c1' wy1
          rw [hy2] at c2 wy2
          rw [hy3] at c3 wy3
          simp only [List.length_cons, List.length_nil, Nat.zero_add, Nat.reduceAdd, Nat.add_zero, ← Nat.add_assoc] at c0 c1' c2 c3
          have hbw := HM.below
          have d0 : wy0.cell? ⟨b, off + i * 4, none⟩ = some (.int .i64 y0) := (hbw.cell (p := ⟨b, off + i * 4, none⟩) hBn).trans c0
          have d1 : wy0.cell? ⟨b, off + i * 4 + 1, none⟩ = some (.int .i64 y1) := (hbw.cell (p := ⟨b, off + i * 4 + 1, none⟩) hBn).trans c1'
          have d2 : wy0.cell? ⟨b, off + i * 4 + 2, none⟩ = some (.int .i64 y2) := (hbw.cell (p := ⟨b, off + i * 4 + 2, none⟩) hBn).trans c2
          have d3 : wy0.cell? ⟨b, off + i * 4 + 3, none⟩ = some (.int .i64 y3) := (hbw.cell (p := ⟨b, off + i * 4 + 3, none⟩) hBn).trans c3
          have hblt : b < wy0.heap.size := Nat.lt_of_lt_of_le hBn hbw.size
          have W0' := Lib.hid wy0'
          have W1' := Lib.hid wy1
          have W2' := Lib.hid wy2
          have W3' := Lib.hid wy3
          clear hFq hFc hFw c0 c1' c2 c3 hy0 hy1 hy2 hy3 hbw wy0' wy1 wy2 wy3
          go_wp2_with fail
          obtain ⟨wy5, hwy5⟩ : ∃ wy5, ((((wy0).setCell ⟨wr.heap.size, 0, none⟩ (.int .i64 y0)).setCell ⟨wr.heap.size, 1, none⟩ (.int .i64 y1)).setCell ⟨wr.heap.size, 2, none⟩ (.int .i64 y2)).setCell ⟨wr.heap.size, 3, none⟩ (.int .i64 y3) = wy5 := ⟨_, rfl⟩
          replace HM : Mem (w) [] _ [.blk (w.heap.size) 46 #[.int .i64 0, .int .i64 f, .int .i64 g, .int .i64 h], .blk (wa.heap.size) 51 #[.int .i64 (me : Int), .int .i64 0, .int .i64 0, .int .i64 0, .int .u64 0, .int .i64 (i : Int), .int .i64 0], .row (Wb.heap.size) (104) (4) (.slice A l2.length cc) (l2.length) (prs l2), .blk (wb.heap.size) 56 #[.slice A l2.length cc], .blk (wb.heap.size + 1) 57 #[.int .i64 0, .int .i64 (id : Int), .int .i64 (am : Int), .int .i64 (t2 : Int)], .blk (wr.heap.size) 46 #[.int .i64 y0, .int .i64 (i : Int), .int .i64 0, .int .i64 0]] := Mem.set 5 HM rfl 0 (.int .i64 y0)
          replace HM : Mem (w) [] _ [.blk (w.heap.size) 46 #[.int .i64 0, .int .i64 f, .int .i64 g, .int .i64 h], .blk (wa.heap.size) 51 #[.int .i64 (me : Int), .int .i64 0, .int .i64 0, .int .i64 0, .int .u64 0, .int .i64 (i : Int), .int .i64 0], .row (Wb.heap.size) (104) (4) (.slice A l2.length cc) (l2.length) (prs l2), .blk (wb.heap.size) 56 #[.slice A l2.length cc], .blk (wb.heap.size + 1) 57 #[.int .i64 0, .int .i64 (id : Int), .int .i64 (am : Int), .int .i64 (t2 : Int)], .blk (wr.heap.size) 46 #[.int .i64 y0, .int .i64 y1, .int .i64 0, .int .i64 0]] := Mem.set 5 HM rfl 1 (.int .i64 y1)
          replace HM : Mem (w) [] _ [.blk (w.heap.size) 46 #[.int .i64 0, .int .i64 f, .int .i64 g, .int .i64 h], .blk (wa.heap.size) 51 #[.int .i64 (me : Int), .int .i64 0, .int .i64 0, .int .i64 0, .int .u64 0, .int .i64 (i : Int), .int .i64 0], .row (Wb.heap.size) (104) (4) (.slice A l2.length cc) (l2.length) (prs l2), .blk (wb.heap.size) 56 #[.slice A l2.length cc], .blk (wb.heap.size + 1) 57 #[.int .i64 0, .int .i64 (id : Int), .int .i64 (am : Int), .int .i64 (t2 : Int)], .blk (wr.heap.size) 46 #[.int .i64 y0, .int .i64 y1, .int .i64 y2, .int .i64 0]] := Mem.set 5 HM rfl 2 (.int .i64 y2)
          replace HM : Mem (w) [] _ [.blk (w.heap.size) 46 #[.int .i64 0, .int .i64 f, .int .i64 g, .int .i64 h], .blk (wa.heap.size) 51 #[.int .i64 (me : Int), .int .i64 0, .int .i64 0, .int .i64 0, .int .u64 0, .int .i64 (i : Int), .int .i64 0], .row (Wb.heap.size) (104) (4) (.slice A l2.length cc) (l2.length) (prs l2), .blk (wb.heap.size) 56 #[.slice A l2.length cc], .blk (wb.heap.size + 1) 57 #[.int .i64 0, .int .i64 (id : Int), .int .i64 (am : Int), .int .i64 (t2 : Int)], .blk (wr.heap.size) 46 #[.int .i64 y0, .int .i64 y1, .int .i64 y2, .int .i64 y3]] := Mem.set 5 HM rfl 3 (.int .i64 y3)
          rw [hwy5] at HM ⊢
          clear hwy5
          go_meet
          exact ⟨y0, y1, y2, y3, W0'.out, W1'.out, W2'.out, W3'.out, HM⟩
        · skip
          go_wp2_with fail
          go_meet
          exact ⟨0, (i : Int), 0, 0, by decide, WalkArith.wf_i64 (by omega), by decide, by decide, HM⟩
      case rest =>
        obtain ⟨y0, y1, y2, y3, wy0', wy1, wy2, wy3, HM2⟩ := hcut
        obtain ⟨wq, hwq⟩ : ∃ x, x = wc := ⟨_, rfl⟩
        subst hwq
        clear HM hFc hFw
        have HM : Mem (w) [] (wq) [.blk (w.heap.size) 46 #[.int .i64 0, .int .i64 f, .int .i64 g, .int .i64 h], .blk (wa.heap.size) 51 #[.int .i64 (me : Int), .int .i64 0, .int .i64 0, .int .i64 0, .int .u64 0, .int .i64 (i : Int), .int .i64 0], .row (Wb.heap.size) (104) (4) (.slice A l2.length cc) (l2.length) (prs l2), .blk (wb.heap.size) 56 #[.slice A l2.length cc], .blk (wb.heap.size + 1) 57 #[.int .i64 0, .int .i64 (id : Int), .int .i64 (am : Int), .int .i64 (t2 : Int)], .blk (wr.heap.size) 46 #[.int .i64 y0, .int .i64 y1, .int .i64 y2, .int .i64 y3]] := HM2
        clear HM2
        clear ys0 ysf0 ys1 ysf1 ys2 ysf2 ys3 ysf3 yslt
        have ys0 : (wq).cell? ⟨wr.heap.size, 0, none⟩ = some (.int .i64 y0) := (HM.blk 5 rfl).cell 0
        have ysf0 : (wq).frozen? ⟨wr.heap.size, 0, none⟩ = false := (HM.blk 5 rfl).frozen 0
        have ys1 : (wq).cell? ⟨wr.heap.size, 1, none⟩ = some (.int .i64 y1) := (HM.blk 5 rfl).cell 1
        have ysf1 : (wq).frozen? ⟨wr.heap.size, 1, none⟩ = false := (HM.blk 5 rfl).frozen 1
        have ys2 : (wq).cell? ⟨wr.heap.size, 2, none⟩ = some (.int .i64 y2) := (HM.blk 5 rfl).cell 2
        have ysf2 : (wq).frozen? ⟨wr.heap.size, 2, none⟩ = false := (HM.blk 5 rfl).frozen 2
        have ys3 : (wq).cell? ⟨wr.heap.size, 3, none⟩ = some (.int .i64 y3) := (HM.blk 5 rfl).cell 3
        have ysf3 : (wq).frozen? ⟨wr.heap.size, 3, none⟩ = false := (HM.blk 5 rfl).frozen 3
        have yslt : wr.heap.size < (wq).heap.size := HM.lt 5 rfl
        obtain ⟨cls, hcls, hc3⟩ := pk_natI y0 3 (by omega)
        have hMd := fun W => made_ok (cls : Int) y1 y2 y3 cls W (WalkArith.wf_i64 (by omega)) wy1 wy2 wy3 (Lib.hid (pk_self (by omega)))
        go_wp2_with (go_at_call 13; (with_reducible refine (picked_is _ hcls wy0' (by omega) (by omega)).mono ?_); rintro e1 w9 ⟨rfl, hw9⟩; subst hw9)
        obtain ⟨wy, hwy⟩ : ∃ wy, (wq).setCell ⟨wr.heap.size, 0, none⟩ (.int .i64 (cls : Int)) = wy := ⟨_, rfl⟩
        replace HM : Mem (w) [] _ [.blk (w.heap.size) 46 #[.int .i64 0, .int .i64 f, .int .i64 g, .int .i64 h], .blk (wa.heap.size) 51 #[.int .i64 (me : Int), .int .i64 0, .int .i64 0, .int .i64 0, .int .u64 0, .int .i64 (i : Int), .int .i64 0], .row (Wb.heap.size) (104) (4) (.slice A l2.length cc) (l2.length) (prs l2), .blk (wb.heap.size) 56 #[.slice A l2.length cc], .blk (wb.heap.size + 1) 57 #[.int .i64 0, .int .i64 (id : Int), .int .i64 (am : Int), .int .i64 (t2 : Int)], .blk (wr.heap.size) 46 #[.int .i64 (cls : Int), .int .i64 y1, .int .i64 y2, .int .i64 y3]] := Mem.set 5 HM rfl 0 (.int .i64 (cls : Int))
        rw [hwy] at HM ⊢
        clear hwy
        refine (hMd _).mono ?_
        rintro e1 wm ⟨id', am', tag', rfl, hk', hbm⟩
        replace HM : Mem (w) [] (wm) [.blk (w.heap.size) 46 #[.int .i64 0, .int .i64 f, .int .i64 g, .int .i64 h], .blk (wa.heap.size) 51 #[.int .i64 (me : Int), .int .i64 0, .int .i64 0, .int .i64 0, .int .u64 0, .int .i64 (i : Int), .int .i64 0], .row (Wb.heap.size) (104) (4) (.slice A l2.length cc) (l2.length) (prs l2), .blk (wb.heap.size) 56 #[.slice A l2.length cc], .blk (wb.heap.size + 1) 57 #[.int .i64 0, .int .i64 (id : Int), .int .i64 (am : Int), .int .i64 (t2 : Int)], .blk (wr.heap.size) 46 #[.int .i64 (cls : Int), .int .i64 y1, .int .i64 y2, .int .i64 y3]] := Mem.call HM hbm
        clear hbm hMd hcls wy0' wy1 wy2 wy3
        go_upto_region 14 with (fail)
        obtain ⟨wv, hwv⟩ : ∃ wv, (wm).alloc (.cells #[.int .i64 (cls : Int), .int .i64 (id' : Int), .int .i64 (am' : Int), .int .i64 (tag' : Int)] 57) = wv := ⟨_, rfl⟩
        replace HM : Mem (w) [] _ [.blk (w.heap.size) 46 #[.int .i64 0, .int .i64 f, .int .i64 g, .int .i64 h], .blk (wa.heap.size) 51 #[.int .i64 (me : Int), .int .i64 0, .int .i64 0, .int .i64 0, .int .u64 0, .int .i64 (i : Int), .int .i64 0], .row (Wb.heap.size) (104) (4) (.slice A l2.length cc) (l2.length) (prs l2), .blk (wb.heap.size) 56 #[.slice A l2.length cc], .blk (wb.heap.size + 1) 57 #[.int .i64 0, .int .i64 (id : Int), .int .i64 (am : Int), .int .i64 (t2 : Int)], .blk (wr.heap.size) 46 #[.int .i64 (cls : Int), .int .i64 y1, .int .i64 y2, .int .i64 y3], .blk (wm.heap.size) 57 #[.int .i64 (cls : Int), .int .i64 (id' : Int), .int .i64 (am' : Int), .int .i64 (tag' : Int)]] := Mem.alloc HM (wm.heap.size) (by first | (simp; done) | (simp; omega)) #[.int .i64 (cls : Int), .int .i64 (id' : Int), .int .i64 (am' : Int), .int .i64 (tag' : Int)] 57
        rw [hwv] at HM ⊢
        clear hwv
        clear ys0 ysf0 ys1 ysf1 ys2 ysf2 ys3 ysf3 yslt
        have tk0 : (wv).cell? ⟨wb.heap.size + 1, 0, none⟩ = some (.int .i64 0) := (HM.blk 4 rfl).cell 0
        have tkf0 : (wv).frozen? ⟨wb.heap.size + 1, 0, none⟩ = false := (HM.blk 4 rfl).frozen 0
        have tk1 : (wv).cell? ⟨wb.heap.size + 1, 1, none⟩ = some (.int .i64 (id : Int)) := (HM.blk 4 rfl).cell 1
        have tkf1 : (wv).frozen? ⟨wb.heap.size + 1, 1, none⟩ = false := (HM.blk 4 rfl).frozen 1
        have tk2 : (wv).cell? ⟨wb.heap.size + 1, 2, none⟩ = some (.int .i64 (am : Int)) := (HM.blk 4 rfl).cell 2
        have tkf2 : (wv).frozen? ⟨wb.heap.size + 1, 2, none⟩ = false := (HM.blk 4 rfl).frozen 2
        have tk3 : (wv).cell? ⟨wb.heap.size + 1, 3, none⟩ = some (.int .i64 (t2 : Int)) := (HM.blk 4 rfl).cell 3
        have tkf3 : (wv).frozen? ⟨wb.heap.size + 1, 3, none⟩ = false := (HM.blk 4 rfl).frozen 3
        have tklt : wb.heap.size + 1 < (wv).heap.size := HM.lt 4 rfl
        have wt0 : (wv).cell? ⟨wm.heap.size, 0, none⟩ = some (.int .i64 (cls : Int)) := (HM.blk 6 rfl).cell 0
        have wtf0 : (wv).frozen? ⟨wm.heap.size, 0, none⟩ = false := (HM.blk 6 rfl).frozen 0
        have wt1 : (wv).cell? ⟨wm.heap.size, 1, none⟩ = some (.int .i64 (id' : Int)) := (HM.blk 6 rfl).cell 1
        have wtf1 : (wv).frozen? ⟨wm.heap.size, 1, none⟩ = false := (HM.blk 6 rfl).frozen 1
        have wt2 : (wv).cell? ⟨wm.heap.size, 2, none⟩ = some (.int .i64 (am' : Int)) := (HM.blk 6 rfl).cell 2
        have wtf2 : (wv).frozen? ⟨wm.heap.size, 2, none⟩ = false := (HM.blk 6 rfl).frozen 2
        have wt3 : (wv).cell? ⟨wm.heap.size, 3, none⟩ = some (.int .i64 (tag' : Int)) := (HM.blk 6 rfl).cell 3
        have wtf3 : (wv).frozen? ⟨wm.heap.size, 3, none⟩ = false := (HM.blk 6 rfl).frozen 3
        have wtlt : wm.heap.size < (wv).heap.size := HM.lt 6 rfl
        have ne_tk_wt : wb.heap.size + 1 ≠ wm.heap.size := HM.ne 4 6 rfl rfl (by decide)
        have ne_wt_tk : wm.heap.size ≠ wb.heap.size + 1 := HM.ne 6 4 rfl rfl (by decide)
        go_cut [87] (fun c wx => c = .bool (decide (cls = 0 ∧ id' = id ∧ am' = am)) ∧ Mem w [] wx [.blk (w.heap.size) 46 #[.int .i64 0, .int .i64 f, .int .i64 g, .int .i64 h], .blk (wa.heap.size) 51 #[.int .i64 (me : Int), .int .i64 0, .int .i64 0, .int .i64 0, .int .u64 0, .int .i64 (i : Int), .int .i64 0], .row (Wb.heap.size) (104) (4) (.slice A l2.length cc) (l2.length) (prs l2), .blk (wb.heap.size) 56 #[.slice A l2.length cc], .blk (wb.heap.size + 1) 57 #[.int .i64 0, .int .i64 (id : Int), .int .i64 (am : Int), .int .i64 (t2 : Int)], .blk (wr.heap.size) 46 #[.int .i64 (cls : Int), .int .i64 y1, .int .i64 y2, .int .i64 y3], .blk (wm.heap.size) 57 #[.int .i64 (cls : Int), .int .i64 (id' : Int), .int .i64 (am' : Int), .int .i64 (tag' : Int)]])
        case first =>
          by_cases q1 : cls = 0
          · have g1 : ((cls : Int) == 0) = true := by simp; omega
            by_cases q2 : id' = id
            · have g2 : ((id' : Int) == (id : Int)) = true := by simp; omega
              by_cases q3 : am' = am
              · have g3 : ((am' : Int) == (am : Int)) = true := by simp; omega
                have Q := Lib.hid (And.intro q1 (And.intro q2 q3))
                clear q1 q2 q3
                go_wp2_with fail
                go_meet
                exact ⟨congrArg Value.bool (decide_eq_true Q.out).symm, HM⟩
              · have g3 : ((am' : Int) == (am : Int)) = false := by rw [beq_eq_false_iff_ne]; omega
                have Q := Lib.hid q3
                clear q1 q2 q3
                go_wp2_with fail
                go_meet
                exact ⟨congrArg Value.bool (decide_eq_false fun h => Q.out h.2.2).symm, HM⟩
            · have g2 : ((id' : Int) == (id : Int)) = false := by rw [beq_eq_false_iff_ne]; omega
              have Q := Lib.hid q2
              clear q1 q2
              go_wp2_with fail
              go_meet
              exact ⟨congrArg Value.bool (decide_eq_false fun h => Q.out h.2.1).symm, HM⟩
          · have g1 : ((cls : Int) == 0) = false := by rw [beq_eq_false_iff_ne]; omega
            have Q := Lib.hid q1
            clear q1
            go_wp2_with fail
            go_meet
            exact ⟨congrArg Value.bool (decide_eq_false fun h => Q.out h.1).symm, HM⟩
        case rest =>
          obtain ⟨rfl, HM3⟩ := hcut
          obtain ⟨wq2, hwq⟩ : ∃ x, x = wc := ⟨_, rfl⟩
          subst hwq
          clear HM
          have HM : Mem (w) [] (wq2) [.blk (w.heap.size) 46 #[.int .i64 0, .int .i64 f, .int .i64 g, .int .i64 h], .blk (wa.heap.size) 51 #[.int .i64 (me : Int), .int .i64 0, .int .i64 0, .int .i64 0, .int .u64 0, .int .i64 (i : Int), .int .i64 0], .row (Wb.heap.size) (104) (4) (.slice A l2.length cc) (l2.length) (prs l2), .blk (wb.heap.size) 56 #[.slice A l2.length cc], .blk (wb.heap.size + 1) 57 #[.int .i64 0, .int .i64 (id : Int), .int .i64 (am : Int), .int .i64 (t2 : Int)], .blk (wr.heap.size) 46 #[.int .i64 (cls : Int), .int .i64 y1, .int .i64 y2, .int .i64 y3], .blk (wm.heap.size) 57 #[.int .i64 (cls : Int), .int .i64 (id' : Int), .int .i64 (am' : Int), .int .i64 (tag' : Int)]] := HM3
          clear HM3
          clear tk0 tkf0 tk1 tkf1 tk2 tkf2 tk3 tkf3 tklt wt0 wtf0 wt1 wtf1 wt2 wtf2 wt3 wtf3 wtlt ne_tk_wt ne_wt_tk
          have tk0 : (wq2).cell? ⟨wb.heap.size + 1, 0, none⟩ = some (.int .i64 0) := (HM.blk 4 rfl).cell 0
          have tkf0 : (wq2).frozen? ⟨wb.heap.size + 1, 0, none⟩ = false := (HM.blk 4 rfl).frozen 0
          have tk1 : (wq2).cell? ⟨wb.heap.size + 1, 1, none⟩ = some (.int .i64 (id : Int)) := (HM.blk 4 rfl).cell 1
          have tkf1 : (wq2).frozen? ⟨wb.heap.size + 1, 1, none⟩ = false := (HM.blk 4 rfl).frozen 1
          have tk2 : (wq2).cell? ⟨wb.heap.size + 1, 2, none⟩ = some (.int .i64 (am : Int)) := (HM.blk 4 rfl).cell 2
          have tkf2 : (wq2).frozen? ⟨wb.heap.size + 1, 2, none⟩ = false := (HM.blk 4 rfl).frozen 2
          have tk3 : (wq2).cell? ⟨wb.heap.size + 1, 3, none⟩ = some (.int .i64 (t2 : Int)) := (HM.blk 4 rfl).cell 3
          have tkf3 : (wq2).frozen? ⟨wb.heap.size + 1, 3, none⟩ = false := (HM.blk 4 rfl).frozen 3
          have tklt : wb.heap.size + 1 < (wq2).heap.size := HM.lt 4 rfl
          have wt0 : (wq2).cell? ⟨wm.heap.size, 0, none⟩ = some (.int .i64 (cls : Int)) := (HM.blk 6 rfl).cell 0
          have wtf0 : (wq2).frozen? ⟨wm.heap.size, 0, none⟩ = false := (HM.blk 6 rfl).frozen 0
          have wt1 : (wq2).cell? ⟨wm.heap.size, 1, none⟩ = some (.int .i64 (id' : Int)) := (HM.blk 6 rfl).cell 1
          have wtf1 : (wq2).frozen? ⟨wm.heap.size, 1, none⟩ = false := (HM.blk 6 rfl).frozen 1
          have wt2 : (wq2).cell? ⟨wm.heap.size, 2, none⟩ = some (.int .i64 (am' : Int)) := (HM.blk 6 rfl).cell 2
          have wtf2 : (wq2).frozen? ⟨wm.heap.size, 2, none⟩ = false := (HM.blk 6 rfl).frozen 2
          have wt3 : (wq2).cell? ⟨wm.heap.size, 3, none⟩ = some (.int .i64 (tag' : Int)) := (HM.blk 6 rfl).cell 3
          have wtf3 : (wq2).frozen? ⟨wm.heap.size, 3, none⟩ = false := (HM.blk 6 rfl).frozen 3
          have wtlt : wm.heap.size < (wq2).heap.size := HM.lt 6 rfl
          have ne_tk_wt : wb.heap.size + 1 ≠ wm.heap.size := HM.ne 4 6 rfl rfl (by decide)
          have ne_wt_tk : wm.heap.size ≠ wb.heap.size + 1 := HM.ne 6 4 rfl rfl (by decide)

          go_upto_if 87 with (fail)
          go_cut [] (fun wx => ∃ C J K G : Nat, TkOk C J K G ∧ C ≤ 2 ∧ look l2 ((me : Int), (0 : Int), ((tbody C J K : Nat) : Int)) ≠ some (G : Int) ∧ Mem w [] wx [.blk (w.heap.size) 46 #[.int .i64 0, .int .i64 f, .int .i64 g, .int .i64 h], .blk (wa.heap.size) 51 #[.int .i64 (me : Int), .int .i64 0, .int .i64 0, .int .i64 0, .int .u64 0, .int .i64 (i : Int), .int .i64 0], .row (Wb.heap.size) (104) (4) (.slice A l2.length cc) (l2.length) (prs l2), .blk (wb.heap.size) 56 #[.slice A l2.length cc], .blk (wb.heap.size + 1) 57 #[.int .i64 0, .int .i64 (id : Int), .int .i64 (am : Int), .int .i64 (t2 : Int)], .blk (wr.heap.size) 46 #[.int .i64 (cls : Int), .int .i64 y1, .int .i64 y2, .int .i64 y3], .blk (wm.heap.size) 57 #[.int .i64 (C : Int), .int .i64 (J : Int), .int .i64 (K : Int), .int .i64 (G : Int)]])
          case first =>
            by_cases q : cls = 0 ∧ id' = id ∧ am' = am
            · obtain ⟨z, hz⟩ : ∃ z : Nat, ((t2 : Int) + 1) % 65536 = (z : Int) := ⟨(t2 + 1) % 65536, by omega⟩
              have hzn : z ≠ t2 ∧ z ≤ 65535 := by omega
              have ht2 := hk.h5
              have hzw : wrap64 ((t2 : Int) + 1) = (t2 : Int) + 1 := wrap_next ht2
              have hzt : ((t2 : Int) + 1).tmod 65536 = (z : Int) := tmod_next hz
              have hres := Lib.hid (show TkOk cls id' am' z ∧ cls ≤ 2 ∧ look l2 ((me : Int), (0 : Int), ((tbody cls id' am' : Nat) : Int)) ≠ some (z : Int) from ⟨⟨hk'.h1, hk'.h2, hk'.h3, hk'.h4, hzn.2⟩, by omega, by rw [q.1, q.2.1, q.2.2, hlk]; intro h; exact hzn.1 (by have := Option.some.inj h; omega)⟩)
              rw [decide_eq_true q]
              clear q hz hzn ht2 hnone hlk
              go_wp2_with fail
              obtain ⟨wz, hwz⟩ : ∃ wz, (wq2).setCell ⟨wm.heap.size, 3, none⟩ (.int .i64 (z : Int)) = wz := ⟨_, rfl⟩
              replace HM : Mem (w) [] _ [.blk (w.heap.size) 46 #[.int .i64 0, .int .i64 f, .int .i64 g, .int .i64 h], .blk (wa.heap.size) 51 #[.int .i64 (me : Int), .int .i64 0, .int .i64 0, .int .i64 0, .int .u64 0, .int .i64 (i : Int), .int .i64 0], .row (Wb.heap.size) (104) (4) (.slice A l2.length cc) (l2.length) (prs l2), .blk (wb.heap.size) 56 #[.slice A l2.length cc], .blk (wb.heap.size + 1) 57 #[.int .i64 0, .int .i64 (id : Int), .int .i64 (am : Int), .int .i64 (t2 : Int)], .blk (wr.heap.size) 46 #[.int .i64 (cls : Int), .int .i64 y1, .int .i64 y2, .int .i64 y3], .blk (wm.heap.size) 57 #[.int .i64 (cls : Int), .int .i64 (id' : Int), .int .i64 (am' : Int), .int .i64 (z : Int)]] := Mem.set 6 HM rfl 3 (.int .i64 (z : Int))
              rw [hwz] at HM ⊢
              clear hwz
              go_meet
              exact ⟨cls, id', am', z, hres.out.1, hres.out.2.1, hres.out.2.2, HM⟩
            · skip
              have hres := Lib.hid (show look l2 ((me : Int), (0 : Int), ((tbody cls id' am' : Nat) : Int)) ≠ some (tag' : Int) by rw [hnone _ fun h => q (tbody_inj hk' hk h)]; exact fun h => by cases h)
              rw [decide_eq_false q]
              clear q hnone hlk
              go_wp2_with fail
              go_meet
              exact ⟨cls, id', am', tag', hk', by omega, hres.out, HM⟩
          case rest =>
            obtain ⟨C, J, K, G, hk2, hC2, hn2, HM4⟩ := hcut
            obtain ⟨wq3, hwq⟩ : ∃ x, x = wc := ⟨_, rfl⟩
            subst hwq
            clear HM hnone hlk hk' hc3
            have HM : Mem (w) [] (wq3) [.blk (w.heap.size) 46 #[.int .i64 0, .int .i64 f, .int .i64 g, .int .i64 h], .blk (wa.heap.size) 51 #[.int .i64 (me : Int), .int .i64 0, .int .i64 0, .int .i64 0, .int .u64 0, .int .i64 (i : Int), .int .i64 0], .row (Wb.heap.size) (104) (4) (.slice A l2.length cc) (l2.length) (prs l2), .blk (wb.heap.size) 56 #[.slice A l2.length cc], .blk (wb.heap.size + 1) 57 #[.int .i64 0, .int .i64 (id : Int), .int .i64 (am : Int), .int .i64 (t2 : Int)], .blk (wr.heap.size) 46 #[.int .i64 (cls : Int), .int .i64 y1, .int .i64 y2, .int .i64 y3], .blk (wm.heap.size) 57 #[.int .i64 (C : Int), .int .i64 (J : Int), .int .i64 (K : Int), .int .i64 (G : Int)]] := HM4
            clear HM4
            have hKw := fun W hv => key_wrong (.slice A l2.length cc) l2 me i C J K G bd lk W hv hO2 (by omega) hlt hC2 hk2 hn2 hbd
            clear hk2 hC2 hn2
            clear tk0 tkf0 tk1 tkf1 tk2 tkf2 tk3 tkf3 tklt wt0 wtf0 wt1 wtf1 wt2 wtf2 wt3 wtf3 wtlt ne_tk_wt ne_wt_tk
            have mt0 : (wq3).cell? ⟨wa.heap.size, 0, none⟩ = some (.int .i64 (me : Int)) := (HM.blk 1 rfl).cell 0
            have mtf0 : (wq3).frozen? ⟨wa.heap.size, 0, none⟩ = false := (HM.blk 1 rfl).frozen 0
            have mt1 : (wq3).cell? ⟨wa.heap.size, 1, none⟩ = some (.int .i64 0) := (HM.blk 1 rfl).cell 1
            have mtf1 : (wq3).frozen? ⟨wa.heap.size, 1, none⟩ = false := (HM.blk 1 rfl).frozen 1
            have mt2 : (wq3).cell? ⟨wa.heap.size, 2, none⟩ = some (.int .i64 0) := (HM.blk 1 rfl).cell 2
            have mtf2 : (wq3).frozen? ⟨wa.heap.size, 2, none⟩ = false := (HM.blk 1 rfl).frozen 2
            have mt3 : (wq3).cell? ⟨wa.heap.size, 3, none⟩ = some (.int .i64 0) := (HM.blk 1 rfl).cell 3
            have mtf3 : (wq3).frozen? ⟨wa.heap.size, 3, none⟩ = false := (HM.blk 1 rfl).frozen 3
            have mt4 : (wq3).cell? ⟨wa.heap.size, 4, none⟩ = some (.int .u64 0) := (HM.blk 1 rfl).cell 4
            have mtf4 : (wq3).frozen? ⟨wa.heap.size, 4, none⟩ = false := (HM.blk 1 rfl).frozen 4
            have mt5 : (wq3).cell? ⟨wa.heap.size, 5, none⟩ = some (.int .i64 (i : Int)) := (HM.blk 1 rfl).cell 5
            have mtf5 : (wq3).frozen? ⟨wa.heap.size, 5, none⟩ = false := (HM.blk 1 rfl).frozen 5
            have mt6 : (wq3).cell? ⟨wa.heap.size, 6, none⟩ = some (.int .i64 0) := (HM.blk 1 rfl).cell 6
            have mtf6 : (wq3).frozen? ⟨wa.heap.size, 6, none⟩ = false := (HM.blk 1 rfl).frozen 6
            have mtlt : wa.heap.size < (wq3).heap.size := HM.lt 1 rfl
            have oc0 : (wq3).cell? ⟨wb.heap.size, 0, none⟩ = some (.slice A l2.length cc) := (HM.blk 3 rfl).cell 0
            have ocf0 : (wq3).frozen? ⟨wb.heap.size, 0, none⟩ = false := (HM.blk 3 rfl).frozen 0
            have oclt : wb.heap.size < (wq3).heap.size := HM.lt 3 rfl
            have wt0 : (wq3).cell? ⟨wm.heap.size, 0, none⟩ = some (.int .i64 (C : Int)) := (HM.blk 6 rfl).cell 0
            have wtf0 : (wq3).frozen? ⟨wm.heap.size, 0, none⟩ = false := (HM.blk 6 rfl).frozen 0
            have wt1 : (wq3).cell? ⟨wm.heap.size, 1, none⟩ = some (.int .i64 (J : Int)) := (HM.blk 6 rfl).cell 1
            have wtf1 : (wq3).frozen? ⟨wm.heap.size, 1, none⟩ = false := (HM.blk 6 rfl).frozen 1
            have wt2 : (wq3).cell? ⟨wm.heap.size, 2, none⟩ = some (.int .i64 (K : Int)) := (HM.blk 6 rfl).cell 2
            have wtf2 : (wq3).frozen? ⟨wm.heap.size, 2, none⟩ = false := (HM.blk 6 rfl).frozen 2
            have wt3 : (wq3).cell? ⟨wm.heap.size, 3, none⟩ = some (.int .i64 (G : Int)) := (HM.blk 6 rfl).cell 3
            have wtf3 : (wq3).frozen? ⟨wm.heap.size, 3, none⟩ = false := (HM.blk 6 rfl).frozen 3
            have wtlt : wm.heap.size < (wq3).heap.size := HM.lt 6 rfl
            have ne_mt_oc : wa.heap.size ≠ wb.heap.size := HM.ne 1 3 rfl rfl (by decide)
            have ne_mt_wt : wa.heap.size ≠ wm.heap.size := HM.ne 1 6 rfl rfl (by decide)
            have ne_oc_mt : wb.heap.size ≠ wa.heap.size := HM.ne 3 1 rfl rfl (by decide)
            have ne_oc_wt : wb.heap.size ≠ wm.heap.size := HM.ne 3 6 rfl rfl (by decide)
            have ne_wt_mt : wm.heap.size ≠ wa.heap.size := HM.ne 6 1 rfl rfl (by decide)
            have ne_wt_oc : wm.heap.size ≠ wb.heap.size := HM.ne 6 3 rfl rfl (by decide)
            go_wp2_with fail
            refine (hKw _ (hps _ (HM.own_ 2 rfl))).mono ?_
            rintro e1 wk ⟨rfl, hbk⟩
            replace HM : Mem (w) [] (wk) [.blk (w.heap.size) 46 #[.int .i64 0, .int .i64 f, .int .i64 g, .int .i64 h], .blk (wa.heap.size) 51 #[.int .i64 (me : Int), .int .i64 0, .int .i64 0, .int .i64 0, .int .u64 0, .int .i64 (i : Int), .int .i64 0], .row (Wb.heap.size) (104) (4) (.slice A l2.length cc) (l2.length) (prs l2), .blk (wb.heap.size) 56 #[.slice A l2.length cc], .blk (wb.heap.size + 1) 57 #[.int .i64 0, .int .i64 (id : Int), .int .i64 (am : Int), .int .i64 (t2 : Int)], .blk (wr.heap.size) 46 #[.int .i64 (cls : Int), .int .i64 y1, .int .i64 y2, .int .i64 y3], .blk (wm.heap.size) 57 #[.int .i64 (C : Int), .int .i64 (J : Int), .int .i64 (K : Int), .int .i64 (G : Int)]] := Mem.call HM hbk
            clear mt0 mtf0 mt1 mtf1 mt2 mtf2 mt3 mtf3 mt4 mtf4 mt5 mtf5 mt6 mtf6 mtlt oc0 ocf0 oclt wt0 wtf0 wt1 wtf1 wt2 wtf2 wt3 wtf3 wtlt ne_mt_oc ne_mt_wt ne_oc_mt ne_oc_wt ne_wt_mt ne_wt_oc
            have mt0 : (wk).cell? ⟨wa.heap.size, 0, none⟩ = some (.int .i64 (me : Int)) := (HM.blk 1 rfl).cell 0
            have mtf0 : (wk).frozen? ⟨wa.heap.size, 0, none⟩ = false := (HM.blk 1 rfl).frozen 0
            have mt1 : (wk).cell? ⟨wa.heap.size, 1, none⟩ = some (.int .i64 0) := (HM.blk 1 rfl).cell 1
            have mtf1 : (wk).frozen? ⟨wa.heap.size, 1, none⟩ = false := (HM.blk 1 rfl).frozen 1
            have mt2 : (wk).cell? ⟨wa.heap.size, 2, none⟩ = some (.int .i64 0) := (HM.blk 1 rfl).cell 2
            have mtf2 : (wk).frozen? ⟨wa.heap.size, 2, none⟩ = false := (HM.blk 1 rfl).frozen 2
            have mt3 : (wk).cell? ⟨wa.heap.size, 3, none⟩ = some (.int .i64 0) := (HM.blk 1 rfl).cell 3
            have mtf3 : (wk).frozen? ⟨wa.heap.size, 3, none⟩ = false := (HM.blk 1 rfl).frozen 3
            have mt4 : (wk).cell? ⟨wa.heap.size, 4, none⟩ = some (.int .u64 0) := (HM.blk 1 rfl).cell 4
            have mtf4 : (wk).frozen? ⟨wa.heap.size, 4, none⟩ = false := (HM.blk 1 rfl).frozen 4
            have mt5 : (wk).cell? ⟨wa.heap.size, 5, none⟩ = some (.int .i64 (i : Int)) := (HM.blk 1 rfl).cell 5
            have mtf5 : (wk).frozen? ⟨wa.heap.size, 5, none⟩ = false := (HM.blk 1 rfl).frozen 5
            have mt6 : (wk).cell? ⟨wa.heap.size, 6, none⟩ = some (.int .i64 0) := (HM.blk 1 rfl).cell 6
            have mtf6 : (wk).frozen? ⟨wa.heap.size, 6, none⟩ = false := (HM.blk 1 rfl).frozen 6
            have mtlt : wa.heap.size < (wk).heap.size := HM.lt 1 rfl
            clear hbk hKw
            go_wp2
            obtain ⟨wz, hwz⟩ : ∃ wz, ((((((((wk).setCell ⟨wa.heap.size, 0, none⟩ (.int .i64 (me : Int))).setCell ⟨wa.heap.size, 1, none⟩ (.int .i64 0)).setCell ⟨wa.heap.size, 2, none⟩ (.int .i64 0)).setCell ⟨wa.heap.size, 3, none⟩ (.int .i64 0)).setCell ⟨wa.heap.size, 4, none⟩ (.int .u64 0)).setCell ⟨wa.heap.size, 5, none⟩ (.int .i64 (bd : Int))).setCell ⟨wa.heap.size, 6, none⟩ (.int .i64 (lk : Int))).alloc (.cells #[.int .i64 (me : Int), .int .i64 0, .int .i64 0, .int .i64 0, .int .u64 0, .int .i64 (bd : Int), .int .i64 (lk : Int)] 51) = wz := ⟨_, rfl⟩
            replace HM : Mem (w) [] _ [.blk (w.heap.size) 46 #[.int .i64 0, .int .i64 f, .int .i64 g, .int .i64 h], .blk (wa.heap.size) 51 #[.int .i64 (me : Int), .int .i64 0, .int .i64 0, .int .i64 0, .int .u64 0, .int .i64 (i : Int), .int .i64 0], .row (Wb.heap.size) (104) (4) (.slice A l2.length cc) (l2.length) (prs l2), .blk (wb.heap.size) 56 #[.slice A l2.length cc], .blk (wb.heap.size + 1) 57 #[.int .i64 0, .int .i64 (id : Int), .int .i64 (am : Int), .int .i64 (t2 : Int)], .blk (wr.heap.size) 46 #[.int .i64 (cls : Int), .int .i64 y1, .int .i64 y2, .int .i64 y3], .blk (wm.heap.size) 57 #[.int .i64 (C : Int), .int .i64 (J : Int), .int .i64 (K : Int), .int .i64 (G : Int)]] := Mem.set 1 HM rfl 0 (.int .i64 (me : Int))
            replace HM : Mem (w) [] _ [.blk (w.heap.size) 46 #[.int .i64 0, .int .i64 f, .int .i64 g, .int .i64 h], .blk (wa.heap.size) 51 #[.int .i64 (me : Int), .int .i64 0, .int .i64 0, .int .i64 0, .int .u64 0, .int .i64 (i : Int), .int .i64 0], .row (Wb.heap.size) (104) (4) (.slice A l2.length cc) (l2.length) (prs l2), .blk (wb.heap.size) 56 #[.slice A l2.length cc], .blk (wb.heap.size + 1) 57 #[.int .i64 0, .int .i64 (id : Int), .int .i64 (am : Int), .int .i64 (t2 : Int)], .blk (wr.heap.size) 46 #[.int .i64 (cls : Int), .int .i64 y1, .int .i64 y2, .int .i64 y3], .blk (wm.heap.size) 57 #[.int .i64 (C : Int), .int .i64 (J : Int), .int .i64 (K : Int), .int .i64 (G : Int)]] := Mem.set 1 HM rfl 1 (.int .i64 0)
            replace HM : Mem (w) [] _ [.blk (w.heap.size) 46 #[.int .i64 0, .int .i64 f, .int .i64 g, .int .i64 h], .blk (wa.heap.size) 51 #[.int .i64 (me : Int), .int .i64 0, .int .i64 0, .int .i64 0, .int .u64 0, .int .i64 (i : Int), .int .i64 0], .row (Wb.heap.size) (104) (4) (.slice A l2.length cc) (l2.length) (prs l2), .blk (wb.heap.size) 56 #[.slice A l2.length cc], .blk (wb.heap.size + 1) 57 #[.int .i64 0, .int .i64 (id : Int), .int .i64 (am : Int), .int .i64 (t2 : Int)], .blk (wr.heap.size) 46 #[.int .i64 (cls : Int), .int .i64 y1, .int .i64 y2, .int .i64 y3], .blk (wm.heap.size) 57 #[.int .i64 (C : Int), .int .i64 (J : Int), .int .i64 (K : Int), .int .i64 (G : Int)]] := Mem.set 1 HM rfl 2 (.int .i64 0)
            replace HM : Mem (w) [] _ [.blk (w.heap.size) 46 #[.int .i64 0, .int .i64 f, .int .i64 g, .int .i64 h], .blk (wa.heap.size) 51 #[.int .i64 (me : Int), .int .i64 0, .int .i64 0, .int .i64 0, .int .u64 0, .int .i64 (i : Int), .int .i64 0], .row (Wb.heap.size) (104) (4) (.slice A l2.length cc) (l2.length) (prs l2), .blk (wb.heap.size) 56 #[.slice A l2.length cc], .blk (wb.heap.size + 1) 57 #[.int .i64 0, .int .i64 (id : Int), .int .i64 (am : Int), .int .i64 (t2 : Int)], .blk (wr.heap.size) 46 #[.int .i64 (cls : Int), .int .i64 y1, .int .i64 y2, .int .i64 y3], .blk (wm.heap.size) 57 #[.int .i64 (C : Int), .int .i64 (J : Int), .int .i64 (K : Int), .int .i64 (G : Int)]] := Mem.set 1 HM rfl 3 (.int .i64 0)
            replace HM : Mem (w) [] _ [.blk (w.heap.size) 46 #[.int .i64 0, .int .i64 f, .int .i64 g, .int .i64 h], .blk (wa.heap.size) 51 #[.int .i64 (me : Int), .int .i64 0, .int .i64 0, .int .i64 0, .int .u64 0, .int .i64 (i : Int), .int .i64 0], .row (Wb.heap.size) (104) (4) (.slice A l2.length cc) (l2.length) (prs l2), .blk (wb.heap.size) 56 #[.slice A l2.length cc], .blk (wb.heap.size + 1) 57 #[.int .i64 0, .int .i64 (id : Int), .int .i64 (am : Int), .int .i64 (t2 : Int)], .blk (wr.heap.size) 46 #[.int .i64 (cls : Int), .int .i64 y1, .int .i64 y2, .int .i64 y3], .blk (wm.heap.size) 57 #[.int .i64 (C : Int), .int .i64 (J : Int), .int .i64 (K : Int), .int .i64 (G : Int)]] := Mem.set 1 HM rfl 4 (.int .u64 0)
            replace HM : Mem (w) [] _ [.blk (w.heap.size) 46 #[.int .i64 0, .int .i64 f, .int .i64 g, .int .i64 h], .blk (wa.heap.size) 51 #[.int .i64 (me : Int), .int .i64 0, .int .i64 0, .int .i64 0, .int .u64 0, .int .i64 (bd : Int), .int .i64 0], .row (Wb.heap.size) (104) (4) (.slice A l2.length cc) (l2.length) (prs l2), .blk (wb.heap.size) 56 #[.slice A l2.length cc], .blk (wb.heap.size + 1) 57 #[.int .i64 0, .int .i64 (id : Int), .int .i64 (am : Int), .int .i64 (t2 : Int)], .blk (wr.heap.size) 46 #[.int .i64 (cls : Int), .int .i64 y1, .int .i64 y2, .int .i64 y3], .blk (wm.heap.size) 57 #[.int .i64 (C : Int), .int .i64 (J : Int), .int .i64 (K : Int), .int .i64 (G : Int)]] := Mem.set 1 HM rfl 5 (.int .i64 (bd : Int))
            replace HM : Mem (w) [] _ [.blk (w.heap.size) 46 #[.int .i64 0, .int .i64 f, .int .i64 g, .int .i64 h], .blk (wa.heap.size) 51 #[.int .i64 (me : Int), .int .i64 0, .int .i64 0, .int .i64 0, .int .u64 0, .int .i64 (bd : Int), .int .i64 (lk : Int)], .row (Wb.heap.size) (104) (4) (.slice A l2.length cc) (l2.length) (prs l2), .blk (wb.heap.size) 56 #[.slice A l2.length cc], .blk (wb.heap.size + 1) 57 #[.int .i64 0, .int .i64 (id : Int), .int .i64 (am : Int), .int .i64 (t2 : Int)], .blk (wr.heap.size) 46 #[.int .i64 (cls : Int), .int .i64 y1, .int .i64 y2, .int .i64 y3], .blk (wm.heap.size) 57 #[.int .i64 (C : Int), .int .i64 (J : Int), .int .i64 (K : Int), .int .i64 (G : Int)]] := Mem.set 1 HM rfl 6 (.int .i64 (lk : Int))
            replace HM : Mem (w) [] _ [.blk (w.heap.size) 46 #[.int .i64 0, .int .i64 f, .int .i64 g, .int .i64 h], .blk (wa.heap.size) 51 #[.int .i64 (me : Int), .int .i64 0, .int .i64 0, .int .i64 0, .int .u64 0, .int .i64 (bd : Int), .int .i64 (lk : Int)], .row (Wb.heap.size) (104) (4) (.slice A l2.length cc) (l2.length) (prs l2), .blk (wb.heap.size) 56 #[.slice A l2.length cc], .blk (wb.heap.size + 1) 57 #[.int .i64 0, .int .i64 (id : Int), .int .i64 (am : Int), .int .i64 (t2 : Int)], .blk (wr.heap.size) 46 #[.int .i64 (cls : Int), .int .i64 y1, .int .i64 y2, .int .i64 y3], .blk (wm.heap.size) 57 #[.int .i64 (C : Int), .int .i64 (J : Int), .int .i64 (K : Int), .int .i64 (G : Int)], .blk (wk.heap.size) 51 #[.int .i64 (me : Int), .int .i64 0, .int .i64 0, .int .i64 0, .int .u64 0, .int .i64 (bd : Int), .int .i64 (lk : Int)]] := Mem.alloc HM (wk.heap.size) (by first | (simp; done) | (simp; omega)) #[.int .i64 (me : Int), .int .i64 0, .int .i64 0, .int .i64 0, .int .u64 0, .int .i64 (bd : Int), .int .i64 (lk : Int)] 51
            rw [hwz] at HM ⊢
            clear hwz
            go_roundw
            case rel => exact ⟨i + 1, bd, lk, by omega, by go_num, HBL, Mem.drop_ 5 (Mem.drop_ 5 (Mem.drop_ 5 HM))⟩
            case measure => simp [intOf]; omega
    · clear hFc hFw hnone
      have hb2 := hbl.out
      have hi5 : (i : Int) = 5 := by omega
      rw [hi5]
      unfold bl at hb2
      rw [if_neg (by omega)] at hb2
      injection hb2 with hb3 hb4
      subst hb3
      subst hb4
      clear hbl hi hlt hi5
      obtain ⟨y1, y2, hy⟩ : ∃ y1 y2, wtake 0 0 id = (y1, y2) := ⟨_, _, rfl⟩
      have hKg := fun W hv => key_good (.slice A l2.length cc) l2 me id am t2 y1 y2 W hv hO2 (by omega) hk hlk hy
      clear hy
      have HM : Mem (w) [] (wr) [.blk (w.heap.size) 46 #[.int .i64 0, .int .i64 f, .int .i64 g, .int .i64 h], .blk (wa.heap.size) 51 #[.int .i64 (me : Int), .int .i64 0, .int .i64 0, .int .i64 0, .int .u64 0, .int .i64 0, .int .i64 30], .row (Wb.heap.size) (104) (4) (.slice A l2.length cc) (l2.length) (prs l2), .blk (wb.heap.size) 56 #[.slice A l2.length cc], .blk (wb.heap.size + 1) 57 #[.int .i64 0, .int .i64 (id : Int), .int .i64 (am : Int), .int .i64 (t2 : Int)]] := HM1
      clear HM1
      go_wp2
      go_loopw [20] (fun v wr => ∃ (j lock : Nat), j + lock = 30 ∧ v = .int .i64 (j : Int) ∧ Mem w [] wr [.blk (w.heap.size) 46 #[.int .i64 0, .int .i64 f, .int .i64 g, .int .i64 h], .blk (wa.heap.size) 51 #[.int .i64 (me : Int), .int .i64 0, .int .i64 0, .int .i64 0, .int .u64 0, .int .i64 0, .int .i64 (lock : Int)], .row (Wb.heap.size) (104) (4) (.slice A l2.length cc) (l2.length) (prs l2), .blk (wb.heap.size) 56 #[.slice A l2.length cc], .blk (wb.heap.size + 1) 57 #[.int .i64 0, .int .i64 (id : Int), .int .i64 (am : Int), .int .i64 (t2 : Int)]]) (fun v _ => 30 - (intOf v).toNat)
      case atStart => exact ⟨0, 30, rfl, rfl, HM⟩
      case round =>
        clear HM
        obtain ⟨j, lock, hj, rfl, HM2⟩ := hrel

        by_cases hlt : j < 30
        · have hltI : (j : Int) < 30 := by omega
          obtain ⟨z, hz⟩ : ∃ z, z + 1 = lock := ⟨lock - 1, by omega⟩
          have hT := fun W => tick_lock me z ld W (by omega) (by omega) (by omega)
          rw [hz] at hT
          have hKl := fun W hv => key_locked (.slice A l2.length cc) l2 me lock 0 id am t2 W hv hO2 (by omega) (by omega) (by omega) hk
          have hEq := fun W => meter_same (me : Int) 0 0 0 0 0 (lock : Int) W
          have hjz : (j + 1) + z = 30 := by omega
          clear hKg hlk hz hj
          have HM : Mem (w) [] (wr) [.blk (w.heap.size) 46 #[.int .i64 0, .int .i64 f, .int .i64 g, .int .i64 h], .blk (wa.heap.size) 51 #[.int .i64 (me : Int), .int .i64 0, .int .i64 0, .int .i64 0, .int .u64 0, .int .i64 0, .int .i64 (lock : Int)], .row (Wb.heap.size) (104) (4) (.slice A l2.length cc) (l2.length) (prs l2), .blk (wb.heap.size) 56 #[.slice A l2.length cc], .blk (wb.heap.size + 1) 57 #[.int .i64 0, .int .i64 (id : Int), .int .i64 (am : Int), .int .i64 (t2 : Int)]] := HM2
          clear HM2
          clear mt0 mtf0 mt1 mtf1 mt2 mtf2 mt3 mtf3 mt4 mtf4 mt5 mtf5 mt6 mtf6 mtlt
          have mt0 : (wr).cell? ⟨wa.heap.size, 0, none⟩ = some (.int .i64 (me : Int)) := (HM.blk 1 rfl).cell 0
          have mtf0 : (wr).frozen? ⟨wa.heap.size, 0, none⟩ = false := (HM.blk 1 rfl).frozen 0
          have mt1 : (wr).cell? ⟨wa.heap.size, 1, none⟩ = some (.int .i64 0) := (HM.blk 1 rfl).cell 1
          have mtf1 : (wr).frozen? ⟨wa.heap.size, 1, none⟩ = false := (HM.blk 1 rfl).frozen 1
          have mt2 : (wr).cell? ⟨wa.heap.size, 2, none⟩ = some (.int .i64 0) := (HM.blk 1 rfl).cell 2
          have mtf2 : (wr).frozen? ⟨wa.heap.size, 2, none⟩ = false := (HM.blk 1 rfl).frozen 2
          have mt3 : (wr).cell? ⟨wa.heap.size, 3, none⟩ = some (.int .i64 0) := (HM.blk 1 rfl).cell 3
          have mtf3 : (wr).frozen? ⟨wa.heap.size, 3, none⟩ = false := (HM.blk 1 rfl).frozen 3
          have mt4 : (wr).cell? ⟨wa.heap.size, 4, none⟩ = some (.int .u64 0) := (HM.blk 1 rfl).cell 4
          have mtf4 : (wr).frozen? ⟨wa.heap.size, 4, none⟩ = false := (HM.blk 1 rfl).frozen 4
          have mt5 : (wr).cell? ⟨wa.heap.size, 5, none⟩ = some (.int .i64 0) := (HM.blk 1 rfl).cell 5
          have mtf5 : (wr).frozen? ⟨wa.heap.size, 5, none⟩ = false := (HM.blk 1 rfl).frozen 5
          have mt6 : (wr).cell? ⟨wa.heap.size, 6, none⟩ = some (.int .i64 (lock : Int)) := (HM.blk 1 rfl).cell 6
          have mtf6 : (wr).frozen? ⟨wa.heap.size, 6, none⟩ = false := (HM.blk 1 rfl).frozen 6
          have mtlt : wa.heap.size < (wr).heap.size := HM.lt 1 rfl
          have oc0 : (wr).cell? ⟨wb.heap.size, 0, none⟩ = some (.slice A l2.length cc) := (HM.blk 3 rfl).cell 0
          have ocf0 : (wr).frozen? ⟨wb.heap.size, 0, none⟩ = false := (HM.blk 3 rfl).frozen 0
          have oclt : wb.heap.size < (wr).heap.size := HM.lt 3 rfl
          have tk0 : (wr).cell? ⟨wb.heap.size + 1, 0, none⟩ = some (.int .i64 0) := (HM.blk 4 rfl).cell 0
          have tkf0 : (wr).frozen? ⟨wb.heap.size + 1, 0, none⟩ = false := (HM.blk 4 rfl).frozen 0
          have tk1 : (wr).cell? ⟨wb.heap.size + 1, 1, none⟩ = some (.int .i64 (id : Int)) := (HM.blk 4 rfl).cell 1
          have tkf1 : (wr).frozen? ⟨wb.heap.size + 1, 1, none⟩ = false := (HM.blk 4 rfl).frozen 1
          have tk2 : (wr).cell? ⟨wb.heap.size + 1, 2, none⟩ = some (.int .i64 (am : Int)) := (HM.blk 4 rfl).cell 2
          have tkf2 : (wr).frozen? ⟨wb.heap.size + 1, 2, none⟩ = false := (HM.blk 4 rfl).frozen 2
          have tk3 : (wr).cell? ⟨wb.heap.size + 1, 3, none⟩ = some (.int .i64 (t2 : Int)) := (HM.blk 4 rfl).cell 3
          have tkf3 : (wr).frozen? ⟨wb.heap.size + 1, 3, none⟩ = false := (HM.blk 4 rfl).frozen 3
          have tklt : wb.heap.size + 1 < (wr).heap.size := HM.lt 4 rfl
          have ne_mt_oc : wa.heap.size ≠ wb.heap.size := HM.ne 1 3 rfl rfl (by decide)
          have ne_mt_tk : wa.heap.size ≠ wb.heap.size + 1 := HM.ne 1 4 rfl rfl (by decide)
          have ne_oc_mt : wb.heap.size ≠ wa.heap.size := HM.ne 3 1 rfl rfl (by decide)
          have ne_oc_tk : wb.heap.size ≠ wb.heap.size + 1 := HM.ne 3 4 rfl rfl (by decide)
          have ne_tk_mt : wb.heap.size + 1 ≠ wa.heap.size := HM.ne 4 1 rfl rfl (by decide)
          have ne_tk_oc : wb.heap.size + 1 ≠ wb.heap.size := HM.ne 4 3 rfl rfl (by decide)
          go_wp2_with fail
          refine (hKl _ (hps _ (HM.own_ 2 rfl))).mono ?_
          rintro e1 wk ⟨rfl, hbk⟩
          replace HM : Mem (w) [] (wk) [.blk (w.heap.size) 46 #[.int .i64 0, .int .i64 f, .int .i64 g, .int .i64 h], .blk (wa.heap.size) 51 #[.int .i64 (me : Int), .int .i64 0, .int .i64 0, .int .i64 0, .int .u64 0, .int .i64 0, .int .i64 (lock : Int)], .row (Wb.heap.size) (104) (4) (.slice A l2.length cc) (l2.length) (prs l2), .blk (wb.heap.size) 56 #[.slice A l2.length cc], .blk (wb.heap.size + 1) 57 #[.int .i64 0, .int .i64 (id : Int), .int .i64 (am : Int), .int .i64 (t2 : Int)]] := Mem.call HM hbk
          clear mt0 mtf0 mt1 mtf1 mt2 mtf2 mt3 mtf3 mt4 mtf4 mt5 mtf5 mt6 mtf6 mtlt oc0 ocf0 oclt tk0 tkf0 tk1 tkf1 tk2 tkf2 tk3 tkf3 tklt ne_mt_oc ne_mt_tk ne_oc_mt ne_oc_tk ne_tk_mt ne_tk_oc
          have mt0 : (wk).cell? ⟨wa.heap.size, 0, none⟩ = some (.int .i64 (me : Int)) := (HM.blk 1 rfl).cell 0
          have mtf0 : (wk).frozen? ⟨wa.heap.size, 0, none⟩ = false := (HM.blk 1 rfl).frozen 0
          have mt1 : (wk).cell? ⟨wa.heap.size, 1, none⟩ = some (.int .i64 0) := (HM.blk 1 rfl).cell 1
          have mtf1 : (wk).frozen? ⟨wa.heap.size, 1, none⟩ = false := (HM.blk 1 rfl).frozen 1
          have mt2 : (wk).cell? ⟨wa.heap.size, 2, none⟩ = some (.int .i64 0) := (HM.blk 1 rfl).cell 2
          have mtf2 : (wk).frozen? ⟨wa.heap.size, 2, none⟩ = false := (HM.blk 1 rfl).frozen 2
          have mt3 : (wk).cell? ⟨wa.heap.size, 3, none⟩ = some (.int .i64 0) := (HM.blk 1 rfl).cell 3
          have mtf3 : (wk).frozen? ⟨wa.heap.size, 3, none⟩ = false := (HM.blk 1 rfl).frozen 3
          have mt4 : (wk).cell? ⟨wa.heap.size, 4, none⟩ = some (.int .u64 0) := (HM.blk 1 rfl).cell 4
          have mtf4 : (wk).frozen? ⟨wa.heap.size, 4, none⟩ = false := (HM.blk 1 rfl).frozen 4
          have mt5 : (wk).cell? ⟨wa.heap.size, 5, none⟩ = some (.int .i64 0) := (HM.blk 1 rfl).cell 5
          have mtf5 : (wk).frozen? ⟨wa.heap.size, 5, none⟩ = false := (HM.blk 1 rfl).frozen 5
          have mt6 : (wk).cell? ⟨wa.heap.size, 6, none⟩ = some (.int .i64 (lock : Int)) := (HM.blk 1 rfl).cell 6
          have mtf6 : (wk).frozen? ⟨wa.heap.size, 6, none⟩ = false := (HM.blk 1 rfl).frozen 6
          have mtlt : wa.heap.size < (wk).heap.size := HM.lt 1 rfl
          clear hbk hKl
          go_wp2_with fail
          obtain ⟨Wd, hWd⟩ : ∃ Wd, (wk).alloc (.cells #[.int .i64 (me : Int), .int .i64 0, .int .i64 0, .int .i64 0, .int .u64 0, .int .i64 0, .int .i64 (lock : Int)] 51) = Wd := ⟨_, rfl⟩
          replace HM : Mem (w) [] _ [.blk (w.heap.size) 46 #[.int .i64 0, .int .i64 f, .int .i64 g, .int .i64 h], .blk (wa.heap.size) 51 #[.int .i64 (me : Int), .int .i64 0, .int .i64 0, .int .i64 0, .int .u64 0, .int .i64 0, .int .i64 (lock : Int)], .row (Wb.heap.size) (104) (4) (.slice A l2.length cc) (l2.length) (prs l2), .blk (wb.heap.size) 56 #[.slice A l2.length cc], .blk (wb.heap.size + 1) 57 #[.int .i64 0, .int .i64 (id : Int), .int .i64 (am : Int), .int .i64 (t2 : Int)], .blk (wk.heap.size) 51 #[.int .i64 (me : Int), .int .i64 0, .int .i64 0, .int .i64 0, .int .u64 0, .int .i64 0, .int .i64 (lock : Int)]] := Mem.alloc HM (wk.heap.size) (by first | (simp; done) | (simp; omega)) #[.int .i64 (me : Int), .int .i64 0, .int .i64 0, .int .i64 0, .int .u64 0, .int .i64 0, .int .i64 (lock : Int)] 51
          rw [hWd] at HM ⊢
          clear hWd
          clear mt0 mtf0 mt1 mtf1 mt2 mtf2 mt3 mtf3 mt4 mtf4 mt5 mtf5 mt6 mtf6 mtlt
          have mt0 : (Wd).cell? ⟨wa.heap.size, 0, none⟩ = some (.int .i64 (me : Int)) := (HM.blk 1 rfl).cell 0
          have mtf0 : (Wd).frozen? ⟨wa.heap.size, 0, none⟩ = false := (HM.blk 1 rfl).frozen 0
          have mt1 : (Wd).cell? ⟨wa.heap.size, 1, none⟩ = some (.int .i64 0) := (HM.blk 1 rfl).cell 1
          have mtf1 : (Wd).frozen? ⟨wa.heap.size, 1, none⟩ = false := (HM.blk 1 rfl).frozen 1
          have mt2 : (Wd).cell? ⟨wa.heap.size, 2, none⟩ = some (.int .i64 0) := (HM.blk 1 rfl).cell 2
          have mtf2 : (Wd).frozen? ⟨wa.heap.size, 2, none⟩ = false := (HM.blk 1 rfl).frozen 2
          have mt3 : (Wd).cell? ⟨wa.heap.size, 3, none⟩ = some (.int .i64 0) := (HM.blk 1 rfl).cell 3
          have mtf3 : (Wd).frozen? ⟨wa.heap.size, 3, none⟩ = false := (HM.blk 1 rfl).frozen 3
          have mt4 : (Wd).cell? ⟨wa.heap.size, 4, none⟩ = some (.int .u64 0) := (HM.blk 1 rfl).cell 4
          have mtf4 : (Wd).frozen? ⟨wa.heap.size, 4, none⟩ = false := (HM.blk 1 rfl).frozen 4
          have mt5 : (Wd).cell? ⟨wa.heap.size, 5, none⟩ = some (.int .i64 0) := (HM.blk 1 rfl).cell 5
          have mtf5 : (Wd).frozen? ⟨wa.heap.size, 5, none⟩ = false := (HM.blk 1 rfl).frozen 5
          have mt6 : (Wd).cell? ⟨wa.heap.size, 6, none⟩ = some (.int .i64 (lock : Int)) := (HM.blk 1 rfl).cell 6
          have mtf6 : (Wd).frozen? ⟨wa.heap.size, 6, none⟩ = false := (HM.blk 1 rfl).frozen 6
          have mtlt : wa.heap.size < (Wd).heap.size := HM.lt 1 rfl
          have sm0 : (Wd).cell? ⟨wk.heap.size, 0, none⟩ = some (.int .i64 (me : Int)) := (HM.blk 5 rfl).cell 0
          have smf0 : (Wd).frozen? ⟨wk.heap.size, 0, none⟩ = false := (HM.blk 5 rfl).frozen 0
          have sm1 : (Wd).cell? ⟨wk.heap.size, 1, none⟩ = some (.int .i64 0) := (HM.blk 5 rfl).cell 1
          have smf1 : (Wd).frozen? ⟨wk.heap.size, 1, none⟩ = false := (HM.blk 5 rfl).frozen 1
          have sm2 : (Wd).cell? ⟨wk.heap.size, 2, none⟩ = some (.int .i64 0) := (HM.blk 5 rfl).cell 2
          have smf2 : (Wd).frozen? ⟨wk.heap.size, 2, none⟩ = false := (HM.blk 5 rfl).frozen 2
          have sm3 : (Wd).cell? ⟨wk.heap.size, 3, none⟩ = some (.int .i64 0) := (HM.blk 5 rfl).cell 3
          have smf3 : (Wd).frozen? ⟨wk.heap.size, 3, none⟩ = false := (HM.blk 5 rfl).frozen 3
          have sm4 : (Wd).cell? ⟨wk.heap.size, 4, none⟩ = some (.int .u64 0) := (HM.blk 5 rfl).cell 4
          have smf4 : (Wd).frozen? ⟨wk.heap.size, 4, none⟩ = false := (HM.blk 5 rfl).frozen 4
          have sm5 : (Wd).cell? ⟨wk.heap.size, 5, none⟩ = some (.int .i64 0) := (HM.blk 5 rfl).cell 5
          have smf5 : (Wd).frozen? ⟨wk.heap.size, 5, none⟩ = false := (HM.blk 5 rfl).frozen 5
          have sm6 : (Wd).cell? ⟨wk.heap.size, 6, none⟩ = some (.int .i64 (lock : Int)) := (HM.blk 5 rfl).cell 6
          have smf6 : (Wd).frozen? ⟨wk.heap.size, 6, none⟩ = false := (HM.blk 5 rfl).frozen 6
          have smlt : wk.heap.size < (Wd).heap.size := HM.lt 5 rfl
          have ne_mt_sm : wa.heap.size ≠ wk.heap.size := HM.ne 1 5 rfl rfl (by decide)
          have ne_sm_mt : wk.heap.size ≠ wa.heap.size := HM.ne 5 1 rfl rfl (by decide)
          have outA : ∀ we, Below Wd.drew.heap.size Wd.drew we → Mem w [] (we.alloc (.cells #[.int .i64 (me : Int), .int .i64 0, .int .i64 0, .int .i64 0, .int .u64 0, .int .i64 0, .int .i64 (z : Int)] 51)) [.blk (w.heap.size) 46 #[.int .i64 0, .int .i64 f, .int .i64 g, .int .i64 h], .blk (wa.heap.size) 51 #[.int .i64 (me : Int), .int .i64 0, .int .i64 0, .int .i64 0, .int .u64 0, .int .i64 0, .int .i64 (lock : Int)], .row (Wb.heap.size) (104) (4) (.slice A l2.length cc) (l2.length) (prs l2), .blk (wb.heap.size) 56 #[.slice A l2.length cc], .blk (wb.heap.size + 1) 57 #[.int .i64 0, .int .i64 (id : Int), .int .i64 (am : Int), .int .i64 (t2 : Int)], .blk (wk.heap.size) 51 #[.int .i64 (me : Int), .int .i64 0, .int .i64 0, .int .i64 0, .int .u64 0, .int .i64 0, .int .i64 (lock : Int)], .blk (we.heap.size) 51 #[.int .i64 (me : Int), .int .i64 0, .int .i64 0, .int .i64 0, .int .u64 0, .int .i64 0, .int .i64 (z : Int)]] := fun we hb => Mem.alloc (Mem.call (Mem.drew HM) hb) _ rfl _ _
          have outB : ∀ we, Below (Wd.alloc (.cells #[.int .i64 0, .int .i64 0, .int .i64 0, .int .i64 0, .int .u64 0, .int .i64 0, .int .i64 0] 51)).drew.heap.size (Wd.alloc (.cells #[.int .i64 0, .int .i64 0, .int .i64 0, .int .i64 0, .int .u64 0, .int .i64 0, .int .i64 0] 51)).drew we → Mem w [] we [.blk (w.heap.size) 46 #[.int .i64 0, .int .i64 f, .int .i64 g, .int .i64 h], .blk (wa.heap.size) 51 #[.int .i64 (me : Int), .int .i64 0, .int .i64 0, .int .i64 0, .int .u64 0, .int .i64 0, .int .i64 (lock : Int)], .row (Wb.heap.size) (104) (4) (.slice A l2.length cc) (l2.length) (prs l2), .blk (wb.heap.size) 56 #[.slice A l2.length cc], .blk (wb.heap.size + 1) 57 #[.int .i64 0, .int .i64 (id : Int), .int .i64 (am : Int), .int .i64 (t2 : Int)], .blk (wk.heap.size) 51 #[.int .i64 (me : Int), .int .i64 0, .int .i64 0, .int .i64 0, .int .u64 0, .int .i64 0, .int .i64 (lock : Int)], .blk (Wd.heap.size) 51 #[.int .i64 0, .int .i64 0, .int .i64 0, .int .i64 0, .int .u64 0, .int .i64 0, .int .i64 0]] := fun we hb => Mem.call (Mem.drew (Mem.alloc HM _ rfl _ _)) hb
          have outC : ∀ we, Mem w [] we [.blk (w.heap.size) 46 #[.int .i64 0, .int .i64 f, .int .i64 g, .int .i64 h], .blk (wa.heap.size) 51 #[.int .i64 (me : Int), .int .i64 0, .int .i64 0, .int .i64 0, .int .u64 0, .int .i64 0, .int .i64 (lock : Int)], .row (Wb.heap.size) (104) (4) (.slice A l2.length cc) (l2.length) (prs l2), .blk (wb.heap.size) 56 #[.slice A l2.length cc], .blk (wb.heap.size + 1) 57 #[.int .i64 0, .int .i64 (id : Int), .int .i64 (am : Int), .int .i64 (t2 : Int)], .blk (wk.heap.size) 51 #[.int .i64 (me : Int), .int .i64 0, .int .i64 0, .int .i64 0, .int .u64 0, .int .i64 0, .int .i64 (lock : Int)], .blk (Wd.heap.size) 51 #[.int .i64 0, .int .i64 0, .int .i64 0, .int .i64 0, .int .u64 0, .int .i64 0, .int .i64 0]] → Mem w [] ((((((((we.setCell ⟨Wd.heap.size, 0, none⟩ (.int .i64 (me : Int))).setCell ⟨Wd.heap.size, 1, none⟩ (.int .i64 0)).setCell ⟨Wd.heap.size, 2, none⟩ (.int .i64 0)).setCell ⟨Wd.heap.size, 3, none⟩ (.int .i64 0)).setCell ⟨Wd.heap.size, 4, none⟩ (.int .u64 0)).setCell ⟨Wd.heap.size, 5, none⟩ (.int .i64 0)).setCell ⟨Wd.heap.size, 6, none⟩ (.int .i64 (z : Int)))) [.blk (w.heap.size) 46 #[.int .i64 0, .int .i64 f, .int .i64 g, .int .i64 h], .blk (wa.heap.size) 51 #[.int .i64 (me : Int), .int .i64 0, .int .i64 0, .int .i64 0, .int .u64 0, .int .i64 0, .int .i64 (lock : Int)], .row (Wb.heap.size) (104) (4) (.slice A l2.length cc) (l2.length) (prs l2), .blk (wb.heap.size) 56 #[.slice A l2.length cc], .blk (wb.heap.size + 1) 57 #[.int .i64 0, .int .i64 (id : Int), .int .i64 (am : Int), .int .i64 (t2 : Int)], .blk (wk.heap.size) 51 #[.int .i64 (me : Int), .int .i64 0, .int .i64 0, .int .i64 0, .int .u64 0, .int .i64 0, .int .i64 (lock : Int)], .blk (Wd.heap.size) 51 #[.int .i64 (me : Int), .int .i64 0, .int .i64 0, .int .i64 0, .int .u64 0, .int .i64 0, .int .i64 (z : Int)]] := by
            intro we hO
            replace hO : Mem w [] _ [.blk (w.heap.size) 46 #[.int .i64 0, .int .i64 f, .int .i64 g, .int .i64 h], .blk (wa.heap.size) 51 #[.int .i64 (me : Int), .int .i64 0, .int .i64 0, .int .i64 0, .int .u64 0, .int .i64 0, .int .i64 (lock : Int)], .row (Wb.heap.size) (104) (4) (.slice A l2.length cc) (l2.length) (prs l2), .blk (wb.heap.size) 56 #[.slice A l2.length cc], .blk (wb.heap.size + 1) 57 #[.int .i64 0, .int .i64 (id : Int), .int .i64 (am : Int), .int .i64 (t2 : Int)], .blk (wk.heap.size) 51 #[.int .i64 (me : Int), .int .i64 0, .int .i64 0, .int .i64 0, .int .u64 0, .int .i64 0, .int .i64 (lock : Int)], .blk (Wd.heap.size) 51 #[.int .i64 (me : Int), .int .i64 0, .int .i64 0, .int .i64 0, .int .u64 0, .int .i64 0, .int .i64 0]] := Mem.set 6 hO rfl 0 (.int .i64 (me : Int))
            replace hO : Mem w [] _ [.blk (w.heap.size) 46 #[.int .i64 0, .int .i64 f, .int .i64 g, .int .i64 h], .blk (wa.heap.size) 51 #[.int .i64 (me : Int), .int .i64 0, .int .i64 0, .int .i64 0, .int .u64 0, .int .i64 0, .int .i64 (lock : Int)], .row (Wb.heap.size) (104) (4) (.slice A l2.length cc) (l2.length) (prs l2), .blk (wb.heap.size) 56 #[.slice A l2.length cc], .blk (wb.heap.size + 1) 57 #[.int .i64 0, .int .i64 (id : Int), .int .i64 (am : Int), .int .i64 (t2 : Int)], .blk (wk.heap.size) 51 #[.int .i64 (me : Int), .int .i64 0, .int .i64 0, .int .i64 0, .int .u64 0, .int .i64 0, .int .i64 (lock : Int)], .blk (Wd.heap.size) 51 #[.int .i64 (me : Int), .int .i64 0, .int .i64 0, .int .i64 0, .int .u64 0, .int .i64 0, .int .i64 0]] := Mem.set 6 hO rfl 1 (.int .i64 0)
            replace hO : Mem w [] _ [.blk (w.heap.size) 46 #[.int .i64 0, .int .i64 f, .int .i64 g, .int .i64 h], .blk (wa.heap.size) 51 #[.int .i64 (me : Int), .int .i64 0, .int .i64 0, .int .i64 0, .int .u64 0, .int .i64 0, .int .i64 (lock : Int)], .row (Wb.heap.size) (104) (4) (.slice A l2.length cc) (l2.length) (prs l2), .blk (wb.heap.size) 56 #[.slice A l2.length cc], .blk (wb.heap.size + 1) 57 #[.int .i64 0, .int .i64 (id : Int), .int .i64 (am : Int), .int .i64 (t2 : Int)], .blk (wk.heap.size) 51 #[.int .i64 (me : Int), .int .i64 0, .int .i64 0, .int .i64 0, .int .u64 0, .int .i64 0, .int .i64 (lock : Int)], .blk (Wd.heap.size) 51 #[.int .i64 (me : Int), .int .i64 0, .int .i64 0, .int .i64 0, .int .u64 0, .int .i64 0, .int .i64 0]] := Mem.set 6 hO rfl 2 (.int .i64 0)
            replace hO : Mem w [] _ [.blk (w.heap.size) 46 #[.int .i64 0, .int .i64 f, .int .i64 g, .int .i64 h], .blk (wa.heap.size) 51 #[.int .i64 (me : Int), .int .i64 0, .int .i64 0, .int .i64 0, .int .u64 0, .int .i64 0, .int .i64 (lock : Int)], .row (Wb.heap.size) (104) (4) (.slice A l2.length cc) (l2.length) (prs l2), .blk (wb.heap.size) 56 #[.slice A l2.length cc], .blk (wb.heap.size + 1) 57 #[.int .i64 0, .int .i64 (id : Int), .int .i64 (am : Int), .int .i64 (t2 : Int)], .blk (wk.heap.size) 51 #[.int .i64 (me : Int), .int .i64 0, .int .i64 0, .int .i64 0, .int .u64 0, .int .i64 0, .int .i64 (lock : Int)], .blk (Wd.heap.size) 51 #[.int .i64 (me : Int), .int .i64 0, .int .i64 0, .int .i64 0, .int .u64 0, .int .i64 0, .int .i64 0]] := Mem.set 6 hO rfl 3 (.int .i64 0)
            replace hO : Mem w [] _ [.blk (w.heap.size) 46 #[.int .i64 0, .int .i64 f, .int .i64 g, .int .i64 h], .blk (wa.heap.size) 51 #[.int .i64 (me : Int), .int .i64 0, .int .i64 0, .int .i64 0, .int .u64 0, .int .i64 0, .int .i64 (lock : Int)], .row (Wb.heap.size) (104) (4) (.slice A l2.length cc) (l2.length) (prs l2), .blk (wb.heap.size) 56 #[.slice A l2.length cc], .blk (wb.heap.size + 1) 57 #[.int .i64 0, .int .i64 (id : Int), .int .i64 (am : Int), .int .i64 (t2 : Int)], .blk (wk.heap.size) 51 #[.int .i64 (me : Int), .int .i64 0, .int .i64 0, .int .i64 0, .int .u64 0, .int .i64 0, .int .i64 (lock : Int)], .blk (Wd.heap.size) 51 #[.int .i64 (me : Int), .int .i64 0, .int .i64 0, .int .i64 0, .int .u64 0, .int .i64 0, .int .i64 0]] := Mem.set 6 hO rfl 4 (.int .u64 0)
            replace hO : Mem w [] _ [.blk (w.heap.size) 46 #[.int .i64 0, .int .i64 f, .int .i64 g, .int .i64 h], .blk (wa.heap.size) 51 #[.int .i64 (me : Int), .int .i64 0, .int .i64 0, .int .i64 0, .int .u64 0, .int .i64 0, .int .i64 (lock : Int)], .row (Wb.heap.size) (104) (4) (.slice A l2.length cc) (l2.length) (prs l2), .blk (wb.heap.size) 56 #[.slice A l2.length cc], .blk (wb.heap.size + 1) 57 #[.int .i64 0, .int .i64 (id : Int), .int .i64 (am : Int), .int .i64 (t2 : Int)], .blk (wk.heap.size) 51 #[.int .i64 (me : Int), .int .i64 0, .int .i64 0, .int .i64 0, .int .u64 0, .int .i64 0, .int .i64 (lock : Int)], .blk (Wd.heap.size) 51 #[.int .i64 (me : Int), .int .i64 0, .int .i64 0, .int .i64 0, .int .u64 0, .int .i64 0, .int .i64 0]] := Mem.set 6 hO rfl 5 (.int .i64 0)
            replace hO : Mem w [] _ [.blk (w.heap.size) 46 #[.int .i64 0, .int .i64 f, .int .i64 g, .int .i64 h], .blk (wa.heap.size) 51 #[.int .i64 (me : Int), .int .i64 0, .int .i64 0, .int .i64 0, .int .u64 0, .int .i64 0, .int .i64 (lock : Int)], .row (Wb.heap.size) (104) (4) (.slice A l2.length cc) (l2.length) (prs l2), .blk (wb.heap.size) 56 #[.slice A l2.length cc], .blk (wb.heap.size + 1) 57 #[.int .i64 0, .int .i64 (id : Int), .int .i64 (am : Int), .int .i64 (t2 : Int)], .blk (wk.heap.size) 51 #[.int .i64 (me : Int), .int .i64 0, .int .i64 0, .int .i64 0, .int .u64 0, .int .i64 0, .int .i64 (lock : Int)], .blk (Wd.heap.size) 51 #[.int .i64 (me : Int), .int .i64 0, .int .i64 0, .int .i64 0, .int .u64 0, .int .i64 0, .int .i64 (z : Int)]] := Mem.set 6 hO rfl 6 (.int .i64 (z : Int))
            exact hO
          have qq := (Mem.drew (Mem.alloc HM _ rfl #[.int .i64 0, .int .i64 0, .int .i64 0, .int .i64 0, .int .u64 0, .int .i64 0, .int .i64 0] 51)).blk 1 rfl
          have q0 : (Wd.alloc (.cells #[.int .i64 0, .int .i64 0, .int .i64 0, .int .i64 0, .int .u64 0, .int .i64 0, .int .i64 0] 51)).drew.cell? ⟨wa.heap.size, 0, none⟩ = some (.int .i64 (me : Int)) := qq.cell 0
          have q1 : (Wd.alloc (.cells #[.int .i64 0, .int .i64 0, .int .i64 0, .int .i64 0, .int .u64 0, .int .i64 0, .int .i64 0] 51)).drew.cell? ⟨wa.heap.size, 1, none⟩ = some (.int .i64 0) := qq.cell 1
          have q2 : (Wd.alloc (.cells #[.int .i64 0, .int .i64 0, .int .i64 0, .int .i64 0, .int .u64 0, .int .i64 0, .int .i64 0] 51)).drew.cell? ⟨wa.heap.size, 2, none⟩ = some (.int .i64 0) := qq.cell 2
          have q3 : (Wd.alloc (.cells #[.int .i64 0, .int .i64 0, .int .i64 0, .int .i64 0, .int .u64 0, .int .i64 0, .int .i64 0] 51)).drew.cell? ⟨wa.heap.size, 3, none⟩ = some (.int .i64 0) := qq.cell 3
          have q4 : (Wd.alloc (.cells #[.int .i64 0, .int .i64 0, .int .i64 0, .int .i64 0, .int .u64 0, .int .i64 0, .int .i64 0] 51)).drew.cell? ⟨wa.heap.size, 4, none⟩ = some (.int .u64 0) := qq.cell 4
          have q5 : (Wd.alloc (.cells #[.int .i64 0, .int .i64 0, .int .i64 0, .int .i64 0, .int .u64 0, .int .i64 0, .int .i64 0] 51)).drew.cell? ⟨wa.heap.size, 5, none⟩ = some (.int .i64 0) := qq.cell 5
          have q6 : (Wd.alloc (.cells #[.int .i64 0, .int .i64 0, .int .i64 0, .int .i64 0, .int .u64 0, .int .i64 0, .int .i64 0] 51)).drew.cell? ⟨wa.heap.size, 6, none⟩ = some (.int .i64 (lock : Int)) := qq.cell 6
          clear qq
          have nn : wa.heap.size ≠ Wd.heap.size := Nat.ne_of_lt mtlt
          have nn' : Wd.heap.size ≠ wa.heap.size := Ne.symm nn
          go_upto_region 28 with fail
          go_cut [24, 25, 26] (fun p a e wx => ∃ gt, p = .pointer (some ⟨gt, 0, none⟩) ∧ a = .int .i64 0 ∧ e = .int .i64 0 ∧ Mem w [] wx [.blk (w.heap.size) 46 #[.int .i64 0, .int .i64 f, .int .i64 g, .int .i64 h], .blk (wa.heap.size) 51 #[.int .i64 (me : Int), .int .i64 0, .int .i64 0, .int .i64 0, .int .u64 0, .int .i64 0, .int .i64 (lock : Int)], .row (Wb.heap.size) (104) (4) (.slice A l2.length cc) (l2.length) (prs l2), .blk (wb.heap.size) 56 #[.slice A l2.length cc], .blk (wb.heap.size + 1) 57 #[.int .i64 0, .int .i64 (id : Int), .int .i64 (am : Int), .int .i64 (t2 : Int)], .blk (wk.heap.size) 51 #[.int .i64 (me : Int), .int .i64 0, .int .i64 0, .int .i64 0, .int .u64 0, .int .i64 0, .int .i64 (lock : Int)], .blk (gt) 51 #[.int .i64 (me : Int), .int .i64 0, .int .i64 0, .int .i64 0, .int .u64 0, .int .i64 0, .int .i64 (z : Int)]])
          case first =>
            clear hps hwfP hO2 hk hjz hltI hEq sm0 smf0 sm1 smf1 sm2 smf2 sm3 smf3 sm4 smf4 sm5 smf5 sm6 smf6 smlt
            go_region_held3 (fun w' => w'.cell? ⟨wa.heap.size, 0, none⟩ = some (.int .i64 (me : Int)) ∧ w'.cell? ⟨wa.heap.size, 1, none⟩ = some (.int .i64 0) ∧ w'.cell? ⟨wa.heap.size, 2, none⟩ = some (.int .i64 0) ∧ w'.cell? ⟨wa.heap.size, 3, none⟩ = some (.int .i64 0) ∧ w'.cell? ⟨wa.heap.size, 4, none⟩ = some (.int .u64 0) ∧ w'.cell? ⟨wa.heap.size, 5, none⟩ = some (.int .i64 0) ∧ w'.cell? ⟨wa.heap.size, 6, none⟩ = some (.int .i64 (lock : Int))) (first | with_reducible exact ⟨c0, c1, c2, c3, c4, c5, c6⟩ | go_keep | fail) (first | (go_at_call 13; (with_reducible refine (picked_is _ hld w3 (by omega) (by omega)).mono ?_); rintro e w' ⟨rfl, rfl⟩) | (go_at_call 20; (with_reducible refine (hT (Wd).drew).mono ?_); rintro e we ⟨rfl, hbe⟩; have c0 := (hbe.cell (p := ⟨wa.heap.size, 0, none⟩) mtlt).trans mt0; have c1 := (hbe.cell (p := ⟨wa.heap.size, 1, none⟩) mtlt).trans mt1; have c2 := (hbe.cell (p := ⟨wa.heap.size, 2, none⟩) mtlt).trans mt2; have c3 := (hbe.cell (p := ⟨wa.heap.size, 3, none⟩) mtlt).trans mt3; have c4 := (hbe.cell (p := ⟨wa.heap.size, 4, none⟩) mtlt).trans mt4; have c5 := (hbe.cell (p := ⟨wa.heap.size, 5, none⟩) mtlt).trans mt5; have c6 := (hbe.cell (p := ⟨wa.heap.size, 6, none⟩) mtlt).trans mt6; have hO := outA we hbe) | (go_at_call 20; (with_reducible refine (hT (Wd.alloc (.cells #[.int .i64 0, .int .i64 0, .int .i64 0, .int .i64 0, .int .u64 0, .int .i64 0, .int .i64 0] 51)).drew).mono ?_); rintro e we ⟨rfl, hbe⟩; have hO := outB we hbe; have c0 := (hO.blk 1 rfl).cell 0; have c1 := (hO.blk 1 rfl).cell 1; have c2 := (hO.blk 1 rfl).cell 2; have c3 := (hO.blk 1 rfl).cell 3; have c4 := (hO.blk 1 rfl).cell 4; have c5 := (hO.blk 1 rfl).cell 5; have c6 := (hO.blk 1 rfl).cell 6; have y0 : we.cell? ⟨Wd.heap.size, 0, none⟩ = some (.int .i64 0) := (hO.blk 6 rfl).cell 0; have yf0 : we.frozen? ⟨Wd.heap.size, 0, none⟩ = false := (hO.blk 6 rfl).frozen 0; have y1 : we.cell? ⟨Wd.heap.size, 1, none⟩ = some (.int .i64 0) := (hO.blk 6 rfl).cell 1; have yf1 : we.frozen? ⟨Wd.heap.size, 1, none⟩ = false := (hO.blk 6 rfl).frozen 1; have y2 : we.cell? ⟨Wd.heap.size, 2, none⟩ = some (.int .i64 0) := (hO.blk 6 rfl).cell 2; have yf2 : we.frozen? ⟨Wd.heap.size, 2, none⟩ = false := (hO.blk 6 rfl).frozen 2; have y3 : we.cell? ⟨Wd.heap.size, 3, none⟩ = some (.int .i64 0) := (hO.blk 6 rfl).cell 3; have yf3 : we.frozen? ⟨Wd.heap.size, 3, none⟩ = false := (hO.blk 6 rfl).frozen 3; have y4 : we.cell? ⟨Wd.heap.size, 4, none⟩ = some (.int .u64 0) := (hO.blk 6 rfl).cell 4; have yf4 : we.frozen? ⟨Wd.heap.size, 4, none⟩ = false := (hO.blk 6 rfl).frozen 4; have y5 : we.cell? ⟨Wd.heap.size, 5, none⟩ = some (.int .i64 0) := (hO.blk 6 rfl).cell 5; have yf5 : we.frozen? ⟨Wd.heap.size, 5, none⟩ = false := (hO.blk 6 rfl).frozen 5; have y6 : we.cell? ⟨Wd.heap.size, 6, none⟩ = some (.int .i64 0) := (hO.blk 6 rfl).cell 6; have yf6 : we.frozen? ⟨Wd.heap.size, 6, none⟩ = false := (hO.blk 6 rfl).frozen 6; have ylt := hO.lt 6 rfl))
            all_goals
              go_wp2_with fail
              go_meet
              first
              | (refine ⟨_, rfl, rfl, rfl, ?_⟩; with_reducible exact hO)
              | (refine ⟨_, rfl, rfl, rfl, ?_⟩; with_reducible exact outC _ hO)
          case rest =>
            obtain ⟨gt, rfl, rfl, rfl, HM3⟩ := hcut
            clear HM outA outB q0 q1 q2 q3 q4 q5 q6 hT
            have HM : Mem (w) [] (wc) [.blk (w.heap.size) 46 #[.int .i64 0, .int .i64 f, .int .i64 g, .int .i64 h], .blk (wa.heap.size) 51 #[.int .i64 (me : Int), .int .i64 0, .int .i64 0, .int .i64 0, .int .u64 0, .int .i64 0, .int .i64 (lock : Int)], .row (Wb.heap.size) (104) (4) (.slice A l2.length cc) (l2.length) (prs l2), .blk (wb.heap.size) 56 #[.slice A l2.length cc], .blk (wb.heap.size + 1) 57 #[.int .i64 0, .int .i64 (id : Int), .int .i64 (am : Int), .int .i64 (t2 : Int)], .blk (wk.heap.size) 51 #[.int .i64 (me : Int), .int .i64 0, .int .i64 0, .int .i64 0, .int .u64 0, .int .i64 0, .int .i64 (lock : Int)], .blk (gt) 51 #[.int .i64 (me : Int), .int .i64 0, .int .i64 0, .int .i64 0, .int .u64 0, .int .i64 0, .int .i64 (z : Int)]] := HM3
            clear HM3
            clear mt0 mtf0 mt1 mtf1 mt2 mtf2 mt3 mtf3 mt4 mtf4 mt5 mtf5 mt6 mtf6 mtlt sm0 smf0 sm1 smf1 sm2 smf2 sm3 smf3 sm4 smf4 sm5 smf5 sm6 smf6 smlt ne_mt_sm ne_sm_mt
            have mt0 : (wc).cell? ⟨wa.heap.size, 0, none⟩ = some (.int .i64 (me : Int)) := (HM.blk 1 rfl).cell 0
            have mtf0 : (wc).frozen? ⟨wa.heap.size, 0, none⟩ = false := (HM.blk 1 rfl).frozen 0
            have mt1 : (wc).cell? ⟨wa.heap.size, 1, none⟩ = some (.int .i64 0) := (HM.blk 1 rfl).cell 1
            have mtf1 : (wc).frozen? ⟨wa.heap.size, 1, none⟩ = false := (HM.blk 1 rfl).frozen 1
            have mt2 : (wc).cell? ⟨wa.heap.size, 2, none⟩ = some (.int .i64 0) := (HM.blk 1 rfl).cell 2
            have mtf2 : (wc).frozen? ⟨wa.heap.size, 2, none⟩ = false := (HM.blk 1 rfl).frozen 2
            have mt3 : (wc).cell? ⟨wa.heap.size, 3, none⟩ = some (.int .i64 0) := (HM.blk 1 rfl).cell 3
            have mtf3 : (wc).frozen? ⟨wa.heap.size, 3, none⟩ = false := (HM.blk 1 rfl).frozen 3
            have mt4 : (wc).cell? ⟨wa.heap.size, 4, none⟩ = some (.int .u64 0) := (HM.blk 1 rfl).cell 4
            have mtf4 : (wc).frozen? ⟨wa.heap.size, 4, none⟩ = false := (HM.blk 1 rfl).frozen 4
            have mt5 : (wc).cell? ⟨wa.heap.size, 5, none⟩ = some (.int .i64 0) := (HM.blk 1 rfl).cell 5
            have mtf5 : (wc).frozen? ⟨wa.heap.size, 5, none⟩ = false := (HM.blk 1 rfl).frozen 5
            have mt6 : (wc).cell? ⟨wa.heap.size, 6, none⟩ = some (.int .i64 (lock : Int)) := (HM.blk 1 rfl).cell 6
            have mtf6 : (wc).frozen? ⟨wa.heap.size, 6, none⟩ = false := (HM.blk 1 rfl).frozen 6
            have mtlt : wa.heap.size < (wc).heap.size := HM.lt 1 rfl
            have nx0 : (wc).cell? ⟨gt, 0, none⟩ = some (.int .i64 (me : Int)) := (HM.blk 6 rfl).cell 0
            have nxf0 : (wc).frozen? ⟨gt, 0, none⟩ = false := (HM.blk 6 rfl).frozen 0
            have nx1 : (wc).cell? ⟨gt, 1, none⟩ = some (.int .i64 0) := (HM.blk 6 rfl).cell 1
            have nxf1 : (wc).frozen? ⟨gt, 1, none⟩ = false := (HM.blk 6 rfl).frozen 1
            have nx2 : (wc).cell? ⟨gt, 2, none⟩ = some (.int .i64 0) := (HM.blk 6 rfl).cell 2
            have nxf2 : (wc).frozen? ⟨gt, 2, none⟩ = false := (HM.blk 6 rfl).frozen 2
            have nx3 : (wc).cell? ⟨gt, 3, none⟩ = some (.int .i64 0) := (HM.blk 6 rfl).cell 3
            have nxf3 : (wc).frozen? ⟨gt, 3, none⟩ = false := (HM.blk 6 rfl).frozen 3
            have nx4 : (wc).cell? ⟨gt, 4, none⟩ = some (.int .u64 0) := (HM.blk 6 rfl).cell 4
            have nxf4 : (wc).frozen? ⟨gt, 4, none⟩ = false := (HM.blk 6 rfl).frozen 4
            have nx5 : (wc).cell? ⟨gt, 5, none⟩ = some (.int .i64 0) := (HM.blk 6 rfl).cell 5
            have nxf5 : (wc).frozen? ⟨gt, 5, none⟩ = false := (HM.blk 6 rfl).frozen 5
            have nx6 : (wc).cell? ⟨gt, 6, none⟩ = some (.int .i64 (z : Int)) := (HM.blk 6 rfl).cell 6
            have nxf6 : (wc).frozen? ⟨gt, 6, none⟩ = false := (HM.blk 6 rfl).frozen 6
            have nxlt : gt < (wc).heap.size := HM.lt 6 rfl
            have ne_mt_nx : wa.heap.size ≠ gt := HM.ne 1 6 rfl rfl (by decide)
            have ne_nx_mt : gt ≠ wa.heap.size := HM.ne 6 1 rfl rfl (by decide)
            go_wp2
            obtain ⟨wz, hwz⟩ : ∃ wz, (((((((wc).setCell ⟨wa.heap.size, 0, none⟩ (.int .i64 (me : Int))).setCell ⟨wa.heap.size, 1, none⟩ (.int .i64 0)).setCell ⟨wa.heap.size, 2, none⟩ (.int .i64 0)).setCell ⟨wa.heap.size, 3, none⟩ (.int .i64 0)).setCell ⟨wa.heap.size, 4, none⟩ (.int .u64 0)).setCell ⟨wa.heap.size, 5, none⟩ (.int .i64 0)).setCell ⟨wa.heap.size, 6, none⟩ (.int .i64 (z : Int)) = wz := ⟨_, rfl⟩
            replace HM : Mem (w) [] _ [.blk (w.heap.size) 46 #[.int .i64 0, .int .i64 f, .int .i64 g, .int .i64 h], .blk (wa.heap.size) 51 #[.int .i64 (me : Int), .int .i64 0, .int .i64 0, .int .i64 0, .int .u64 0, .int .i64 0, .int .i64 (lock : Int)], .row (Wb.heap.size) (104) (4) (.slice A l2.length cc) (l2.length) (prs l2), .blk (wb.heap.size) 56 #[.slice A l2.length cc], .blk (wb.heap.size + 1) 57 #[.int .i64 0, .int .i64 (id : Int), .int .i64 (am : Int), .int .i64 (t2 : Int)], .blk (wk.heap.size) 51 #[.int .i64 (me : Int), .int .i64 0, .int .i64 0, .int .i64 0, .int .u64 0, .int .i64 0, .int .i64 (lock : Int)], .blk (gt) 51 #[.int .i64 (me : Int), .int .i64 0, .int .i64 0, .int .i64 0, .int .u64 0, .int .i64 0, .int .i64 (z : Int)]] := Mem.set 1 HM rfl 0 (.int .i64 (me : Int))
            replace HM : Mem (w) [] _ [.blk (w.heap.size) 46 #[.int .i64 0, .int .i64 f, .int .i64 g, .int .i64 h], .blk (wa.heap.size) 51 #[.int .i64 (me : Int), .int .i64 0, .int .i64 0, .int .i64 0, .int .u64 0, .int .i64 0, .int .i64 (lock : Int)], .row (Wb.heap.size) (104) (4) (.slice A l2.length cc) (l2.length) (prs l2), .blk (wb.heap.size) 56 #[.slice A l2.length cc], .blk (wb.heap.size + 1) 57 #[.int .i64 0, .int .i64 (id : Int), .int .i64 (am : Int), .int .i64 (t2 : Int)], .blk (wk.heap.size) 51 #[.int .i64 (me : Int), .int .i64 0, .int .i64 0, .int .i64 0, .int .u64 0, .int .i64 0, .int .i64 (lock : Int)], .blk (gt) 51 #[.int .i64 (me : Int), .int .i64 0, .int .i64 0, .int .i64 0, .int .u64 0, .int .i64 0, .int .i64 (z : Int)]] := Mem.set 1 HM rfl 1 (.int .i64 0)
            replace HM : Mem (w) [] _ [.blk (w.heap.size) 46 #[.int .i64 0, .int .i64 f, .int .i64 g, .int .i64 h], .blk (wa.heap.size) 51 #[.int .i64 (me : Int), .int .i64 0, .int .i64 0, .int .i64 0, .int .u64 0, .int .i64 0, .int .i64 (lock : Int)], .row (Wb.heap.size) (104) (4) (.slice A l2.length cc) (l2.length) (prs l2), .blk (wb.heap.size) 56 #[.slice A l2.length cc], .blk (wb.heap.size + 1) 57 #[.int .i64 0, .int .i64 (id : Int), .int .i64 (am : Int), .int .i64 (t2 : Int)], .blk (wk.heap.size) 51 #[.int .i64 (me : Int), .int .i64 0, .int .i64 0, .int .i64 0, .int .u64 0, .int .i64 0, .int .i64 (lock : Int)], .blk (gt) 51 #[.int .i64 (me : Int), .int .i64 0, .int .i64 0, .int .i64 0, .int .u64 0, .int .i64 0, .int .i64 (z : Int)]] := Mem.set 1 HM rfl 2 (.int .i64 0)
            replace HM : Mem (w) [] _ [.blk (w.heap.size) 46 #[.int .i64 0, .int .i64 f, .int .i64 g, .int .i64 h], .blk (wa.heap.size) 51 #[.int .i64 (me : Int), .int .i64 0, .int .i64 0, .int .i64 0, .int .u64 0, .int .i64 0, .int .i64 (lock : Int)], .row (Wb.heap.size) (104) (4) (.slice A l2.length cc) (l2.length) (prs l2), .blk (wb.heap.size) 56 #[.slice A l2.length cc], .blk (wb.heap.size + 1) 57 #[.int .i64 0, .int .i64 (id : Int), .int .i64 (am : Int), .int .i64 (t2 : Int)], .blk (wk.heap.size) 51 #[.int .i64 (me : Int), .int .i64 0, .int .i64 0, .int .i64 0, .int .u64 0, .int .i64 0, .int .i64 (lock : Int)], .blk (gt) 51 #[.int .i64 (me : Int), .int .i64 0, .int .i64 0, .int .i64 0, .int .u64 0, .int .i64 0, .int .i64 (z : Int)]] := Mem.set 1 HM rfl 3 (.int .i64 0)
            replace HM : Mem (w) [] _ [.blk (w.heap.size) 46 #[.int .i64 0, .int .i64 f, .int .i64 g, .int .i64 h], .blk (wa.heap.size) 51 #[.int .i64 (me : Int), .int .i64 0, .int .i64 0, .int .i64 0, .int .u64 0, .int .i64 0, .int .i64 (lock : Int)], .row (Wb.heap.size) (104) (4) (.slice A l2.length cc) (l2.length) (prs l2), .blk (wb.heap.size) 56 #[.slice A l2.length cc], .blk (wb.heap.size + 1) 57 #[.int .i64 0, .int .i64 (id : Int), .int .i64 (am : Int), .int .i64 (t2 : Int)], .blk (wk.heap.size) 51 #[.int .i64 (me : Int), .int .i64 0, .int .i64 0, .int .i64 0, .int .u64 0, .int .i64 0, .int .i64 (lock : Int)], .blk (gt) 51 #[.int .i64 (me : Int), .int .i64 0, .int .i64 0, .int .i64 0, .int .u64 0, .int .i64 0, .int .i64 (z : Int)]] := Mem.set 1 HM rfl 4 (.int .u64 0)
            replace HM : Mem (w) [] _ [.blk (w.heap.size) 46 #[.int .i64 0, .int .i64 f, .int .i64 g, .int .i64 h], .blk (wa.heap.size) 51 #[.int .i64 (me : Int), .int .i64 0, .int .i64 0, .int .i64 0, .int .u64 0, .int .i64 0, .int .i64 (lock : Int)], .row (Wb.heap.size) (104) (4) (.slice A l2.length cc) (l2.length) (prs l2), .blk (wb.heap.size) 56 #[.slice A l2.length cc], .blk (wb.heap.size + 1) 57 #[.int .i64 0, .int .i64 (id : Int), .int .i64 (am : Int), .int .i64 (t2 : Int)], .blk (wk.heap.size) 51 #[.int .i64 (me : Int), .int .i64 0, .int .i64 0, .int .i64 0, .int .u64 0, .int .i64 0, .int .i64 (lock : Int)], .blk (gt) 51 #[.int .i64 (me : Int), .int .i64 0, .int .i64 0, .int .i64 0, .int .u64 0, .int .i64 0, .int .i64 (z : Int)]] := Mem.set 1 HM rfl 5 (.int .i64 0)
            replace HM : Mem (w) [] _ [.blk (w.heap.size) 46 #[.int .i64 0, .int .i64 f, .int .i64 g, .int .i64 h], .blk (wa.heap.size) 51 #[.int .i64 (me : Int), .int .i64 0, .int .i64 0, .int .i64 0, .int .u64 0, .int .i64 0, .int .i64 (z : Int)], .row (Wb.heap.size) (104) (4) (.slice A l2.length cc) (l2.length) (prs l2), .blk (wb.heap.size) 56 #[.slice A l2.length cc], .blk (wb.heap.size + 1) 57 #[.int .i64 0, .int .i64 (id : Int), .int .i64 (am : Int), .int .i64 (t2 : Int)], .blk (wk.heap.size) 51 #[.int .i64 (me : Int), .int .i64 0, .int .i64 0, .int .i64 0, .int .u64 0, .int .i64 0, .int .i64 (lock : Int)], .blk (gt) 51 #[.int .i64 (me : Int), .int .i64 0, .int .i64 0, .int .i64 0, .int .u64 0, .int .i64 0, .int .i64 (z : Int)]] := Mem.set 1 HM rfl 6 (.int .i64 (z : Int))
            rw [hwz] at HM ⊢
            clear hwz
            go_roundw
            case rel => exact ⟨j + 1, z, hjz, by go_num, Mem.drop_ 5 (Mem.drop_ 5 HM)⟩
            case measure => simp [intOf]; omega
        · skip
          obtain rfl : j = 30 := by omega
          obtain rfl : lock = 0 := by omega
          have HM : Mem (w) [] (wr) [.blk (w.heap.size) 46 #[.int .i64 0, .int .i64 f, .int .i64 g, .int .i64 h], .blk (wa.heap.size) 51 #[.int .i64 (me : Int), .int .i64 0, .int .i64 0, .int .i64 0, .int .u64 0, .int .i64 0, .int .i64 0], .row (Wb.heap.size) (104) (4) (.slice A l2.length cc) (l2.length) (prs l2), .blk (wb.heap.size) 56 #[.slice A l2.length cc], .blk (wb.heap.size + 1) 57 #[.int .i64 0, .int .i64 (id : Int), .int .i64 (am : Int), .int .i64 (t2 : Int)]] := HM2
          clear HM2 hj
          clear mt0 mtf0 mt1 mtf1 mt2 mtf2 mt3 mtf3 mt4 mtf4 mt5 mtf5 mt6 mtf6 mtlt
          have mt0 : (wr).cell? ⟨wa.heap.size, 0, none⟩ = some (.int .i64 (me : Int)) := (HM.blk 1 rfl).cell 0
          have mtf0 : (wr).frozen? ⟨wa.heap.size, 0, none⟩ = false := (HM.blk 1 rfl).frozen 0
          have mt1 : (wr).cell? ⟨wa.heap.size, 1, none⟩ = some (.int .i64 0) := (HM.blk 1 rfl).cell 1
          have mtf1 : (wr).frozen? ⟨wa.heap.size, 1, none⟩ = false := (HM.blk 1 rfl).frozen 1
          have mt2 : (wr).cell? ⟨wa.heap.size, 2, none⟩ = some (.int .i64 0) := (HM.blk 1 rfl).cell 2
          have mtf2 : (wr).frozen? ⟨wa.heap.size, 2, none⟩ = false := (HM.blk 1 rfl).frozen 2
          have mt3 : (wr).cell? ⟨wa.heap.size, 3, none⟩ = some (.int .i64 0) := (HM.blk 1 rfl).cell 3
          have mtf3 : (wr).frozen? ⟨wa.heap.size, 3, none⟩ = false := (HM.blk 1 rfl).frozen 3
          have mt4 : (wr).cell? ⟨wa.heap.size, 4, none⟩ = some (.int .u64 0) := (HM.blk 1 rfl).cell 4
          have mtf4 : (wr).frozen? ⟨wa.heap.size, 4, none⟩ = false := (HM.blk 1 rfl).frozen 4
          have mt5 : (wr).cell? ⟨wa.heap.size, 5, none⟩ = some (.int .i64 0) := (HM.blk 1 rfl).cell 5
          have mtf5 : (wr).frozen? ⟨wa.heap.size, 5, none⟩ = false := (HM.blk 1 rfl).frozen 5
          have mt6 : (wr).cell? ⟨wa.heap.size, 6, none⟩ = some (.int .i64 0) := (HM.blk 1 rfl).cell 6
          have mtf6 : (wr).frozen? ⟨wa.heap.size, 6, none⟩ = false := (HM.blk 1 rfl).frozen 6
          have mtlt : wa.heap.size < (wr).heap.size := HM.lt 1 rfl
          have oc0 : (wr).cell? ⟨wb.heap.size, 0, none⟩ = some (.slice A l2.length cc) := (HM.blk 3 rfl).cell 0
          have ocf0 : (wr).frozen? ⟨wb.heap.size, 0, none⟩ = false := (HM.blk 3 rfl).frozen 0
          have oclt : wb.heap.size < (wr).heap.size := HM.lt 3 rfl
          have tk0 : (wr).cell? ⟨wb.heap.size + 1, 0, none⟩ = some (.int .i64 0) := (HM.blk 4 rfl).cell 0
          have tkf0 : (wr).frozen? ⟨wb.heap.size + 1, 0, none⟩ = false := (HM.blk 4 rfl).frozen 0
          have tk1 : (wr).cell? ⟨wb.heap.size + 1, 1, none⟩ = some (.int .i64 (id : Int)) := (HM.blk 4 rfl).cell 1
          have tkf1 : (wr).frozen? ⟨wb.heap.size + 1, 1, none⟩ = false := (HM.blk 4 rfl).frozen 1
          have tk2 : (wr).cell? ⟨wb.heap.size + 1, 2, none⟩ = some (.int .i64 (am : Int)) := (HM.blk 4 rfl).cell 2
          have tkf2 : (wr).frozen? ⟨wb.heap.size + 1, 2, none⟩ = false := (HM.blk 4 rfl).frozen 2
          have tk3 : (wr).cell? ⟨wb.heap.size + 1, 3, none⟩ = some (.int .i64 (t2 : Int)) := (HM.blk 4 rfl).cell 3
          have tkf3 : (wr).frozen? ⟨wb.heap.size + 1, 3, none⟩ = false := (HM.blk 4 rfl).frozen 3
          have tklt : wb.heap.size + 1 < (wr).heap.size := HM.lt 4 rfl
          have ne_mt_oc : wa.heap.size ≠ wb.heap.size := HM.ne 1 3 rfl rfl (by decide)
          have ne_mt_tk : wa.heap.size ≠ wb.heap.size + 1 := HM.ne 1 4 rfl rfl (by decide)
          have ne_oc_mt : wb.heap.size ≠ wa.heap.size := HM.ne 3 1 rfl rfl (by decide)
          have ne_oc_tk : wb.heap.size ≠ wb.heap.size + 1 := HM.ne 3 4 rfl rfl (by decide)
          have ne_tk_mt : wb.heap.size + 1 ≠ wa.heap.size := HM.ne 4 1 rfl rfl (by decide)
          have ne_tk_oc : wb.heap.size + 1 ≠ wb.heap.size := HM.ne 4 3 rfl rfl (by decide)
          go_wp2_with fail
          refine (hKg _ (hps _ (HM.own_ 2 rfl))).mono ?_
          rintro e1 wk ⟨rfl, hbk⟩
          replace HM : Mem (w) [] (wk) [.blk (w.heap.size) 46 #[.int .i64 0, .int .i64 f, .int .i64 g, .int .i64 h], .blk (wa.heap.size) 51 #[.int .i64 (me : Int), .int .i64 0, .int .i64 0, .int .i64 0, .int .u64 0, .int .i64 0, .int .i64 0], .row (Wb.heap.size) (104) (4) (.slice A l2.length cc) (l2.length) (prs l2), .blk (wb.heap.size) 56 #[.slice A l2.length cc], .blk (wb.heap.size + 1) 57 #[.int .i64 0, .int .i64 (id : Int), .int .i64 (am : Int), .int .i64 (t2 : Int)]] := Mem.call HM hbk
          clear hbk hKg
          clear mt0 mtf0 mt1 mtf1 mt2 mtf2 mt3 mtf3 mt4 mtf4 mt5 mtf5 mt6 mtf6 mtlt oc0 ocf0 oclt tk0 tkf0 tk1 tkf1 tk2 tkf2 tk3 tkf3 tklt ne_mt_oc ne_mt_tk ne_oc_mt ne_oc_tk ne_tk_mt ne_tk_oc
          have tk0 : (wk).cell? ⟨wb.heap.size + 1, 0, none⟩ = some (.int .i64 0) := (HM.blk 4 rfl).cell 0
          have tkf0 : (wk).frozen? ⟨wb.heap.size + 1, 0, none⟩ = false := (HM.blk 4 rfl).frozen 0
          have tk1 : (wk).cell? ⟨wb.heap.size + 1, 1, none⟩ = some (.int .i64 (id : Int)) := (HM.blk 4 rfl).cell 1
          have tkf1 : (wk).frozen? ⟨wb.heap.size + 1, 1, none⟩ = false := (HM.blk 4 rfl).frozen 1
          have tk2 : (wk).cell? ⟨wb.heap.size + 1, 2, none⟩ = some (.int .i64 (am : Int)) := (HM.blk 4 rfl).cell 2
          have tkf2 : (wk).frozen? ⟨wb.heap.size + 1, 2, none⟩ = false := (HM.blk 4 rfl).frozen 2
          have tk3 : (wk).cell? ⟨wb.heap.size + 1, 3, none⟩ = some (.int .i64 (t2 : Int)) := (HM.blk 4 rfl).cell 3
          have tkf3 : (wk).frozen? ⟨wb.heap.size + 1, 3, none⟩ = false := (HM.blk 4 rfl).frozen 3
          have tklt : wb.heap.size + 1 < (wk).heap.size := HM.lt 4 rfl
          go_wp2
          obtain ⟨we, hwe⟩ : ∃ we, (wk).alloc (.cells #[.int .i64 (me : Int), .int .i64 0, .int .i64 (am : Int), .int .i64 (y1 : Int), .int .u64 (y2 : Int), .int .i64 0, .int .i64 0] 51) = we := ⟨_, rfl⟩
          replace HM : Mem (w) [] _ [.blk (w.heap.size) 46 #[.int .i64 0, .int .i64 f, .int .i64 g, .int .i64 h], .blk (wa.heap.size) 51 #[.int .i64 (me : Int), .int .i64 0, .int .i64 0, .int .i64 0, .int .u64 0, .int .i64 0, .int .i64 0], .row (Wb.heap.size) (104) (4) (.slice A l2.length cc) (l2.length) (prs l2), .blk (wb.heap.size) 56 #[.slice A l2.length cc], .blk (wb.heap.size + 1) 57 #[.int .i64 0, .int .i64 (id : Int), .int .i64 (am : Int), .int .i64 (t2 : Int)], .blk (wk.heap.size) 51 #[.int .i64 (me : Int), .int .i64 0, .int .i64 (am : Int), .int .i64 (y1 : Int), .int .u64 (y2 : Int), .int .i64 0, .int .i64 0]] := Mem.alloc HM (wk.heap.size) (by first | (simp; done) | (simp; omega)) #[.int .i64 (me : Int), .int .i64 0, .int .i64 (am : Int), .int .i64 (y1 : Int), .int .u64 (y2 : Int), .int .i64 0, .int .i64 0] 51
          rw [hwe] at HM ⊢
          clear hwe
          go_ret
          exact ⟨rfl, HM.below⟩
end Go.Proofs.Ythhbnmmhjfgpdaa
