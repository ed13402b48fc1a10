/- The walk of the law CodeBack. -/
import Derived.Test.YtakdjggpengbhaaDoorCodeR
import Derived.Test.YtakdjggpengbhaaDoorEq
import Derived.Test.YtakdjggpengbhaaDoorFit
import Derived.Test.YtakdjggpengbhaaDoorRows
import Derived.MakeChecks
namespace Go.Proofs.YtakdjggpengbhaaDoor
open Go.RowKit
set_option linter.unusedVariables false
set_option maxRecDepth 100000 in
theorem new_came {v : Value} {w : World} (h : Fit Tryd.prog w 31 v) : ∃ a b c d : Int, v = .agg #[.int .i64 a, .int .i64 b, .int .i64 c, .int .i64 d] ∧ (Lit.int .i64 a).wf = true ∧ (Lit.int .i64 b).wf = true ∧ (Lit.int .i64 c).wf = true ∧ (Lit.int .i64 d).wf = true := by
  obtain ⟨cs, rfl, hcf⟩ := h.struct Tryd.underlying31
  obtain ⟨ns, hl, rfl, hw⟩ := hcf.ints (ks := [.i64, .i64, .i64, .i64]) (by kernel_rfl)
  match ns, hl with
  | [a, b, c, d], _ => exact ⟨a, b, c, d, rfl, hw 0 _ _ rfl rfl, hw 1 _ _ rfl rfl, hw 2 _ _ rfl rfl, hw 3 _ _ rfl rfl⟩
theorem shown_same (a b c : Int) (W : World) : (Op.equalIn 10000 40 (.agg #[.int .i64 a, .int .i64 b, .int .i64 c]) (.agg #[.int .i64 a, .int .i64 b, .int .i64 c])).run Tryd.prog W = .ok true W := by
  have h := eq_is (P := Tryd.prog) (t := 40) [.int .i64 a, .int .i64 b, .int .i64 c] [.int .i64 a, .int .i64 b, .int .i64 c] W (by kernel_rfl) (mkv_struct Tryd.underlying40)
  simpa [cellsEq, leafEq] using h
theorem tab_codeBack {w : World} (hL : laidMetH Tryd.prog Rows.codeBackRow.laid w) : TabOk w := by
  have h : laidMet Tryd.prog Rows.codeBackRow.laid w := by
    rw [← MakeChecks.laidMetH_plain _ _ _ (by kernel_rfl)]; exact hL
  have h2 := laid_tail (laid_tail h)
  exact Lib.tabBelow_of_tabIs (Lib.tabIs_of_head (g := 5) (by kernel_rfl) (by kernel_rfl) Tryd.underlying197 Tryd.underlying32 (by kernel_rfl) (by kernel_rfl) h2)
set_option maxRecDepth 100000 in
set_option maxHeartbeats 2000000 in
theorem walk_codeBack (w : World) (a0 : Value) (w0 : Fit Tryd.prog w 31 a0) (a1 : Int) (w1 : (Lit.int .i64 a1).wf = true) (hL : laidMetH Tryd.prog Rows.codeBackRow.laid w) :
    Calls Tryd.prog 4 #[a0, .int .i64 a1] w fun e w' => e = .returned (.bool true) ∧ Below w.heap.size w w' := by
  have ht := tab_codeBack hL
  clear hL
  obtain ⟨a, b, c, d, rfl, wa, wb, wc, wd⟩ := new_came w0
  obtain ⟨me, hme, hm1⟩ := pk_nat a 50 (by omega)
  obtain ⟨rev, hrev, hr1⟩ := pk_nat b 16 (by omega)
  obtain ⟨cr, hcr, hc1⟩ := pk_int c 100000000 (by omega)
  obtain ⟨bad, hbad, hb1⟩ := pk_nat d 5 (by omega)
  obtain ⟨cr, rfl⟩ : ∃ n : Nat, cr = (n : Int) := ⟨cr.toNat, by omega⟩
  obtain ⟨h, hh, h0, h1⟩ := pk_int a1 1048576 (by omega)
  obtain ⟨h, rfl⟩ : ∃ n : Nat, h = (n : Int) := ⟨h.toNat, by omega⟩
  have hN := fun W => newm_ok a b c d W me rev cr bad wa wb wc wd hme hrev hcr hbad
  unfold mtr at hN
  have hE := fun W => shown_same (me : Int) (cr : Int) (h : Int) W
  have hlt := code_lt (me := me) (cr := cr) (H := h) (by omega) (by omega) (by omega)
  have hRd := fun W => codeRead_good (pad 18 (codeV me cr h)) me cr h W (by omega) (by omega) (by omega) (pad_le _ _) (pad_len hlt (by omega)) (val10_pad _ _)
  have hC := fun (b : Nat) W hW hb ht => code_ok me rev cr h b bad 0 W (by omega) (by omega) (by omega) hb (new_meter_may (by omega) (by omega) (by omega) (by omega) hW) ht
  have hsz := dstr_size (pad 18 (codeV me cr h))
  rw [pad_len hlt (by omega)] at hsz
  obtain ⟨S, hS⟩ : ∃ s, dstr (pad 18 (codeV me cr h)) = s := ⟨_, rfl⟩
  rw [hS] at hRd hC hsz
  clear hS hlt hme hrev hcr hbad wa wb wc wd w0
  have HM := Mem.init w
  obtain ⟨W0, hW0⟩ : ∃ W0, (w).alloc (.cells #[.int .i64 a, .int .i64 b, .int .i64 c, .int .i64 d] 31) = W0 := ⟨_, rfl⟩
  replace HM : Mem (w) [] _ [.blk (w.heap.size) 31 #[.int .i64 a, .int .i64 b, .int .i64 c, .int .i64 d]] := Mem.alloc HM (w.heap.size) (by first | (simp; done) | (simp; omega)) #[.int .i64 a, .int .i64 b, .int .i64 c, .int .i64 d] 31
  rw [hW0] at HM
  have nn0 : (W0).cell? ⟨w.heap.size, 0, none⟩ = some (.int .i64 a) := (HM.blk 0 rfl).cell 0
  have nnf0 : (W0).frozen? ⟨w.heap.size, 0, none⟩ = false := (HM.blk 0 rfl).frozen 0
  have nn1 : (W0).cell? ⟨w.heap.size, 1, none⟩ = some (.int .i64 b) := (HM.blk 0 rfl).cell 1
  have nnf1 : (W0).frozen? ⟨w.heap.size, 1, none⟩ = false := (HM.blk 0 rfl).frozen 1
  have nn2 : (W0).cell? ⟨w.heap.size, 2, none⟩ = some (.int .i64 c) := (HM.blk 0 rfl).cell 2
  have nnf2 : (W0).frozen? ⟨w.heap.size, 2, none⟩ = false := (HM.blk 0 rfl).frozen 2
  have nn3 : (W0).cell? ⟨w.heap.size, 3, none⟩ = some (.int .i64 d) := (HM.blk 0 rfl).cell 3
  have nnf3 : (W0).frozen? ⟨w.heap.size, 3, none⟩ = false := (HM.blk 0 rfl).frozen 3
  have nnlt : w.heap.size < (W0).heap.size := HM.lt 0 rfl
  go_enter Tryd.func4, Tryd.ntmps4
  go_wp2_with fail
  refine (hN _).mono ?_
  rintro e w2 ⟨rfl, hb2⟩
  replace HM : Mem (w) [] (w2) [.blk (w.heap.size) 31 #[.int .i64 a, .int .i64 b, .int .i64 c, .int .i64 d]] := Mem.call HM hb2
  clear hN hb2 hW0
  go_wp2_with fail
  obtain ⟨W3, hW3⟩ : ∃ W3, (w2).alloc (.cells #[.int .i64 (me : Int), .int .i64 (rev : Int), .int .i64 (cr : Int), .int .i64 0, .int .u64 0, .int .i64 (bad : Int), .int .i64 0] 36) = W3 := ⟨_, rfl⟩
  replace HM : Mem (w) [] _ [.blk (w.heap.size) 31 #[.int .i64 a, .int .i64 b, .int .i64 c, .int .i64 d], .blk (w2.heap.size) 36 #[.int .i64 (me : Int), .int .i64 (rev : Int), .int .i64 (cr : Int), .int .i64 0, .int .u64 0, .int .i64 (bad : Int), .int .i64 0]] := Mem.alloc HM (w2.heap.size) (by first | (simp; done) | (simp; omega)) #[.int .i64 (me : Int), .int .i64 (rev : Int), .int .i64 (cr : Int), .int .i64 0, .int .u64 0, .int .i64 (bad : Int), .int .i64 0] 36
  rw [hW3] at HM ⊢
  clear hW3
  clear nn0 nnf0 nn1 nnf1 nn2 nnf2 nn3 nnf3 nnlt
  have mt0 : (W3).cell? ⟨w2.heap.size, 0, none⟩ = some (.int .i64 (me : Int)) := (HM.blk 1 rfl).cell 0
  have mtf0 : (W3).frozen? ⟨w2.heap.size, 0, none⟩ = false := (HM.blk 1 rfl).frozen 0
  have mt1 : (W3).cell? ⟨w2.heap.size, 1, none⟩ = some (.int .i64 (rev : Int)) := (HM.blk 1 rfl).cell 1
  have mtf1 : (W3).frozen? ⟨w2.heap.size, 1, none⟩ = false := (HM.blk 1 rfl).frozen 1
  have mt2 : (W3).cell? ⟨w2.heap.size, 2, none⟩ = some (.int .i64 (cr : Int)) := (HM.blk 1 rfl).cell 2
  have mtf2 : (W3).frozen? ⟨w2.heap.size, 2, none⟩ = false := (HM.blk 1 rfl).frozen 2
  have mt3 : (W3).cell? ⟨w2.heap.size, 3, none⟩ = some (.int .i64 0) := (HM.blk 1 rfl).cell 3
  have mtf3 : (W3).frozen? ⟨w2.heap.size, 3, none⟩ = false := (HM.blk 1 rfl).frozen 3
  have mt4 : (W3).cell? ⟨w2.heap.size, 4, none⟩ = some (.int .u64 0) := (HM.blk 1 rfl).cell 4
  have mtf4 : (W3).frozen? ⟨w2.heap.size, 4, none⟩ = false := (HM.blk 1 rfl).frozen 4
  have mt5 : (W3).cell? ⟨w2.heap.size, 5, none⟩ = some (.int .i64 (bad : Int)) := (HM.blk 1 rfl).cell 5
  have mtf5 : (W3).frozen? ⟨w2.heap.size, 5, none⟩ = false := (HM.blk 1 rfl).frozen 5
  have mt6 : (W3).cell? ⟨w2.heap.size, 6, none⟩ = some (.int .i64 0) := (HM.blk 1 rfl).cell 6
  have mtf6 : (W3).frozen? ⟨w2.heap.size, 6, none⟩ = false := (HM.blk 1 rfl).frozen 6
  have mtlt : w2.heap.size < (W3).heap.size := HM.lt 1 rfl
  refine (picked_is _ hh w1 (by omega) (by omega)).mono ?_
  rintro e1 w9 ⟨rfl, rfl⟩
  clear hh w1

  by_cases hp : 0 < h
  · have hpI : 0 < (h : Int) := by omega
    have hCb := fun W ht => hC 1 W (high_may hp (by omega)) (by decide) ht
    simp only [Int.cast_ofNat_Int] at hCb
    clear hC hp h0 h1
    go_wp2_with fail
    obtain ⟨W4, hW4⟩ : ∃ W4, ((W3).setCell ⟨w2.heap.size, 3, none⟩ (.int .i64 (h : Int))).setCell ⟨w2.heap.size, 4, none⟩ (.int .u64 1) = W4 := ⟨_, rfl⟩
    replace HM : Mem (w) [] _ [.blk (w.heap.size) 31 #[.int .i64 a, .int .i64 b, .int .i64 c, .int .i64 d], .blk (w2.heap.size) 36 #[.int .i64 (me : Int), .int .i64 (rev : Int), .int .i64 (cr : Int), .int .i64 (h : Int), .int .u64 0, .int .i64 (bad : Int), .int .i64 0]] := Mem.set 1 HM rfl 3 (.int .i64 (h : Int))
    replace HM : Mem (w) [] _ [.blk (w.heap.size) 31 #[.int .i64 a, .int .i64 b, .int .i64 c, .int .i64 d], .blk (w2.heap.size) 36 #[.int .i64 (me : Int), .int .i64 (rev : Int), .int .i64 (cr : Int), .int .i64 (h : Int), .int .u64 1, .int .i64 (bad : Int), .int .i64 0]] := Mem.set 1 HM rfl 4 (.int .u64 1)
    rw [hW4] at HM ⊢
    clear hW4
    have ht4 : TabOk W4 := ht.below HM.below
    refine (hCb _ ht4).mono ?_
    rintro e w5 ⟨rfl, hb5⟩
    replace HM : Mem (w) [] (w5) [.blk (w.heap.size) 31 #[.int .i64 a, .int .i64 b, .int .i64 c, .int .i64 d], .blk (w2.heap.size) 36 #[.int .i64 (me : Int), .int .i64 (rev : Int), .int .i64 (cr : Int), .int .i64 (h : Int), .int .u64 1, .int .i64 (bad : Int), .int .i64 0]] := Mem.call HM hb5
    clear mt0 mtf0 mt1 mtf1 mt2 mtf2 mt3 mtf3 mt4 mtf4 mt5 mtf5 mt6 mtf6 mtlt
    have mt0 : (w5).cell? ⟨w2.heap.size, 0, none⟩ = some (.int .i64 (me : Int)) := (HM.blk 1 rfl).cell 0
    have mtf0 : (w5).frozen? ⟨w2.heap.size, 0, none⟩ = false := (HM.blk 1 rfl).frozen 0
    have mt1 : (w5).cell? ⟨w2.heap.size, 1, none⟩ = some (.int .i64 (rev : Int)) := (HM.blk 1 rfl).cell 1
    have mtf1 : (w5).frozen? ⟨w2.heap.size, 1, none⟩ = false := (HM.blk 1 rfl).frozen 1
    have mt2 : (w5).cell? ⟨w2.heap.size, 2, none⟩ = some (.int .i64 (cr : Int)) := (HM.blk 1 rfl).cell 2
    have mtf2 : (w5).frozen? ⟨w2.heap.size, 2, none⟩ = false := (HM.blk 1 rfl).frozen 2
    have mt3 : (w5).cell? ⟨w2.heap.size, 3, none⟩ = some (.int .i64 (h : Int)) := (HM.blk 1 rfl).cell 3
    have mtf3 : (w5).frozen? ⟨w2.heap.size, 3, none⟩ = false := (HM.blk 1 rfl).frozen 3
    have mt4 : (w5).cell? ⟨w2.heap.size, 4, none⟩ = some (.int .u64 1) := (HM.blk 1 rfl).cell 4
    have mtf4 : (w5).frozen? ⟨w2.heap.size, 4, none⟩ = false := (HM.blk 1 rfl).frozen 4
    have mt5 : (w5).cell? ⟨w2.heap.size, 5, none⟩ = some (.int .i64 (bad : Int)) := (HM.blk 1 rfl).cell 5
    have mtf5 : (w5).frozen? ⟨w2.heap.size, 5, none⟩ = false := (HM.blk 1 rfl).frozen 5
    have mt6 : (w5).cell? ⟨w2.heap.size, 6, none⟩ = some (.int .i64 0) := (HM.blk 1 rfl).cell 6
    have mtf6 : (w5).frozen? ⟨w2.heap.size, 6, none⟩ = false := (HM.blk 1 rfl).frozen 6
    have mtlt : w2.heap.size < (w5).heap.size := HM.lt 1 rfl
    clear hb5 hCb ht4
    go_wp2_with fail
    refine (hRd _).mono ?_
    rintro e w6 ⟨rfl, hb6⟩
    replace HM : Mem (w) [] (w6) [.blk (w.heap.size) 31 #[.int .i64 a, .int .i64 b, .int .i64 c, .int .i64 d], .blk (w2.heap.size) 36 #[.int .i64 (me : Int), .int .i64 (rev : Int), .int .i64 (cr : Int), .int .i64 (h : Int), .int .u64 1, .int .i64 (bad : Int), .int .i64 0]] := Mem.call HM hb6
    clear mt0 mtf0 mt1 mtf1 mt2 mtf2 mt3 mtf3 mt4 mtf4 mt5 mtf5 mt6 mtf6 mtlt
    have mt0 : (w6).cell? ⟨w2.heap.size, 0, none⟩ = some (.int .i64 (me : Int)) := (HM.blk 1 rfl).cell 0
    have mtf0 : (w6).frozen? ⟨w2.heap.size, 0, none⟩ = false := (HM.blk 1 rfl).frozen 0
    have mt1 : (w6).cell? ⟨w2.heap.size, 1, none⟩ = some (.int .i64 (rev : Int)) := (HM.blk 1 rfl).cell 1
    have mtf1 : (w6).frozen? ⟨w2.heap.size, 1, none⟩ = false := (HM.blk 1 rfl).frozen 1
    have mt2 : (w6).cell? ⟨w2.heap.size, 2, none⟩ = some (.int .i64 (cr : Int)) := (HM.blk 1 rfl).cell 2
    have mtf2 : (w6).frozen? ⟨w2.heap.size, 2, none⟩ = false := (HM.blk 1 rfl).frozen 2
    have mt3 : (w6).cell? ⟨w2.heap.size, 3, none⟩ = some (.int .i64 (h : Int)) := (HM.blk 1 rfl).cell 3
    have mtf3 : (w6).frozen? ⟨w2.heap.size, 3, none⟩ = false := (HM.blk 1 rfl).frozen 3
    have mt4 : (w6).cell? ⟨w2.heap.size, 4, none⟩ = some (.int .u64 1) := (HM.blk 1 rfl).cell 4
    have mtf4 : (w6).frozen? ⟨w2.heap.size, 4, none⟩ = false := (HM.blk 1 rfl).frozen 4
    have mt5 : (w6).cell? ⟨w2.heap.size, 5, none⟩ = some (.int .i64 (bad : Int)) := (HM.blk 1 rfl).cell 5
    have mtf5 : (w6).frozen? ⟨w2.heap.size, 5, none⟩ = false := (HM.blk 1 rfl).frozen 5
    have mt6 : (w6).cell? ⟨w2.heap.size, 6, none⟩ = some (.int .i64 0) := (HM.blk 1 rfl).cell 6
    have mtf6 : (w6).frozen? ⟨w2.heap.size, 6, none⟩ = false := (HM.blk 1 rfl).frozen 6
    have mtlt : w2.heap.size < (w6).heap.size := HM.lt 1 rfl
    clear hb6 hRd
    go_wp2
    obtain ⟨W7, hW7⟩ : ∃ W7, (w6).alloc (.cells #[.int .i64 (me : Int), .int .i64 (cr : Int), .int .i64 (h : Int)] 40) = W7 := ⟨_, rfl⟩
    replace HM : Mem (w) [] _ [.blk (w.heap.size) 31 #[.int .i64 a, .int .i64 b, .int .i64 c, .int .i64 d], .blk (w2.heap.size) 36 #[.int .i64 (me : Int), .int .i64 (rev : Int), .int .i64 (cr : Int), .int .i64 (h : Int), .int .u64 1, .int .i64 (bad : Int), .int .i64 0], .blk (w6.heap.size) 40 #[.int .i64 (me : Int), .int .i64 (cr : Int), .int .i64 (h : Int)]] := Mem.alloc HM (w6.heap.size) (by first | (simp; done) | (simp; omega)) #[.int .i64 (me : Int), .int .i64 (cr : Int), .int .i64 (h : Int)] 40
    rw [hW7] at HM ⊢
    clear hW7
    go_ret
    exact ⟨rfl, HM.below⟩
  · skip
    have h0' : ¬ 0 < (h : Int) := by omega
    have hz : h = 0 := by omega
    have hCb := fun W ht => hC 0 W (.inl ⟨hz, rfl⟩) (by decide) ht
    simp only [Int.cast_ofNat_Int] at hCb
    have hzI : (h : Int) = 0 := by omega
    rw [hzI] at hCb hRd hE ⊢
    clear hC hp hz h0' hzI h0 h1
    go_wp2_with fail
    have ht4 : TabOk W3 := ht.below HM.below
    refine (hCb _ ht4).mono ?_
    rintro e w5 ⟨rfl, hb5⟩
    replace HM : Mem (w) [] (w5) [.blk (w.heap.size) 31 #[.int .i64 a, .int .i64 b, .int .i64 c, .int .i64 d], .blk (w2.heap.size) 36 #[.int .i64 (me : Int), .int .i64 (rev : Int), .int .i64 (cr : Int), .int .i64 0, .int .u64 0, .int .i64 (bad : Int), .int .i64 0]] := Mem.call HM hb5
    clear mt0 mtf0 mt1 mtf1 mt2 mtf2 mt3 mtf3 mt4 mtf4 mt5 mtf5 mt6 mtf6 mtlt
    have mt0 : (w5).cell? ⟨w2.heap.size, 0, none⟩ = some (.int .i64 (me : Int)) := (HM.blk 1 rfl).cell 0
    have mtf0 : (w5).frozen? ⟨w2.heap.size, 0, none⟩ = false := (HM.blk 1 rfl).frozen 0
    have mt1 : (w5).cell? ⟨w2.heap.size, 1, none⟩ = some (.int .i64 (rev : Int)) := (HM.blk 1 rfl).cell 1
    have mtf1 : (w5).frozen? ⟨w2.heap.size, 1, none⟩ = false := (HM.blk 1 rfl).frozen 1
    have mt2 : (w5).cell? ⟨w2.heap.size, 2, none⟩ = some (.int .i64 (cr : Int)) := (HM.blk 1 rfl).cell 2
    have mtf2 : (w5).frozen? ⟨w2.heap.size, 2, none⟩ = false := (HM.blk 1 rfl).frozen 2
    have mt3 : (w5).cell? ⟨w2.heap.size, 3, none⟩ = some (.int .i64 0) := (HM.blk 1 rfl).cell 3
    have mtf3 : (w5).frozen? ⟨w2.heap.size, 3, none⟩ = false := (HM.blk 1 rfl).frozen 3
    have mt4 : (w5).cell? ⟨w2.heap.size, 4, none⟩ = some (.int .u64 0) := (HM.blk 1 rfl).cell 4
    have mtf4 : (w5).frozen? ⟨w2.heap.size, 4, none⟩ = false := (HM.blk 1 rfl).frozen 4
    have mt5 : (w5).cell? ⟨w2.heap.size, 5, none⟩ = some (.int .i64 (bad : Int)) := (HM.blk 1 rfl).cell 5
    have mtf5 : (w5).frozen? ⟨w2.heap.size, 5, none⟩ = false := (HM.blk 1 rfl).frozen 5
    have mt6 : (w5).cell? ⟨w2.heap.size, 6, none⟩ = some (.int .i64 0) := (HM.blk 1 rfl).cell 6
    have mtf6 : (w5).frozen? ⟨w2.heap.size, 6, none⟩ = false := (HM.blk 1 rfl).frozen 6
    have mtlt : w2.heap.size < (w5).heap.size := HM.lt 1 rfl
    clear hb5 hCb ht4
    go_wp2_with fail
    refine (hRd _).mono ?_
    rintro e w6 ⟨rfl, hb6⟩
    replace HM : Mem (w) [] (w6) [.blk (w.heap.size) 31 #[.int .i64 a, .int .i64 b, .int .i64 c, .int .i64 d], .blk (w2.heap.size) 36 #[.int .i64 (me : Int), .int .i64 (rev : Int), .int .i64 (cr : Int), .int .i64 0, .int .u64 0, .int .i64 (bad : Int), .int .i64 0]] := Mem.call HM hb6
    clear mt0 mtf0 mt1 mtf1 mt2 mtf2 mt3 mtf3 mt4 mtf4 mt5 mtf5 mt6 mtf6 mtlt
    have mt0 : (w6).cell? ⟨w2.heap.size, 0, none⟩ = some (.int .i64 (me : Int)) := (HM.blk 1 rfl).cell 0
    have mtf0 : (w6).frozen? ⟨w2.heap.size, 0, none⟩ = false := (HM.blk 1 rfl).frozen 0
    have mt1 : (w6).cell? ⟨w2.heap.size, 1, none⟩ = some (.int .i64 (rev : Int)) := (HM.blk 1 rfl).cell 1
    have mtf1 : (w6).frozen? ⟨w2.heap.size, 1, none⟩ = false := (HM.blk 1 rfl).frozen 1
    have mt2 : (w6).cell? ⟨w2.heap.size, 2, none⟩ = some (.int .i64 (cr : Int)) := (HM.blk 1 rfl).cell 2
    have mtf2 : (w6).frozen? ⟨w2.heap.size, 2, none⟩ = false := (HM.blk 1 rfl).frozen 2
    have mt3 : (w6).cell? ⟨w2.heap.size, 3, none⟩ = some (.int .i64 0) := (HM.blk 1 rfl).cell 3
    have mtf3 : (w6).frozen? ⟨w2.heap.size, 3, none⟩ = false := (HM.blk 1 rfl).frozen 3
    have mt4 : (w6).cell? ⟨w2.heap.size, 4, none⟩ = some (.int .u64 0) := (HM.blk 1 rfl).cell 4
    have mtf4 : (w6).frozen? ⟨w2.heap.size, 4, none⟩ = false := (HM.blk 1 rfl).frozen 4
    have mt5 : (w6).cell? ⟨w2.heap.size, 5, none⟩ = some (.int .i64 (bad : Int)) := (HM.blk 1 rfl).cell 5
    have mtf5 : (w6).frozen? ⟨w2.heap.size, 5, none⟩ = false := (HM.blk 1 rfl).frozen 5
    have mt6 : (w6).cell? ⟨w2.heap.size, 6, none⟩ = some (.int .i64 0) := (HM.blk 1 rfl).cell 6
    have mtf6 : (w6).frozen? ⟨w2.heap.size, 6, none⟩ = false := (HM.blk 1 rfl).frozen 6
    have mtlt : w2.heap.size < (w6).heap.size := HM.lt 1 rfl
    clear hb6 hRd
    go_wp2
    obtain ⟨W7, hW7⟩ : ∃ W7, (w6).alloc (.cells #[.int .i64 (me : Int), .int .i64 (cr : Int), .int .i64 0] 40) = W7 := ⟨_, rfl⟩
    replace HM : Mem (w) [] _ [.blk (w.heap.size) 31 #[.int .i64 a, .int .i64 b, .int .i64 c, .int .i64 d], .blk (w2.heap.size) 36 #[.int .i64 (me : Int), .int .i64 (rev : Int), .int .i64 (cr : Int), .int .i64 0, .int .u64 0, .int .i64 (bad : Int), .int .i64 0], .blk (w6.heap.size) 40 #[.int .i64 (me : Int), .int .i64 (cr : Int), .int .i64 0]] := Mem.alloc HM (w6.heap.size) (by first | (simp; done) | (simp; omega)) #[.int .i64 (me : Int), .int .i64 (cr : Int), .int .i64 0] 40
    rw [hW7] at HM ⊢
    clear hW7
    go_ret
    exact ⟨rfl, HM.below⟩
end Go.Proofs.YtakdjggpengbhaaDoor
