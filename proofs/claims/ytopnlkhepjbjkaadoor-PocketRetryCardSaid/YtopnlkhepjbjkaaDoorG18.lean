/- meter: Key. -/
import Derived.Test.YtopnlkhepjbjkaaDoorG17
namespace Go.Proofs.YtopnlkhepjbjkaaDoor
open Go.RowKit Go.Maps Go.ChangeShapes Go.WideShapes
set_option linter.unusedVariables false
set_option maxRecDepth 100000 in
set_option maxHeartbeats 4000000 in
theorem key_ok (v : Value) (l : List Pr) (me rev cr H B bad lock cls id am tag rev2 cr2 H2 B2 bad2 lock2 ad E : Nat) (w : World) (hv : IsPs w v l) (hl : OOk l) (hB64 : B < 2 ^ 64) (hm : mmay me rev cr H B bad lock = true) (hk : TkOk cls id am tag)
    (hR : Hid (keyS l me rev cr H B bad lock cls id am tag = (rev2, cr2, H2, B2, bad2, lock2, ad, E))) :
    Calls Tryd.prog 15 #[.agg #[.int .i64 (me : Int), .int .i64 (rev : Int), .int .i64 (cr : Int), .int .i64 (H : Int), .int .u64 (B : Int), .int .i64 (bad : Int), .int .i64 (lock : Int)], .agg #[v], .agg #[.int .i64 (cls : Int), .int .i64 (id : Int), .int .i64 (am : Int), .int .i64 (tag : Int)]] w fun e w' => e = .returned (.tuple #[.agg #[.int .i64 (me : Int), .int .i64 (rev2 : Int), .int .i64 (cr2 : Int), .int .i64 (H2 : Int), .int .u64 (B2 : Int), .int .i64 (bad2 : Int), .int .i64 (lock2 : Int)], .int .i64 (ad : Int), .int .i64 (E : Int)]) ∧ Below w.heap.size w w' := by
  have hv0 := hv
  obtain ⟨A, c, rfl, _, _, _, _⟩ := hv
  obtain ⟨⟨a1, a2, a3, a4, a5, a6⟩, ⟨b1, b2, b3, b4, b5⟩, H', hH', hW⟩ := mmay_bd hB64 hm
  obtain rfl : H = H' := by omega
  have hM := fun W => mmay_is (Lib.hid hm) W (WalkArith.wf_i64 (by have := hW.le; omega)) hB64 (WalkArith.wf_i64 (by omega)) (WalkArith.wf_i64 (by omega))
  have hO := fun W h => omay_ok (.slice A l.length c) l W h hl
  obtain ⟨body, hbody⟩ : ∃ b, tbody cls id am = b := ⟨_, rfl⟩
  have hB := fun W => tbody_ok cls id am tag body W hk (Lib.hid hbody)
  have hbl := tbody_le hk
  rw [hbody] at hbl
  have HR := hR.out
  unfold keyS at HR
  rw [hbody] at HR
  clear hm hH' hR hbody
  have hk0 := hk
  have hk1 := hk.h1
  have HM := Mem.init w
  obtain ⟨W0, hW0⟩ : ∃ W0, ((((w).alloc (.cells #[.int .i64 (me : Int), .int .i64 (rev : Int), .int .i64 (cr : Int), .int .i64 (H : Int), .int .u64 (B : Int), .int .i64 (bad : Int), .int .i64 (lock : Int)] 39)).alloc (.cells #[.slice A l.length c] 33)).alloc (.cells #[.int .i64 (cls : Int), .int .i64 (id : Int), .int .i64 (am : Int), .int .i64 (tag : Int)] 48)).alloc (.cells #[.int .i64 0, .int .i64 0, .int .i64 0, .int .i64 0, .int .u64 0, .int .i64 0, .int .i64 0] 39) = W0 := ⟨_, rfl⟩
  replace HM : Mem (w) [] _ [.blk (w.heap.size) 39 #[.int .i64 (me : Int), .int .i64 (rev : Int), .int .i64 (cr : Int), .int .i64 (H : Int), .int .u64 (B : Int), .int .i64 (bad : Int), .int .i64 (lock : Int)]] := Mem.alloc HM (w.heap.size) (by first | (simp; done) | (simp; omega)) #[.int .i64 (me : Int), .int .i64 (rev : Int), .int .i64 (cr : Int), .int .i64 (H : Int), .int .u64 (B : Int), .int .i64 (bad : Int), .int .i64 (lock : Int)] 39
  replace HM : Mem (w) [] _ [.blk (w.heap.size) 39 #[.int .i64 (me : Int), .int .i64 (rev : Int), .int .i64 (cr : Int), .int .i64 (H : Int), .int .u64 (B : Int), .int .i64 (bad : Int), .int .i64 (lock : Int)], .blk (w.heap.size + 1) 33 #[.slice A l.length c]] := Mem.alloc HM (w.heap.size + 1) (by first | (simp; done) | (simp; omega)) #[.slice A l.length c] 33
  replace HM : Mem (w) [] _ [.blk (w.heap.size) 39 #[.int .i64 (me : Int), .int .i64 (rev : Int), .int .i64 (cr : Int), .int .i64 (H : Int), .int .u64 (B : Int), .int .i64 (bad : Int), .int .i64 (lock : Int)], .blk (w.heap.size + 1) 33 #[.slice A l.length c], .blk (w.heap.size + 1 + 1) 48 #[.int .i64 (cls : Int), .int .i64 (id : Int), .int .i64 (am : Int), .int .i64 (tag : Int)]] := Mem.alloc HM (w.heap.size + 1 + 1) (by first | (simp; done) | (simp; omega)) #[.int .i64 (cls : Int), .int .i64 (id : Int), .int .i64 (am : Int), .int .i64 (tag : Int)] 48
  replace HM : Mem (w) [] _ [.blk (w.heap.size) 39 #[.int .i64 (me : Int), .int .i64 (rev : Int), .int .i64 (cr : Int), .int .i64 (H : Int), .int .u64 (B : Int), .int .i64 (bad : Int), .int .i64 (lock : Int)], .blk (w.heap.size + 1) 33 #[.slice A l.length c], .blk (w.heap.size + 1 + 1) 48 #[.int .i64 (cls : Int), .int .i64 (id : Int), .int .i64 (am : Int), .int .i64 (tag : Int)], .blk (w.heap.size + 1 + 1 + 1) 39 #[.int .i64 0, .int .i64 0, .int .i64 0, .int .i64 0, .int .u64 0, .int .i64 0, .int .i64 0]] := Mem.alloc HM (w.heap.size + 1 + 1 + 1) (by first | (simp; done) | (simp; omega)) #[.int .i64 0, .int .i64 0, .int .i64 0, .int .i64 0, .int .u64 0, .int .i64 0, .int .i64 0] 39
  rw [hW0] at HM
  by_cases hlk : 0 < lock
  · rw [if_pos hlk] at HR
    injection HR with f1 HR; injection HR with f2 HR; injection HR with f3 HR; injection HR with f4 HR; injection HR with f5 HR; injection HR with f6 HR; injection HR with f7 f8
    subst f1; subst f2; subst f3; subst f4; subst f5; subst f6; subst f7; subst f8
    have hlI : 0 < (lock : Int) := by omega

    have mt0 : (W0).cell? ⟨w.heap.size, 0, none⟩ = some (.int .i64 (me : Int)) := (HM.blk 0 rfl).cell 0
    have mtf0 : (W0).frozen? ⟨w.heap.size, 0, none⟩ = false := (HM.blk 0 rfl).frozen 0
    have mt1 : (W0).cell? ⟨w.heap.size, 1, none⟩ = some (.int .i64 (rev : Int)) := (HM.blk 0 rfl).cell 1
    have mtf1 : (W0).frozen? ⟨w.heap.size, 1, none⟩ = false := (HM.blk 0 rfl).frozen 1
    have mt2 : (W0).cell? ⟨w.heap.size, 2, none⟩ = some (.int .i64 (cr : Int)) := (HM.blk 0 rfl).cell 2
    have mtf2 : (W0).frozen? ⟨w.heap.size, 2, none⟩ = false := (HM.blk 0 rfl).frozen 2
    have mt3 : (W0).cell? ⟨w.heap.size, 3, none⟩ = some (.int .i64 (H : Int)) := (HM.blk 0 rfl).cell 3
    have mtf3 : (W0).frozen? ⟨w.heap.size, 3, none⟩ = false := (HM.blk 0 rfl).frozen 3
    have mt4 : (W0).cell? ⟨w.heap.size, 4, none⟩ = some (.int .u64 (B : Int)) := (HM.blk 0 rfl).cell 4
    have mtf4 : (W0).frozen? ⟨w.heap.size, 4, none⟩ = false := (HM.blk 0 rfl).frozen 4
    have mt5 : (W0).cell? ⟨w.heap.size, 5, none⟩ = some (.int .i64 (bad : Int)) := (HM.blk 0 rfl).cell 5
    have mtf5 : (W0).frozen? ⟨w.heap.size, 5, none⟩ = false := (HM.blk 0 rfl).frozen 5
    have mt6 : (W0).cell? ⟨w.heap.size, 6, none⟩ = some (.int .i64 (lock : Int)) := (HM.blk 0 rfl).cell 6
    have mtf6 : (W0).frozen? ⟨w.heap.size, 6, none⟩ = false := (HM.blk 0 rfl).frozen 6
    have mtlt : w.heap.size < (W0).heap.size := HM.lt 0 rfl
    have oc0 : (W0).cell? ⟨w.heap.size + 1, 0, none⟩ = some (.slice A l.length c) := (HM.blk 1 rfl).cell 0
    have ocf0 : (W0).frozen? ⟨w.heap.size + 1, 0, none⟩ = false := (HM.blk 1 rfl).frozen 0
    have oclt : w.heap.size + 1 < (W0).heap.size := HM.lt 1 rfl
    have tk0 : (W0).cell? ⟨w.heap.size + 1 + 1, 0, none⟩ = some (.int .i64 (cls : Int)) := (HM.blk 2 rfl).cell 0
    have tkf0 : (W0).frozen? ⟨w.heap.size + 1 + 1, 0, none⟩ = false := (HM.blk 2 rfl).frozen 0
    have tk1 : (W0).cell? ⟨w.heap.size + 1 + 1, 1, none⟩ = some (.int .i64 (id : Int)) := (HM.blk 2 rfl).cell 1
    have tkf1 : (W0).frozen? ⟨w.heap.size + 1 + 1, 1, none⟩ = false := (HM.blk 2 rfl).frozen 1
    have tk2 : (W0).cell? ⟨w.heap.size + 1 + 1, 2, none⟩ = some (.int .i64 (am : Int)) := (HM.blk 2 rfl).cell 2
    have tkf2 : (W0).frozen? ⟨w.heap.size + 1 + 1, 2, none⟩ = false := (HM.blk 2 rfl).frozen 2
    have tk3 : (W0).cell? ⟨w.heap.size + 1 + 1, 3, none⟩ = some (.int .i64 (tag : Int)) := (HM.blk 2 rfl).cell 3
    have tkf3 : (W0).frozen? ⟨w.heap.size + 1 + 1, 3, none⟩ = false := (HM.blk 2 rfl).frozen 3
    have tklt : w.heap.size + 1 + 1 < (W0).heap.size := HM.lt 2 rfl
    have ne_mt_oc : w.heap.size ≠ w.heap.size + 1 := HM.ne 0 1 rfl rfl (by decide)
    have ne_mt_tk : w.heap.size ≠ w.heap.size + 1 + 1 := HM.ne 0 2 rfl rfl (by decide)
    have ne_oc_mt : w.heap.size + 1 ≠ w.heap.size := HM.ne 1 0 rfl rfl (by decide)
    have ne_oc_tk : w.heap.size + 1 ≠ w.heap.size + 1 + 1 := HM.ne 1 2 rfl rfl (by decide)
    have ne_tk_mt : w.heap.size + 1 + 1 ≠ w.heap.size := HM.ne 2 0 rfl rfl (by decide)
    have ne_tk_oc : w.heap.size + 1 + 1 ≠ w.heap.size + 1 := HM.ne 2 1 rfl rfl (by decide)
    go_enter Tryd.func15, Tryd.ntmps15
    go_wp2_with fail
    refine (hM _).mono ?_
    rintro e wa ⟨rfl, hba⟩
    replace HM : Mem (w) [] (wa) [.blk (w.heap.size) 39 #[.int .i64 (me : Int), .int .i64 (rev : Int), .int .i64 (cr : Int), .int .i64 (H : Int), .int .u64 (B : Int), .int .i64 (bad : Int), .int .i64 (lock : Int)], .blk (w.heap.size + 1) 33 #[.slice A l.length c], .blk (w.heap.size + 1 + 1) 48 #[.int .i64 (cls : Int), .int .i64 (id : Int), .int .i64 (am : Int), .int .i64 (tag : Int)], .blk (w.heap.size + 1 + 1 + 1) 39 #[.int .i64 0, .int .i64 0, .int .i64 0, .int .i64 0, .int .u64 0, .int .i64 0, .int .i64 0]] := Mem.call HM hba
    clear mt0 mtf0 mt1 mtf1 mt2 mtf2 mt3 mtf3 mt4 mtf4 mt5 mtf5 mt6 mtf6 mtlt oc0 ocf0 oclt tk0 tkf0 tk1 tkf1 tk2 tkf2 tk3 tkf3 tklt ne_mt_oc ne_mt_tk ne_oc_mt ne_oc_tk ne_tk_mt ne_tk_oc
    have mt0 : (wa).cell? ⟨w.heap.size, 0, none⟩ = some (.int .i64 (me : Int)) := (HM.blk 0 rfl).cell 0
    have mtf0 : (wa).frozen? ⟨w.heap.size, 0, none⟩ = false := (HM.blk 0 rfl).frozen 0
    have mt1 : (wa).cell? ⟨w.heap.size, 1, none⟩ = some (.int .i64 (rev : Int)) := (HM.blk 0 rfl).cell 1
    have mtf1 : (wa).frozen? ⟨w.heap.size, 1, none⟩ = false := (HM.blk 0 rfl).frozen 1
    have mt2 : (wa).cell? ⟨w.heap.size, 2, none⟩ = some (.int .i64 (cr : Int)) := (HM.blk 0 rfl).cell 2
    have mtf2 : (wa).frozen? ⟨w.heap.size, 2, none⟩ = false := (HM.blk 0 rfl).frozen 2
    have mt3 : (wa).cell? ⟨w.heap.size, 3, none⟩ = some (.int .i64 (H : Int)) := (HM.blk 0 rfl).cell 3
    have mtf3 : (wa).frozen? ⟨w.heap.size, 3, none⟩ = false := (HM.blk 0 rfl).frozen 3
    have mt4 : (wa).cell? ⟨w.heap.size, 4, none⟩ = some (.int .u64 (B : Int)) := (HM.blk 0 rfl).cell 4
    have mtf4 : (wa).frozen? ⟨w.heap.size, 4, none⟩ = false := (HM.blk 0 rfl).frozen 4
    have mt5 : (wa).cell? ⟨w.heap.size, 5, none⟩ = some (.int .i64 (bad : Int)) := (HM.blk 0 rfl).cell 5
    have mtf5 : (wa).frozen? ⟨w.heap.size, 5, none⟩ = false := (HM.blk 0 rfl).frozen 5
    have mt6 : (wa).cell? ⟨w.heap.size, 6, none⟩ = some (.int .i64 (lock : Int)) := (HM.blk 0 rfl).cell 6
    have mtf6 : (wa).frozen? ⟨w.heap.size, 6, none⟩ = false := (HM.blk 0 rfl).frozen 6
    have mtlt : w.heap.size < (wa).heap.size := HM.lt 0 rfl
    have oc0 : (wa).cell? ⟨w.heap.size + 1, 0, none⟩ = some (.slice A l.length c) := (HM.blk 1 rfl).cell 0
    have ocf0 : (wa).frozen? ⟨w.heap.size + 1, 0, none⟩ = false := (HM.blk 1 rfl).frozen 0
    have oclt : w.heap.size + 1 < (wa).heap.size := HM.lt 1 rfl
    have tk0 : (wa).cell? ⟨w.heap.size + 1 + 1, 0, none⟩ = some (.int .i64 (cls : Int)) := (HM.blk 2 rfl).cell 0
    have tkf0 : (wa).frozen? ⟨w.heap.size + 1 + 1, 0, none⟩ = false := (HM.blk 2 rfl).frozen 0
    have tk1 : (wa).cell? ⟨w.heap.size + 1 + 1, 1, none⟩ = some (.int .i64 (id : Int)) := (HM.blk 2 rfl).cell 1
    have tkf1 : (wa).frozen? ⟨w.heap.size + 1 + 1, 1, none⟩ = false := (HM.blk 2 rfl).frozen 1
    have tk2 : (wa).cell? ⟨w.heap.size + 1 + 1, 2, none⟩ = some (.int .i64 (am : Int)) := (HM.blk 2 rfl).cell 2
    have tkf2 : (wa).frozen? ⟨w.heap.size + 1 + 1, 2, none⟩ = false := (HM.blk 2 rfl).frozen 2
    have tk3 : (wa).cell? ⟨w.heap.size + 1 + 1, 3, none⟩ = some (.int .i64 (tag : Int)) := (HM.blk 2 rfl).cell 3
    have tkf3 : (wa).frozen? ⟨w.heap.size + 1 + 1, 3, none⟩ = false := (HM.blk 2 rfl).frozen 3
    have tklt : w.heap.size + 1 + 1 < (wa).heap.size := HM.lt 2 rfl
    have ne_mt_oc : w.heap.size ≠ w.heap.size + 1 := HM.ne 0 1 rfl rfl (by decide)
    have ne_mt_tk : w.heap.size ≠ w.heap.size + 1 + 1 := HM.ne 0 2 rfl rfl (by decide)
    have ne_oc_mt : w.heap.size + 1 ≠ w.heap.size := HM.ne 1 0 rfl rfl (by decide)
    have ne_oc_tk : w.heap.size + 1 ≠ w.heap.size + 1 + 1 := HM.ne 1 2 rfl rfl (by decide)
    have ne_tk_mt : w.heap.size + 1 + 1 ≠ w.heap.size := HM.ne 2 0 rfl rfl (by decide)
    have ne_tk_oc : w.heap.size + 1 + 1 ≠ w.heap.size + 1 := HM.ne 2 1 rfl rfl (by decide)
    have hva := hv0.below HM.below
    clear hba hM hW0
    go_wp2_with fail
    refine (hO _ hva).mono ?_
    rintro e wb ⟨rfl, hbb⟩
    replace HM : Mem (w) [] (wb) [.blk (w.heap.size) 39 #[.int .i64 (me : Int), .int .i64 (rev : Int), .int .i64 (cr : Int), .int .i64 (H : Int), .int .u64 (B : Int), .int .i64 (bad : Int), .int .i64 (lock : Int)], .blk (w.heap.size + 1) 33 #[.slice A l.length c], .blk (w.heap.size + 1 + 1) 48 #[.int .i64 (cls : Int), .int .i64 (id : Int), .int .i64 (am : Int), .int .i64 (tag : Int)], .blk (w.heap.size + 1 + 1 + 1) 39 #[.int .i64 0, .int .i64 0, .int .i64 0, .int .i64 0, .int .u64 0, .int .i64 0, .int .i64 0]] := Mem.call HM hbb
    clear mt0 mtf0 mt1 mtf1 mt2 mtf2 mt3 mtf3 mt4 mtf4 mt5 mtf5 mt6 mtf6 mtlt oc0 ocf0 oclt tk0 tkf0 tk1 tkf1 tk2 tkf2 tk3 tkf3 tklt ne_mt_oc ne_mt_tk ne_oc_mt ne_oc_tk ne_tk_mt ne_tk_oc
    have mt0 : (wb).cell? ⟨w.heap.size, 0, none⟩ = some (.int .i64 (me : Int)) := (HM.blk 0 rfl).cell 0
    have mtf0 : (wb).frozen? ⟨w.heap.size, 0, none⟩ = false := (HM.blk 0 rfl).frozen 0
    have mt1 : (wb).cell? ⟨w.heap.size, 1, none⟩ = some (.int .i64 (rev : Int)) := (HM.blk 0 rfl).cell 1
    have mtf1 : (wb).frozen? ⟨w.heap.size, 1, none⟩ = false := (HM.blk 0 rfl).frozen 1
    have mt2 : (wb).cell? ⟨w.heap.size, 2, none⟩ = some (.int .i64 (cr : Int)) := (HM.blk 0 rfl).cell 2
    have mtf2 : (wb).frozen? ⟨w.heap.size, 2, none⟩ = false := (HM.blk 0 rfl).frozen 2
    have mt3 : (wb).cell? ⟨w.heap.size, 3, none⟩ = some (.int .i64 (H : Int)) := (HM.blk 0 rfl).cell 3
    have mtf3 : (wb).frozen? ⟨w.heap.size, 3, none⟩ = false := (HM.blk 0 rfl).frozen 3
    have mt4 : (wb).cell? ⟨w.heap.size, 4, none⟩ = some (.int .u64 (B : Int)) := (HM.blk 0 rfl).cell 4
    have mtf4 : (wb).frozen? ⟨w.heap.size, 4, none⟩ = false := (HM.blk 0 rfl).frozen 4
    have mt5 : (wb).cell? ⟨w.heap.size, 5, none⟩ = some (.int .i64 (bad : Int)) := (HM.blk 0 rfl).cell 5
    have mtf5 : (wb).frozen? ⟨w.heap.size, 5, none⟩ = false := (HM.blk 0 rfl).frozen 5
    have mt6 : (wb).cell? ⟨w.heap.size, 6, none⟩ = some (.int .i64 (lock : Int)) := (HM.blk 0 rfl).cell 6
    have mtf6 : (wb).frozen? ⟨w.heap.size, 6, none⟩ = false := (HM.blk 0 rfl).frozen 6
    have mtlt : w.heap.size < (wb).heap.size := HM.lt 0 rfl
    have oc0 : (wb).cell? ⟨w.heap.size + 1, 0, none⟩ = some (.slice A l.length c) := (HM.blk 1 rfl).cell 0
    have ocf0 : (wb).frozen? ⟨w.heap.size + 1, 0, none⟩ = false := (HM.blk 1 rfl).frozen 0
    have oclt : w.heap.size + 1 < (wb).heap.size := HM.lt 1 rfl
    have tk0 : (wb).cell? ⟨w.heap.size + 1 + 1, 0, none⟩ = some (.int .i64 (cls : Int)) := (HM.blk 2 rfl).cell 0
    have tkf0 : (wb).frozen? ⟨w.heap.size + 1 + 1, 0, none⟩ = false := (HM.blk 2 rfl).frozen 0
    have tk1 : (wb).cell? ⟨w.heap.size + 1 + 1, 1, none⟩ = some (.int .i64 (id : Int)) := (HM.blk 2 rfl).cell 1
    have tkf1 : (wb).frozen? ⟨w.heap.size + 1 + 1, 1, none⟩ = false := (HM.blk 2 rfl).frozen 1
    have tk2 : (wb).cell? ⟨w.heap.size + 1 + 1, 2, none⟩ = some (.int .i64 (am : Int)) := (HM.blk 2 rfl).cell 2
    have tkf2 : (wb).frozen? ⟨w.heap.size + 1 + 1, 2, none⟩ = false := (HM.blk 2 rfl).frozen 2
    have tk3 : (wb).cell? ⟨w.heap.size + 1 + 1, 3, none⟩ = some (.int .i64 (tag : Int)) := (HM.blk 2 rfl).cell 3
    have tkf3 : (wb).frozen? ⟨w.heap.size + 1 + 1, 3, none⟩ = false := (HM.blk 2 rfl).frozen 3
    have tklt : w.heap.size + 1 + 1 < (wb).heap.size := HM.lt 2 rfl
    have ne_mt_oc : w.heap.size ≠ w.heap.size + 1 := HM.ne 0 1 rfl rfl (by decide)
    have ne_mt_tk : w.heap.size ≠ w.heap.size + 1 + 1 := HM.ne 0 2 rfl rfl (by decide)
    have ne_oc_mt : w.heap.size + 1 ≠ w.heap.size := HM.ne 1 0 rfl rfl (by decide)
    have ne_oc_tk : w.heap.size + 1 ≠ w.heap.size + 1 + 1 := HM.ne 1 2 rfl rfl (by decide)
    have ne_tk_mt : w.heap.size + 1 + 1 ≠ w.heap.size := HM.ne 2 0 rfl rfl (by decide)
    have ne_tk_oc : w.heap.size + 1 + 1 ≠ w.heap.size + 1 := HM.ne 2 1 rfl rfl (by decide)
    clear hbb hO hva
    go_wp2_with fail
    refine (hB _).mono ?_
    rintro e wc ⟨rfl, hbc⟩
    replace HM : Mem (w) [] (wc) [.blk (w.heap.size) 39 #[.int .i64 (me : Int), .int .i64 (rev : Int), .int .i64 (cr : Int), .int .i64 (H : Int), .int .u64 (B : Int), .int .i64 (bad : Int), .int .i64 (lock : Int)], .blk (w.heap.size + 1) 33 #[.slice A l.length c], .blk (w.heap.size + 1 + 1) 48 #[.int .i64 (cls : Int), .int .i64 (id : Int), .int .i64 (am : Int), .int .i64 (tag : Int)], .blk (w.heap.size + 1 + 1 + 1) 39 #[.int .i64 0, .int .i64 0, .int .i64 0, .int .i64 0, .int .u64 0, .int .i64 0, .int .i64 0]] := Mem.call HM hbc
    have hvc := hv0.below HM.below
    clear hbc hB
    clear mt0 mtf0 mt1 mtf1 mt2 mtf2 mt3 mtf3 mt4 mtf4 mt5 mtf5 mt6 mtf6 mtlt oc0 ocf0 oclt tk0 tkf0 tk1 tkf1 tk2 tkf2 tk3 tkf3 tklt ne_mt_oc ne_mt_tk ne_oc_mt ne_oc_tk ne_tk_mt ne_tk_oc
    have mt0 : (wc).cell? ⟨w.heap.size, 0, none⟩ = some (.int .i64 (me : Int)) := (HM.blk 0 rfl).cell 0
    have mtf0 : (wc).frozen? ⟨w.heap.size, 0, none⟩ = false := (HM.blk 0 rfl).frozen 0
    have mt1 : (wc).cell? ⟨w.heap.size, 1, none⟩ = some (.int .i64 (rev : Int)) := (HM.blk 0 rfl).cell 1
    have mtf1 : (wc).frozen? ⟨w.heap.size, 1, none⟩ = false := (HM.blk 0 rfl).frozen 1
    have mt2 : (wc).cell? ⟨w.heap.size, 2, none⟩ = some (.int .i64 (cr : Int)) := (HM.blk 0 rfl).cell 2
    have mtf2 : (wc).frozen? ⟨w.heap.size, 2, none⟩ = false := (HM.blk 0 rfl).frozen 2
    have mt3 : (wc).cell? ⟨w.heap.size, 3, none⟩ = some (.int .i64 (H : Int)) := (HM.blk 0 rfl).cell 3
    have mtf3 : (wc).frozen? ⟨w.heap.size, 3, none⟩ = false := (HM.blk 0 rfl).frozen 3
    have mt4 : (wc).cell? ⟨w.heap.size, 4, none⟩ = some (.int .u64 (B : Int)) := (HM.blk 0 rfl).cell 4
    have mtf4 : (wc).frozen? ⟨w.heap.size, 4, none⟩ = false := (HM.blk 0 rfl).frozen 4
    have mt5 : (wc).cell? ⟨w.heap.size, 5, none⟩ = some (.int .i64 (bad : Int)) := (HM.blk 0 rfl).cell 5
    have mtf5 : (wc).frozen? ⟨w.heap.size, 5, none⟩ = false := (HM.blk 0 rfl).frozen 5
    have mt6 : (wc).cell? ⟨w.heap.size, 6, none⟩ = some (.int .i64 (lock : Int)) := (HM.blk 0 rfl).cell 6
    have mtf6 : (wc).frozen? ⟨w.heap.size, 6, none⟩ = false := (HM.blk 0 rfl).frozen 6
    have mtlt : w.heap.size < (wc).heap.size := HM.lt 0 rfl
    have oc0 : (wc).cell? ⟨w.heap.size + 1, 0, none⟩ = some (.slice A l.length c) := (HM.blk 1 rfl).cell 0
    have ocf0 : (wc).frozen? ⟨w.heap.size + 1, 0, none⟩ = false := (HM.blk 1 rfl).frozen 0
    have oclt : w.heap.size + 1 < (wc).heap.size := HM.lt 1 rfl
    have tk0 : (wc).cell? ⟨w.heap.size + 1 + 1, 0, none⟩ = some (.int .i64 (cls : Int)) := (HM.blk 2 rfl).cell 0
    have tkf0 : (wc).frozen? ⟨w.heap.size + 1 + 1, 0, none⟩ = false := (HM.blk 2 rfl).frozen 0
    have tk1 : (wc).cell? ⟨w.heap.size + 1 + 1, 1, none⟩ = some (.int .i64 (id : Int)) := (HM.blk 2 rfl).cell 1
    have tkf1 : (wc).frozen? ⟨w.heap.size + 1 + 1, 1, none⟩ = false := (HM.blk 2 rfl).frozen 1
    have tk2 : (wc).cell? ⟨w.heap.size + 1 + 1, 2, none⟩ = some (.int .i64 (am : Int)) := (HM.blk 2 rfl).cell 2
    have tkf2 : (wc).frozen? ⟨w.heap.size + 1 + 1, 2, none⟩ = false := (HM.blk 2 rfl).frozen 2
    have tk3 : (wc).cell? ⟨w.heap.size + 1 + 1, 3, none⟩ = some (.int .i64 (tag : Int)) := (HM.blk 2 rfl).cell 3
    have tkf3 : (wc).frozen? ⟨w.heap.size + 1 + 1, 3, none⟩ = false := (HM.blk 2 rfl).frozen 3
    have tklt : w.heap.size + 1 + 1 < (wc).heap.size := HM.lt 2 rfl
    have rs0 : (wc).cell? ⟨w.heap.size + 1 + 1 + 1, 0, none⟩ = some (.int .i64 0) := (HM.blk 3 rfl).cell 0
    have rsf0 : (wc).frozen? ⟨w.heap.size + 1 + 1 + 1, 0, none⟩ = false := (HM.blk 3 rfl).frozen 0
    have rs1 : (wc).cell? ⟨w.heap.size + 1 + 1 + 1, 1, none⟩ = some (.int .i64 0) := (HM.blk 3 rfl).cell 1
    have rsf1 : (wc).frozen? ⟨w.heap.size + 1 + 1 + 1, 1, none⟩ = false := (HM.blk 3 rfl).frozen 1
    have rs2 : (wc).cell? ⟨w.heap.size + 1 + 1 + 1, 2, none⟩ = some (.int .i64 0) := (HM.blk 3 rfl).cell 2
    have rsf2 : (wc).frozen? ⟨w.heap.size + 1 + 1 + 1, 2, none⟩ = false := (HM.blk 3 rfl).frozen 2
    have rs3 : (wc).cell? ⟨w.heap.size + 1 + 1 + 1, 3, none⟩ = some (.int .i64 0) := (HM.blk 3 rfl).cell 3
    have rsf3 : (wc).frozen? ⟨w.heap.size + 1 + 1 + 1, 3, none⟩ = false := (HM.blk 3 rfl).frozen 3
    have rs4 : (wc).cell? ⟨w.heap.size + 1 + 1 + 1, 4, none⟩ = some (.int .u64 0) := (HM.blk 3 rfl).cell 4
    have rsf4 : (wc).frozen? ⟨w.heap.size + 1 + 1 + 1, 4, none⟩ = false := (HM.blk 3 rfl).frozen 4
    have rs5 : (wc).cell? ⟨w.heap.size + 1 + 1 + 1, 5, none⟩ = some (.int .i64 0) := (HM.blk 3 rfl).cell 5
    have rsf5 : (wc).frozen? ⟨w.heap.size + 1 + 1 + 1, 5, none⟩ = false := (HM.blk 3 rfl).frozen 5
    have rs6 : (wc).cell? ⟨w.heap.size + 1 + 1 + 1, 6, none⟩ = some (.int .i64 0) := (HM.blk 3 rfl).cell 6
    have rsf6 : (wc).frozen? ⟨w.heap.size + 1 + 1 + 1, 6, none⟩ = false := (HM.blk 3 rfl).frozen 6
    have rslt : w.heap.size + 1 + 1 + 1 < (wc).heap.size := HM.lt 3 rfl
    have ne_mt_oc : w.heap.size ≠ w.heap.size + 1 := HM.ne 0 1 rfl rfl (by decide)
    have ne_mt_tk : w.heap.size ≠ w.heap.size + 1 + 1 := HM.ne 0 2 rfl rfl (by decide)
    have ne_mt_rs : w.heap.size ≠ w.heap.size + 1 + 1 + 1 := HM.ne 0 3 rfl rfl (by decide)
    have ne_oc_mt : w.heap.size + 1 ≠ w.heap.size := HM.ne 1 0 rfl rfl (by decide)
    have ne_oc_tk : w.heap.size + 1 ≠ w.heap.size + 1 + 1 := HM.ne 1 2 rfl rfl (by decide)
    have ne_oc_rs : w.heap.size + 1 ≠ w.heap.size + 1 + 1 + 1 := HM.ne 1 3 rfl rfl (by decide)
    have ne_tk_mt : w.heap.size + 1 + 1 ≠ w.heap.size := HM.ne 2 0 rfl rfl (by decide)
    have ne_tk_oc : w.heap.size + 1 + 1 ≠ w.heap.size + 1 := HM.ne 2 1 rfl rfl (by decide)
    have ne_tk_rs : w.heap.size + 1 + 1 ≠ w.heap.size + 1 + 1 + 1 := HM.ne 2 3 rfl rfl (by decide)
    have ne_rs_mt : w.heap.size + 1 + 1 + 1 ≠ w.heap.size := HM.ne 3 0 rfl rfl (by decide)
    have ne_rs_oc : w.heap.size + 1 + 1 + 1 ≠ w.heap.size + 1 := HM.ne 3 1 rfl rfl (by decide)
    have ne_rs_tk : w.heap.size + 1 + 1 + 1 ≠ w.heap.size + 1 + 1 := HM.ne 3 2 rfl rfl (by decide)
    clear hk hk0 hW hl hv0 hvc
    go_wp2
    obtain ⟨Wz, hWz⟩ : ∃ Wz, (((((((wc).setCell ⟨w.heap.size + 1 + 1 + 1, 0, none⟩ (.int .i64 (me : Int))).setCell ⟨w.heap.size + 1 + 1 + 1, 1, none⟩ (.int .i64 (rev : Int))).setCell ⟨w.heap.size + 1 + 1 + 1, 2, none⟩ (.int .i64 (cr : Int))).setCell ⟨w.heap.size + 1 + 1 + 1, 3, none⟩ (.int .i64 (H : Int))).setCell ⟨w.heap.size + 1 + 1 + 1, 4, none⟩ (.int .u64 (B : Int))).setCell ⟨w.heap.size + 1 + 1 + 1, 5, none⟩ (.int .i64 (bad : Int))).setCell ⟨w.heap.size + 1 + 1 + 1, 6, none⟩ (.int .i64 (lock : Int)) = Wz := ⟨_, rfl⟩
    replace HM : Mem (w) [] _ [.blk (w.heap.size) 39 #[.int .i64 (me : Int), .int .i64 (rev : Int), .int .i64 (cr : Int), .int .i64 (H : Int), .int .u64 (B : Int), .int .i64 (bad : Int), .int .i64 (lock : Int)], .blk (w.heap.size + 1) 33 #[.slice A l.length c], .blk (w.heap.size + 1 + 1) 48 #[.int .i64 (cls : Int), .int .i64 (id : Int), .int .i64 (am : Int), .int .i64 (tag : Int)], .blk (w.heap.size + 1 + 1 + 1) 39 #[.int .i64 (me : Int), .int .i64 0, .int .i64 0, .int .i64 0, .int .u64 0, .int .i64 0, .int .i64 0]] := Mem.set 3 HM rfl 0 (.int .i64 (me : Int))
    replace HM : Mem (w) [] _ [.blk (w.heap.size) 39 #[.int .i64 (me : Int), .int .i64 (rev : Int), .int .i64 (cr : Int), .int .i64 (H : Int), .int .u64 (B : Int), .int .i64 (bad : Int), .int .i64 (lock : Int)], .blk (w.heap.size + 1) 33 #[.slice A l.length c], .blk (w.heap.size + 1 + 1) 48 #[.int .i64 (cls : Int), .int .i64 (id : Int), .int .i64 (am : Int), .int .i64 (tag : Int)], .blk (w.heap.size + 1 + 1 + 1) 39 #[.int .i64 (me : Int), .int .i64 (rev : Int), .int .i64 0, .int .i64 0, .int .u64 0, .int .i64 0, .int .i64 0]] := Mem.set 3 HM rfl 1 (.int .i64 (rev : Int))
    replace HM : Mem (w) [] _ [.blk (w.heap.size) 39 #[.int .i64 (me : Int), .int .i64 (rev : Int), .int .i64 (cr : Int), .int .i64 (H : Int), .int .u64 (B : Int), .int .i64 (bad : Int), .int .i64 (lock : Int)], .blk (w.heap.size + 1) 33 #[.slice A l.length c], .blk (w.heap.size + 1 + 1) 48 #[.int .i64 (cls : Int), .int .i64 (id : Int), .int .i64 (am : Int), .int .i64 (tag : Int)], .blk (w.heap.size + 1 + 1 + 1) 39 #[.int .i64 (me : Int), .int .i64 (rev : Int), .int .i64 (cr : Int), .int .i64 0, .int .u64 0, .int .i64 0, .int .i64 0]] := Mem.set 3 HM rfl 2 (.int .i64 (cr : Int))
    replace HM : Mem (w) [] _ [.blk (w.heap.size) 39 #[.int .i64 (me : Int), .int .i64 (rev : Int), .int .i64 (cr : Int), .int .i64 (H : Int), .int .u64 (B : Int), .int .i64 (bad : Int), .int .i64 (lock : Int)], .blk (w.heap.size + 1) 33 #[.slice A l.length c], .blk (w.heap.size + 1 + 1) 48 #[.int .i64 (cls : Int), .int .i64 (id : Int), .int .i64 (am : Int), .int .i64 (tag : Int)], .blk (w.heap.size + 1 + 1 + 1) 39 #[.int .i64 (me : Int), .int .i64 (rev : Int), .int .i64 (cr : Int), .int .i64 (H : Int), .int .u64 0, .int .i64 0, .int .i64 0]] := Mem.set 3 HM rfl 3 (.int .i64 (H : Int))
    replace HM : Mem (w) [] _ [.blk (w.heap.size) 39 #[.int .i64 (me : Int), .int .i64 (rev : Int), .int .i64 (cr : Int), .int .i64 (H : Int), .int .u64 (B : Int), .int .i64 (bad : Int), .int .i64 (lock : Int)], .blk (w.heap.size + 1) 33 #[.slice A l.length c], .blk (w.heap.size + 1 + 1) 48 #[.int .i64 (cls : Int), .int .i64 (id : Int), .int .i64 (am : Int), .int .i64 (tag : Int)], .blk (w.heap.size + 1 + 1 + 1) 39 #[.int .i64 (me : Int), .int .i64 (rev : Int), .int .i64 (cr : Int), .int .i64 (H : Int), .int .u64 (B : Int), .int .i64 0, .int .i64 0]] := Mem.set 3 HM rfl 4 (.int .u64 (B : Int))
    replace HM : Mem (w) [] _ [.blk (w.heap.size) 39 #[.int .i64 (me : Int), .int .i64 (rev : Int), .int .i64 (cr : Int), .int .i64 (H : Int), .int .u64 (B : Int), .int .i64 (bad : Int), .int .i64 (lock : Int)], .blk (w.heap.size + 1) 33 #[.slice A l.length c], .blk (w.heap.size + 1 + 1) 48 #[.int .i64 (cls : Int), .int .i64 (id : Int), .int .i64 (am : Int), .int .i64 (tag : Int)], .blk (w.heap.size + 1 + 1 + 1) 39 #[.int .i64 (me : Int), .int .i64 (rev : Int), .int .i64 (cr : Int), .int .i64 (H : Int), .int .u64 (B : Int), .int .i64 (bad : Int), .int .i64 0]] := Mem.set 3 HM rfl 5 (.int .i64 (bad : Int))
    replace HM : Mem (w) [] _ [.blk (w.heap.size) 39 #[.int .i64 (me : Int), .int .i64 (rev : Int), .int .i64 (cr : Int), .int .i64 (H : Int), .int .u64 (B : Int), .int .i64 (bad : Int), .int .i64 (lock : Int)], .blk (w.heap.size + 1) 33 #[.slice A l.length c], .blk (w.heap.size + 1 + 1) 48 #[.int .i64 (cls : Int), .int .i64 (id : Int), .int .i64 (am : Int), .int .i64 (tag : Int)], .blk (w.heap.size + 1 + 1 + 1) 39 #[.int .i64 (me : Int), .int .i64 (rev : Int), .int .i64 (cr : Int), .int .i64 (H : Int), .int .u64 (B : Int), .int .i64 (bad : Int), .int .i64 (lock : Int)]] := Mem.set 3 HM rfl 6 (.int .i64 (lock : Int))
    rw [hWz] at HM ⊢
    clear hWz
    clear mt0 mtf0 mt1 mtf1 mt2 mtf2 mt3 mtf3 mt4 mtf4 mt5 mtf5 mt6 mtf6 mtlt oc0 ocf0 oclt tk0 tkf0 tk1 tkf1 tk2 tkf2 tk3 tkf3 tklt rs0 rsf0 rs1 rsf1 rs2 rsf2 rs3 rsf3 rs4 rsf4 rs5 rsf5 rs6 rsf6 rslt ne_mt_oc ne_mt_tk ne_mt_rs ne_oc_mt ne_oc_tk ne_oc_rs ne_tk_mt ne_tk_oc ne_tk_rs ne_rs_mt ne_rs_oc ne_rs_tk
    have rs0 : (Wz).cell? ⟨w.heap.size + 1 + 1 + 1, 0, none⟩ = some (.int .i64 (me : Int)) := (HM.blk 3 rfl).cell 0
    have rsf0 : (Wz).frozen? ⟨w.heap.size + 1 + 1 + 1, 0, none⟩ = false := (HM.blk 3 rfl).frozen 0
    have rs1 : (Wz).cell? ⟨w.heap.size + 1 + 1 + 1, 1, none⟩ = some (.int .i64 (rev : Int)) := (HM.blk 3 rfl).cell 1
    have rsf1 : (Wz).frozen? ⟨w.heap.size + 1 + 1 + 1, 1, none⟩ = false := (HM.blk 3 rfl).frozen 1
    have rs2 : (Wz).cell? ⟨w.heap.size + 1 + 1 + 1, 2, none⟩ = some (.int .i64 (cr : Int)) := (HM.blk 3 rfl).cell 2
    have rsf2 : (Wz).frozen? ⟨w.heap.size + 1 + 1 + 1, 2, none⟩ = false := (HM.blk 3 rfl).frozen 2
    have rs3 : (Wz).cell? ⟨w.heap.size + 1 + 1 + 1, 3, none⟩ = some (.int .i64 (H : Int)) := (HM.blk 3 rfl).cell 3
    have rsf3 : (Wz).frozen? ⟨w.heap.size + 1 + 1 + 1, 3, none⟩ = false := (HM.blk 3 rfl).frozen 3
    have rs4 : (Wz).cell? ⟨w.heap.size + 1 + 1 + 1, 4, none⟩ = some (.int .u64 (B : Int)) := (HM.blk 3 rfl).cell 4
    have rsf4 : (Wz).frozen? ⟨w.heap.size + 1 + 1 + 1, 4, none⟩ = false := (HM.blk 3 rfl).frozen 4
    have rs5 : (Wz).cell? ⟨w.heap.size + 1 + 1 + 1, 5, none⟩ = some (.int .i64 (bad : Int)) := (HM.blk 3 rfl).cell 5
    have rsf5 : (Wz).frozen? ⟨w.heap.size + 1 + 1 + 1, 5, none⟩ = false := (HM.blk 3 rfl).frozen 5
    have rs6 : (Wz).cell? ⟨w.heap.size + 1 + 1 + 1, 6, none⟩ = some (.int .i64 (lock : Int)) := (HM.blk 3 rfl).cell 6
    have rsf6 : (Wz).frozen? ⟨w.heap.size + 1 + 1 + 1, 6, none⟩ = false := (HM.blk 3 rfl).frozen 6
    have rslt : w.heap.size + 1 + 1 + 1 < (Wz).heap.size := HM.lt 3 rfl
    refine bodyPost_ret (v := .tuple #[.agg #[.int .i64 (me : Int), .int .i64 (rev : Int), .int .i64 (cr : Int), .int .i64 (H : Int), .int .u64 (B : Int), .int .i64 (bad : Int), .int .i64 (lock : Int)], .int .i64 0, .int .i64 10]) (by simp [results, Tryd.results15, go_sem, rs0, rs1, rs2, rs3, rs4, rs5, rs6]; done) rfl ?_
    exact ⟨rfl, HM.below⟩
  · rw [if_neg hlk] at HR
    have hl0 : lock = 0 := by omega
    have hlI : decide (0 < (lock : Int)) = false := by simp; omega
    clear hl0
    skip
    by_cases h3 : cls = 3
    · rw [if_pos h3] at HR
      injection HR with f1 HR; injection HR with f2 HR; injection HR with f3 HR; injection HR with f4 HR; injection HR with f5 HR; injection HR with f6 HR; injection HR with f7 f8
      subst f1; subst f2; subst f3; subst f4; subst f5; subst f6; subst f7; subst f8
      have hc3 : ((cls : Int) == 3) = true := by simp; omega
      clear h3
      have mt0 : (W0).cell? ⟨w.heap.size, 0, none⟩ = some (.int .i64 (me : Int)) := (HM.blk 0 rfl).cell 0
      have mtf0 : (W0).frozen? ⟨w.heap.size, 0, none⟩ = false := (HM.blk 0 rfl).frozen 0
      have mt1 : (W0).cell? ⟨w.heap.size, 1, none⟩ = some (.int .i64 (rev : Int)) := (HM.blk 0 rfl).cell 1
      have mtf1 : (W0).frozen? ⟨w.heap.size, 1, none⟩ = false := (HM.blk 0 rfl).frozen 1
      have mt2 : (W0).cell? ⟨w.heap.size, 2, none⟩ = some (.int .i64 (cr : Int)) := (HM.blk 0 rfl).cell 2
      have mtf2 : (W0).frozen? ⟨w.heap.size, 2, none⟩ = false := (HM.blk 0 rfl).frozen 2
      have mt3 : (W0).cell? ⟨w.heap.size, 3, none⟩ = some (.int .i64 (H : Int)) := (HM.blk 0 rfl).cell 3
      have mtf3 : (W0).frozen? ⟨w.heap.size, 3, none⟩ = false := (HM.blk 0 rfl).frozen 3
      have mt4 : (W0).cell? ⟨w.heap.size, 4, none⟩ = some (.int .u64 (B : Int)) := (HM.blk 0 rfl).cell 4
      have mtf4 : (W0).frozen? ⟨w.heap.size, 4, none⟩ = false := (HM.blk 0 rfl).frozen 4
      have mt5 : (W0).cell? ⟨w.heap.size, 5, none⟩ = some (.int .i64 (bad : Int)) := (HM.blk 0 rfl).cell 5
      have mtf5 : (W0).frozen? ⟨w.heap.size, 5, none⟩ = false := (HM.blk 0 rfl).frozen 5
      have mt6 : (W0).cell? ⟨w.heap.size, 6, none⟩ = some (.int .i64 (lock : Int)) := (HM.blk 0 rfl).cell 6
      have mtf6 : (W0).frozen? ⟨w.heap.size, 6, none⟩ = false := (HM.blk 0 rfl).frozen 6
      have mtlt : w.heap.size < (W0).heap.size := HM.lt 0 rfl
      have oc0 : (W0).cell? ⟨w.heap.size + 1, 0, none⟩ = some (.slice A l.length c) := (HM.blk 1 rfl).cell 0
      have ocf0 : (W0).frozen? ⟨w.heap.size + 1, 0, none⟩ = false := (HM.blk 1 rfl).frozen 0
      have oclt : w.heap.size + 1 < (W0).heap.size := HM.lt 1 rfl
      have tk0 : (W0).cell? ⟨w.heap.size + 1 + 1, 0, none⟩ = some (.int .i64 (cls : Int)) := (HM.blk 2 rfl).cell 0
      have tkf0 : (W0).frozen? ⟨w.heap.size + 1 + 1, 0, none⟩ = false := (HM.blk 2 rfl).frozen 0
      have tk1 : (W0).cell? ⟨w.heap.size + 1 + 1, 1, none⟩ = some (.int .i64 (id : Int)) := (HM.blk 2 rfl).cell 1
      have tkf1 : (W0).frozen? ⟨w.heap.size + 1 + 1, 1, none⟩ = false := (HM.blk 2 rfl).frozen 1
      have tk2 : (W0).cell? ⟨w.heap.size + 1 + 1, 2, none⟩ = some (.int .i64 (am : Int)) := (HM.blk 2 rfl).cell 2
      have tkf2 : (W0).frozen? ⟨w.heap.size + 1 + 1, 2, none⟩ = false := (HM.blk 2 rfl).frozen 2
      have tk3 : (W0).cell? ⟨w.heap.size + 1 + 1, 3, none⟩ = some (.int .i64 (tag : Int)) := (HM.blk 2 rfl).cell 3
      have tkf3 : (W0).frozen? ⟨w.heap.size + 1 + 1, 3, none⟩ = false := (HM.blk 2 rfl).frozen 3
      have tklt : w.heap.size + 1 + 1 < (W0).heap.size := HM.lt 2 rfl
      have ne_mt_oc : w.heap.size ≠ w.heap.size + 1 := HM.ne 0 1 rfl rfl (by decide)
      have ne_mt_tk : w.heap.size ≠ w.heap.size + 1 + 1 := HM.ne 0 2 rfl rfl (by decide)
      have ne_oc_mt : w.heap.size + 1 ≠ w.heap.size := HM.ne 1 0 rfl rfl (by decide)
      have ne_oc_tk : w.heap.size + 1 ≠ w.heap.size + 1 + 1 := HM.ne 1 2 rfl rfl (by decide)
      have ne_tk_mt : w.heap.size + 1 + 1 ≠ w.heap.size := HM.ne 2 0 rfl rfl (by decide)
      have ne_tk_oc : w.heap.size + 1 + 1 ≠ w.heap.size + 1 := HM.ne 2 1 rfl rfl (by decide)
      go_enter Tryd.func15, Tryd.ntmps15
      go_wp2_with fail
      refine (hM _).mono ?_
      rintro e wa ⟨rfl, hba⟩
      replace HM : Mem (w) [] (wa) [.blk (w.heap.size) 39 #[.int .i64 (me : Int), .int .i64 (rev : Int), .int .i64 (cr : Int), .int .i64 (H : Int), .int .u64 (B : Int), .int .i64 (bad : Int), .int .i64 (lock : Int)], .blk (w.heap.size + 1) 33 #[.slice A l.length c], .blk (w.heap.size + 1 + 1) 48 #[.int .i64 (cls : Int), .int .i64 (id : Int), .int .i64 (am : Int), .int .i64 (tag : Int)], .blk (w.heap.size + 1 + 1 + 1) 39 #[.int .i64 0, .int .i64 0, .int .i64 0, .int .i64 0, .int .u64 0, .int .i64 0, .int .i64 0]] := Mem.call HM hba
      clear mt0 mtf0 mt1 mtf1 mt2 mtf2 mt3 mtf3 mt4 mtf4 mt5 mtf5 mt6 mtf6 mtlt oc0 ocf0 oclt tk0 tkf0 tk1 tkf1 tk2 tkf2 tk3 tkf3 tklt ne_mt_oc ne_mt_tk ne_oc_mt ne_oc_tk ne_tk_mt ne_tk_oc
      have mt0 : (wa).cell? ⟨w.heap.size, 0, none⟩ = some (.int .i64 (me : Int)) := (HM.blk 0 rfl).cell 0
      have mtf0 : (wa).frozen? ⟨w.heap.size, 0, none⟩ = false := (HM.blk 0 rfl).frozen 0
      have mt1 : (wa).cell? ⟨w.heap.size, 1, none⟩ = some (.int .i64 (rev : Int)) := (HM.blk 0 rfl).cell 1
      have mtf1 : (wa).frozen? ⟨w.heap.size, 1, none⟩ = false := (HM.blk 0 rfl).frozen 1
      have mt2 : (wa).cell? ⟨w.heap.size, 2, none⟩ = some (.int .i64 (cr : Int)) := (HM.blk 0 rfl).cell 2
      have mtf2 : (wa).frozen? ⟨w.heap.size, 2, none⟩ = false := (HM.blk 0 rfl).frozen 2
      have mt3 : (wa).cell? ⟨w.heap.size, 3, none⟩ = some (.int .i64 (H : Int)) := (HM.blk 0 rfl).cell 3
      have mtf3 : (wa).frozen? ⟨w.heap.size, 3, none⟩ = false := (HM.blk 0 rfl).frozen 3
      have mt4 : (wa).cell? ⟨w.heap.size, 4, none⟩ = some (.int .u64 (B : Int)) := (HM.blk 0 rfl).cell 4
      have mtf4 : (wa).frozen? ⟨w.heap.size, 4, none⟩ = false := (HM.blk 0 rfl).frozen 4
      have mt5 : (wa).cell? ⟨w.heap.size, 5, none⟩ = some (.int .i64 (bad : Int)) := (HM.blk 0 rfl).cell 5
      have mtf5 : (wa).frozen? ⟨w.heap.size, 5, none⟩ = false := (HM.blk 0 rfl).frozen 5
      have mt6 : (wa).cell? ⟨w.heap.size, 6, none⟩ = some (.int .i64 (lock : Int)) := (HM.blk 0 rfl).cell 6
      have mtf6 : (wa).frozen? ⟨w.heap.size, 6, none⟩ = false := (HM.blk 0 rfl).frozen 6
      have mtlt : w.heap.size < (wa).heap.size := HM.lt 0 rfl
      have oc0 : (wa).cell? ⟨w.heap.size + 1, 0, none⟩ = some (.slice A l.length c) := (HM.blk 1 rfl).cell 0
      have ocf0 : (wa).frozen? ⟨w.heap.size + 1, 0, none⟩ = false := (HM.blk 1 rfl).frozen 0
      have oclt : w.heap.size + 1 < (wa).heap.size := HM.lt 1 rfl
      have tk0 : (wa).cell? ⟨w.heap.size + 1 + 1, 0, none⟩ = some (.int .i64 (cls : Int)) := (HM.blk 2 rfl).cell 0
      have tkf0 : (wa).frozen? ⟨w.heap.size + 1 + 1, 0, none⟩ = false := (HM.blk 2 rfl).frozen 0
      have tk1 : (wa).cell? ⟨w.heap.size + 1 + 1, 1, none⟩ = some (.int .i64 (id : Int)) := (HM.blk 2 rfl).cell 1
      have tkf1 : (wa).frozen? ⟨w.heap.size + 1 + 1, 1, none⟩ = false := (HM.blk 2 rfl).frozen 1
      have tk2 : (wa).cell? ⟨w.heap.size + 1 + 1, 2, none⟩ = some (.int .i64 (am : Int)) := (HM.blk 2 rfl).cell 2
      have tkf2 : (wa).frozen? ⟨w.heap.size + 1 + 1, 2, none⟩ = false := (HM.blk 2 rfl).frozen 2
      have tk3 : (wa).cell? ⟨w.heap.size + 1 + 1, 3, none⟩ = some (.int .i64 (tag : Int)) := (HM.blk 2 rfl).cell 3
      have tkf3 : (wa).frozen? ⟨w.heap.size + 1 + 1, 3, none⟩ = false := (HM.blk 2 rfl).frozen 3
      have tklt : w.heap.size + 1 + 1 < (wa).heap.size := HM.lt 2 rfl
      have ne_mt_oc : w.heap.size ≠ w.heap.size + 1 := HM.ne 0 1 rfl rfl (by decide)
      have ne_mt_tk : w.heap.size ≠ w.heap.size + 1 + 1 := HM.ne 0 2 rfl rfl (by decide)
      have ne_oc_mt : w.heap.size + 1 ≠ w.heap.size := HM.ne 1 0 rfl rfl (by decide)
      have ne_oc_tk : w.heap.size + 1 ≠ w.heap.size + 1 + 1 := HM.ne 1 2 rfl rfl (by decide)
      have ne_tk_mt : w.heap.size + 1 + 1 ≠ w.heap.size := HM.ne 2 0 rfl rfl (by decide)
      have ne_tk_oc : w.heap.size + 1 + 1 ≠ w.heap.size + 1 := HM.ne 2 1 rfl rfl (by decide)
      have hva := hv0.below HM.below
      clear hba hM hW0
      go_wp2_with fail
      refine (hO _ hva).mono ?_
      rintro e wb ⟨rfl, hbb⟩
      replace HM : Mem (w) [] (wb) [.blk (w.heap.size) 39 #[.int .i64 (me : Int), .int .i64 (rev : Int), .int .i64 (cr : Int), .int .i64 (H : Int), .int .u64 (B : Int), .int .i64 (bad : Int), .int .i64 (lock : Int)], .blk (w.heap.size + 1) 33 #[.slice A l.length c], .blk (w.heap.size + 1 + 1) 48 #[.int .i64 (cls : Int), .int .i64 (id : Int), .int .i64 (am : Int), .int .i64 (tag : Int)], .blk (w.heap.size + 1 + 1 + 1) 39 #[.int .i64 0, .int .i64 0, .int .i64 0, .int .i64 0, .int .u64 0, .int .i64 0, .int .i64 0]] := Mem.call HM hbb
      clear mt0 mtf0 mt1 mtf1 mt2 mtf2 mt3 mtf3 mt4 mtf4 mt5 mtf5 mt6 mtf6 mtlt oc0 ocf0 oclt tk0 tkf0 tk1 tkf1 tk2 tkf2 tk3 tkf3 tklt ne_mt_oc ne_mt_tk ne_oc_mt ne_oc_tk ne_tk_mt ne_tk_oc
      have mt0 : (wb).cell? ⟨w.heap.size, 0, none⟩ = some (.int .i64 (me : Int)) := (HM.blk 0 rfl).cell 0
      have mtf0 : (wb).frozen? ⟨w.heap.size, 0, none⟩ = false := (HM.blk 0 rfl).frozen 0
      have mt1 : (wb).cell? ⟨w.heap.size, 1, none⟩ = some (.int .i64 (rev : Int)) := (HM.blk 0 rfl).cell 1
      have mtf1 : (wb).frozen? ⟨w.heap.size, 1, none⟩ = false := (HM.blk 0 rfl).frozen 1
      have mt2 : (wb).cell? ⟨w.heap.size, 2, none⟩ = some (.int .i64 (cr : Int)) := (HM.blk 0 rfl).cell 2
      have mtf2 : (wb).frozen? ⟨w.heap.size, 2, none⟩ = false := (HM.blk 0 rfl).frozen 2
      have mt3 : (wb).cell? ⟨w.heap.size, 3, none⟩ = some (.int .i64 (H : Int)) := (HM.blk 0 rfl).cell 3
      have mtf3 : (wb).frozen? ⟨w.heap.size, 3, none⟩ = false := (HM.blk 0 rfl).frozen 3
      have mt4 : (wb).cell? ⟨w.heap.size, 4, none⟩ = some (.int .u64 (B : Int)) := (HM.blk 0 rfl).cell 4
      have mtf4 : (wb).frozen? ⟨w.heap.size, 4, none⟩ = false := (HM.blk 0 rfl).frozen 4
      have mt5 : (wb).cell? ⟨w.heap.size, 5, none⟩ = some (.int .i64 (bad : Int)) := (HM.blk 0 rfl).cell 5
      have mtf5 : (wb).frozen? ⟨w.heap.size, 5, none⟩ = false := (HM.blk 0 rfl).frozen 5
      have mt6 : (wb).cell? ⟨w.heap.size, 6, none⟩ = some (.int .i64 (lock : Int)) := (HM.blk 0 rfl).cell 6
      have mtf6 : (wb).frozen? ⟨w.heap.size, 6, none⟩ = false := (HM.blk 0 rfl).frozen 6
      have mtlt : w.heap.size < (wb).heap.size := HM.lt 0 rfl
      have oc0 : (wb).cell? ⟨w.heap.size + 1, 0, none⟩ = some (.slice A l.length c) := (HM.blk 1 rfl).cell 0
      have ocf0 : (wb).frozen? ⟨w.heap.size + 1, 0, none⟩ = false := (HM.blk 1 rfl).frozen 0
      have oclt : w.heap.size + 1 < (wb).heap.size := HM.lt 1 rfl
      have tk0 : (wb).cell? ⟨w.heap.size + 1 + 1, 0, none⟩ = some (.int .i64 (cls : Int)) := (HM.blk 2 rfl).cell 0
      have tkf0 : (wb).frozen? ⟨w.heap.size + 1 + 1, 0, none⟩ = false := (HM.blk 2 rfl).frozen 0
      have tk1 : (wb).cell? ⟨w.heap.size + 1 + 1, 1, none⟩ = some (.int .i64 (id : Int)) := (HM.blk 2 rfl).cell 1
      have tkf1 : (wb).frozen? ⟨w.heap.size + 1 + 1, 1, none⟩ = false := (HM.blk 2 rfl).frozen 1
      have tk2 : (wb).cell? ⟨w.heap.size + 1 + 1, 2, none⟩ = some (.int .i64 (am : Int)) := (HM.blk 2 rfl).cell 2
      have tkf2 : (wb).frozen? ⟨w.heap.size + 1 + 1, 2, none⟩ = false := (HM.blk 2 rfl).frozen 2
      have tk3 : (wb).cell? ⟨w.heap.size + 1 + 1, 3, none⟩ = some (.int .i64 (tag : Int)) := (HM.blk 2 rfl).cell 3
      have tkf3 : (wb).frozen? ⟨w.heap.size + 1 + 1, 3, none⟩ = false := (HM.blk 2 rfl).frozen 3
      have tklt : w.heap.size + 1 + 1 < (wb).heap.size := HM.lt 2 rfl
      have ne_mt_oc : w.heap.size ≠ w.heap.size + 1 := HM.ne 0 1 rfl rfl (by decide)
      have ne_mt_tk : w.heap.size ≠ w.heap.size + 1 + 1 := HM.ne 0 2 rfl rfl (by decide)
      have ne_oc_mt : w.heap.size + 1 ≠ w.heap.size := HM.ne 1 0 rfl rfl (by decide)
      have ne_oc_tk : w.heap.size + 1 ≠ w.heap.size + 1 + 1 := HM.ne 1 2 rfl rfl (by decide)
      have ne_tk_mt : w.heap.size + 1 + 1 ≠ w.heap.size := HM.ne 2 0 rfl rfl (by decide)
      have ne_tk_oc : w.heap.size + 1 + 1 ≠ w.heap.size + 1 := HM.ne 2 1 rfl rfl (by decide)
      clear hbb hO hva
      go_wp2_with fail
      refine (hB _).mono ?_
      rintro e wc ⟨rfl, hbc⟩
      replace HM : Mem (w) [] (wc) [.blk (w.heap.size) 39 #[.int .i64 (me : Int), .int .i64 (rev : Int), .int .i64 (cr : Int), .int .i64 (H : Int), .int .u64 (B : Int), .int .i64 (bad : Int), .int .i64 (lock : Int)], .blk (w.heap.size + 1) 33 #[.slice A l.length c], .blk (w.heap.size + 1 + 1) 48 #[.int .i64 (cls : Int), .int .i64 (id : Int), .int .i64 (am : Int), .int .i64 (tag : Int)], .blk (w.heap.size + 1 + 1 + 1) 39 #[.int .i64 0, .int .i64 0, .int .i64 0, .int .i64 0, .int .u64 0, .int .i64 0, .int .i64 0]] := Mem.call HM hbc
      have hvc := hv0.below HM.below
      clear hbc hB
      clear mt0 mtf0 mt1 mtf1 mt2 mtf2 mt3 mtf3 mt4 mtf4 mt5 mtf5 mt6 mtf6 mtlt oc0 ocf0 oclt tk0 tkf0 tk1 tkf1 tk2 tkf2 tk3 tkf3 tklt ne_mt_oc ne_mt_tk ne_oc_mt ne_oc_tk ne_tk_mt ne_tk_oc
      have mt0 : (wc).cell? ⟨w.heap.size, 0, none⟩ = some (.int .i64 (me : Int)) := (HM.blk 0 rfl).cell 0
      have mtf0 : (wc).frozen? ⟨w.heap.size, 0, none⟩ = false := (HM.blk 0 rfl).frozen 0
      have mt1 : (wc).cell? ⟨w.heap.size, 1, none⟩ = some (.int .i64 (rev : Int)) := (HM.blk 0 rfl).cell 1
      have mtf1 : (wc).frozen? ⟨w.heap.size, 1, none⟩ = false := (HM.blk 0 rfl).frozen 1
      have mt2 : (wc).cell? ⟨w.heap.size, 2, none⟩ = some (.int .i64 (cr : Int)) := (HM.blk 0 rfl).cell 2
      have mtf2 : (wc).frozen? ⟨w.heap.size, 2, none⟩ = false := (HM.blk 0 rfl).frozen 2
      have mt3 : (wc).cell? ⟨w.heap.size, 3, none⟩ = some (.int .i64 (H : Int)) := (HM.blk 0 rfl).cell 3
      have mtf3 : (wc).frozen? ⟨w.heap.size, 3, none⟩ = false := (HM.blk 0 rfl).frozen 3
      have mt4 : (wc).cell? ⟨w.heap.size, 4, none⟩ = some (.int .u64 (B : Int)) := (HM.blk 0 rfl).cell 4
      have mtf4 : (wc).frozen? ⟨w.heap.size, 4, none⟩ = false := (HM.blk 0 rfl).frozen 4
      have mt5 : (wc).cell? ⟨w.heap.size, 5, none⟩ = some (.int .i64 (bad : Int)) := (HM.blk 0 rfl).cell 5
      have mtf5 : (wc).frozen? ⟨w.heap.size, 5, none⟩ = false := (HM.blk 0 rfl).frozen 5
      have mt6 : (wc).cell? ⟨w.heap.size, 6, none⟩ = some (.int .i64 (lock : Int)) := (HM.blk 0 rfl).cell 6
      have mtf6 : (wc).frozen? ⟨w.heap.size, 6, none⟩ = false := (HM.blk 0 rfl).frozen 6
      have mtlt : w.heap.size < (wc).heap.size := HM.lt 0 rfl
      have oc0 : (wc).cell? ⟨w.heap.size + 1, 0, none⟩ = some (.slice A l.length c) := (HM.blk 1 rfl).cell 0
      have ocf0 : (wc).frozen? ⟨w.heap.size + 1, 0, none⟩ = false := (HM.blk 1 rfl).frozen 0
      have oclt : w.heap.size + 1 < (wc).heap.size := HM.lt 1 rfl
      have tk0 : (wc).cell? ⟨w.heap.size + 1 + 1, 0, none⟩ = some (.int .i64 (cls : Int)) := (HM.blk 2 rfl).cell 0
      have tkf0 : (wc).frozen? ⟨w.heap.size + 1 + 1, 0, none⟩ = false := (HM.blk 2 rfl).frozen 0
      have tk1 : (wc).cell? ⟨w.heap.size + 1 + 1, 1, none⟩ = some (.int .i64 (id : Int)) := (HM.blk 2 rfl).cell 1
      have tkf1 : (wc).frozen? ⟨w.heap.size + 1 + 1, 1, none⟩ = false := (HM.blk 2 rfl).frozen 1
      have tk2 : (wc).cell? ⟨w.heap.size + 1 + 1, 2, none⟩ = some (.int .i64 (am : Int)) := (HM.blk 2 rfl).cell 2
      have tkf2 : (wc).frozen? ⟨w.heap.size + 1 + 1, 2, none⟩ = false := (HM.blk 2 rfl).frozen 2
      have tk3 : (wc).cell? ⟨w.heap.size + 1 + 1, 3, none⟩ = some (.int .i64 (tag : Int)) := (HM.blk 2 rfl).cell 3
      have tkf3 : (wc).frozen? ⟨w.heap.size + 1 + 1, 3, none⟩ = false := (HM.blk 2 rfl).frozen 3
      have tklt : w.heap.size + 1 + 1 < (wc).heap.size := HM.lt 2 rfl
      have rs0 : (wc).cell? ⟨w.heap.size + 1 + 1 + 1, 0, none⟩ = some (.int .i64 0) := (HM.blk 3 rfl).cell 0
      have rsf0 : (wc).frozen? ⟨w.heap.size + 1 + 1 + 1, 0, none⟩ = false := (HM.blk 3 rfl).frozen 0
      have rs1 : (wc).cell? ⟨w.heap.size + 1 + 1 + 1, 1, none⟩ = some (.int .i64 0) := (HM.blk 3 rfl).cell 1
      have rsf1 : (wc).frozen? ⟨w.heap.size + 1 + 1 + 1, 1, none⟩ = false := (HM.blk 3 rfl).frozen 1
      have rs2 : (wc).cell? ⟨w.heap.size + 1 + 1 + 1, 2, none⟩ = some (.int .i64 0) := (HM.blk 3 rfl).cell 2
      have rsf2 : (wc).frozen? ⟨w.heap.size + 1 + 1 + 1, 2, none⟩ = false := (HM.blk 3 rfl).frozen 2
      have rs3 : (wc).cell? ⟨w.heap.size + 1 + 1 + 1, 3, none⟩ = some (.int .i64 0) := (HM.blk 3 rfl).cell 3
      have rsf3 : (wc).frozen? ⟨w.heap.size + 1 + 1 + 1, 3, none⟩ = false := (HM.blk 3 rfl).frozen 3
      have rs4 : (wc).cell? ⟨w.heap.size + 1 + 1 + 1, 4, none⟩ = some (.int .u64 0) := (HM.blk 3 rfl).cell 4
      have rsf4 : (wc).frozen? ⟨w.heap.size + 1 + 1 + 1, 4, none⟩ = false := (HM.blk 3 rfl).frozen 4
      have rs5 : (wc).cell? ⟨w.heap.size + 1 + 1 + 1, 5, none⟩ = some (.int .i64 0) := (HM.blk 3 rfl).cell 5
      have rsf5 : (wc).frozen? ⟨w.heap.size + 1 + 1 + 1, 5, none⟩ = false := (HM.blk 3 rfl).frozen 5
      have rs6 : (wc).cell? ⟨w.heap.size + 1 + 1 + 1, 6, none⟩ = some (.int .i64 0) := (HM.blk 3 rfl).cell 6
      have rsf6 : (wc).frozen? ⟨w.heap.size + 1 + 1 + 1, 6, none⟩ = false := (HM.blk 3 rfl).frozen 6
      have rslt : w.heap.size + 1 + 1 + 1 < (wc).heap.size := HM.lt 3 rfl
      have ne_mt_oc : w.heap.size ≠ w.heap.size + 1 := HM.ne 0 1 rfl rfl (by decide)
      have ne_mt_tk : w.heap.size ≠ w.heap.size + 1 + 1 := HM.ne 0 2 rfl rfl (by decide)
      have ne_mt_rs : w.heap.size ≠ w.heap.size + 1 + 1 + 1 := HM.ne 0 3 rfl rfl (by decide)
      have ne_oc_mt : w.heap.size + 1 ≠ w.heap.size := HM.ne 1 0 rfl rfl (by decide)
      have ne_oc_tk : w.heap.size + 1 ≠ w.heap.size + 1 + 1 := HM.ne 1 2 rfl rfl (by decide)
      have ne_oc_rs : w.heap.size + 1 ≠ w.heap.size + 1 + 1 + 1 := HM.ne 1 3 rfl rfl (by decide)
      have ne_tk_mt : w.heap.size + 1 + 1 ≠ w.heap.size := HM.ne 2 0 rfl rfl (by decide)
      have ne_tk_oc : w.heap.size + 1 + 1 ≠ w.heap.size + 1 := HM.ne 2 1 rfl rfl (by decide)
      have ne_tk_rs : w.heap.size + 1 + 1 ≠ w.heap.size + 1 + 1 + 1 := HM.ne 2 3 rfl rfl (by decide)
      have ne_rs_mt : w.heap.size + 1 + 1 + 1 ≠ w.heap.size := HM.ne 3 0 rfl rfl (by decide)
      have ne_rs_oc : w.heap.size + 1 + 1 + 1 ≠ w.heap.size + 1 := HM.ne 3 1 rfl rfl (by decide)
      have ne_rs_tk : w.heap.size + 1 + 1 + 1 ≠ w.heap.size + 1 + 1 := HM.ne 3 2 rfl rfl (by decide)
      clear hk hk0 hW hl hv0 hvc
      go_wp2
      obtain ⟨Wz, hWz⟩ : ∃ Wz, (((((((wc).setCell ⟨w.heap.size + 1 + 1 + 1, 0, none⟩ (.int .i64 (me : Int))).setCell ⟨w.heap.size + 1 + 1 + 1, 1, none⟩ (.int .i64 (rev : Int))).setCell ⟨w.heap.size + 1 + 1 + 1, 2, none⟩ (.int .i64 (cr : Int))).setCell ⟨w.heap.size + 1 + 1 + 1, 3, none⟩ (.int .i64 (H : Int))).setCell ⟨w.heap.size + 1 + 1 + 1, 4, none⟩ (.int .u64 (B : Int))).setCell ⟨w.heap.size + 1 + 1 + 1, 5, none⟩ (.int .i64 (bad : Int))).setCell ⟨w.heap.size + 1 + 1 + 1, 6, none⟩ (.int .i64 (lock : Int)) = Wz := ⟨_, rfl⟩
      replace HM : Mem (w) [] _ [.blk (w.heap.size) 39 #[.int .i64 (me : Int), .int .i64 (rev : Int), .int .i64 (cr : Int), .int .i64 (H : Int), .int .u64 (B : Int), .int .i64 (bad : Int), .int .i64 (lock : Int)], .blk (w.heap.size + 1) 33 #[.slice A l.length c], .blk (w.heap.size + 1 + 1) 48 #[.int .i64 (cls : Int), .int .i64 (id : Int), .int .i64 (am : Int), .int .i64 (tag : Int)], .blk (w.heap.size + 1 + 1 + 1) 39 #[.int .i64 (me : Int), .int .i64 0, .int .i64 0, .int .i64 0, .int .u64 0, .int .i64 0, .int .i64 0]] := Mem.set 3 HM rfl 0 (.int .i64 (me : Int))
      replace HM : Mem (w) [] _ [.blk (w.heap.size) 39 #[.int .i64 (me : Int), .int .i64 (rev : Int), .int .i64 (cr : Int), .int .i64 (H : Int), .int .u64 (B : Int), .int .i64 (bad : Int), .int .i64 (lock : Int)], .blk (w.heap.size + 1) 33 #[.slice A l.length c], .blk (w.heap.size + 1 + 1) 48 #[.int .i64 (cls : Int), .int .i64 (id : Int), .int .i64 (am : Int), .int .i64 (tag : Int)], .blk (w.heap.size + 1 + 1 + 1) 39 #[.int .i64 (me : Int), .int .i64 (rev : Int), .int .i64 0, .int .i64 0, .int .u64 0, .int .i64 0, .int .i64 0]] := Mem.set 3 HM rfl 1 (.int .i64 (rev : Int))
      replace HM : Mem (w) [] _ [.blk (w.heap.size) 39 #[.int .i64 (me : Int), .int .i64 (rev : Int), .int .i64 (cr : Int), .int .i64 (H : Int), .int .u64 (B : Int), .int .i64 (bad : Int), .int .i64 (lock : Int)], .blk (w.heap.size + 1) 33 #[.slice A l.length c], .blk (w.heap.size + 1 + 1) 48 #[.int .i64 (cls : Int), .int .i64 (id : Int), .int .i64 (am : Int), .int .i64 (tag : Int)], .blk (w.heap.size + 1 + 1 + 1) 39 #[.int .i64 (me : Int), .int .i64 (rev : Int), .int .i64 (cr : Int), .int .i64 0, .int .u64 0, .int .i64 0, .int .i64 0]] := Mem.set 3 HM rfl 2 (.int .i64 (cr : Int))
      replace HM : Mem (w) [] _ [.blk (w.heap.size) 39 #[.int .i64 (me : Int), .int .i64 (rev : Int), .int .i64 (cr : Int), .int .i64 (H : Int), .int .u64 (B : Int), .int .i64 (bad : Int), .int .i64 (lock : Int)], .blk (w.heap.size + 1) 33 #[.slice A l.length c], .blk (w.heap.size + 1 + 1) 48 #[.int .i64 (cls : Int), .int .i64 (id : Int), .int .i64 (am : Int), .int .i64 (tag : Int)], .blk (w.heap.size + 1 + 1 + 1) 39 #[.int .i64 (me : Int), .int .i64 (rev : Int), .int .i64 (cr : Int), .int .i64 (H : Int), .int .u64 0, .int .i64 0, .int .i64 0]] := Mem.set 3 HM rfl 3 (.int .i64 (H : Int))
      replace HM : Mem (w) [] _ [.blk (w.heap.size) 39 #[.int .i64 (me : Int), .int .i64 (rev : Int), .int .i64 (cr : Int), .int .i64 (H : Int), .int .u64 (B : Int), .int .i64 (bad : Int), .int .i64 (lock : Int)], .blk (w.heap.size + 1) 33 #[.slice A l.length c], .blk (w.heap.size + 1 + 1) 48 #[.int .i64 (cls : Int), .int .i64 (id : Int), .int .i64 (am : Int), .int .i64 (tag : Int)], .blk (w.heap.size + 1 + 1 + 1) 39 #[.int .i64 (me : Int), .int .i64 (rev : Int), .int .i64 (cr : Int), .int .i64 (H : Int), .int .u64 (B : Int), .int .i64 0, .int .i64 0]] := Mem.set 3 HM rfl 4 (.int .u64 (B : Int))
      replace HM : Mem (w) [] _ [.blk (w.heap.size) 39 #[.int .i64 (me : Int), .int .i64 (rev : Int), .int .i64 (cr : Int), .int .i64 (H : Int), .int .u64 (B : Int), .int .i64 (bad : Int), .int .i64 (lock : Int)], .blk (w.heap.size + 1) 33 #[.slice A l.length c], .blk (w.heap.size + 1 + 1) 48 #[.int .i64 (cls : Int), .int .i64 (id : Int), .int .i64 (am : Int), .int .i64 (tag : Int)], .blk (w.heap.size + 1 + 1 + 1) 39 #[.int .i64 (me : Int), .int .i64 (rev : Int), .int .i64 (cr : Int), .int .i64 (H : Int), .int .u64 (B : Int), .int .i64 (bad : Int), .int .i64 0]] := Mem.set 3 HM rfl 5 (.int .i64 (bad : Int))
      replace HM : Mem (w) [] _ [.blk (w.heap.size) 39 #[.int .i64 (me : Int), .int .i64 (rev : Int), .int .i64 (cr : Int), .int .i64 (H : Int), .int .u64 (B : Int), .int .i64 (bad : Int), .int .i64 (lock : Int)], .blk (w.heap.size + 1) 33 #[.slice A l.length c], .blk (w.heap.size + 1 + 1) 48 #[.int .i64 (cls : Int), .int .i64 (id : Int), .int .i64 (am : Int), .int .i64 (tag : Int)], .blk (w.heap.size + 1 + 1 + 1) 39 #[.int .i64 (me : Int), .int .i64 (rev : Int), .int .i64 (cr : Int), .int .i64 (H : Int), .int .u64 (B : Int), .int .i64 (bad : Int), .int .i64 (lock : Int)]] := Mem.set 3 HM rfl 6 (.int .i64 (lock : Int))
      rw [hWz] at HM ⊢
      clear hWz
      clear mt0 mtf0 mt1 mtf1 mt2 mtf2 mt3 mtf3 mt4 mtf4 mt5 mtf5 mt6 mtf6 mtlt oc0 ocf0 oclt tk0 tkf0 tk1 tkf1 tk2 tkf2 tk3 tkf3 tklt rs0 rsf0 rs1 rsf1 rs2 rsf2 rs3 rsf3 rs4 rsf4 rs5 rsf5 rs6 rsf6 rslt ne_mt_oc ne_mt_tk ne_mt_rs ne_oc_mt ne_oc_tk ne_oc_rs ne_tk_mt ne_tk_oc ne_tk_rs ne_rs_mt ne_rs_oc ne_rs_tk
      have rs0 : (Wz).cell? ⟨w.heap.size + 1 + 1 + 1, 0, none⟩ = some (.int .i64 (me : Int)) := (HM.blk 3 rfl).cell 0
      have rsf0 : (Wz).frozen? ⟨w.heap.size + 1 + 1 + 1, 0, none⟩ = false := (HM.blk 3 rfl).frozen 0
      have rs1 : (Wz).cell? ⟨w.heap.size + 1 + 1 + 1, 1, none⟩ = some (.int .i64 (rev : Int)) := (HM.blk 3 rfl).cell 1
      have rsf1 : (Wz).frozen? ⟨w.heap.size + 1 + 1 + 1, 1, none⟩ = false := (HM.blk 3 rfl).frozen 1
      have rs2 : (Wz).cell? ⟨w.heap.size + 1 + 1 + 1, 2, none⟩ = some (.int .i64 (cr : Int)) := (HM.blk 3 rfl).cell 2
      have rsf2 : (Wz).frozen? ⟨w.heap.size + 1 + 1 + 1, 2, none⟩ = false := (HM.blk 3 rfl).frozen 2
      have rs3 : (Wz).cell? ⟨w.heap.size + 1 + 1 + 1, 3, none⟩ = some (.int .i64 (H : Int)) := (HM.blk 3 rfl).cell 3
      have rsf3 : (Wz).frozen? ⟨w.heap.size + 1 + 1 + 1, 3, none⟩ = false := (HM.blk 3 rfl).frozen 3
      have rs4 : (Wz).cell? ⟨w.heap.size + 1 + 1 + 1, 4, none⟩ = some (.int .u64 (B : Int)) := (HM.blk 3 rfl).cell 4
      have rsf4 : (Wz).frozen? ⟨w.heap.size + 1 + 1 + 1, 4, none⟩ = false := (HM.blk 3 rfl).frozen 4
      have rs5 : (Wz).cell? ⟨w.heap.size + 1 + 1 + 1, 5, none⟩ = some (.int .i64 (bad : Int)) := (HM.blk 3 rfl).cell 5
      have rsf5 : (Wz).frozen? ⟨w.heap.size + 1 + 1 + 1, 5, none⟩ = false := (HM.blk 3 rfl).frozen 5
      have rs6 : (Wz).cell? ⟨w.heap.size + 1 + 1 + 1, 6, none⟩ = some (.int .i64 (lock : Int)) := (HM.blk 3 rfl).cell 6
      have rsf6 : (Wz).frozen? ⟨w.heap.size + 1 + 1 + 1, 6, none⟩ = false := (HM.blk 3 rfl).frozen 6
      have rslt : w.heap.size + 1 + 1 + 1 < (Wz).heap.size := HM.lt 3 rfl
      refine bodyPost_ret (v := .tuple #[.agg #[.int .i64 (me : Int), .int .i64 (rev : Int), .int .i64 (cr : Int), .int .i64 (H : Int), .int .u64 (B : Int), .int .i64 (bad : Int), .int .i64 (lock : Int)], .int .i64 0, .int .i64 0]) (by simp [results, Tryd.results15, go_sem, rs0, rs1, rs2, rs3, rs4, rs5, rs6]; done) rfl ?_
      exact ⟨rfl, HM.below⟩
    · rw [if_neg h3] at HR
      have hc3 : ((cls : Int) == 3) = false := by simp; omega
      have hc2 : cls ≤ 2 := by omega
      skip
      have mt0 : (W0).cell? ⟨w.heap.size, 0, none⟩ = some (.int .i64 (me : Int)) := (HM.blk 0 rfl).cell 0
      have mtf0 : (W0).frozen? ⟨w.heap.size, 0, none⟩ = false := (HM.blk 0 rfl).frozen 0
      have mt1 : (W0).cell? ⟨w.heap.size, 1, none⟩ = some (.int .i64 (rev : Int)) := (HM.blk 0 rfl).cell 1
      have mtf1 : (W0).frozen? ⟨w.heap.size, 1, none⟩ = false := (HM.blk 0 rfl).frozen 1
      have mt2 : (W0).cell? ⟨w.heap.size, 2, none⟩ = some (.int .i64 (cr : Int)) := (HM.blk 0 rfl).cell 2
      have mtf2 : (W0).frozen? ⟨w.heap.size, 2, none⟩ = false := (HM.blk 0 rfl).frozen 2
      have mt3 : (W0).cell? ⟨w.heap.size, 3, none⟩ = some (.int .i64 (H : Int)) := (HM.blk 0 rfl).cell 3
      have mtf3 : (W0).frozen? ⟨w.heap.size, 3, none⟩ = false := (HM.blk 0 rfl).frozen 3
      have mt4 : (W0).cell? ⟨w.heap.size, 4, none⟩ = some (.int .u64 (B : Int)) := (HM.blk 0 rfl).cell 4
      have mtf4 : (W0).frozen? ⟨w.heap.size, 4, none⟩ = false := (HM.blk 0 rfl).frozen 4
      have mt5 : (W0).cell? ⟨w.heap.size, 5, none⟩ = some (.int .i64 (bad : Int)) := (HM.blk 0 rfl).cell 5
      have mtf5 : (W0).frozen? ⟨w.heap.size, 5, none⟩ = false := (HM.blk 0 rfl).frozen 5
      have mt6 : (W0).cell? ⟨w.heap.size, 6, none⟩ = some (.int .i64 (lock : Int)) := (HM.blk 0 rfl).cell 6
      have mtf6 : (W0).frozen? ⟨w.heap.size, 6, none⟩ = false := (HM.blk 0 rfl).frozen 6
      have mtlt : w.heap.size < (W0).heap.size := HM.lt 0 rfl
      have oc0 : (W0).cell? ⟨w.heap.size + 1, 0, none⟩ = some (.slice A l.length c) := (HM.blk 1 rfl).cell 0
      have ocf0 : (W0).frozen? ⟨w.heap.size + 1, 0, none⟩ = false := (HM.blk 1 rfl).frozen 0
      have oclt : w.heap.size + 1 < (W0).heap.size := HM.lt 1 rfl
      have tk0 : (W0).cell? ⟨w.heap.size + 1 + 1, 0, none⟩ = some (.int .i64 (cls : Int)) := (HM.blk 2 rfl).cell 0
      have tkf0 : (W0).frozen? ⟨w.heap.size + 1 + 1, 0, none⟩ = false := (HM.blk 2 rfl).frozen 0
      have tk1 : (W0).cell? ⟨w.heap.size + 1 + 1, 1, none⟩ = some (.int .i64 (id : Int)) := (HM.blk 2 rfl).cell 1
      have tkf1 : (W0).frozen? ⟨w.heap.size + 1 + 1, 1, none⟩ = false := (HM.blk 2 rfl).frozen 1
      have tk2 : (W0).cell? ⟨w.heap.size + 1 + 1, 2, none⟩ = some (.int .i64 (am : Int)) := (HM.blk 2 rfl).cell 2
      have tkf2 : (W0).frozen? ⟨w.heap.size + 1 + 1, 2, none⟩ = false := (HM.blk 2 rfl).frozen 2
      have tk3 : (W0).cell? ⟨w.heap.size + 1 + 1, 3, none⟩ = some (.int .i64 (tag : Int)) := (HM.blk 2 rfl).cell 3
      have tkf3 : (W0).frozen? ⟨w.heap.size + 1 + 1, 3, none⟩ = false := (HM.blk 2 rfl).frozen 3
      have tklt : w.heap.size + 1 + 1 < (W0).heap.size := HM.lt 2 rfl
      have ne_mt_oc : w.heap.size ≠ w.heap.size + 1 := HM.ne 0 1 rfl rfl (by decide)
      have ne_mt_tk : w.heap.size ≠ w.heap.size + 1 + 1 := HM.ne 0 2 rfl rfl (by decide)
      have ne_oc_mt : w.heap.size + 1 ≠ w.heap.size := HM.ne 1 0 rfl rfl (by decide)
      have ne_oc_tk : w.heap.size + 1 ≠ w.heap.size + 1 + 1 := HM.ne 1 2 rfl rfl (by decide)
      have ne_tk_mt : w.heap.size + 1 + 1 ≠ w.heap.size := HM.ne 2 0 rfl rfl (by decide)
      have ne_tk_oc : w.heap.size + 1 + 1 ≠ w.heap.size + 1 := HM.ne 2 1 rfl rfl (by decide)
      go_enter Tryd.func15, Tryd.ntmps15
      go_wp2_with fail
      refine (hM _).mono ?_
      rintro e wa ⟨rfl, hba⟩
      replace HM : Mem (w) [] (wa) [.blk (w.heap.size) 39 #[.int .i64 (me : Int), .int .i64 (rev : Int), .int .i64 (cr : Int), .int .i64 (H : Int), .int .u64 (B : Int), .int .i64 (bad : Int), .int .i64 (lock : Int)], .blk (w.heap.size + 1) 33 #[.slice A l.length c], .blk (w.heap.size + 1 + 1) 48 #[.int .i64 (cls : Int), .int .i64 (id : Int), .int .i64 (am : Int), .int .i64 (tag : Int)], .blk (w.heap.size + 1 + 1 + 1) 39 #[.int .i64 0, .int .i64 0, .int .i64 0, .int .i64 0, .int .u64 0, .int .i64 0, .int .i64 0]] := Mem.call HM hba
      clear mt0 mtf0 mt1 mtf1 mt2 mtf2 mt3 mtf3 mt4 mtf4 mt5 mtf5 mt6 mtf6 mtlt oc0 ocf0 oclt tk0 tkf0 tk1 tkf1 tk2 tkf2 tk3 tkf3 tklt ne_mt_oc ne_mt_tk ne_oc_mt ne_oc_tk ne_tk_mt ne_tk_oc
      have mt0 : (wa).cell? ⟨w.heap.size, 0, none⟩ = some (.int .i64 (me : Int)) := (HM.blk 0 rfl).cell 0
      have mtf0 : (wa).frozen? ⟨w.heap.size, 0, none⟩ = false := (HM.blk 0 rfl).frozen 0
      have mt1 : (wa).cell? ⟨w.heap.size, 1, none⟩ = some (.int .i64 (rev : Int)) := (HM.blk 0 rfl).cell 1
      have mtf1 : (wa).frozen? ⟨w.heap.size, 1, none⟩ = false := (HM.blk 0 rfl).frozen 1
      have mt2 : (wa).cell? ⟨w.heap.size, 2, none⟩ = some (.int .i64 (cr : Int)) := (HM.blk 0 rfl).cell 2
      have mtf2 : (wa).frozen? ⟨w.heap.size, 2, none⟩ = false := (HM.blk 0 rfl).frozen 2
      have mt3 : (wa).cell? ⟨w.heap.size, 3, none⟩ = some (.int .i64 (H : Int)) := (HM.blk 0 rfl).cell 3
      have mtf3 : (wa).frozen? ⟨w.heap.size, 3, none⟩ = false := (HM.blk 0 rfl).frozen 3
      have mt4 : (wa).cell? ⟨w.heap.size, 4, none⟩ = some (.int .u64 (B : Int)) := (HM.blk 0 rfl).cell 4
      have mtf4 : (wa).frozen? ⟨w.heap.size, 4, none⟩ = false := (HM.blk 0 rfl).frozen 4
      have mt5 : (wa).cell? ⟨w.heap.size, 5, none⟩ = some (.int .i64 (bad : Int)) := (HM.blk 0 rfl).cell 5
      have mtf5 : (wa).frozen? ⟨w.heap.size, 5, none⟩ = false := (HM.blk 0 rfl).frozen 5
      have mt6 : (wa).cell? ⟨w.heap.size, 6, none⟩ = some (.int .i64 (lock : Int)) := (HM.blk 0 rfl).cell 6
      have mtf6 : (wa).frozen? ⟨w.heap.size, 6, none⟩ = false := (HM.blk 0 rfl).frozen 6
      have mtlt : w.heap.size < (wa).heap.size := HM.lt 0 rfl
      have oc0 : (wa).cell? ⟨w.heap.size + 1, 0, none⟩ = some (.slice A l.length c) := (HM.blk 1 rfl).cell 0
      have ocf0 : (wa).frozen? ⟨w.heap.size + 1, 0, none⟩ = false := (HM.blk 1 rfl).frozen 0
      have oclt : w.heap.size + 1 < (wa).heap.size := HM.lt 1 rfl
      have tk0 : (wa).cell? ⟨w.heap.size + 1 + 1, 0, none⟩ = some (.int .i64 (cls : Int)) := (HM.blk 2 rfl).cell 0
      have tkf0 : (wa).frozen? ⟨w.heap.size + 1 + 1, 0, none⟩ = false := (HM.blk 2 rfl).frozen 0
      have tk1 : (wa).cell? ⟨w.heap.size + 1 + 1, 1, none⟩ = some (.int .i64 (id : Int)) := (HM.blk 2 rfl).cell 1
      have tkf1 : (wa).frozen? ⟨w.heap.size + 1 + 1, 1, none⟩ = false := (HM.blk 2 rfl).frozen 1
      have tk2 : (wa).cell? ⟨w.heap.size + 1 + 1, 2, none⟩ = some (.int .i64 (am : Int)) := (HM.blk 2 rfl).cell 2
      have tkf2 : (wa).frozen? ⟨w.heap.size + 1 + 1, 2, none⟩ = false := (HM.blk 2 rfl).frozen 2
      have tk3 : (wa).cell? ⟨w.heap.size + 1 + 1, 3, none⟩ = some (.int .i64 (tag : Int)) := (HM.blk 2 rfl).cell 3
      have tkf3 : (wa).frozen? ⟨w.heap.size + 1 + 1, 3, none⟩ = false := (HM.blk 2 rfl).frozen 3
      have tklt : w.heap.size + 1 + 1 < (wa).heap.size := HM.lt 2 rfl
      have ne_mt_oc : w.heap.size ≠ w.heap.size + 1 := HM.ne 0 1 rfl rfl (by decide)
      have ne_mt_tk : w.heap.size ≠ w.heap.size + 1 + 1 := HM.ne 0 2 rfl rfl (by decide)
      have ne_oc_mt : w.heap.size + 1 ≠ w.heap.size := HM.ne 1 0 rfl rfl (by decide)
      have ne_oc_tk : w.heap.size + 1 ≠ w.heap.size + 1 + 1 := HM.ne 1 2 rfl rfl (by decide)
      have ne_tk_mt : w.heap.size + 1 + 1 ≠ w.heap.size := HM.ne 2 0 rfl rfl (by decide)
      have ne_tk_oc : w.heap.size + 1 + 1 ≠ w.heap.size + 1 := HM.ne 2 1 rfl rfl (by decide)
      have hva := hv0.below HM.below
      clear hba hM hW0
      go_wp2_with fail
      refine (hO _ hva).mono ?_
      rintro e wb ⟨rfl, hbb⟩
      replace HM : Mem (w) [] (wb) [.blk (w.heap.size) 39 #[.int .i64 (me : Int), .int .i64 (rev : Int), .int .i64 (cr : Int), .int .i64 (H : Int), .int .u64 (B : Int), .int .i64 (bad : Int), .int .i64 (lock : Int)], .blk (w.heap.size + 1) 33 #[.slice A l.length c], .blk (w.heap.size + 1 + 1) 48 #[.int .i64 (cls : Int), .int .i64 (id : Int), .int .i64 (am : Int), .int .i64 (tag : Int)], .blk (w.heap.size + 1 + 1 + 1) 39 #[.int .i64 0, .int .i64 0, .int .i64 0, .int .i64 0, .int .u64 0, .int .i64 0, .int .i64 0]] := Mem.call HM hbb
      clear mt0 mtf0 mt1 mtf1 mt2 mtf2 mt3 mtf3 mt4 mtf4 mt5 mtf5 mt6 mtf6 mtlt oc0 ocf0 oclt tk0 tkf0 tk1 tkf1 tk2 tkf2 tk3 tkf3 tklt ne_mt_oc ne_mt_tk ne_oc_mt ne_oc_tk ne_tk_mt ne_tk_oc
      have mt0 : (wb).cell? ⟨w.heap.size, 0, none⟩ = some (.int .i64 (me : Int)) := (HM.blk 0 rfl).cell 0
      have mtf0 : (wb).frozen? ⟨w.heap.size, 0, none⟩ = false := (HM.blk 0 rfl).frozen 0
      have mt1 : (wb).cell? ⟨w.heap.size, 1, none⟩ = some (.int .i64 (rev : Int)) := (HM.blk 0 rfl).cell 1
      have mtf1 : (wb).frozen? ⟨w.heap.size, 1, none⟩ = false := (HM.blk 0 rfl).frozen 1
      have mt2 : (wb).cell? ⟨w.heap.size, 2, none⟩ = some (.int .i64 (cr : Int)) := (HM.blk 0 rfl).cell 2
      have mtf2 : (wb).frozen? ⟨w.heap.size, 2, none⟩ = false := (HM.blk 0 rfl).frozen 2
      have mt3 : (wb).cell? ⟨w.heap.size, 3, none⟩ = some (.int .i64 (H : Int)) := (HM.blk 0 rfl).cell 3
      have mtf3 : (wb).frozen? ⟨w.heap.size, 3, none⟩ = false := (HM.blk 0 rfl).frozen 3
      have mt4 : (wb).cell? ⟨w.heap.size, 4, none⟩ = some (.int .u64 (B : Int)) := (HM.blk 0 rfl).cell 4
      have mtf4 : (wb).frozen? ⟨w.heap.size, 4, none⟩ = false := (HM.blk 0 rfl).frozen 4
      have mt5 : (wb).cell? ⟨w.heap.size, 5, none⟩ = some (.int .i64 (bad : Int)) := (HM.blk 0 rfl).cell 5
      have mtf5 : (wb).frozen? ⟨w.heap.size, 5, none⟩ = false := (HM.blk 0 rfl).frozen 5
      have mt6 : (wb).cell? ⟨w.heap.size, 6, none⟩ = some (.int .i64 (lock : Int)) := (HM.blk 0 rfl).cell 6
      have mtf6 : (wb).frozen? ⟨w.heap.size, 6, none⟩ = false := (HM.blk 0 rfl).frozen 6
      have mtlt : w.heap.size < (wb).heap.size := HM.lt 0 rfl
      have oc0 : (wb).cell? ⟨w.heap.size + 1, 0, none⟩ = some (.slice A l.length c) := (HM.blk 1 rfl).cell 0
      have ocf0 : (wb).frozen? ⟨w.heap.size + 1, 0, none⟩ = false := (HM.blk 1 rfl).frozen 0
      have oclt : w.heap.size + 1 < (wb).heap.size := HM.lt 1 rfl
      have tk0 : (wb).cell? ⟨w.heap.size + 1 + 1, 0, none⟩ = some (.int .i64 (cls : Int)) := (HM.blk 2 rfl).cell 0
      have tkf0 : (wb).frozen? ⟨w.heap.size + 1 + 1, 0, none⟩ = false := (HM.blk 2 rfl).frozen 0
      have tk1 : (wb).cell? ⟨w.heap.size + 1 + 1, 1, none⟩ = some (.int .i64 (id : Int)) := (HM.blk 2 rfl).cell 1
      have tkf1 : (wb).frozen? ⟨w.heap.size + 1 + 1, 1, none⟩ = false := (HM.blk 2 rfl).frozen 1
      have tk2 : (wb).cell? ⟨w.heap.size + 1 + 1, 2, none⟩ = some (.int .i64 (am : Int)) := (HM.blk 2 rfl).cell 2
      have tkf2 : (wb).frozen? ⟨w.heap.size + 1 + 1, 2, none⟩ = false := (HM.blk 2 rfl).frozen 2
      have tk3 : (wb).cell? ⟨w.heap.size + 1 + 1, 3, none⟩ = some (.int .i64 (tag : Int)) := (HM.blk 2 rfl).cell 3
      have tkf3 : (wb).frozen? ⟨w.heap.size + 1 + 1, 3, none⟩ = false := (HM.blk 2 rfl).frozen 3
      have tklt : w.heap.size + 1 + 1 < (wb).heap.size := HM.lt 2 rfl
      have ne_mt_oc : w.heap.size ≠ w.heap.size + 1 := HM.ne 0 1 rfl rfl (by decide)
      have ne_mt_tk : w.heap.size ≠ w.heap.size + 1 + 1 := HM.ne 0 2 rfl rfl (by decide)
      have ne_oc_mt : w.heap.size + 1 ≠ w.heap.size := HM.ne 1 0 rfl rfl (by decide)
      have ne_oc_tk : w.heap.size + 1 ≠ w.heap.size + 1 + 1 := HM.ne 1 2 rfl rfl (by decide)
      have ne_tk_mt : w.heap.size + 1 + 1 ≠ w.heap.size := HM.ne 2 0 rfl rfl (by decide)
      have ne_tk_oc : w.heap.size + 1 + 1 ≠ w.heap.size + 1 := HM.ne 2 1 rfl rfl (by decide)
      clear hbb hO hva
      go_wp2_with fail
      refine (hB _).mono ?_
      rintro e wc ⟨rfl, hbc⟩
      replace HM : Mem (w) [] (wc) [.blk (w.heap.size) 39 #[.int .i64 (me : Int), .int .i64 (rev : Int), .int .i64 (cr : Int), .int .i64 (H : Int), .int .u64 (B : Int), .int .i64 (bad : Int), .int .i64 (lock : Int)], .blk (w.heap.size + 1) 33 #[.slice A l.length c], .blk (w.heap.size + 1 + 1) 48 #[.int .i64 (cls : Int), .int .i64 (id : Int), .int .i64 (am : Int), .int .i64 (tag : Int)], .blk (w.heap.size + 1 + 1 + 1) 39 #[.int .i64 0, .int .i64 0, .int .i64 0, .int .i64 0, .int .u64 0, .int .i64 0, .int .i64 0]] := Mem.call HM hbc
      have hvc := hv0.below HM.below
      clear hbc hB
      obtain ⟨Es, hEs⟩ : ∃ Es, soldE l me body rev (tag : Int) (rev + 1) = Es := ⟨_, rfl⟩
      obtain ⟨bd, lk, hbd⟩ : ∃ bd lk, badS Es bad lock = (bd, lk) := ⟨_, _, rfl⟩
      rw [hEs] at HR
      have hS := fun g ad W h hgg => msold_ok (.slice A l.length c) l g me rev cr H B bad lock ad body tag Es bd lk W h hl hgg (by omega) (by omega) (by omega) hbl (Lib.hid hEs) (Lib.hid hbd)
      have hEv := soldE_vals l me body rev (tag : Int) (rev + 1)
      rw [hEs] at hEv
      clear hEs
      clear mt0 mtf0 mt1 mtf1 mt2 mtf2 mt3 mtf3 mt4 mtf4 mt5 mtf5 mt6 mtf6 mtlt oc0 ocf0 oclt tk0 tkf0 tk1 tkf1 tk2 tkf2 tk3 tkf3 tklt ne_mt_oc ne_mt_tk ne_oc_mt ne_oc_tk ne_tk_mt ne_tk_oc
      have mt0 : (wc).cell? ⟨w.heap.size, 0, none⟩ = some (.int .i64 (me : Int)) := (HM.blk 0 rfl).cell 0
      have mtf0 : (wc).frozen? ⟨w.heap.size, 0, none⟩ = false := (HM.blk 0 rfl).frozen 0
      have mt1 : (wc).cell? ⟨w.heap.size, 1, none⟩ = some (.int .i64 (rev : Int)) := (HM.blk 0 rfl).cell 1
      have mtf1 : (wc).frozen? ⟨w.heap.size, 1, none⟩ = false := (HM.blk 0 rfl).frozen 1
      have mt2 : (wc).cell? ⟨w.heap.size, 2, none⟩ = some (.int .i64 (cr : Int)) := (HM.blk 0 rfl).cell 2
      have mtf2 : (wc).frozen? ⟨w.heap.size, 2, none⟩ = false := (HM.blk 0 rfl).frozen 2
      have mt3 : (wc).cell? ⟨w.heap.size, 3, none⟩ = some (.int .i64 (H : Int)) := (HM.blk 0 rfl).cell 3
      have mtf3 : (wc).frozen? ⟨w.heap.size, 3, none⟩ = false := (HM.blk 0 rfl).frozen 3
      have mt4 : (wc).cell? ⟨w.heap.size, 4, none⟩ = some (.int .u64 (B : Int)) := (HM.blk 0 rfl).cell 4
      have mtf4 : (wc).frozen? ⟨w.heap.size, 4, none⟩ = false := (HM.blk 0 rfl).frozen 4
      have mt5 : (wc).cell? ⟨w.heap.size, 5, none⟩ = some (.int .i64 (bad : Int)) := (HM.blk 0 rfl).cell 5
      have mtf5 : (wc).frozen? ⟨w.heap.size, 5, none⟩ = false := (HM.blk 0 rfl).frozen 5
      have mt6 : (wc).cell? ⟨w.heap.size, 6, none⟩ = some (.int .i64 (lock : Int)) := (HM.blk 0 rfl).cell 6
      have mtf6 : (wc).frozen? ⟨w.heap.size, 6, none⟩ = false := (HM.blk 0 rfl).frozen 6
      have mtlt : w.heap.size < (wc).heap.size := HM.lt 0 rfl
      have oc0 : (wc).cell? ⟨w.heap.size + 1, 0, none⟩ = some (.slice A l.length c) := (HM.blk 1 rfl).cell 0
      have ocf0 : (wc).frozen? ⟨w.heap.size + 1, 0, none⟩ = false := (HM.blk 1 rfl).frozen 0
      have oclt : w.heap.size + 1 < (wc).heap.size := HM.lt 1 rfl
      have tk0 : (wc).cell? ⟨w.heap.size + 1 + 1, 0, none⟩ = some (.int .i64 (cls : Int)) := (HM.blk 2 rfl).cell 0
      have tkf0 : (wc).frozen? ⟨w.heap.size + 1 + 1, 0, none⟩ = false := (HM.blk 2 rfl).frozen 0
      have tk1 : (wc).cell? ⟨w.heap.size + 1 + 1, 1, none⟩ = some (.int .i64 (id : Int)) := (HM.blk 2 rfl).cell 1
      have tkf1 : (wc).frozen? ⟨w.heap.size + 1 + 1, 1, none⟩ = false := (HM.blk 2 rfl).frozen 1
      have tk2 : (wc).cell? ⟨w.heap.size + 1 + 1, 2, none⟩ = some (.int .i64 (am : Int)) := (HM.blk 2 rfl).cell 2
      have tkf2 : (wc).frozen? ⟨w.heap.size + 1 + 1, 2, none⟩ = false := (HM.blk 2 rfl).frozen 2
      have tk3 : (wc).cell? ⟨w.heap.size + 1 + 1, 3, none⟩ = some (.int .i64 (tag : Int)) := (HM.blk 2 rfl).cell 3
      have tkf3 : (wc).frozen? ⟨w.heap.size + 1 + 1, 3, none⟩ = false := (HM.blk 2 rfl).frozen 3
      have tklt : w.heap.size + 1 + 1 < (wc).heap.size := HM.lt 2 rfl
      have rs0 : (wc).cell? ⟨w.heap.size + 1 + 1 + 1, 0, none⟩ = some (.int .i64 0) := (HM.blk 3 rfl).cell 0
      have rsf0 : (wc).frozen? ⟨w.heap.size + 1 + 1 + 1, 0, none⟩ = false := (HM.blk 3 rfl).frozen 0
      have rs1 : (wc).cell? ⟨w.heap.size + 1 + 1 + 1, 1, none⟩ = some (.int .i64 0) := (HM.blk 3 rfl).cell 1
      have rsf1 : (wc).frozen? ⟨w.heap.size + 1 + 1 + 1, 1, none⟩ = false := (HM.blk 3 rfl).frozen 1
      have rs2 : (wc).cell? ⟨w.heap.size + 1 + 1 + 1, 2, none⟩ = some (.int .i64 0) := (HM.blk 3 rfl).cell 2
      have rsf2 : (wc).frozen? ⟨w.heap.size + 1 + 1 + 1, 2, none⟩ = false := (HM.blk 3 rfl).frozen 2
      have rs3 : (wc).cell? ⟨w.heap.size + 1 + 1 + 1, 3, none⟩ = some (.int .i64 0) := (HM.blk 3 rfl).cell 3
      have rsf3 : (wc).frozen? ⟨w.heap.size + 1 + 1 + 1, 3, none⟩ = false := (HM.blk 3 rfl).frozen 3
      have rs4 : (wc).cell? ⟨w.heap.size + 1 + 1 + 1, 4, none⟩ = some (.int .u64 0) := (HM.blk 3 rfl).cell 4
      have rsf4 : (wc).frozen? ⟨w.heap.size + 1 + 1 + 1, 4, none⟩ = false := (HM.blk 3 rfl).frozen 4
      have rs5 : (wc).cell? ⟨w.heap.size + 1 + 1 + 1, 5, none⟩ = some (.int .i64 0) := (HM.blk 3 rfl).cell 5
      have rsf5 : (wc).frozen? ⟨w.heap.size + 1 + 1 + 1, 5, none⟩ = false := (HM.blk 3 rfl).frozen 5
      have rs6 : (wc).cell? ⟨w.heap.size + 1 + 1 + 1, 6, none⟩ = some (.int .i64 0) := (HM.blk 3 rfl).cell 6
      have rsf6 : (wc).frozen? ⟨w.heap.size + 1 + 1 + 1, 6, none⟩ = false := (HM.blk 3 rfl).frozen 6
      have rslt : w.heap.size + 1 + 1 + 1 < (wc).heap.size := HM.lt 3 rfl
      have ne_mt_oc : w.heap.size ≠ w.heap.size + 1 := HM.ne 0 1 rfl rfl (by decide)
      have ne_mt_tk : w.heap.size ≠ w.heap.size + 1 + 1 := HM.ne 0 2 rfl rfl (by decide)
      have ne_mt_rs : w.heap.size ≠ w.heap.size + 1 + 1 + 1 := HM.ne 0 3 rfl rfl (by decide)
      have ne_oc_mt : w.heap.size + 1 ≠ w.heap.size := HM.ne 1 0 rfl rfl (by decide)
      have ne_oc_tk : w.heap.size + 1 ≠ w.heap.size + 1 + 1 := HM.ne 1 2 rfl rfl (by decide)
      have ne_oc_rs : w.heap.size + 1 ≠ w.heap.size + 1 + 1 + 1 := HM.ne 1 3 rfl rfl (by decide)
      have ne_tk_mt : w.heap.size + 1 + 1 ≠ w.heap.size := HM.ne 2 0 rfl rfl (by decide)
      have ne_tk_oc : w.heap.size + 1 + 1 ≠ w.heap.size + 1 := HM.ne 2 1 rfl rfl (by decide)
      have ne_tk_rs : w.heap.size + 1 + 1 ≠ w.heap.size + 1 + 1 + 1 := HM.ne 2 3 rfl rfl (by decide)
      have ne_rs_mt : w.heap.size + 1 + 1 + 1 ≠ w.heap.size := HM.ne 3 0 rfl rfl (by decide)
      have ne_rs_oc : w.heap.size + 1 + 1 + 1 ≠ w.heap.size + 1 := HM.ne 3 1 rfl rfl (by decide)
      have ne_rs_tk : w.heap.size + 1 + 1 + 1 ≠ w.heap.size + 1 + 1 := HM.ne 3 2 rfl rfl (by decide)
      go_wp2_with fail
      obtain ⟨Wd, hWd⟩ : ∃ Wd, (wc).alloc (.cells #[.int .i64 (me : Int), .int .i64 (rev : Int), .int .i64 (cr : Int), .int .i64 (H : Int), .int .u64 (B : Int), .int .i64 (bad : Int), .int .i64 (lock : Int), .int .i64 0] 87) = Wd := ⟨_, rfl⟩
      replace HM : Mem (w) [] _ [.blk (w.heap.size) 39 #[.int .i64 (me : Int), .int .i64 (rev : Int), .int .i64 (cr : Int), .int .i64 (H : Int), .int .u64 (B : Int), .int .i64 (bad : Int), .int .i64 (lock : Int)], .blk (w.heap.size + 1) 33 #[.slice A l.length c], .blk (w.heap.size + 1 + 1) 48 #[.int .i64 (cls : Int), .int .i64 (id : Int), .int .i64 (am : Int), .int .i64 (tag : Int)], .blk (w.heap.size + 1 + 1 + 1) 39 #[.int .i64 0, .int .i64 0, .int .i64 0, .int .i64 0, .int .u64 0, .int .i64 0, .int .i64 0], .blk (wc.heap.size) 87 #[.int .i64 (me : Int), .int .i64 (rev : Int), .int .i64 (cr : Int), .int .i64 (H : Int), .int .u64 (B : Int), .int .i64 (bad : Int), .int .i64 (lock : Int), .int .i64 0]] := Mem.alloc HM (wc.heap.size) (by first | (simp; done) | (simp; omega)) #[.int .i64 (me : Int), .int .i64 (rev : Int), .int .i64 (cr : Int), .int .i64 (H : Int), .int .u64 (B : Int), .int .i64 (bad : Int), .int .i64 (lock : Int), .int .i64 0] 87
      rw [hWd] at HM ⊢
      clear hWd
      refine (hS _ 0 _ (hv0.below HM.below) (HM.blk 4 rfl)).mono ?_
      rintro e we ⟨rfl, hK⟩
      replace HM : Mem (w) [] (we) [.blk (w.heap.size) 39 #[.int .i64 (me : Int), .int .i64 (rev : Int), .int .i64 (cr : Int), .int .i64 (H : Int), .int .u64 (B : Int), .int .i64 (bad : Int), .int .i64 (lock : Int)], .blk (w.heap.size + 1) 33 #[.slice A l.length c], .blk (w.heap.size + 1 + 1) 48 #[.int .i64 (cls : Int), .int .i64 (id : Int), .int .i64 (am : Int), .int .i64 (tag : Int)], .blk (w.heap.size + 1 + 1 + 1) 39 #[.int .i64 0, .int .i64 0, .int .i64 0, .int .i64 0, .int .u64 0, .int .i64 0, .int .i64 0], .blk (wc.heap.size) 87 #[.int .i64 (me : Int), .int .i64 (rev : Int), .int .i64 (cr : Int), .int .i64 (H : Int), .int .u64 (B : Int), .int .i64 (bd : Int), .int .i64 (lk : Int), .int .i64 0]] := Mem.joinAt 4 HM rfl hK
      clear hK hS hvc
      clear mt0 mtf0 mt1 mtf1 mt2 mtf2 mt3 mtf3 mt4 mtf4 mt5 mtf5 mt6 mtf6 mtlt oc0 ocf0 oclt tk0 tkf0 tk1 tkf1 tk2 tkf2 tk3 tkf3 tklt rs0 rsf0 rs1 rsf1 rs2 rsf2 rs3 rsf3 rs4 rsf4 rs5 rsf5 rs6 rsf6 rslt ne_mt_oc ne_mt_tk ne_mt_rs ne_oc_mt ne_oc_tk ne_oc_rs ne_tk_mt ne_tk_oc ne_tk_rs ne_rs_mt ne_rs_oc ne_rs_tk
      have mt0 : (we).cell? ⟨w.heap.size, 0, none⟩ = some (.int .i64 (me : Int)) := (HM.blk 0 rfl).cell 0
      have mtf0 : (we).frozen? ⟨w.heap.size, 0, none⟩ = false := (HM.blk 0 rfl).frozen 0
      have mt1 : (we).cell? ⟨w.heap.size, 1, none⟩ = some (.int .i64 (rev : Int)) := (HM.blk 0 rfl).cell 1
      have mtf1 : (we).frozen? ⟨w.heap.size, 1, none⟩ = false := (HM.blk 0 rfl).frozen 1
      have mt2 : (we).cell? ⟨w.heap.size, 2, none⟩ = some (.int .i64 (cr : Int)) := (HM.blk 0 rfl).cell 2
      have mtf2 : (we).frozen? ⟨w.heap.size, 2, none⟩ = false := (HM.blk 0 rfl).frozen 2
      have mt3 : (we).cell? ⟨w.heap.size, 3, none⟩ = some (.int .i64 (H : Int)) := (HM.blk 0 rfl).cell 3
      have mtf3 : (we).frozen? ⟨w.heap.size, 3, none⟩ = false := (HM.blk 0 rfl).frozen 3
      have mt4 : (we).cell? ⟨w.heap.size, 4, none⟩ = some (.int .u64 (B : Int)) := (HM.blk 0 rfl).cell 4
      have mtf4 : (we).frozen? ⟨w.heap.size, 4, none⟩ = false := (HM.blk 0 rfl).frozen 4
      have mt5 : (we).cell? ⟨w.heap.size, 5, none⟩ = some (.int .i64 (bad : Int)) := (HM.blk 0 rfl).cell 5
      have mtf5 : (we).frozen? ⟨w.heap.size, 5, none⟩ = false := (HM.blk 0 rfl).frozen 5
      have mt6 : (we).cell? ⟨w.heap.size, 6, none⟩ = some (.int .i64 (lock : Int)) := (HM.blk 0 rfl).cell 6
      have mtf6 : (we).frozen? ⟨w.heap.size, 6, none⟩ = false := (HM.blk 0 rfl).frozen 6
      have mtlt : w.heap.size < (we).heap.size := HM.lt 0 rfl
      have oc0 : (we).cell? ⟨w.heap.size + 1, 0, none⟩ = some (.slice A l.length c) := (HM.blk 1 rfl).cell 0
      have ocf0 : (we).frozen? ⟨w.heap.size + 1, 0, none⟩ = false := (HM.blk 1 rfl).frozen 0
      have oclt : w.heap.size + 1 < (we).heap.size := HM.lt 1 rfl
      have tk0 : (we).cell? ⟨w.heap.size + 1 + 1, 0, none⟩ = some (.int .i64 (cls : Int)) := (HM.blk 2 rfl).cell 0
      have tkf0 : (we).frozen? ⟨w.heap.size + 1 + 1, 0, none⟩ = false := (HM.blk 2 rfl).frozen 0
      have tk1 : (we).cell? ⟨w.heap.size + 1 + 1, 1, none⟩ = some (.int .i64 (id : Int)) := (HM.blk 2 rfl).cell 1
      have tkf1 : (we).frozen? ⟨w.heap.size + 1 + 1, 1, none⟩ = false := (HM.blk 2 rfl).frozen 1
      have tk2 : (we).cell? ⟨w.heap.size + 1 + 1, 2, none⟩ = some (.int .i64 (am : Int)) := (HM.blk 2 rfl).cell 2
      have tkf2 : (we).frozen? ⟨w.heap.size + 1 + 1, 2, none⟩ = false := (HM.blk 2 rfl).frozen 2
      have tk3 : (we).cell? ⟨w.heap.size + 1 + 1, 3, none⟩ = some (.int .i64 (tag : Int)) := (HM.blk 2 rfl).cell 3
      have tkf3 : (we).frozen? ⟨w.heap.size + 1 + 1, 3, none⟩ = false := (HM.blk 2 rfl).frozen 3
      have tklt : w.heap.size + 1 + 1 < (we).heap.size := HM.lt 2 rfl
      have rs0 : (we).cell? ⟨w.heap.size + 1 + 1 + 1, 0, none⟩ = some (.int .i64 0) := (HM.blk 3 rfl).cell 0
      have rsf0 : (we).frozen? ⟨w.heap.size + 1 + 1 + 1, 0, none⟩ = false := (HM.blk 3 rfl).frozen 0
      have rs1 : (we).cell? ⟨w.heap.size + 1 + 1 + 1, 1, none⟩ = some (.int .i64 0) := (HM.blk 3 rfl).cell 1
      have rsf1 : (we).frozen? ⟨w.heap.size + 1 + 1 + 1, 1, none⟩ = false := (HM.blk 3 rfl).frozen 1
      have rs2 : (we).cell? ⟨w.heap.size + 1 + 1 + 1, 2, none⟩ = some (.int .i64 0) := (HM.blk 3 rfl).cell 2
      have rsf2 : (we).frozen? ⟨w.heap.size + 1 + 1 + 1, 2, none⟩ = false := (HM.blk 3 rfl).frozen 2
      have rs3 : (we).cell? ⟨w.heap.size + 1 + 1 + 1, 3, none⟩ = some (.int .i64 0) := (HM.blk 3 rfl).cell 3
      have rsf3 : (we).frozen? ⟨w.heap.size + 1 + 1 + 1, 3, none⟩ = false := (HM.blk 3 rfl).frozen 3
      have rs4 : (we).cell? ⟨w.heap.size + 1 + 1 + 1, 4, none⟩ = some (.int .u64 0) := (HM.blk 3 rfl).cell 4
      have rsf4 : (we).frozen? ⟨w.heap.size + 1 + 1 + 1, 4, none⟩ = false := (HM.blk 3 rfl).frozen 4
      have rs5 : (we).cell? ⟨w.heap.size + 1 + 1 + 1, 5, none⟩ = some (.int .i64 0) := (HM.blk 3 rfl).cell 5
      have rsf5 : (we).frozen? ⟨w.heap.size + 1 + 1 + 1, 5, none⟩ = false := (HM.blk 3 rfl).frozen 5
      have rs6 : (we).cell? ⟨w.heap.size + 1 + 1 + 1, 6, none⟩ = some (.int .i64 0) := (HM.blk 3 rfl).cell 6
      have rsf6 : (we).frozen? ⟨w.heap.size + 1 + 1 + 1, 6, none⟩ = false := (HM.blk 3 rfl).frozen 6
      have rslt : w.heap.size + 1 + 1 + 1 < (we).heap.size := HM.lt 3 rfl
      have sb0 : (we).cell? ⟨wc.heap.size, 0, none⟩ = some (.int .i64 (me : Int)) := (HM.blk 4 rfl).cell 0
      have sbf0 : (we).frozen? ⟨wc.heap.size, 0, none⟩ = false := (HM.blk 4 rfl).frozen 0
      have sb1 : (we).cell? ⟨wc.heap.size, 1, none⟩ = some (.int .i64 (rev : Int)) := (HM.blk 4 rfl).cell 1
      have sbf1 : (we).frozen? ⟨wc.heap.size, 1, none⟩ = false := (HM.blk 4 rfl).frozen 1
      have sb2 : (we).cell? ⟨wc.heap.size, 2, none⟩ = some (.int .i64 (cr : Int)) := (HM.blk 4 rfl).cell 2
      have sbf2 : (we).frozen? ⟨wc.heap.size, 2, none⟩ = false := (HM.blk 4 rfl).frozen 2
      have sb3 : (we).cell? ⟨wc.heap.size, 3, none⟩ = some (.int .i64 (H : Int)) := (HM.blk 4 rfl).cell 3
      have sbf3 : (we).frozen? ⟨wc.heap.size, 3, none⟩ = false := (HM.blk 4 rfl).frozen 3
      have sb4 : (we).cell? ⟨wc.heap.size, 4, none⟩ = some (.int .u64 (B : Int)) := (HM.blk 4 rfl).cell 4
      have sbf4 : (we).frozen? ⟨wc.heap.size, 4, none⟩ = false := (HM.blk 4 rfl).frozen 4
      have sb5 : (we).cell? ⟨wc.heap.size, 5, none⟩ = some (.int .i64 (bd : Int)) := (HM.blk 4 rfl).cell 5
      have sbf5 : (we).frozen? ⟨wc.heap.size, 5, none⟩ = false := (HM.blk 4 rfl).frozen 5
      have sb6 : (we).cell? ⟨wc.heap.size, 6, none⟩ = some (.int .i64 (lk : Int)) := (HM.blk 4 rfl).cell 6
      have sbf6 : (we).frozen? ⟨wc.heap.size, 6, none⟩ = false := (HM.blk 4 rfl).frozen 6
      have sb7 : (we).cell? ⟨wc.heap.size, 7, none⟩ = some (.int .i64 0) := (HM.blk 4 rfl).cell 7
      have sbf7 : (we).frozen? ⟨wc.heap.size, 7, none⟩ = false := (HM.blk 4 rfl).frozen 7
      have sblt : wc.heap.size < (we).heap.size := HM.lt 4 rfl
      have ne_mt_oc : w.heap.size ≠ w.heap.size + 1 := HM.ne 0 1 rfl rfl (by decide)
      have ne_mt_tk : w.heap.size ≠ w.heap.size + 1 + 1 := HM.ne 0 2 rfl rfl (by decide)
      have ne_mt_rs : w.heap.size ≠ w.heap.size + 1 + 1 + 1 := HM.ne 0 3 rfl rfl (by decide)
      have ne_mt_sb : w.heap.size ≠ wc.heap.size := HM.ne 0 4 rfl rfl (by decide)
      have ne_oc_mt : w.heap.size + 1 ≠ w.heap.size := HM.ne 1 0 rfl rfl (by decide)
      have ne_oc_tk : w.heap.size + 1 ≠ w.heap.size + 1 + 1 := HM.ne 1 2 rfl rfl (by decide)
      have ne_oc_rs : w.heap.size + 1 ≠ w.heap.size + 1 + 1 + 1 := HM.ne 1 3 rfl rfl (by decide)
      have ne_oc_sb : w.heap.size + 1 ≠ wc.heap.size := HM.ne 1 4 rfl rfl (by decide)
      have ne_tk_mt : w.heap.size + 1 + 1 ≠ w.heap.size := HM.ne 2 0 rfl rfl (by decide)
      have ne_tk_oc : w.heap.size + 1 + 1 ≠ w.heap.size + 1 := HM.ne 2 1 rfl rfl (by decide)
      have ne_tk_rs : w.heap.size + 1 + 1 ≠ w.heap.size + 1 + 1 + 1 := HM.ne 2 3 rfl rfl (by decide)
      have ne_tk_sb : w.heap.size + 1 + 1 ≠ wc.heap.size := HM.ne 2 4 rfl rfl (by decide)
      have ne_rs_mt : w.heap.size + 1 + 1 + 1 ≠ w.heap.size := HM.ne 3 0 rfl rfl (by decide)
      have ne_rs_oc : w.heap.size + 1 + 1 + 1 ≠ w.heap.size + 1 := HM.ne 3 1 rfl rfl (by decide)
      have ne_rs_tk : w.heap.size + 1 + 1 + 1 ≠ w.heap.size + 1 + 1 := HM.ne 3 2 rfl rfl (by decide)
      have ne_rs_sb : w.heap.size + 1 + 1 + 1 ≠ wc.heap.size := HM.ne 3 4 rfl rfl (by decide)
      have ne_sb_mt : wc.heap.size ≠ w.heap.size := HM.ne 4 0 rfl rfl (by decide)
      have ne_sb_oc : wc.heap.size ≠ w.heap.size + 1 := HM.ne 4 1 rfl rfl (by decide)
      have ne_sb_tk : wc.heap.size ≠ w.heap.size + 1 + 1 := HM.ne 4 2 rfl rfl (by decide)
      have ne_sb_rs : wc.heap.size ≠ w.heap.size + 1 + 1 + 1 := HM.ne 4 3 rfl rfl (by decide)

      rcases Nat.eq_zero_or_pos Es with h0 | h0
      · rw [if_pos h0] at HR
        subst h0
        have hbd2 : bad = bd ∧ lock = lk := by
          unfold badS at hbd
          rw [if_neg (by omega)] at hbd
          injection hbd with e1 e2
          exact ⟨e1, e2⟩
        obtain ⟨rfl, rfl⟩ := hbd2
        obtain ⟨r2, c2', h2', b2', d2, a2', e2', hT⟩ : ∃ r2 c2' h2' b2' d2 a2' e2', takeS rev cr H B bad cls id am = (r2, c2', h2', b2', d2, a2', e2') := ⟨_, _, _, _, _, _, _, rfl⟩
        rw [hT] at HR
        injection HR with f1 HR; injection HR with f2 HR; injection HR with f3 HR; injection HR with f4 HR; injection HR with f5 HR; injection HR with f6 HR; injection HR with f7 f8
        dsimp only at f1 f2 f3 f4 f5 f7 f8
        subst f1; subst f2; subst f3; subst f4; subst f5; subst f6; subst f7; subst f8
        have hTk := fun g W hgg => mtake_ok g me rev cr H B bad lock cls id am tag W hgg hW (by omega) hk0 hc2 r2 c2' h2' b2' d2 a2' e2' (Lib.hid hT)
        clear hT hbd hEv
        go_wp2_with fail
        refine (hTk _ _ (HM.blk 4 rfl)).mono ?_
        rintro e wf ⟨rfl, hK⟩
        replace HM : Mem (w) [] (wf) [.blk (w.heap.size) 39 #[.int .i64 (me : Int), .int .i64 (rev : Int), .int .i64 (cr : Int), .int .i64 (H : Int), .int .u64 (B : Int), .int .i64 (bad : Int), .int .i64 (lock : Int)], .blk (w.heap.size + 1) 33 #[.slice A l.length c], .blk (w.heap.size + 1 + 1) 48 #[.int .i64 (cls : Int), .int .i64 (id : Int), .int .i64 (am : Int), .int .i64 (tag : Int)], .blk (w.heap.size + 1 + 1 + 1) 39 #[.int .i64 0, .int .i64 0, .int .i64 0, .int .i64 0, .int .u64 0, .int .i64 0, .int .i64 0], .blk (wc.heap.size) 87 #[.int .i64 (me : Int), .int .i64 (r2 : Int), .int .i64 (c2' : Int), .int .i64 (h2' : Int), .int .u64 (b2' : Int), .int .i64 (d2 : Int), .int .i64 (lock : Int), .int .i64 (a2' : Int)]] := Mem.joinAt 4 HM rfl hK
        clear hK hTk
        clear mt0 mtf0 mt1 mtf1 mt2 mtf2 mt3 mtf3 mt4 mtf4 mt5 mtf5 mt6 mtf6 mtlt oc0 ocf0 oclt tk0 tkf0 tk1 tkf1 tk2 tkf2 tk3 tkf3 tklt rs0 rsf0 rs1 rsf1 rs2 rsf2 rs3 rsf3 rs4 rsf4 rs5 rsf5 rs6 rsf6 rslt sb0 sbf0 sb1 sbf1 sb2 sbf2 sb3 sbf3 sb4 sbf4 sb5 sbf5 sb6 sbf6 sb7 sbf7 sblt ne_mt_oc ne_mt_tk ne_mt_rs ne_mt_sb ne_oc_mt ne_oc_tk ne_oc_rs ne_oc_sb ne_tk_mt ne_tk_oc ne_tk_rs ne_tk_sb ne_rs_mt ne_rs_oc ne_rs_tk ne_rs_sb ne_sb_mt ne_sb_oc ne_sb_tk ne_sb_rs
        have rs0 : (wf).cell? ⟨w.heap.size + 1 + 1 + 1, 0, none⟩ = some (.int .i64 0) := (HM.blk 3 rfl).cell 0
        have rsf0 : (wf).frozen? ⟨w.heap.size + 1 + 1 + 1, 0, none⟩ = false := (HM.blk 3 rfl).frozen 0
        have rs1 : (wf).cell? ⟨w.heap.size + 1 + 1 + 1, 1, none⟩ = some (.int .i64 0) := (HM.blk 3 rfl).cell 1
        have rsf1 : (wf).frozen? ⟨w.heap.size + 1 + 1 + 1, 1, none⟩ = false := (HM.blk 3 rfl).frozen 1
        have rs2 : (wf).cell? ⟨w.heap.size + 1 + 1 + 1, 2, none⟩ = some (.int .i64 0) := (HM.blk 3 rfl).cell 2
        have rsf2 : (wf).frozen? ⟨w.heap.size + 1 + 1 + 1, 2, none⟩ = false := (HM.blk 3 rfl).frozen 2
        have rs3 : (wf).cell? ⟨w.heap.size + 1 + 1 + 1, 3, none⟩ = some (.int .i64 0) := (HM.blk 3 rfl).cell 3
        have rsf3 : (wf).frozen? ⟨w.heap.size + 1 + 1 + 1, 3, none⟩ = false := (HM.blk 3 rfl).frozen 3
        have rs4 : (wf).cell? ⟨w.heap.size + 1 + 1 + 1, 4, none⟩ = some (.int .u64 0) := (HM.blk 3 rfl).cell 4
        have rsf4 : (wf).frozen? ⟨w.heap.size + 1 + 1 + 1, 4, none⟩ = false := (HM.blk 3 rfl).frozen 4
        have rs5 : (wf).cell? ⟨w.heap.size + 1 + 1 + 1, 5, none⟩ = some (.int .i64 0) := (HM.blk 3 rfl).cell 5
        have rsf5 : (wf).frozen? ⟨w.heap.size + 1 + 1 + 1, 5, none⟩ = false := (HM.blk 3 rfl).frozen 5
        have rs6 : (wf).cell? ⟨w.heap.size + 1 + 1 + 1, 6, none⟩ = some (.int .i64 0) := (HM.blk 3 rfl).cell 6
        have rsf6 : (wf).frozen? ⟨w.heap.size + 1 + 1 + 1, 6, none⟩ = false := (HM.blk 3 rfl).frozen 6
        have rslt : w.heap.size + 1 + 1 + 1 < (wf).heap.size := HM.lt 3 rfl
        have sb0 : (wf).cell? ⟨wc.heap.size, 0, none⟩ = some (.int .i64 (me : Int)) := (HM.blk 4 rfl).cell 0
        have sbf0 : (wf).frozen? ⟨wc.heap.size, 0, none⟩ = false := (HM.blk 4 rfl).frozen 0
        have sb1 : (wf).cell? ⟨wc.heap.size, 1, none⟩ = some (.int .i64 (r2 : Int)) := (HM.blk 4 rfl).cell 1
        have sbf1 : (wf).frozen? ⟨wc.heap.size, 1, none⟩ = false := (HM.blk 4 rfl).frozen 1
        have sb2 : (wf).cell? ⟨wc.heap.size, 2, none⟩ = some (.int .i64 (c2' : Int)) := (HM.blk 4 rfl).cell 2
        have sbf2 : (wf).frozen? ⟨wc.heap.size, 2, none⟩ = false := (HM.blk 4 rfl).frozen 2
        have sb3 : (wf).cell? ⟨wc.heap.size, 3, none⟩ = some (.int .i64 (h2' : Int)) := (HM.blk 4 rfl).cell 3
        have sbf3 : (wf).frozen? ⟨wc.heap.size, 3, none⟩ = false := (HM.blk 4 rfl).frozen 3
        have sb4 : (wf).cell? ⟨wc.heap.size, 4, none⟩ = some (.int .u64 (b2' : Int)) := (HM.blk 4 rfl).cell 4
        have sbf4 : (wf).frozen? ⟨wc.heap.size, 4, none⟩ = false := (HM.blk 4 rfl).frozen 4
        have sb5 : (wf).cell? ⟨wc.heap.size, 5, none⟩ = some (.int .i64 (d2 : Int)) := (HM.blk 4 rfl).cell 5
        have sbf5 : (wf).frozen? ⟨wc.heap.size, 5, none⟩ = false := (HM.blk 4 rfl).frozen 5
        have sb6 : (wf).cell? ⟨wc.heap.size, 6, none⟩ = some (.int .i64 (lock : Int)) := (HM.blk 4 rfl).cell 6
        have sbf6 : (wf).frozen? ⟨wc.heap.size, 6, none⟩ = false := (HM.blk 4 rfl).frozen 6
        have sb7 : (wf).cell? ⟨wc.heap.size, 7, none⟩ = some (.int .i64 (a2' : Int)) := (HM.blk 4 rfl).cell 7
        have sbf7 : (wf).frozen? ⟨wc.heap.size, 7, none⟩ = false := (HM.blk 4 rfl).frozen 7
        have sblt : wc.heap.size < (wf).heap.size := HM.lt 4 rfl
        have ne_rs_sb : w.heap.size + 1 + 1 + 1 ≠ wc.heap.size := HM.ne 3 4 rfl rfl (by decide)
        have ne_sb_rs : wc.heap.size ≠ w.heap.size + 1 + 1 + 1 := HM.ne 4 3 rfl rfl (by decide)
        go_wp2_with fail
        go_region
        obtain ⟨Wz, hWz⟩ : ∃ Wz, ((((((((wf).setCell ⟨w.heap.size + 1 + 1 + 1, 0, none⟩ (.int .i64 (me : Int))).setCell ⟨w.heap.size + 1 + 1 + 1, 1, none⟩ (.int .i64 (r2 : Int))).setCell ⟨w.heap.size + 1 + 1 + 1, 2, none⟩ (.int .i64 (c2' : Int))).setCell ⟨w.heap.size + 1 + 1 + 1, 3, none⟩ (.int .i64 (h2' : Int))).setCell ⟨w.heap.size + 1 + 1 + 1, 4, none⟩ (.int .u64 (b2' : Int))).setCell ⟨w.heap.size + 1 + 1 + 1, 5, none⟩ (.int .i64 (d2 : Int))).setCell ⟨w.heap.size + 1 + 1 + 1, 6, none⟩ (.int .i64 (lock : Int))).drew = Wz := ⟨_, rfl⟩
        replace HM : Mem (w) [] _ [.blk (w.heap.size) 39 #[.int .i64 (me : Int), .int .i64 (rev : Int), .int .i64 (cr : Int), .int .i64 (H : Int), .int .u64 (B : Int), .int .i64 (bad : Int), .int .i64 (lock : Int)], .blk (w.heap.size + 1) 33 #[.slice A l.length c], .blk (w.heap.size + 1 + 1) 48 #[.int .i64 (cls : Int), .int .i64 (id : Int), .int .i64 (am : Int), .int .i64 (tag : Int)], .blk (w.heap.size + 1 + 1 + 1) 39 #[.int .i64 (me : Int), .int .i64 0, .int .i64 0, .int .i64 0, .int .u64 0, .int .i64 0, .int .i64 0], .blk (wc.heap.size) 87 #[.int .i64 (me : Int), .int .i64 (r2 : Int), .int .i64 (c2' : Int), .int .i64 (h2' : Int), .int .u64 (b2' : Int), .int .i64 (d2 : Int), .int .i64 (lock : Int), .int .i64 (a2' : Int)]] := Mem.set 3 HM rfl 0 (.int .i64 (me : Int))
        replace HM : Mem (w) [] _ [.blk (w.heap.size) 39 #[.int .i64 (me : Int), .int .i64 (rev : Int), .int .i64 (cr : Int), .int .i64 (H : Int), .int .u64 (B : Int), .int .i64 (bad : Int), .int .i64 (lock : Int)], .blk (w.heap.size + 1) 33 #[.slice A l.length c], .blk (w.heap.size + 1 + 1) 48 #[.int .i64 (cls : Int), .int .i64 (id : Int), .int .i64 (am : Int), .int .i64 (tag : Int)], .blk (w.heap.size + 1 + 1 + 1) 39 #[.int .i64 (me : Int), .int .i64 (r2 : Int), .int .i64 0, .int .i64 0, .int .u64 0, .int .i64 0, .int .i64 0], .blk (wc.heap.size) 87 #[.int .i64 (me : Int), .int .i64 (r2 : Int), .int .i64 (c2' : Int), .int .i64 (h2' : Int), .int .u64 (b2' : Int), .int .i64 (d2 : Int), .int .i64 (lock : Int), .int .i64 (a2' : Int)]] := Mem.set 3 HM rfl 1 (.int .i64 (r2 : Int))
        replace HM : Mem (w) [] _ [.blk (w.heap.size) 39 #[.int .i64 (me : Int), .int .i64 (rev : Int), .int .i64 (cr : Int), .int .i64 (H : Int), .int .u64 (B : Int), .int .i64 (bad : Int), .int .i64 (lock : Int)], .blk (w.heap.size + 1) 33 #[.slice A l.length c], .blk (w.heap.size + 1 + 1) 48 #[.int .i64 (cls : Int), .int .i64 (id : Int), .int .i64 (am : Int), .int .i64 (tag : Int)], .blk (w.heap.size + 1 + 1 + 1) 39 #[.int .i64 (me : Int), .int .i64 (r2 : Int), .int .i64 (c2' : Int), .int .i64 0, .int .u64 0, .int .i64 0, .int .i64 0], .blk (wc.heap.size) 87 #[.int .i64 (me : Int), .int .i64 (r2 : Int), .int .i64 (c2' : Int), .int .i64 (h2' : Int), .int .u64 (b2' : Int), .int .i64 (d2 : Int), .int .i64 (lock : Int), .int .i64 (a2' : Int)]] := Mem.set 3 HM rfl 2 (.int .i64 (c2' : Int))
        replace HM : Mem (w) [] _ [.blk (w.heap.size) 39 #[.int .i64 (me : Int), .int .i64 (rev : Int), .int .i64 (cr : Int), .int .i64 (H : Int), .int .u64 (B : Int), .int .i64 (bad : Int), .int .i64 (lock : Int)], .blk (w.heap.size + 1) 33 #[.slice A l.length c], .blk (w.heap.size + 1 + 1) 48 #[.int .i64 (cls : Int), .int .i64 (id : Int), .int .i64 (am : Int), .int .i64 (tag : Int)], .blk (w.heap.size + 1 + 1 + 1) 39 #[.int .i64 (me : Int), .int .i64 (r2 : Int), .int .i64 (c2' : Int), .int .i64 (h2' : Int), .int .u64 0, .int .i64 0, .int .i64 0], .blk (wc.heap.size) 87 #[.int .i64 (me : Int), .int .i64 (r2 : Int), .int .i64 (c2' : Int), .int .i64 (h2' : Int), .int .u64 (b2' : Int), .int .i64 (d2 : Int), .int .i64 (lock : Int), .int .i64 (a2' : Int)]] := Mem.set 3 HM rfl 3 (.int .i64 (h2' : Int))
        replace HM : Mem (w) [] _ [.blk (w.heap.size) 39 #[.int .i64 (me : Int), .int .i64 (rev : Int), .int .i64 (cr : Int), .int .i64 (H : Int), .int .u64 (B : Int), .int .i64 (bad : Int), .int .i64 (lock : Int)], .blk (w.heap.size + 1) 33 #[.slice A l.length c], .blk (w.heap.size + 1 + 1) 48 #[.int .i64 (cls : Int), .int .i64 (id : Int), .int .i64 (am : Int), .int .i64 (tag : Int)], .blk (w.heap.size + 1 + 1 + 1) 39 #[.int .i64 (me : Int), .int .i64 (r2 : Int), .int .i64 (c2' : Int), .int .i64 (h2' : Int), .int .u64 (b2' : Int), .int .i64 0, .int .i64 0], .blk (wc.heap.size) 87 #[.int .i64 (me : Int), .int .i64 (r2 : Int), .int .i64 (c2' : Int), .int .i64 (h2' : Int), .int .u64 (b2' : Int), .int .i64 (d2 : Int), .int .i64 (lock : Int), .int .i64 (a2' : Int)]] := Mem.set 3 HM rfl 4 (.int .u64 (b2' : Int))
        replace HM : Mem (w) [] _ [.blk (w.heap.size) 39 #[.int .i64 (me : Int), .int .i64 (rev : Int), .int .i64 (cr : Int), .int .i64 (H : Int), .int .u64 (B : Int), .int .i64 (bad : Int), .int .i64 (lock : Int)], .blk (w.heap.size + 1) 33 #[.slice A l.length c], .blk (w.heap.size + 1 + 1) 48 #[.int .i64 (cls : Int), .int .i64 (id : Int), .int .i64 (am : Int), .int .i64 (tag : Int)], .blk (w.heap.size + 1 + 1 + 1) 39 #[.int .i64 (me : Int), .int .i64 (r2 : Int), .int .i64 (c2' : Int), .int .i64 (h2' : Int), .int .u64 (b2' : Int), .int .i64 (d2 : Int), .int .i64 0], .blk (wc.heap.size) 87 #[.int .i64 (me : Int), .int .i64 (r2 : Int), .int .i64 (c2' : Int), .int .i64 (h2' : Int), .int .u64 (b2' : Int), .int .i64 (d2 : Int), .int .i64 (lock : Int), .int .i64 (a2' : Int)]] := Mem.set 3 HM rfl 5 (.int .i64 (d2 : Int))
        replace HM : Mem (w) [] _ [.blk (w.heap.size) 39 #[.int .i64 (me : Int), .int .i64 (rev : Int), .int .i64 (cr : Int), .int .i64 (H : Int), .int .u64 (B : Int), .int .i64 (bad : Int), .int .i64 (lock : Int)], .blk (w.heap.size + 1) 33 #[.slice A l.length c], .blk (w.heap.size + 1 + 1) 48 #[.int .i64 (cls : Int), .int .i64 (id : Int), .int .i64 (am : Int), .int .i64 (tag : Int)], .blk (w.heap.size + 1 + 1 + 1) 39 #[.int .i64 (me : Int), .int .i64 (r2 : Int), .int .i64 (c2' : Int), .int .i64 (h2' : Int), .int .u64 (b2' : Int), .int .i64 (d2 : Int), .int .i64 (lock : Int)], .blk (wc.heap.size) 87 #[.int .i64 (me : Int), .int .i64 (r2 : Int), .int .i64 (c2' : Int), .int .i64 (h2' : Int), .int .u64 (b2' : Int), .int .i64 (d2 : Int), .int .i64 (lock : Int), .int .i64 (a2' : Int)]] := Mem.set 3 HM rfl 6 (.int .i64 (lock : Int))
        replace HM := HM.drew
        rw [hWz] at HM ⊢
        clear hWz
        clear rs0 rsf0 rs1 rsf1 rs2 rsf2 rs3 rsf3 rs4 rsf4 rs5 rsf5 rs6 rsf6 rslt sb0 sbf0 sb1 sbf1 sb2 sbf2 sb3 sbf3 sb4 sbf4 sb5 sbf5 sb6 sbf6 sb7 sbf7 sblt ne_rs_sb ne_sb_rs
        have rs0 : (Wz).cell? ⟨w.heap.size + 1 + 1 + 1, 0, none⟩ = some (.int .i64 (me : Int)) := (HM.blk 3 rfl).cell 0
        have rsf0 : (Wz).frozen? ⟨w.heap.size + 1 + 1 + 1, 0, none⟩ = false := (HM.blk 3 rfl).frozen 0
        have rs1 : (Wz).cell? ⟨w.heap.size + 1 + 1 + 1, 1, none⟩ = some (.int .i64 (r2 : Int)) := (HM.blk 3 rfl).cell 1
        have rsf1 : (Wz).frozen? ⟨w.heap.size + 1 + 1 + 1, 1, none⟩ = false := (HM.blk 3 rfl).frozen 1
        have rs2 : (Wz).cell? ⟨w.heap.size + 1 + 1 + 1, 2, none⟩ = some (.int .i64 (c2' : Int)) := (HM.blk 3 rfl).cell 2
        have rsf2 : (Wz).frozen? ⟨w.heap.size + 1 + 1 + 1, 2, none⟩ = false := (HM.blk 3 rfl).frozen 2
        have rs3 : (Wz).cell? ⟨w.heap.size + 1 + 1 + 1, 3, none⟩ = some (.int .i64 (h2' : Int)) := (HM.blk 3 rfl).cell 3
        have rsf3 : (Wz).frozen? ⟨w.heap.size + 1 + 1 + 1, 3, none⟩ = false := (HM.blk 3 rfl).frozen 3
        have rs4 : (Wz).cell? ⟨w.heap.size + 1 + 1 + 1, 4, none⟩ = some (.int .u64 (b2' : Int)) := (HM.blk 3 rfl).cell 4
        have rsf4 : (Wz).frozen? ⟨w.heap.size + 1 + 1 + 1, 4, none⟩ = false := (HM.blk 3 rfl).frozen 4
        have rs5 : (Wz).cell? ⟨w.heap.size + 1 + 1 + 1, 5, none⟩ = some (.int .i64 (d2 : Int)) := (HM.blk 3 rfl).cell 5
        have rsf5 : (Wz).frozen? ⟨w.heap.size + 1 + 1 + 1, 5, none⟩ = false := (HM.blk 3 rfl).frozen 5
        have rs6 : (Wz).cell? ⟨w.heap.size + 1 + 1 + 1, 6, none⟩ = some (.int .i64 (lock : Int)) := (HM.blk 3 rfl).cell 6
        have rsf6 : (Wz).frozen? ⟨w.heap.size + 1 + 1 + 1, 6, none⟩ = false := (HM.blk 3 rfl).frozen 6
        have rslt : w.heap.size + 1 + 1 + 1 < (Wz).heap.size := HM.lt 3 rfl
        go_wp2
        refine bodyPost_ret (v := .tuple #[.agg #[.int .i64 (me : Int), .int .i64 (r2 : Int), .int .i64 (c2' : Int), .int .i64 (h2' : Int), .int .u64 (b2' : Int), .int .i64 (d2 : Int), .int .i64 (lock : Int)], .int .i64 (a2' : Int), .int .i64 (e2' : Int)]) (by simp [results, Tryd.results15, go_sem, rs0, rs1, rs2, rs3, rs4, rs5, rs6]; done) rfl ?_
        exact ⟨rfl, HM.below⟩
      · skip
        rw [if_neg (by omega), hbd] at HR
        injection HR with f1 HR; injection HR with f2 HR; injection HR with f3 HR; injection HR with f4 HR; injection HR with f5 HR; injection HR with f6 HR; injection HR with f7 f8
        subst f1; subst f2; subst f3; subst f4; subst f5; subst f6; subst f7; subst f8
        have hE0 : ((Es : Int) == 0) = false := by simp; omega
        clear hEv
        go_wp2_with fail
        go_region
        obtain ⟨Wz, hWz⟩ : ∃ Wz, ((((((((we).setCell ⟨w.heap.size + 1 + 1 + 1, 0, none⟩ (.int .i64 (me : Int))).setCell ⟨w.heap.size + 1 + 1 + 1, 1, none⟩ (.int .i64 (rev : Int))).setCell ⟨w.heap.size + 1 + 1 + 1, 2, none⟩ (.int .i64 (cr : Int))).setCell ⟨w.heap.size + 1 + 1 + 1, 3, none⟩ (.int .i64 (H : Int))).setCell ⟨w.heap.size + 1 + 1 + 1, 4, none⟩ (.int .u64 (B : Int))).setCell ⟨w.heap.size + 1 + 1 + 1, 5, none⟩ (.int .i64 (bd : Int))).setCell ⟨w.heap.size + 1 + 1 + 1, 6, none⟩ (.int .i64 (lk : Int))).drew = Wz := ⟨_, rfl⟩
        replace HM : Mem (w) [] _ [.blk (w.heap.size) 39 #[.int .i64 (me : Int), .int .i64 (rev : Int), .int .i64 (cr : Int), .int .i64 (H : Int), .int .u64 (B : Int), .int .i64 (bad : Int), .int .i64 (lock : Int)], .blk (w.heap.size + 1) 33 #[.slice A l.length c], .blk (w.heap.size + 1 + 1) 48 #[.int .i64 (cls : Int), .int .i64 (id : Int), .int .i64 (am : Int), .int .i64 (tag : Int)], .blk (w.heap.size + 1 + 1 + 1) 39 #[.int .i64 (me : Int), .int .i64 0, .int .i64 0, .int .i64 0, .int .u64 0, .int .i64 0, .int .i64 0], .blk (wc.heap.size) 87 #[.int .i64 (me : Int), .int .i64 (rev : Int), .int .i64 (cr : Int), .int .i64 (H : Int), .int .u64 (B : Int), .int .i64 (bd : Int), .int .i64 (lk : Int), .int .i64 0]] := Mem.set 3 HM rfl 0 (.int .i64 (me : Int))
        replace HM : Mem (w) [] _ [.blk (w.heap.size) 39 #[.int .i64 (me : Int), .int .i64 (rev : Int), .int .i64 (cr : Int), .int .i64 (H : Int), .int .u64 (B : Int), .int .i64 (bad : Int), .int .i64 (lock : Int)], .blk (w.heap.size + 1) 33 #[.slice A l.length c], .blk (w.heap.size + 1 + 1) 48 #[.int .i64 (cls : Int), .int .i64 (id : Int), .int .i64 (am : Int), .int .i64 (tag : Int)], .blk (w.heap.size + 1 + 1 + 1) 39 #[.int .i64 (me : Int), .int .i64 (rev : Int), .int .i64 0, .int .i64 0, .int .u64 0, .int .i64 0, .int .i64 0], .blk (wc.heap.size) 87 #[.int .i64 (me : Int), .int .i64 (rev : Int), .int .i64 (cr : Int), .int .i64 (H : Int), .int .u64 (B : Int), .int .i64 (bd : Int), .int .i64 (lk : Int), .int .i64 0]] := Mem.set 3 HM rfl 1 (.int .i64 (rev : Int))
        replace HM : Mem (w) [] _ [.blk (w.heap.size) 39 #[.int .i64 (me : Int), .int .i64 (rev : Int), .int .i64 (cr : Int), .int .i64 (H : Int), .int .u64 (B : Int), .int .i64 (bad : Int), .int .i64 (lock : Int)], .blk (w.heap.size + 1) 33 #[.slice A l.length c], .blk (w.heap.size + 1 + 1) 48 #[.int .i64 (cls : Int), .int .i64 (id : Int), .int .i64 (am : Int), .int .i64 (tag : Int)], .blk (w.heap.size + 1 + 1 + 1) 39 #[.int .i64 (me : Int), .int .i64 (rev : Int), .int .i64 (cr : Int), .int .i64 0, .int .u64 0, .int .i64 0, .int .i64 0], .blk (wc.heap.size) 87 #[.int .i64 (me : Int), .int .i64 (rev : Int), .int .i64 (cr : Int), .int .i64 (H : Int), .int .u64 (B : Int), .int .i64 (bd : Int), .int .i64 (lk : Int), .int .i64 0]] := Mem.set 3 HM rfl 2 (.int .i64 (cr : Int))
        replace HM : Mem (w) [] _ [.blk (w.heap.size) 39 #[.int .i64 (me : Int), .int .i64 (rev : Int), .int .i64 (cr : Int), .int .i64 (H : Int), .int .u64 (B : Int), .int .i64 (bad : Int), .int .i64 (lock : Int)], .blk (w.heap.size + 1) 33 #[.slice A l.length c], .blk (w.heap.size + 1 + 1) 48 #[.int .i64 (cls : Int), .int .i64 (id : Int), .int .i64 (am : Int), .int .i64 (tag : Int)], .blk (w.heap.size + 1 + 1 + 1) 39 #[.int .i64 (me : Int), .int .i64 (rev : Int), .int .i64 (cr : Int), .int .i64 (H : Int), .int .u64 0, .int .i64 0, .int .i64 0], .blk (wc.heap.size) 87 #[.int .i64 (me : Int), .int .i64 (rev : Int), .int .i64 (cr : Int), .int .i64 (H : Int), .int .u64 (B : Int), .int .i64 (bd : Int), .int .i64 (lk : Int), .int .i64 0]] := Mem.set 3 HM rfl 3 (.int .i64 (H : Int))
        replace HM : Mem (w) [] _ [.blk (w.heap.size) 39 #[.int .i64 (me : Int), .int .i64 (rev : Int), .int .i64 (cr : Int), .int .i64 (H : Int), .int .u64 (B : Int), .int .i64 (bad : Int), .int .i64 (lock : Int)], .blk (w.heap.size + 1) 33 #[.slice A l.length c], .blk (w.heap.size + 1 + 1) 48 #[.int .i64 (cls : Int), .int .i64 (id : Int), .int .i64 (am : Int), .int .i64 (tag : Int)], .blk (w.heap.size + 1 + 1 + 1) 39 #[.int .i64 (me : Int), .int .i64 (rev : Int), .int .i64 (cr : Int), .int .i64 (H : Int), .int .u64 (B : Int), .int .i64 0, .int .i64 0], .blk (wc.heap.size) 87 #[.int .i64 (me : Int), .int .i64 (rev : Int), .int .i64 (cr : Int), .int .i64 (H : Int), .int .u64 (B : Int), .int .i64 (bd : Int), .int .i64 (lk : Int), .int .i64 0]] := Mem.set 3 HM rfl 4 (.int .u64 (B : Int))
        replace HM : Mem (w) [] _ [.blk (w.heap.size) 39 #[.int .i64 (me : Int), .int .i64 (rev : Int), .int .i64 (cr : Int), .int .i64 (H : Int), .int .u64 (B : Int), .int .i64 (bad : Int), .int .i64 (lock : Int)], .blk (w.heap.size + 1) 33 #[.slice A l.length c], .blk (w.heap.size + 1 + 1) 48 #[.int .i64 (cls : Int), .int .i64 (id : Int), .int .i64 (am : Int), .int .i64 (tag : Int)], .blk (w.heap.size + 1 + 1 + 1) 39 #[.int .i64 (me : Int), .int .i64 (rev : Int), .int .i64 (cr : Int), .int .i64 (H : Int), .int .u64 (B : Int), .int .i64 (bd : Int), .int .i64 0], .blk (wc.heap.size) 87 #[.int .i64 (me : Int), .int .i64 (rev : Int), .int .i64 (cr : Int), .int .i64 (H : Int), .int .u64 (B : Int), .int .i64 (bd : Int), .int .i64 (lk : Int), .int .i64 0]] := Mem.set 3 HM rfl 5 (.int .i64 (bd : Int))
        replace HM : Mem (w) [] _ [.blk (w.heap.size) 39 #[.int .i64 (me : Int), .int .i64 (rev : Int), .int .i64 (cr : Int), .int .i64 (H : Int), .int .u64 (B : Int), .int .i64 (bad : Int), .int .i64 (lock : Int)], .blk (w.heap.size + 1) 33 #[.slice A l.length c], .blk (w.heap.size + 1 + 1) 48 #[.int .i64 (cls : Int), .int .i64 (id : Int), .int .i64 (am : Int), .int .i64 (tag : Int)], .blk (w.heap.size + 1 + 1 + 1) 39 #[.int .i64 (me : Int), .int .i64 (rev : Int), .int .i64 (cr : Int), .int .i64 (H : Int), .int .u64 (B : Int), .int .i64 (bd : Int), .int .i64 (lk : Int)], .blk (wc.heap.size) 87 #[.int .i64 (me : Int), .int .i64 (rev : Int), .int .i64 (cr : Int), .int .i64 (H : Int), .int .u64 (B : Int), .int .i64 (bd : Int), .int .i64 (lk : Int), .int .i64 0]] := Mem.set 3 HM rfl 6 (.int .i64 (lk : Int))
        replace HM := HM.drew
        rw [hWz] at HM ⊢
        clear hWz
        clear mt0 mtf0 mt1 mtf1 mt2 mtf2 mt3 mtf3 mt4 mtf4 mt5 mtf5 mt6 mtf6 mtlt oc0 ocf0 oclt tk0 tkf0 tk1 tkf1 tk2 tkf2 tk3 tkf3 tklt rs0 rsf0 rs1 rsf1 rs2 rsf2 rs3 rsf3 rs4 rsf4 rs5 rsf5 rs6 rsf6 rslt sb0 sbf0 sb1 sbf1 sb2 sbf2 sb3 sbf3 sb4 sbf4 sb5 sbf5 sb6 sbf6 sb7 sbf7 sblt ne_mt_oc ne_mt_tk ne_mt_rs ne_mt_sb ne_oc_mt ne_oc_tk ne_oc_rs ne_oc_sb ne_tk_mt ne_tk_oc ne_tk_rs ne_tk_sb ne_rs_mt ne_rs_oc ne_rs_tk ne_rs_sb ne_sb_mt ne_sb_oc ne_sb_tk ne_sb_rs
        have rs0 : (Wz).cell? ⟨w.heap.size + 1 + 1 + 1, 0, none⟩ = some (.int .i64 (me : Int)) := (HM.blk 3 rfl).cell 0
        have rsf0 : (Wz).frozen? ⟨w.heap.size + 1 + 1 + 1, 0, none⟩ = false := (HM.blk 3 rfl).frozen 0
        have rs1 : (Wz).cell? ⟨w.heap.size + 1 + 1 + 1, 1, none⟩ = some (.int .i64 (rev : Int)) := (HM.blk 3 rfl).cell 1
        have rsf1 : (Wz).frozen? ⟨w.heap.size + 1 + 1 + 1, 1, none⟩ = false := (HM.blk 3 rfl).frozen 1
        have rs2 : (Wz).cell? ⟨w.heap.size + 1 + 1 + 1, 2, none⟩ = some (.int .i64 (cr : Int)) := (HM.blk 3 rfl).cell 2
        have rsf2 : (Wz).frozen? ⟨w.heap.size + 1 + 1 + 1, 2, none⟩ = false := (HM.blk 3 rfl).frozen 2
        have rs3 : (Wz).cell? ⟨w.heap.size + 1 + 1 + 1, 3, none⟩ = some (.int .i64 (H : Int)) := (HM.blk 3 rfl).cell 3
        have rsf3 : (Wz).frozen? ⟨w.heap.size + 1 + 1 + 1, 3, none⟩ = false := (HM.blk 3 rfl).frozen 3
        have rs4 : (Wz).cell? ⟨w.heap.size + 1 + 1 + 1, 4, none⟩ = some (.int .u64 (B : Int)) := (HM.blk 3 rfl).cell 4
        have rsf4 : (Wz).frozen? ⟨w.heap.size + 1 + 1 + 1, 4, none⟩ = false := (HM.blk 3 rfl).frozen 4
        have rs5 : (Wz).cell? ⟨w.heap.size + 1 + 1 + 1, 5, none⟩ = some (.int .i64 (bd : Int)) := (HM.blk 3 rfl).cell 5
        have rsf5 : (Wz).frozen? ⟨w.heap.size + 1 + 1 + 1, 5, none⟩ = false := (HM.blk 3 rfl).frozen 5
        have rs6 : (Wz).cell? ⟨w.heap.size + 1 + 1 + 1, 6, none⟩ = some (.int .i64 (lk : Int)) := (HM.blk 3 rfl).cell 6
        have rsf6 : (Wz).frozen? ⟨w.heap.size + 1 + 1 + 1, 6, none⟩ = false := (HM.blk 3 rfl).frozen 6
        have rslt : w.heap.size + 1 + 1 + 1 < (Wz).heap.size := HM.lt 3 rfl
        go_wp2
        refine bodyPost_ret (v := .tuple #[.agg #[.int .i64 (me : Int), .int .i64 (rev : Int), .int .i64 (cr : Int), .int .i64 (H : Int), .int .u64 (B : Int), .int .i64 (bd : Int), .int .i64 (lk : Int)], .int .i64 0, .int .i64 (Es : Int)]) (by simp [results, Tryd.results15, go_sem, rs0, rs1, rs2, rs3, rs4, rs5, rs6]; done) rfl ?_
        exact ⟨rfl, HM.below⟩
end Go.Proofs.YtopnlkhepjbjkaaDoor
