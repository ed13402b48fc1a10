/- The walk of the law TokenApart. -/
import Derived.Test.YtlkigihghpcglaaTokL
import Derived.Deep.RegionHeld3
namespace Go.Proofs.Ytlkigihghpcglaa
open Go.RowKit
set_option linter.unusedVariables false
set_option maxRecDepth 100000 in
set_option maxHeartbeats 2000000 in
theorem walk_tokenApart (w : World) (a0 : Value) (w0 : Fit Try.prog w 23 a0) (a1 : Value) (w1 : Fit Try.prog w 23 a1) :
    Calls Try.prog 3 #[a0, a1] w fun e w' => e = .returned (.bool true) ∧ Below w.heap.size w w' := by
  obtain ⟨e, f, g, h, rfl, we, wf, wg, wh⟩ := raw_open w0
  obtain ⟨e', f', g', h', rfl, we', wf', wg', wh'⟩ := raw_open w1
  obtain ⟨cls, hcls, _⟩ := pk_natI e 4 (by omega)
  obtain ⟨cls', hcls', _⟩ := pk_natI e' 4 (by omega)
  clear w0 w1
  have H := Mem.init w
  obtain ⟨W0, hW0⟩ : ∃ W0, ((w).alloc (.cells #[.int .i64 e, .int .i64 f, .int .i64 g, .int .i64 h] 23)).alloc (.cells #[.int .i64 e', .int .i64 f', .int .i64 g', .int .i64 h'] 23) = W0 := ⟨_, rfl⟩
  replace H : Mem (w) [] _ [.blk (w.heap.size) 23 #[.int .i64 e, .int .i64 f, .int .i64 g, .int .i64 h]] := Mem.alloc H (w.heap.size) (by first | (simp; done) | (simp; omega)) #[.int .i64 e, .int .i64 f, .int .i64 g, .int .i64 h] 23
  replace H : Mem (w) [] _ [.blk (w.heap.size) 23 #[.int .i64 e, .int .i64 f, .int .i64 g, .int .i64 h], .blk (w.heap.size + 1) 23 #[.int .i64 e', .int .i64 f', .int .i64 g', .int .i64 h']] := Mem.alloc H (w.heap.size + 1) (by first | (simp; done) | (simp; omega)) #[.int .i64 e', .int .i64 f', .int .i64 g', .int .i64 h'] 23
  rw [hW0] at H
  have rx0 : (W0).cell? ⟨w.heap.size, 0, none⟩ = some (.int .i64 e) := (H.blk 0 rfl).cell 0
  have rxf0 : (W0).frozen? ⟨w.heap.size, 0, none⟩ = false := (H.blk 0 rfl).frozen 0
  have rx1 : (W0).cell? ⟨w.heap.size, 1, none⟩ = some (.int .i64 f) := (H.blk 0 rfl).cell 1
  have rxf1 : (W0).frozen? ⟨w.heap.size, 1, none⟩ = false := (H.blk 0 rfl).frozen 1
  have rx2 : (W0).cell? ⟨w.heap.size, 2, none⟩ = some (.int .i64 g) := (H.blk 0 rfl).cell 2
  have rxf2 : (W0).frozen? ⟨w.heap.size, 2, none⟩ = false := (H.blk 0 rfl).frozen 2
  have rx3 : (W0).cell? ⟨w.heap.size, 3, none⟩ = some (.int .i64 h) := (H.blk 0 rfl).cell 3
  have rxf3 : (W0).frozen? ⟨w.heap.size, 3, none⟩ = false := (H.blk 0 rfl).frozen 3
  have rxlt : w.heap.size < (W0).heap.size := H.lt 0 rfl
  have ry0 : (W0).cell? ⟨w.heap.size + 1, 0, none⟩ = some (.int .i64 e') := (H.blk 1 rfl).cell 0
  have ryf0 : (W0).frozen? ⟨w.heap.size + 1, 0, none⟩ = false := (H.blk 1 rfl).frozen 0
  have ry1 : (W0).cell? ⟨w.heap.size + 1, 1, none⟩ = some (.int .i64 f') := (H.blk 1 rfl).cell 1
  have ryf1 : (W0).frozen? ⟨w.heap.size + 1, 1, none⟩ = false := (H.blk 1 rfl).frozen 1
  have ry2 : (W0).cell? ⟨w.heap.size + 1, 2, none⟩ = some (.int .i64 g') := (H.blk 1 rfl).cell 2
  have ryf2 : (W0).frozen? ⟨w.heap.size + 1, 2, none⟩ = false := (H.blk 1 rfl).frozen 2
  have ry3 : (W0).cell? ⟨w.heap.size + 1, 3, none⟩ = some (.int .i64 h') := (H.blk 1 rfl).cell 3
  have ryf3 : (W0).frozen? ⟨w.heap.size + 1, 3, none⟩ = false := (H.blk 1 rfl).frozen 3
  have rylt : w.heap.size + 1 < (W0).heap.size := H.lt 1 rfl
  have ne_rx_ry : w.heap.size ≠ w.heap.size + 1 := H.ne 0 1 rfl rfl (by decide)
  have ne_ry_rx : w.heap.size + 1 ≠ w.heap.size := H.ne 1 0 rfl rfl (by decide)
  go_enter Try.func3, Try.ntmps3
  go_wp2_with fail
  refine (made_is e f g h cls _ we wf wg wh hcls).mono ?_
  rintro e1 wa ⟨id, am, tag, rfl, hk, hv, hba⟩
  replace H : Mem (w) [] (wa) [.blk (w.heap.size) 23 #[.int .i64 e, .int .i64 f, .int .i64 g, .int .i64 h], .blk (w.heap.size + 1) 23 #[.int .i64 e', .int .i64 f', .int .i64 g', .int .i64 h']] := Mem.call H hba
  clear rx0 rxf0 rx1 rxf1 rx2 rxf2 rx3 rxf3 rxlt ry0 ryf0 ry1 ryf1 ry2 ryf2 ry3 ryf3 rylt ne_rx_ry ne_ry_rx
  have rx0 : (wa).cell? ⟨w.heap.size, 0, none⟩ = some (.int .i64 e) := (H.blk 0 rfl).cell 0
  have rxf0 : (wa).frozen? ⟨w.heap.size, 0, none⟩ = false := (H.blk 0 rfl).frozen 0
  have rx1 : (wa).cell? ⟨w.heap.size, 1, none⟩ = some (.int .i64 f) := (H.blk 0 rfl).cell 1
  have rxf1 : (wa).frozen? ⟨w.heap.size, 1, none⟩ = false := (H.blk 0 rfl).frozen 1
  have rx2 : (wa).cell? ⟨w.heap.size, 2, none⟩ = some (.int .i64 g) := (H.blk 0 rfl).cell 2
  have rxf2 : (wa).frozen? ⟨w.heap.size, 2, none⟩ = false := (H.blk 0 rfl).frozen 2
  have rx3 : (wa).cell? ⟨w.heap.size, 3, none⟩ = some (.int .i64 h) := (H.blk 0 rfl).cell 3
  have rxf3 : (wa).frozen? ⟨w.heap.size, 3, none⟩ = false := (H.blk 0 rfl).frozen 3
  have rxlt : w.heap.size < (wa).heap.size := H.lt 0 rfl
  have ry0 : (wa).cell? ⟨w.heap.size + 1, 0, none⟩ = some (.int .i64 e') := (H.blk 1 rfl).cell 0
  have ryf0 : (wa).frozen? ⟨w.heap.size + 1, 0, none⟩ = false := (H.blk 1 rfl).frozen 0
  have ry1 : (wa).cell? ⟨w.heap.size + 1, 1, none⟩ = some (.int .i64 f') := (H.blk 1 rfl).cell 1
  have ryf1 : (wa).frozen? ⟨w.heap.size + 1, 1, none⟩ = false := (H.blk 1 rfl).frozen 1
  have ry2 : (wa).cell? ⟨w.heap.size + 1, 2, none⟩ = some (.int .i64 g') := (H.blk 1 rfl).cell 2
  have ryf2 : (wa).frozen? ⟨w.heap.size + 1, 2, none⟩ = false := (H.blk 1 rfl).frozen 2
  have ry3 : (wa).cell? ⟨w.heap.size + 1, 3, none⟩ = some (.int .i64 h') := (H.blk 1 rfl).cell 3
  have ryf3 : (wa).frozen? ⟨w.heap.size + 1, 3, none⟩ = false := (H.blk 1 rfl).frozen 3
  have rylt : w.heap.size + 1 < (wa).heap.size := H.lt 1 rfl
  have ne_rx_ry : w.heap.size ≠ w.heap.size + 1 := H.ne 0 1 rfl rfl (by decide)
  have ne_ry_rx : w.heap.size + 1 ≠ w.heap.size := H.ne 1 0 rfl rfl (by decide)
  clear hba hW0
  go_wp2_with fail
  obtain ⟨wb, hwb⟩ : ∃ wb, (wa).alloc (.cells #[.int .i64 (cls : Int), .int .i64 (id : Int), .int .i64 (am : Int), .int .i64 (tag : Int)] 24) = wb := ⟨_, rfl⟩
  replace H : Mem (w) [] _ [.blk (w.heap.size) 23 #[.int .i64 e, .int .i64 f, .int .i64 g, .int .i64 h], .blk (w.heap.size + 1) 23 #[.int .i64 e', .int .i64 f', .int .i64 g', .int .i64 h'], .blk (wa.heap.size) 24 #[.int .i64 (cls : Int), .int .i64 (id : Int), .int .i64 (am : Int), .int .i64 (tag : Int)]] := Mem.alloc H (wa.heap.size) (by first | (simp; done) | (simp; omega)) #[.int .i64 (cls : Int), .int .i64 (id : Int), .int .i64 (am : Int), .int .i64 (tag : Int)] 24
  rw [hwb] at H ⊢
  clear hwb
  refine (made_is e' f' g' h' cls' _ we' wf' wg' wh' hcls').mono ?_
  rintro e1 wc ⟨id', am', tag', rfl, hk', hv', hbc⟩
  replace H : Mem (w) [] (wc) [.blk (w.heap.size) 23 #[.int .i64 e, .int .i64 f, .int .i64 g, .int .i64 h], .blk (w.heap.size + 1) 23 #[.int .i64 e', .int .i64 f', .int .i64 g', .int .i64 h'], .blk (wa.heap.size) 24 #[.int .i64 (cls : Int), .int .i64 (id : Int), .int .i64 (am : Int), .int .i64 (tag : Int)]] := Mem.call H hbc
  clear rx0 rxf0 rx1 rxf1 rx2 rxf2 rx3 rxf3 rxlt ry0 ryf0 ry1 ryf1 ry2 ryf2 ry3 ryf3 rylt ne_rx_ry ne_ry_rx
  have rx0 : (wc).cell? ⟨w.heap.size, 0, none⟩ = some (.int .i64 e) := (H.blk 0 rfl).cell 0
  have rxf0 : (wc).frozen? ⟨w.heap.size, 0, none⟩ = false := (H.blk 0 rfl).frozen 0
  have rx1 : (wc).cell? ⟨w.heap.size, 1, none⟩ = some (.int .i64 f) := (H.blk 0 rfl).cell 1
  have rxf1 : (wc).frozen? ⟨w.heap.size, 1, none⟩ = false := (H.blk 0 rfl).frozen 1
  have rx2 : (wc).cell? ⟨w.heap.size, 2, none⟩ = some (.int .i64 g) := (H.blk 0 rfl).cell 2
  have rxf2 : (wc).frozen? ⟨w.heap.size, 2, none⟩ = false := (H.blk 0 rfl).frozen 2
  have rx3 : (wc).cell? ⟨w.heap.size, 3, none⟩ = some (.int .i64 h) := (H.blk 0 rfl).cell 3
  have rxf3 : (wc).frozen? ⟨w.heap.size, 3, none⟩ = false := (H.blk 0 rfl).frozen 3
  have rxlt : w.heap.size < (wc).heap.size := H.lt 0 rfl
  have ry0 : (wc).cell? ⟨w.heap.size + 1, 0, none⟩ = some (.int .i64 e') := (H.blk 1 rfl).cell 0
  have ryf0 : (wc).frozen? ⟨w.heap.size + 1, 0, none⟩ = false := (H.blk 1 rfl).frozen 0
  have ry1 : (wc).cell? ⟨w.heap.size + 1, 1, none⟩ = some (.int .i64 f') := (H.blk 1 rfl).cell 1
  have ryf1 : (wc).frozen? ⟨w.heap.size + 1, 1, none⟩ = false := (H.blk 1 rfl).frozen 1
  have ry2 : (wc).cell? ⟨w.heap.size + 1, 2, none⟩ = some (.int .i64 g') := (H.blk 1 rfl).cell 2
  have ryf2 : (wc).frozen? ⟨w.heap.size + 1, 2, none⟩ = false := (H.blk 1 rfl).frozen 2
  have ry3 : (wc).cell? ⟨w.heap.size + 1, 3, none⟩ = some (.int .i64 h') := (H.blk 1 rfl).cell 3
  have ryf3 : (wc).frozen? ⟨w.heap.size + 1, 3, none⟩ = false := (H.blk 1 rfl).frozen 3
  have rylt : w.heap.size + 1 < (wc).heap.size := H.lt 1 rfl
  have ta0 : (wc).cell? ⟨wa.heap.size, 0, none⟩ = some (.int .i64 (cls : Int)) := (H.blk 2 rfl).cell 0
  have taf0 : (wc).frozen? ⟨wa.heap.size, 0, none⟩ = false := (H.blk 2 rfl).frozen 0
  have ta1 : (wc).cell? ⟨wa.heap.size, 1, none⟩ = some (.int .i64 (id : Int)) := (H.blk 2 rfl).cell 1
  have taf1 : (wc).frozen? ⟨wa.heap.size, 1, none⟩ = false := (H.blk 2 rfl).frozen 1
  have ta2 : (wc).cell? ⟨wa.heap.size, 2, none⟩ = some (.int .i64 (am : Int)) := (H.blk 2 rfl).cell 2
  have taf2 : (wc).frozen? ⟨wa.heap.size, 2, none⟩ = false := (H.blk 2 rfl).frozen 2
  have ta3 : (wc).cell? ⟨wa.heap.size, 3, none⟩ = some (.int .i64 (tag : Int)) := (H.blk 2 rfl).cell 3
  have taf3 : (wc).frozen? ⟨wa.heap.size, 3, none⟩ = false := (H.blk 2 rfl).frozen 3
  have talt : wa.heap.size < (wc).heap.size := H.lt 2 rfl
  have ne_rx_ry : w.heap.size ≠ w.heap.size + 1 := H.ne 0 1 rfl rfl (by decide)
  have ne_rx_ta : w.heap.size ≠ wa.heap.size := H.ne 0 2 rfl rfl (by decide)
  have ne_ry_rx : w.heap.size + 1 ≠ w.heap.size := H.ne 1 0 rfl rfl (by decide)
  have ne_ry_ta : w.heap.size + 1 ≠ wa.heap.size := H.ne 1 2 rfl rfl (by decide)
  have ne_ta_rx : wa.heap.size ≠ w.heap.size := H.ne 2 0 rfl rfl (by decide)
  have ne_ta_ry : wa.heap.size ≠ w.heap.size + 1 := H.ne 2 1 rfl rfl (by decide)
  clear hbc
  have hF := fun W => format_ok cls id am tag W hk
  have hF' := fun W => format_ok cls' id' am' tag' W hk'
  obtain ⟨n, hn⟩ : ∃ n, tbody cls id am = n := ⟨_, rfl⟩
  obtain ⟨m, hm⟩ : ∃ m, tbody cls' id' am' = m := ⟨_, rfl⟩
  have hB := fun W => tbody_ok cls id am tag n W hk (Lib.hid hn)
  have hB' := fun W => tbody_ok cls' id' am' tag' m W hk' (Lib.hid hm)
  have hn9 := tbody_le hk
  rw [hn] at hn9
  have hnI : (n : Int) ≤ 8796093022207 := by omega
  have H3 : (cls = cls' ∧ id = id' ∧ am = am' ∧ tag = tag') ∨ ((cls = cls' ∧ id = id' ∧ am = am') ∧ ¬ tag = tag') ∨ ¬ (cls = cls' ∧ id = id' ∧ am = am') := by omega
  obtain ⟨l, hl⟩ : ∃ l, tokD cls id am tag = l := ⟨_, rfl⟩
  obtain ⟨l', hl'⟩ : ∃ l, tokD cls' id' am' tag' = l := ⟨_, rfl⟩
  have hS : ((dstr l).toList == (dstr l').toList) = decide (cls = cls' ∧ id = id' ∧ am = am' ∧ tag = tag') := by
    rw [str_beq]
    refine decide_eq_decide.2 ⟨fun hh => ?_, fun ⟨h1, h2, h3, h4⟩ => by rw [← hl, ← hl', h1, h2, h3, h4]⟩
    exact tokD_inj hk hk' (by rw [hl, hl']; exact dstr_inj (by rw [← hl]; exact tokD_le _ _ _ _) (by rw [← hl']; exact tokD_le _ _ _ _) hh)
  have hBd : n = m ↔ (cls = cls' ∧ id = id' ∧ am = am') := by
    rw [← hn, ← hm]
    exact ⟨fun hh => tbody_inj hk hk' hh, fun ⟨h1, h2, h3⟩ => by rw [h1, h2, h3]⟩
  have HB := Lib.hid hBd
  have HS := Lib.hid hS
  have H3H := Lib.hid H3
  rw [hl] at hF
  rw [hl'] at hF'
  clear hS hBd H3 hn hm hn9 hl hl' hk hk'
  go_wp2_with fail
  obtain ⟨wd, hwd⟩ : ∃ wd, (wc).alloc (.cells #[.int .i64 (cls' : Int), .int .i64 (id' : Int), .int .i64 (am' : Int), .int .i64 (tag' : Int)] 24) = wd := ⟨_, rfl⟩
  replace H : Mem (w) [] _ [.blk (w.heap.size) 23 #[.int .i64 e, .int .i64 f, .int .i64 g, .int .i64 h], .blk (w.heap.size + 1) 23 #[.int .i64 e', .int .i64 f', .int .i64 g', .int .i64 h'], .blk (wa.heap.size) 24 #[.int .i64 (cls : Int), .int .i64 (id : Int), .int .i64 (am : Int), .int .i64 (tag : Int)], .blk (wc.heap.size) 24 #[.int .i64 (cls' : Int), .int .i64 (id' : Int), .int .i64 (am' : Int), .int .i64 (tag' : Int)]] := Mem.alloc H (wc.heap.size) (by first | (simp; done) | (simp; omega)) #[.int .i64 (cls' : Int), .int .i64 (id' : Int), .int .i64 (am' : Int), .int .i64 (tag' : Int)] 24
  rw [hwd] at H ⊢
  clear hwd
  refine (hF _).mono ?_
  rintro e1 wk ⟨rfl, hbe⟩
  replace H : Mem (w) [] (wk) [.blk (w.heap.size) 23 #[.int .i64 e, .int .i64 f, .int .i64 g, .int .i64 h], .blk (w.heap.size + 1) 23 #[.int .i64 e', .int .i64 f', .int .i64 g', .int .i64 h'], .blk (wa.heap.size) 24 #[.int .i64 (cls : Int), .int .i64 (id : Int), .int .i64 (am : Int), .int .i64 (tag : Int)], .blk (wc.heap.size) 24 #[.int .i64 (cls' : Int), .int .i64 (id' : Int), .int .i64 (am' : Int), .int .i64 (tag' : Int)]] := Mem.call H hbe
  clear rx0 rxf0 rx1 rxf1 rx2 rxf2 rx3 rxf3 rxlt ry0 ryf0 ry1 ryf1 ry2 ryf2 ry3 ryf3 rylt ta0 taf0 ta1 taf1 ta2 taf2 ta3 taf3 talt ne_rx_ry ne_rx_ta ne_ry_rx ne_ry_ta ne_ta_rx ne_ta_ry
  have rx0 : (wk).cell? ⟨w.heap.size, 0, none⟩ = some (.int .i64 e) := (H.blk 0 rfl).cell 0
  have rxf0 : (wk).frozen? ⟨w.heap.size, 0, none⟩ = false := (H.blk 0 rfl).frozen 0
  have rx1 : (wk).cell? ⟨w.heap.size, 1, none⟩ = some (.int .i64 f) := (H.blk 0 rfl).cell 1
  have rxf1 : (wk).frozen? ⟨w.heap.size, 1, none⟩ = false := (H.blk 0 rfl).frozen 1
  have rx2 : (wk).cell? ⟨w.heap.size, 2, none⟩ = some (.int .i64 g) := (H.blk 0 rfl).cell 2
  have rxf2 : (wk).frozen? ⟨w.heap.size, 2, none⟩ = false := (H.blk 0 rfl).frozen 2
  have rx3 : (wk).cell? ⟨w.heap.size, 3, none⟩ = some (.int .i64 h) := (H.blk 0 rfl).cell 3
  have rxf3 : (wk).frozen? ⟨w.heap.size, 3, none⟩ = false := (H.blk 0 rfl).frozen 3
  have rxlt : w.heap.size < (wk).heap.size := H.lt 0 rfl
  have ry0 : (wk).cell? ⟨w.heap.size + 1, 0, none⟩ = some (.int .i64 e') := (H.blk 1 rfl).cell 0
  have ryf0 : (wk).frozen? ⟨w.heap.size + 1, 0, none⟩ = false := (H.blk 1 rfl).frozen 0
  have ry1 : (wk).cell? ⟨w.heap.size + 1, 1, none⟩ = some (.int .i64 f') := (H.blk 1 rfl).cell 1
  have ryf1 : (wk).frozen? ⟨w.heap.size + 1, 1, none⟩ = false := (H.blk 1 rfl).frozen 1
  have ry2 : (wk).cell? ⟨w.heap.size + 1, 2, none⟩ = some (.int .i64 g') := (H.blk 1 rfl).cell 2
  have ryf2 : (wk).frozen? ⟨w.heap.size + 1, 2, none⟩ = false := (H.blk 1 rfl).frozen 2
  have ry3 : (wk).cell? ⟨w.heap.size + 1, 3, none⟩ = some (.int .i64 h') := (H.blk 1 rfl).cell 3
  have ryf3 : (wk).frozen? ⟨w.heap.size + 1, 3, none⟩ = false := (H.blk 1 rfl).frozen 3
  have rylt : w.heap.size + 1 < (wk).heap.size := H.lt 1 rfl
  have ta0 : (wk).cell? ⟨wa.heap.size, 0, none⟩ = some (.int .i64 (cls : Int)) := (H.blk 2 rfl).cell 0
  have taf0 : (wk).frozen? ⟨wa.heap.size, 0, none⟩ = false := (H.blk 2 rfl).frozen 0
  have ta1 : (wk).cell? ⟨wa.heap.size, 1, none⟩ = some (.int .i64 (id : Int)) := (H.blk 2 rfl).cell 1
  have taf1 : (wk).frozen? ⟨wa.heap.size, 1, none⟩ = false := (H.blk 2 rfl).frozen 1
  have ta2 : (wk).cell? ⟨wa.heap.size, 2, none⟩ = some (.int .i64 (am : Int)) := (H.blk 2 rfl).cell 2
  have taf2 : (wk).frozen? ⟨wa.heap.size, 2, none⟩ = false := (H.blk 2 rfl).frozen 2
  have ta3 : (wk).cell? ⟨wa.heap.size, 3, none⟩ = some (.int .i64 (tag : Int)) := (H.blk 2 rfl).cell 3
  have taf3 : (wk).frozen? ⟨wa.heap.size, 3, none⟩ = false := (H.blk 2 rfl).frozen 3
  have talt : wa.heap.size < (wk).heap.size := H.lt 2 rfl
  have tb0 : (wk).cell? ⟨wc.heap.size, 0, none⟩ = some (.int .i64 (cls' : Int)) := (H.blk 3 rfl).cell 0
  have tbf0 : (wk).frozen? ⟨wc.heap.size, 0, none⟩ = false := (H.blk 3 rfl).frozen 0
  have tb1 : (wk).cell? ⟨wc.heap.size, 1, none⟩ = some (.int .i64 (id' : Int)) := (H.blk 3 rfl).cell 1
  have tbf1 : (wk).frozen? ⟨wc.heap.size, 1, none⟩ = false := (H.blk 3 rfl).frozen 1
  have tb2 : (wk).cell? ⟨wc.heap.size, 2, none⟩ = some (.int .i64 (am' : Int)) := (H.blk 3 rfl).cell 2
  have tbf2 : (wk).frozen? ⟨wc.heap.size, 2, none⟩ = false := (H.blk 3 rfl).frozen 2
  have tb3 : (wk).cell? ⟨wc.heap.size, 3, none⟩ = some (.int .i64 (tag' : Int)) := (H.blk 3 rfl).cell 3
  have tbf3 : (wk).frozen? ⟨wc.heap.size, 3, none⟩ = false := (H.blk 3 rfl).frozen 3
  have tblt : wc.heap.size < (wk).heap.size := H.lt 3 rfl
  have ne_rx_ry : w.heap.size ≠ w.heap.size + 1 := H.ne 0 1 rfl rfl (by decide)
  have ne_rx_ta : w.heap.size ≠ wa.heap.size := H.ne 0 2 rfl rfl (by decide)
  have ne_rx_tb : w.heap.size ≠ wc.heap.size := H.ne 0 3 rfl rfl (by decide)
  have ne_ry_rx : w.heap.size + 1 ≠ w.heap.size := H.ne 1 0 rfl rfl (by decide)
  have ne_ry_ta : w.heap.size + 1 ≠ wa.heap.size := H.ne 1 2 rfl rfl (by decide)
  have ne_ry_tb : w.heap.size + 1 ≠ wc.heap.size := H.ne 1 3 rfl rfl (by decide)
  have ne_ta_rx : wa.heap.size ≠ w.heap.size := H.ne 2 0 rfl rfl (by decide)
  have ne_ta_ry : wa.heap.size ≠ w.heap.size + 1 := H.ne 2 1 rfl rfl (by decide)
  have ne_ta_tb : wa.heap.size ≠ wc.heap.size := H.ne 2 3 rfl rfl (by decide)
  have ne_tb_rx : wc.heap.size ≠ w.heap.size := H.ne 3 0 rfl rfl (by decide)
  have ne_tb_ry : wc.heap.size ≠ w.heap.size + 1 := H.ne 3 1 rfl rfl (by decide)
  have ne_tb_ta : wc.heap.size ≠ wa.heap.size := H.ne 3 2 rfl rfl (by decide)
  clear hbe hF
  go_wp2_with fail
  refine (hF' _).mono ?_
  rintro e1 wl ⟨rfl, hbf⟩
  replace H : Mem (w) [] (wl) [.blk (w.heap.size) 23 #[.int .i64 e, .int .i64 f, .int .i64 g, .int .i64 h], .blk (w.heap.size + 1) 23 #[.int .i64 e', .int .i64 f', .int .i64 g', .int .i64 h'], .blk (wa.heap.size) 24 #[.int .i64 (cls : Int), .int .i64 (id : Int), .int .i64 (am : Int), .int .i64 (tag : Int)], .blk (wc.heap.size) 24 #[.int .i64 (cls' : Int), .int .i64 (id' : Int), .int .i64 (am' : Int), .int .i64 (tag' : Int)]] := Mem.call H hbf
  clear rx0 rxf0 rx1 rxf1 rx2 rxf2 rx3 rxf3 rxlt ry0 ryf0 ry1 ryf1 ry2 ryf2 ry3 ryf3 rylt ta0 taf0 ta1 taf1 ta2 taf2 ta3 taf3 talt tb0 tbf0 tb1 tbf1 tb2 tbf2 tb3 tbf3 tblt ne_rx_ry ne_rx_ta ne_rx_tb ne_ry_rx ne_ry_ta ne_ry_tb ne_ta_rx ne_ta_ry ne_ta_tb ne_tb_rx ne_tb_ry ne_tb_ta
  have rx0 : (wl).cell? ⟨w.heap.size, 0, none⟩ = some (.int .i64 e) := (H.blk 0 rfl).cell 0
  have rxf0 : (wl).frozen? ⟨w.heap.size, 0, none⟩ = false := (H.blk 0 rfl).frozen 0
  have rx1 : (wl).cell? ⟨w.heap.size, 1, none⟩ = some (.int .i64 f) := (H.blk 0 rfl).cell 1
  have rxf1 : (wl).frozen? ⟨w.heap.size, 1, none⟩ = false := (H.blk 0 rfl).frozen 1
  have rx2 : (wl).cell? ⟨w.heap.size, 2, none⟩ = some (.int .i64 g) := (H.blk 0 rfl).cell 2
  have rxf2 : (wl).frozen? ⟨w.heap.size, 2, none⟩ = false := (H.blk 0 rfl).frozen 2
  have rx3 : (wl).cell? ⟨w.heap.size, 3, none⟩ = some (.int .i64 h) := (H.blk 0 rfl).cell 3
  have rxf3 : (wl).frozen? ⟨w.heap.size, 3, none⟩ = false := (H.blk 0 rfl).frozen 3
  have rxlt : w.heap.size < (wl).heap.size := H.lt 0 rfl
  have ry0 : (wl).cell? ⟨w.heap.size + 1, 0, none⟩ = some (.int .i64 e') := (H.blk 1 rfl).cell 0
  have ryf0 : (wl).frozen? ⟨w.heap.size + 1, 0, none⟩ = false := (H.blk 1 rfl).frozen 0
  have ry1 : (wl).cell? ⟨w.heap.size + 1, 1, none⟩ = some (.int .i64 f') := (H.blk 1 rfl).cell 1
  have ryf1 : (wl).frozen? ⟨w.heap.size + 1, 1, none⟩ = false := (H.blk 1 rfl).frozen 1
  have ry2 : (wl).cell? ⟨w.heap.size + 1, 2, none⟩ = some (.int .i64 g') := (H.blk 1 rfl).cell 2
  have ryf2 : (wl).frozen? ⟨w.heap.size + 1, 2, none⟩ = false := (H.blk 1 rfl).frozen 2
  have ry3 : (wl).cell? ⟨w.heap.size + 1, 3, none⟩ = some (.int .i64 h') := (H.blk 1 rfl).cell 3
  have ryf3 : (wl).frozen? ⟨w.heap.size + 1, 3, none⟩ = false := (H.blk 1 rfl).frozen 3
  have rylt : w.heap.size + 1 < (wl).heap.size := H.lt 1 rfl
  have ta0 : (wl).cell? ⟨wa.heap.size, 0, none⟩ = some (.int .i64 (cls : Int)) := (H.blk 2 rfl).cell 0
  have taf0 : (wl).frozen? ⟨wa.heap.size, 0, none⟩ = false := (H.blk 2 rfl).frozen 0
  have ta1 : (wl).cell? ⟨wa.heap.size, 1, none⟩ = some (.int .i64 (id : Int)) := (H.blk 2 rfl).cell 1
  have taf1 : (wl).frozen? ⟨wa.heap.size, 1, none⟩ = false := (H.blk 2 rfl).frozen 1
  have ta2 : (wl).cell? ⟨wa.heap.size, 2, none⟩ = some (.int .i64 (am : Int)) := (H.blk 2 rfl).cell 2
  have taf2 : (wl).frozen? ⟨wa.heap.size, 2, none⟩ = false := (H.blk 2 rfl).frozen 2
  have ta3 : (wl).cell? ⟨wa.heap.size, 3, none⟩ = some (.int .i64 (tag : Int)) := (H.blk 2 rfl).cell 3
  have taf3 : (wl).frozen? ⟨wa.heap.size, 3, none⟩ = false := (H.blk 2 rfl).frozen 3
  have talt : wa.heap.size < (wl).heap.size := H.lt 2 rfl
  have tb0 : (wl).cell? ⟨wc.heap.size, 0, none⟩ = some (.int .i64 (cls' : Int)) := (H.blk 3 rfl).cell 0
  have tbf0 : (wl).frozen? ⟨wc.heap.size, 0, none⟩ = false := (H.blk 3 rfl).frozen 0
  have tb1 : (wl).cell? ⟨wc.heap.size, 1, none⟩ = some (.int .i64 (id' : Int)) := (H.blk 3 rfl).cell 1
  have tbf1 : (wl).frozen? ⟨wc.heap.size, 1, none⟩ = false := (H.blk 3 rfl).frozen 1
  have tb2 : (wl).cell? ⟨wc.heap.size, 2, none⟩ = some (.int .i64 (am' : Int)) := (H.blk 3 rfl).cell 2
  have tbf2 : (wl).frozen? ⟨wc.heap.size, 2, none⟩ = false := (H.blk 3 rfl).frozen 2
  have tb3 : (wl).cell? ⟨wc.heap.size, 3, none⟩ = some (.int .i64 (tag' : Int)) := (H.blk 3 rfl).cell 3
  have tbf3 : (wl).frozen? ⟨wc.heap.size, 3, none⟩ = false := (H.blk 3 rfl).frozen 3
  have tblt : wc.heap.size < (wl).heap.size := H.lt 3 rfl
  have ne_rx_ry : w.heap.size ≠ w.heap.size + 1 := H.ne 0 1 rfl rfl (by decide)
  have ne_rx_ta : w.heap.size ≠ wa.heap.size := H.ne 0 2 rfl rfl (by decide)
  have ne_rx_tb : w.heap.size ≠ wc.heap.size := H.ne 0 3 rfl rfl (by decide)
  have ne_ry_rx : w.heap.size + 1 ≠ w.heap.size := H.ne 1 0 rfl rfl (by decide)
  have ne_ry_ta : w.heap.size + 1 ≠ wa.heap.size := H.ne 1 2 rfl rfl (by decide)
  have ne_ry_tb : w.heap.size + 1 ≠ wc.heap.size := H.ne 1 3 rfl rfl (by decide)
  have ne_ta_rx : wa.heap.size ≠ w.heap.size := H.ne 2 0 rfl rfl (by decide)
  have ne_ta_ry : wa.heap.size ≠ w.heap.size + 1 := H.ne 2 1 rfl rfl (by decide)
  have ne_ta_tb : wa.heap.size ≠ wc.heap.size := H.ne 2 3 rfl rfl (by decide)
  have ne_tb_rx : wc.heap.size ≠ w.heap.size := H.ne 3 0 rfl rfl (by decide)
  have ne_tb_ry : wc.heap.size ≠ w.heap.size + 1 := H.ne 3 1 rfl rfl (by decide)
  have ne_tb_ta : wc.heap.size ≠ wa.heap.size := H.ne 3 2 rfl rfl (by decide)
  clear hbf hF'
  go_wp2_with fail
  refine (hB _).mono ?_
  rintro e1 wm ⟨rfl, hbg⟩
  replace H : Mem (w) [] (wm) [.blk (w.heap.size) 23 #[.int .i64 e, .int .i64 f, .int .i64 g, .int .i64 h], .blk (w.heap.size + 1) 23 #[.int .i64 e', .int .i64 f', .int .i64 g', .int .i64 h'], .blk (wa.heap.size) 24 #[.int .i64 (cls : Int), .int .i64 (id : Int), .int .i64 (am : Int), .int .i64 (tag : Int)], .blk (wc.heap.size) 24 #[.int .i64 (cls' : Int), .int .i64 (id' : Int), .int .i64 (am' : Int), .int .i64 (tag' : Int)]] := Mem.call H hbg
  clear rx0 rxf0 rx1 rxf1 rx2 rxf2 rx3 rxf3 rxlt ry0 ryf0 ry1 ryf1 ry2 ryf2 ry3 ryf3 rylt ta0 taf0 ta1 taf1 ta2 taf2 ta3 taf3 talt tb0 tbf0 tb1 tbf1 tb2 tbf2 tb3 tbf3 tblt ne_rx_ry ne_rx_ta ne_rx_tb ne_ry_rx ne_ry_ta ne_ry_tb ne_ta_rx ne_ta_ry ne_ta_tb ne_tb_rx ne_tb_ry ne_tb_ta
  have rx0 : (wm).cell? ⟨w.heap.size, 0, none⟩ = some (.int .i64 e) := (H.blk 0 rfl).cell 0
  have rxf0 : (wm).frozen? ⟨w.heap.size, 0, none⟩ = false := (H.blk 0 rfl).frozen 0
  have rx1 : (wm).cell? ⟨w.heap.size, 1, none⟩ = some (.int .i64 f) := (H.blk 0 rfl).cell 1
  have rxf1 : (wm).frozen? ⟨w.heap.size, 1, none⟩ = false := (H.blk 0 rfl).frozen 1
  have rx2 : (wm).cell? ⟨w.heap.size, 2, none⟩ = some (.int .i64 g) := (H.blk 0 rfl).cell 2
  have rxf2 : (wm).frozen? ⟨w.heap.size, 2, none⟩ = false := (H.blk 0 rfl).frozen 2
  have rx3 : (wm).cell? ⟨w.heap.size, 3, none⟩ = some (.int .i64 h) := (H.blk 0 rfl).cell 3
  have rxf3 : (wm).frozen? ⟨w.heap.size, 3, none⟩ = false := (H.blk 0 rfl).frozen 3
  have rxlt : w.heap.size < (wm).heap.size := H.lt 0 rfl
  have ry0 : (wm).cell? ⟨w.heap.size + 1, 0, none⟩ = some (.int .i64 e') := (H.blk 1 rfl).cell 0
  have ryf0 : (wm).frozen? ⟨w.heap.size + 1, 0, none⟩ = false := (H.blk 1 rfl).frozen 0
  have ry1 : (wm).cell? ⟨w.heap.size + 1, 1, none⟩ = some (.int .i64 f') := (H.blk 1 rfl).cell 1
  have ryf1 : (wm).frozen? ⟨w.heap.size + 1, 1, none⟩ = false := (H.blk 1 rfl).frozen 1
  have ry2 : (wm).cell? ⟨w.heap.size + 1, 2, none⟩ = some (.int .i64 g') := (H.blk 1 rfl).cell 2
  have ryf2 : (wm).frozen? ⟨w.heap.size + 1, 2, none⟩ = false := (H.blk 1 rfl).frozen 2
  have ry3 : (wm).cell? ⟨w.heap.size + 1, 3, none⟩ = some (.int .i64 h') := (H.blk 1 rfl).cell 3
  have ryf3 : (wm).frozen? ⟨w.heap.size + 1, 3, none⟩ = false := (H.blk 1 rfl).frozen 3
  have rylt : w.heap.size + 1 < (wm).heap.size := H.lt 1 rfl
  have ta0 : (wm).cell? ⟨wa.heap.size, 0, none⟩ = some (.int .i64 (cls : Int)) := (H.blk 2 rfl).cell 0
  have taf0 : (wm).frozen? ⟨wa.heap.size, 0, none⟩ = false := (H.blk 2 rfl).frozen 0
  have ta1 : (wm).cell? ⟨wa.heap.size, 1, none⟩ = some (.int .i64 (id : Int)) := (H.blk 2 rfl).cell 1
  have taf1 : (wm).frozen? ⟨wa.heap.size, 1, none⟩ = false := (H.blk 2 rfl).frozen 1
  have ta2 : (wm).cell? ⟨wa.heap.size, 2, none⟩ = some (.int .i64 (am : Int)) := (H.blk 2 rfl).cell 2
  have taf2 : (wm).frozen? ⟨wa.heap.size, 2, none⟩ = false := (H.blk 2 rfl).frozen 2
  have ta3 : (wm).cell? ⟨wa.heap.size, 3, none⟩ = some (.int .i64 (tag : Int)) := (H.blk 2 rfl).cell 3
  have taf3 : (wm).frozen? ⟨wa.heap.size, 3, none⟩ = false := (H.blk 2 rfl).frozen 3
  have talt : wa.heap.size < (wm).heap.size := H.lt 2 rfl
  have tb0 : (wm).cell? ⟨wc.heap.size, 0, none⟩ = some (.int .i64 (cls' : Int)) := (H.blk 3 rfl).cell 0
  have tbf0 : (wm).frozen? ⟨wc.heap.size, 0, none⟩ = false := (H.blk 3 rfl).frozen 0
  have tb1 : (wm).cell? ⟨wc.heap.size, 1, none⟩ = some (.int .i64 (id' : Int)) := (H.blk 3 rfl).cell 1
  have tbf1 : (wm).frozen? ⟨wc.heap.size, 1, none⟩ = false := (H.blk 3 rfl).frozen 1
  have tb2 : (wm).cell? ⟨wc.heap.size, 2, none⟩ = some (.int .i64 (am' : Int)) := (H.blk 3 rfl).cell 2
  have tbf2 : (wm).frozen? ⟨wc.heap.size, 2, none⟩ = false := (H.blk 3 rfl).frozen 2
  have tb3 : (wm).cell? ⟨wc.heap.size, 3, none⟩ = some (.int .i64 (tag' : Int)) := (H.blk 3 rfl).cell 3
  have tbf3 : (wm).frozen? ⟨wc.heap.size, 3, none⟩ = false := (H.blk 3 rfl).frozen 3
  have tblt : wc.heap.size < (wm).heap.size := H.lt 3 rfl
  have ne_rx_ry : w.heap.size ≠ w.heap.size + 1 := H.ne 0 1 rfl rfl (by decide)
  have ne_rx_ta : w.heap.size ≠ wa.heap.size := H.ne 0 2 rfl rfl (by decide)
  have ne_rx_tb : w.heap.size ≠ wc.heap.size := H.ne 0 3 rfl rfl (by decide)
  have ne_ry_rx : w.heap.size + 1 ≠ w.heap.size := H.ne 1 0 rfl rfl (by decide)
  have ne_ry_ta : w.heap.size + 1 ≠ wa.heap.size := H.ne 1 2 rfl rfl (by decide)
  have ne_ry_tb : w.heap.size + 1 ≠ wc.heap.size := H.ne 1 3 rfl rfl (by decide)
  have ne_ta_rx : wa.heap.size ≠ w.heap.size := H.ne 2 0 rfl rfl (by decide)
  have ne_ta_ry : wa.heap.size ≠ w.heap.size + 1 := H.ne 2 1 rfl rfl (by decide)
  have ne_ta_tb : wa.heap.size ≠ wc.heap.size := H.ne 2 3 rfl rfl (by decide)
  have ne_tb_rx : wc.heap.size ≠ w.heap.size := H.ne 3 0 rfl rfl (by decide)
  have ne_tb_ry : wc.heap.size ≠ w.heap.size + 1 := H.ne 3 1 rfl rfl (by decide)
  have ne_tb_ta : wc.heap.size ≠ wa.heap.size := H.ne 3 2 rfl rfl (by decide)
  clear hbg hB
  go_wp2_with fail
  refine (hB' _).mono ?_
  rintro e1 wn ⟨rfl, hbh⟩
  replace H : Mem (w) [] (wn) [.blk (w.heap.size) 23 #[.int .i64 e, .int .i64 f, .int .i64 g, .int .i64 h], .blk (w.heap.size + 1) 23 #[.int .i64 e', .int .i64 f', .int .i64 g', .int .i64 h'], .blk (wa.heap.size) 24 #[.int .i64 (cls : Int), .int .i64 (id : Int), .int .i64 (am : Int), .int .i64 (tag : Int)], .blk (wc.heap.size) 24 #[.int .i64 (cls' : Int), .int .i64 (id' : Int), .int .i64 (am' : Int), .int .i64 (tag' : Int)]] := Mem.call H hbh
  clear rx0 rxf0 rx1 rxf1 rx2 rxf2 rx3 rxf3 rxlt ry0 ryf0 ry1 ryf1 ry2 ryf2 ry3 ryf3 rylt ta0 taf0 ta1 taf1 ta2 taf2 ta3 taf3 talt tb0 tbf0 tb1 tbf1 tb2 tbf2 tb3 tbf3 tblt ne_rx_ry ne_rx_ta ne_rx_tb ne_ry_rx ne_ry_ta ne_ry_tb ne_ta_rx ne_ta_ry ne_ta_tb ne_tb_rx ne_tb_ry ne_tb_ta
  have rx0 : (wn).cell? ⟨w.heap.size, 0, none⟩ = some (.int .i64 e) := (H.blk 0 rfl).cell 0
  have rxf0 : (wn).frozen? ⟨w.heap.size, 0, none⟩ = false := (H.blk 0 rfl).frozen 0
  have rx1 : (wn).cell? ⟨w.heap.size, 1, none⟩ = some (.int .i64 f) := (H.blk 0 rfl).cell 1
  have rxf1 : (wn).frozen? ⟨w.heap.size, 1, none⟩ = false := (H.blk 0 rfl).frozen 1
  have rx2 : (wn).cell? ⟨w.heap.size, 2, none⟩ = some (.int .i64 g) := (H.blk 0 rfl).cell 2
  have rxf2 : (wn).frozen? ⟨w.heap.size, 2, none⟩ = false := (H.blk 0 rfl).frozen 2
  have rx3 : (wn).cell? ⟨w.heap.size, 3, none⟩ = some (.int .i64 h) := (H.blk 0 rfl).cell 3
  have rxf3 : (wn).frozen? ⟨w.heap.size, 3, none⟩ = false := (H.blk 0 rfl).frozen 3
  have rxlt : w.heap.size < (wn).heap.size := H.lt 0 rfl
  have ry0 : (wn).cell? ⟨w.heap.size + 1, 0, none⟩ = some (.int .i64 e') := (H.blk 1 rfl).cell 0
  have ryf0 : (wn).frozen? ⟨w.heap.size + 1, 0, none⟩ = false := (H.blk 1 rfl).frozen 0
  have ry1 : (wn).cell? ⟨w.heap.size + 1, 1, none⟩ = some (.int .i64 f') := (H.blk 1 rfl).cell 1
  have ryf1 : (wn).frozen? ⟨w.heap.size + 1, 1, none⟩ = false := (H.blk 1 rfl).frozen 1
  have ry2 : (wn).cell? ⟨w.heap.size + 1, 2, none⟩ = some (.int .i64 g') := (H.blk 1 rfl).cell 2
  have ryf2 : (wn).frozen? ⟨w.heap.size + 1, 2, none⟩ = false := (H.blk 1 rfl).frozen 2
  have ry3 : (wn).cell? ⟨w.heap.size + 1, 3, none⟩ = some (.int .i64 h') := (H.blk 1 rfl).cell 3
  have ryf3 : (wn).frozen? ⟨w.heap.size + 1, 3, none⟩ = false := (H.blk 1 rfl).frozen 3
  have rylt : w.heap.size + 1 < (wn).heap.size := H.lt 1 rfl
  have ta0 : (wn).cell? ⟨wa.heap.size, 0, none⟩ = some (.int .i64 (cls : Int)) := (H.blk 2 rfl).cell 0
  have taf0 : (wn).frozen? ⟨wa.heap.size, 0, none⟩ = false := (H.blk 2 rfl).frozen 0
  have ta1 : (wn).cell? ⟨wa.heap.size, 1, none⟩ = some (.int .i64 (id : Int)) := (H.blk 2 rfl).cell 1
  have taf1 : (wn).frozen? ⟨wa.heap.size, 1, none⟩ = false := (H.blk 2 rfl).frozen 1
  have ta2 : (wn).cell? ⟨wa.heap.size, 2, none⟩ = some (.int .i64 (am : Int)) := (H.blk 2 rfl).cell 2
  have taf2 : (wn).frozen? ⟨wa.heap.size, 2, none⟩ = false := (H.blk 2 rfl).frozen 2
  have ta3 : (wn).cell? ⟨wa.heap.size, 3, none⟩ = some (.int .i64 (tag : Int)) := (H.blk 2 rfl).cell 3
  have taf3 : (wn).frozen? ⟨wa.heap.size, 3, none⟩ = false := (H.blk 2 rfl).frozen 3
  have talt : wa.heap.size < (wn).heap.size := H.lt 2 rfl
  have tb0 : (wn).cell? ⟨wc.heap.size, 0, none⟩ = some (.int .i64 (cls' : Int)) := (H.blk 3 rfl).cell 0
  have tbf0 : (wn).frozen? ⟨wc.heap.size, 0, none⟩ = false := (H.blk 3 rfl).frozen 0
  have tb1 : (wn).cell? ⟨wc.heap.size, 1, none⟩ = some (.int .i64 (id' : Int)) := (H.blk 3 rfl).cell 1
  have tbf1 : (wn).frozen? ⟨wc.heap.size, 1, none⟩ = false := (H.blk 3 rfl).frozen 1
  have tb2 : (wn).cell? ⟨wc.heap.size, 2, none⟩ = some (.int .i64 (am' : Int)) := (H.blk 3 rfl).cell 2
  have tbf2 : (wn).frozen? ⟨wc.heap.size, 2, none⟩ = false := (H.blk 3 rfl).frozen 2
  have tb3 : (wn).cell? ⟨wc.heap.size, 3, none⟩ = some (.int .i64 (tag' : Int)) := (H.blk 3 rfl).cell 3
  have tbf3 : (wn).frozen? ⟨wc.heap.size, 3, none⟩ = false := (H.blk 3 rfl).frozen 3
  have tblt : wc.heap.size < (wn).heap.size := H.lt 3 rfl
  have ne_rx_ry : w.heap.size ≠ w.heap.size + 1 := H.ne 0 1 rfl rfl (by decide)
  have ne_rx_ta : w.heap.size ≠ wa.heap.size := H.ne 0 2 rfl rfl (by decide)
  have ne_rx_tb : w.heap.size ≠ wc.heap.size := H.ne 0 3 rfl rfl (by decide)
  have ne_ry_rx : w.heap.size + 1 ≠ w.heap.size := H.ne 1 0 rfl rfl (by decide)
  have ne_ry_ta : w.heap.size + 1 ≠ wa.heap.size := H.ne 1 2 rfl rfl (by decide)
  have ne_ry_tb : w.heap.size + 1 ≠ wc.heap.size := H.ne 1 3 rfl rfl (by decide)
  have ne_ta_rx : wa.heap.size ≠ w.heap.size := H.ne 2 0 rfl rfl (by decide)
  have ne_ta_ry : wa.heap.size ≠ w.heap.size + 1 := H.ne 2 1 rfl rfl (by decide)
  have ne_ta_tb : wa.heap.size ≠ wc.heap.size := H.ne 2 3 rfl rfl (by decide)
  have ne_tb_rx : wc.heap.size ≠ w.heap.size := H.ne 3 0 rfl rfl (by decide)
  have ne_tb_ry : wc.heap.size ≠ w.heap.size + 1 := H.ne 3 1 rfl rfl (by decide)
  have ne_tb_ta : wc.heap.size ≠ wa.heap.size := H.ne 3 2 rfl rfl (by decide)
  clear hbh hB'
  go_wp2_with fail
  obtain ⟨wi, hwi⟩ : ∃ wi, (wn).setCell ⟨wc.heap.size, 3, none⟩ (.int .i64 (tag : Int)) = wi := ⟨_, rfl⟩
  replace H : Mem (w) [] _ [.blk (w.heap.size) 23 #[.int .i64 e, .int .i64 f, .int .i64 g, .int .i64 h], .blk (w.heap.size + 1) 23 #[.int .i64 e', .int .i64 f', .int .i64 g', .int .i64 h'], .blk (wa.heap.size) 24 #[.int .i64 (cls : Int), .int .i64 (id : Int), .int .i64 (am : Int), .int .i64 (tag : Int)], .blk (wc.heap.size) 24 #[.int .i64 (cls' : Int), .int .i64 (id' : Int), .int .i64 (am' : Int), .int .i64 (tag : Int)]] := Mem.set 3 H rfl 3 (.int .i64 (tag : Int))
  rw [hwi] at H ⊢
  clear hwi
  clear rx0 rxf0 rx1 rxf1 rx2 rxf2 rx3 rxf3 rxlt ry0 ryf0 ry1 ryf1 ry2 ryf2 ry3 ryf3 rylt ta0 taf0 ta1 taf1 ta2 taf2 ta3 taf3 talt tb0 tbf0 tb1 tbf1 tb2 tbf2 tb3 tbf3 tblt ne_rx_ry ne_rx_ta ne_rx_tb ne_ry_rx ne_ry_ta ne_ry_tb ne_ta_rx ne_ta_ry ne_ta_tb ne_tb_rx ne_tb_ry ne_tb_ta
  have rx0 : (wi).cell? ⟨w.heap.size, 0, none⟩ = some (.int .i64 e) := (H.blk 0 rfl).cell 0
  have rxf0 : (wi).frozen? ⟨w.heap.size, 0, none⟩ = false := (H.blk 0 rfl).frozen 0
  have rx1 : (wi).cell? ⟨w.heap.size, 1, none⟩ = some (.int .i64 f) := (H.blk 0 rfl).cell 1
  have rxf1 : (wi).frozen? ⟨w.heap.size, 1, none⟩ = false := (H.blk 0 rfl).frozen 1
  have rx2 : (wi).cell? ⟨w.heap.size, 2, none⟩ = some (.int .i64 g) := (H.blk 0 rfl).cell 2
  have rxf2 : (wi).frozen? ⟨w.heap.size, 2, none⟩ = false := (H.blk 0 rfl).frozen 2
  have rx3 : (wi).cell? ⟨w.heap.size, 3, none⟩ = some (.int .i64 h) := (H.blk 0 rfl).cell 3
  have rxf3 : (wi).frozen? ⟨w.heap.size, 3, none⟩ = false := (H.blk 0 rfl).frozen 3
  have rxlt : w.heap.size < (wi).heap.size := H.lt 0 rfl
  have ry0 : (wi).cell? ⟨w.heap.size + 1, 0, none⟩ = some (.int .i64 e') := (H.blk 1 rfl).cell 0
  have ryf0 : (wi).frozen? ⟨w.heap.size + 1, 0, none⟩ = false := (H.blk 1 rfl).frozen 0
  have ry1 : (wi).cell? ⟨w.heap.size + 1, 1, none⟩ = some (.int .i64 f') := (H.blk 1 rfl).cell 1
  have ryf1 : (wi).frozen? ⟨w.heap.size + 1, 1, none⟩ = false := (H.blk 1 rfl).frozen 1
  have ry2 : (wi).cell? ⟨w.heap.size + 1, 2, none⟩ = some (.int .i64 g') := (H.blk 1 rfl).cell 2
  have ryf2 : (wi).frozen? ⟨w.heap.size + 1, 2, none⟩ = false := (H.blk 1 rfl).frozen 2
  have ry3 : (wi).cell? ⟨w.heap.size + 1, 3, none⟩ = some (.int .i64 h') := (H.blk 1 rfl).cell 3
  have ryf3 : (wi).frozen? ⟨w.heap.size + 1, 3, none⟩ = false := (H.blk 1 rfl).frozen 3
  have rylt : w.heap.size + 1 < (wi).heap.size := H.lt 1 rfl
  have ta0 : (wi).cell? ⟨wa.heap.size, 0, none⟩ = some (.int .i64 (cls : Int)) := (H.blk 2 rfl).cell 0
  have taf0 : (wi).frozen? ⟨wa.heap.size, 0, none⟩ = false := (H.blk 2 rfl).frozen 0
  have ta1 : (wi).cell? ⟨wa.heap.size, 1, none⟩ = some (.int .i64 (id : Int)) := (H.blk 2 rfl).cell 1
  have taf1 : (wi).frozen? ⟨wa.heap.size, 1, none⟩ = false := (H.blk 2 rfl).frozen 1
  have ta2 : (wi).cell? ⟨wa.heap.size, 2, none⟩ = some (.int .i64 (am : Int)) := (H.blk 2 rfl).cell 2
  have taf2 : (wi).frozen? ⟨wa.heap.size, 2, none⟩ = false := (H.blk 2 rfl).frozen 2
  have ta3 : (wi).cell? ⟨wa.heap.size, 3, none⟩ = some (.int .i64 (tag : Int)) := (H.blk 2 rfl).cell 3
  have taf3 : (wi).frozen? ⟨wa.heap.size, 3, none⟩ = false := (H.blk 2 rfl).frozen 3
  have talt : wa.heap.size < (wi).heap.size := H.lt 2 rfl
  have tb0 : (wi).cell? ⟨wc.heap.size, 0, none⟩ = some (.int .i64 (cls' : Int)) := (H.blk 3 rfl).cell 0
  have tbf0 : (wi).frozen? ⟨wc.heap.size, 0, none⟩ = false := (H.blk 3 rfl).frozen 0
  have tb1 : (wi).cell? ⟨wc.heap.size, 1, none⟩ = some (.int .i64 (id' : Int)) := (H.blk 3 rfl).cell 1
  have tbf1 : (wi).frozen? ⟨wc.heap.size, 1, none⟩ = false := (H.blk 3 rfl).frozen 1
  have tb2 : (wi).cell? ⟨wc.heap.size, 2, none⟩ = some (.int .i64 (am' : Int)) := (H.blk 3 rfl).cell 2
  have tbf2 : (wi).frozen? ⟨wc.heap.size, 2, none⟩ = false := (H.blk 3 rfl).frozen 2
  have tb3 : (wi).cell? ⟨wc.heap.size, 3, none⟩ = some (.int .i64 (tag : Int)) := (H.blk 3 rfl).cell 3
  have tbf3 : (wi).frozen? ⟨wc.heap.size, 3, none⟩ = false := (H.blk 3 rfl).frozen 3
  have tblt : wc.heap.size < (wi).heap.size := H.lt 3 rfl
  have ne_rx_ry : w.heap.size ≠ w.heap.size + 1 := H.ne 0 1 rfl rfl (by decide)
  have ne_rx_ta : w.heap.size ≠ wa.heap.size := H.ne 0 2 rfl rfl (by decide)
  have ne_rx_tb : w.heap.size ≠ wc.heap.size := H.ne 0 3 rfl rfl (by decide)
  have ne_ry_rx : w.heap.size + 1 ≠ w.heap.size := H.ne 1 0 rfl rfl (by decide)
  have ne_ry_ta : w.heap.size + 1 ≠ wa.heap.size := H.ne 1 2 rfl rfl (by decide)
  have ne_ry_tb : w.heap.size + 1 ≠ wc.heap.size := H.ne 1 3 rfl rfl (by decide)
  have ne_ta_rx : wa.heap.size ≠ w.heap.size := H.ne 2 0 rfl rfl (by decide)
  have ne_ta_ry : wa.heap.size ≠ w.heap.size + 1 := H.ne 2 1 rfl rfl (by decide)
  have ne_ta_tb : wa.heap.size ≠ wc.heap.size := H.ne 2 3 rfl rfl (by decide)
  have ne_tb_rx : wc.heap.size ≠ w.heap.size := H.ne 3 0 rfl rfl (by decide)
  have ne_tb_ry : wc.heap.size ≠ w.heap.size + 1 := H.ne 3 1 rfl rfl (by decide)
  have ne_tb_ta : wc.heap.size ≠ wa.heap.size := H.ne 3 2 rfl rfl (by decide)
  have hD : Below wi.heap.size wi wi.drew := below_draws (Below.refl _ _) 1
  have hSb := HS.out
  have hB1 := HB.out
  have hE1 := fun W => tok_eqN cls id am tag cls' id' am' tag' W
  have hE2 := fun W => tok_eqN cls id am tag cls' id' am' tag W
  rcases H3H.out with ⟨r1, r2, r3, r4⟩ | ⟨⟨r1, r2, r3⟩, r4⟩ | r1
  · rw [decide_eq_true ⟨r1, r2, r3, r4⟩] at hSb hE1
    rw [decide_eq_true ⟨r1, r2, r3, rfl⟩] at hE2
    have hnm : ((n : Int) == (m : Int)) = true := by have := hB1.2 ⟨r1, r2, r3⟩; simp; omega
    clear hB1 r1 r2 r3 r4 H3H HS HB
    go_region_held3 (fun w' => w'.cell? ⟨w.heap.size, 0, none⟩ = some (.int .i64 e) ∧ w'.cell? ⟨w.heap.size, 1, none⟩ = some (.int .i64 f) ∧ w'.cell? ⟨w.heap.size, 2, none⟩ = some (.int .i64 g) ∧ w'.cell? ⟨w.heap.size, 3, none⟩ = some (.int .i64 h) ∧ w'.cell? ⟨w.heap.size + 1, 0, none⟩ = some (.int .i64 e') ∧ w'.cell? ⟨w.heap.size + 1, 1, none⟩ = some (.int .i64 f') ∧ w'.cell? ⟨w.heap.size + 1, 2, none⟩ = some (.int .i64 g') ∧ w'.cell? ⟨w.heap.size + 1, 3, none⟩ = some (.int .i64 h') ∧ w'.cell? ⟨wa.heap.size, 0, none⟩ = some (.int .i64 (cls : Int)) ∧ w'.cell? ⟨wa.heap.size, 1, none⟩ = some (.int .i64 (id : Int)) ∧ w'.cell? ⟨wa.heap.size, 2, none⟩ = some (.int .i64 (am : Int)) ∧ w'.cell? ⟨wa.heap.size, 3, none⟩ = some (.int .i64 (tag : Int)) ∧ w'.cell? ⟨wc.heap.size, 0, none⟩ = some (.int .i64 (cls' : Int)) ∧ w'.cell? ⟨wc.heap.size, 1, none⟩ = some (.int .i64 (id' : Int)) ∧ w'.cell? ⟨wc.heap.size, 2, none⟩ = some (.int .i64 (am' : Int)) ∧ w'.cell? ⟨wc.heap.size, 3, none⟩ = some (.int .i64 (tag : Int))) (first | go_keep | fail) (first | (go_at_call 4; (with_reducible refine (made_fix wi _ (by first | exact hD | exact hbx | exact hby) we wf wg wh hcls hv).mono ?_); rintro e1 wx ⟨rfl, hbx⟩; have c0 := (hbx.cell (p := ⟨w.heap.size, 0, none⟩) rxlt).trans rx0; have c1 := (hbx.cell (p := ⟨w.heap.size, 1, none⟩) rxlt).trans rx1; have c2 := (hbx.cell (p := ⟨w.heap.size, 2, none⟩) rxlt).trans rx2; have c3 := (hbx.cell (p := ⟨w.heap.size, 3, none⟩) rxlt).trans rx3; have c4 := (hbx.cell (p := ⟨w.heap.size + 1, 0, none⟩) rylt).trans ry0; have c5 := (hbx.cell (p := ⟨w.heap.size + 1, 1, none⟩) rylt).trans ry1; have c6 := (hbx.cell (p := ⟨w.heap.size + 1, 2, none⟩) rylt).trans ry2; have c7 := (hbx.cell (p := ⟨w.heap.size + 1, 3, none⟩) rylt).trans ry3; have c8 := (hbx.cell (p := ⟨wa.heap.size, 0, none⟩) talt).trans ta0; have c9 := (hbx.cell (p := ⟨wa.heap.size, 1, none⟩) talt).trans ta1; have c10 := (hbx.cell (p := ⟨wa.heap.size, 2, none⟩) talt).trans ta2; have c11 := (hbx.cell (p := ⟨wa.heap.size, 3, none⟩) talt).trans ta3; have c12 := (hbx.cell (p := ⟨wc.heap.size, 0, none⟩) tblt).trans tb0; have c13 := (hbx.cell (p := ⟨wc.heap.size, 1, none⟩) tblt).trans tb1; have c14 := (hbx.cell (p := ⟨wc.heap.size, 2, none⟩) tblt).trans tb2; have c15 := (hbx.cell (p := ⟨wc.heap.size, 3, none⟩) tblt).trans tb3) | (go_at_call 4; (with_reducible refine (made_fix wi _ (by first | exact hD | exact hbx | exact hby) we' wf' wg' wh' hcls' hv').mono ?_); rintro e1 wy ⟨rfl, hby⟩; have c0 := (hby.cell (p := ⟨w.heap.size, 0, none⟩) rxlt).trans rx0; have c1 := (hby.cell (p := ⟨w.heap.size, 1, none⟩) rxlt).trans rx1; have c2 := (hby.cell (p := ⟨w.heap.size, 2, none⟩) rxlt).trans rx2; have c3 := (hby.cell (p := ⟨w.heap.size, 3, none⟩) rxlt).trans rx3; have c4 := (hby.cell (p := ⟨w.heap.size + 1, 0, none⟩) rylt).trans ry0; have c5 := (hby.cell (p := ⟨w.heap.size + 1, 1, none⟩) rylt).trans ry1; have c6 := (hby.cell (p := ⟨w.heap.size + 1, 2, none⟩) rylt).trans ry2; have c7 := (hby.cell (p := ⟨w.heap.size + 1, 3, none⟩) rylt).trans ry3; have c8 := (hby.cell (p := ⟨wa.heap.size, 0, none⟩) talt).trans ta0; have c9 := (hby.cell (p := ⟨wa.heap.size, 1, none⟩) talt).trans ta1; have c10 := (hby.cell (p := ⟨wa.heap.size, 2, none⟩) talt).trans ta2; have c11 := (hby.cell (p := ⟨wa.heap.size, 3, none⟩) talt).trans ta3; have c12 := (hby.cell (p := ⟨wc.heap.size, 0, none⟩) tblt).trans tb0; have c13 := (hby.cell (p := ⟨wc.heap.size, 1, none⟩) tblt).trans tb1; have c14 := (hby.cell (p := ⟨wc.heap.size, 2, none⟩) tblt).trans tb2; have c15 := (hby.cell (p := ⟨wc.heap.size, 3, none⟩) tblt).trans tb3))
    all_goals
      go_wp2
      go_ret
      exact ⟨rfl, by first | exact (H.call hbx).below | exact (H.call hby).below⟩
  · rw [decide_eq_false (fun q => r4 q.2.2.2)] at hSb hE1
    rw [decide_eq_true ⟨r1, r2, r3, rfl⟩] at hE2
    have hnm : ((n : Int) == (m : Int)) = true := by have := hB1.2 ⟨r1, r2, r3⟩; simp; omega
    clear hB1 r1 r2 r3 r4 H3H HS HB
    go_region_held3 (fun w' => w'.cell? ⟨w.heap.size, 0, none⟩ = some (.int .i64 e) ∧ w'.cell? ⟨w.heap.size, 1, none⟩ = some (.int .i64 f) ∧ w'.cell? ⟨w.heap.size, 2, none⟩ = some (.int .i64 g) ∧ w'.cell? ⟨w.heap.size, 3, none⟩ = some (.int .i64 h) ∧ w'.cell? ⟨w.heap.size + 1, 0, none⟩ = some (.int .i64 e') ∧ w'.cell? ⟨w.heap.size + 1, 1, none⟩ = some (.int .i64 f') ∧ w'.cell? ⟨w.heap.size + 1, 2, none⟩ = some (.int .i64 g') ∧ w'.cell? ⟨w.heap.size + 1, 3, none⟩ = some (.int .i64 h') ∧ w'.cell? ⟨wa.heap.size, 0, none⟩ = some (.int .i64 (cls : Int)) ∧ w'.cell? ⟨wa.heap.size, 1, none⟩ = some (.int .i64 (id : Int)) ∧ w'.cell? ⟨wa.heap.size, 2, none⟩ = some (.int .i64 (am : Int)) ∧ w'.cell? ⟨wa.heap.size, 3, none⟩ = some (.int .i64 (tag : Int)) ∧ w'.cell? ⟨wc.heap.size, 0, none⟩ = some (.int .i64 (cls' : Int)) ∧ w'.cell? ⟨wc.heap.size, 1, none⟩ = some (.int .i64 (id' : Int)) ∧ w'.cell? ⟨wc.heap.size, 2, none⟩ = some (.int .i64 (am' : Int)) ∧ w'.cell? ⟨wc.heap.size, 3, none⟩ = some (.int .i64 (tag : Int))) (first | go_keep | fail) (first | (go_at_call 4; (with_reducible refine (made_fix wi _ (by first | exact hD | exact hbx | exact hby) we wf wg wh hcls hv).mono ?_); rintro e1 wx ⟨rfl, hbx⟩; have c0 := (hbx.cell (p := ⟨w.heap.size, 0, none⟩) rxlt).trans rx0; have c1 := (hbx.cell (p := ⟨w.heap.size, 1, none⟩) rxlt).trans rx1; have c2 := (hbx.cell (p := ⟨w.heap.size, 2, none⟩) rxlt).trans rx2; have c3 := (hbx.cell (p := ⟨w.heap.size, 3, none⟩) rxlt).trans rx3; have c4 := (hbx.cell (p := ⟨w.heap.size + 1, 0, none⟩) rylt).trans ry0; have c5 := (hbx.cell (p := ⟨w.heap.size + 1, 1, none⟩) rylt).trans ry1; have c6 := (hbx.cell (p := ⟨w.heap.size + 1, 2, none⟩) rylt).trans ry2; have c7 := (hbx.cell (p := ⟨w.heap.size + 1, 3, none⟩) rylt).trans ry3; have c8 := (hbx.cell (p := ⟨wa.heap.size, 0, none⟩) talt).trans ta0; have c9 := (hbx.cell (p := ⟨wa.heap.size, 1, none⟩) talt).trans ta1; have c10 := (hbx.cell (p := ⟨wa.heap.size, 2, none⟩) talt).trans ta2; have c11 := (hbx.cell (p := ⟨wa.heap.size, 3, none⟩) talt).trans ta3; have c12 := (hbx.cell (p := ⟨wc.heap.size, 0, none⟩) tblt).trans tb0; have c13 := (hbx.cell (p := ⟨wc.heap.size, 1, none⟩) tblt).trans tb1; have c14 := (hbx.cell (p := ⟨wc.heap.size, 2, none⟩) tblt).trans tb2; have c15 := (hbx.cell (p := ⟨wc.heap.size, 3, none⟩) tblt).trans tb3) | (go_at_call 4; (with_reducible refine (made_fix wi _ (by first | exact hD | exact hbx | exact hby) we' wf' wg' wh' hcls' hv').mono ?_); rintro e1 wy ⟨rfl, hby⟩; have c0 := (hby.cell (p := ⟨w.heap.size, 0, none⟩) rxlt).trans rx0; have c1 := (hby.cell (p := ⟨w.heap.size, 1, none⟩) rxlt).trans rx1; have c2 := (hby.cell (p := ⟨w.heap.size, 2, none⟩) rxlt).trans rx2; have c3 := (hby.cell (p := ⟨w.heap.size, 3, none⟩) rxlt).trans rx3; have c4 := (hby.cell (p := ⟨w.heap.size + 1, 0, none⟩) rylt).trans ry0; have c5 := (hby.cell (p := ⟨w.heap.size + 1, 1, none⟩) rylt).trans ry1; have c6 := (hby.cell (p := ⟨w.heap.size + 1, 2, none⟩) rylt).trans ry2; have c7 := (hby.cell (p := ⟨w.heap.size + 1, 3, none⟩) rylt).trans ry3; have c8 := (hby.cell (p := ⟨wa.heap.size, 0, none⟩) talt).trans ta0; have c9 := (hby.cell (p := ⟨wa.heap.size, 1, none⟩) talt).trans ta1; have c10 := (hby.cell (p := ⟨wa.heap.size, 2, none⟩) talt).trans ta2; have c11 := (hby.cell (p := ⟨wa.heap.size, 3, none⟩) talt).trans ta3; have c12 := (hby.cell (p := ⟨wc.heap.size, 0, none⟩) tblt).trans tb0; have c13 := (hby.cell (p := ⟨wc.heap.size, 1, none⟩) tblt).trans tb1; have c14 := (hby.cell (p := ⟨wc.heap.size, 2, none⟩) tblt).trans tb2; have c15 := (hby.cell (p := ⟨wc.heap.size, 3, none⟩) tblt).trans tb3))
    all_goals
      go_wp2
      go_ret
      exact ⟨rfl, by first | exact (H.call hbx).below | exact (H.call hby).below⟩
  · rw [decide_eq_false (fun q => r1 ⟨q.1, q.2.1, q.2.2.1⟩)] at hSb hE1 hE2
    have hnm : ((n : Int) == (m : Int)) = false := by
      simp only [beq_eq_false_iff_ne, ne_eq]
      exact fun q => r1 (hB1.1 (by omega))
    clear hB1 r1 H3H HS HB
    go_region_held3 (fun w' => w'.cell? ⟨w.heap.size, 0, none⟩ = some (.int .i64 e) ∧ w'.cell? ⟨w.heap.size, 1, none⟩ = some (.int .i64 f) ∧ w'.cell? ⟨w.heap.size, 2, none⟩ = some (.int .i64 g) ∧ w'.cell? ⟨w.heap.size, 3, none⟩ = some (.int .i64 h) ∧ w'.cell? ⟨w.heap.size + 1, 0, none⟩ = some (.int .i64 e') ∧ w'.cell? ⟨w.heap.size + 1, 1, none⟩ = some (.int .i64 f') ∧ w'.cell? ⟨w.heap.size + 1, 2, none⟩ = some (.int .i64 g') ∧ w'.cell? ⟨w.heap.size + 1, 3, none⟩ = some (.int .i64 h') ∧ w'.cell? ⟨wa.heap.size, 0, none⟩ = some (.int .i64 (cls : Int)) ∧ w'.cell? ⟨wa.heap.size, 1, none⟩ = some (.int .i64 (id : Int)) ∧ w'.cell? ⟨wa.heap.size, 2, none⟩ = some (.int .i64 (am : Int)) ∧ w'.cell? ⟨wa.heap.size, 3, none⟩ = some (.int .i64 (tag : Int)) ∧ w'.cell? ⟨wc.heap.size, 0, none⟩ = some (.int .i64 (cls' : Int)) ∧ w'.cell? ⟨wc.heap.size, 1, none⟩ = some (.int .i64 (id' : Int)) ∧ w'.cell? ⟨wc.heap.size, 2, none⟩ = some (.int .i64 (am' : Int)) ∧ w'.cell? ⟨wc.heap.size, 3, none⟩ = some (.int .i64 (tag : Int))) (first | go_keep | fail) (first | (go_at_call 4; (with_reducible refine (made_fix wi _ (by first | exact hD | exact hbx | exact hby) we wf wg wh hcls hv).mono ?_); rintro e1 wx ⟨rfl, hbx⟩; have c0 := (hbx.cell (p := ⟨w.heap.size, 0, none⟩) rxlt).trans rx0; have c1 := (hbx.cell (p := ⟨w.heap.size, 1, none⟩) rxlt).trans rx1; have c2 := (hbx.cell (p := ⟨w.heap.size, 2, none⟩) rxlt).trans rx2; have c3 := (hbx.cell (p := ⟨w.heap.size, 3, none⟩) rxlt).trans rx3; have c4 := (hbx.cell (p := ⟨w.heap.size + 1, 0, none⟩) rylt).trans ry0; have c5 := (hbx.cell (p := ⟨w.heap.size + 1, 1, none⟩) rylt).trans ry1; have c6 := (hbx.cell (p := ⟨w.heap.size + 1, 2, none⟩) rylt).trans ry2; have c7 := (hbx.cell (p := ⟨w.heap.size + 1, 3, none⟩) rylt).trans ry3; have c8 := (hbx.cell (p := ⟨wa.heap.size, 0, none⟩) talt).trans ta0; have c9 := (hbx.cell (p := ⟨wa.heap.size, 1, none⟩) talt).trans ta1; have c10 := (hbx.cell (p := ⟨wa.heap.size, 2, none⟩) talt).trans ta2; have c11 := (hbx.cell (p := ⟨wa.heap.size, 3, none⟩) talt).trans ta3; have c12 := (hbx.cell (p := ⟨wc.heap.size, 0, none⟩) tblt).trans tb0; have c13 := (hbx.cell (p := ⟨wc.heap.size, 1, none⟩) tblt).trans tb1; have c14 := (hbx.cell (p := ⟨wc.heap.size, 2, none⟩) tblt).trans tb2; have c15 := (hbx.cell (p := ⟨wc.heap.size, 3, none⟩) tblt).trans tb3) | (go_at_call 4; (with_reducible refine (made_fix wi _ (by first | exact hD | exact hbx | exact hby) we' wf' wg' wh' hcls' hv').mono ?_); rintro e1 wy ⟨rfl, hby⟩; have c0 := (hby.cell (p := ⟨w.heap.size, 0, none⟩) rxlt).trans rx0; have c1 := (hby.cell (p := ⟨w.heap.size, 1, none⟩) rxlt).trans rx1; have c2 := (hby.cell (p := ⟨w.heap.size, 2, none⟩) rxlt).trans rx2; have c3 := (hby.cell (p := ⟨w.heap.size, 3, none⟩) rxlt).trans rx3; have c4 := (hby.cell (p := ⟨w.heap.size + 1, 0, none⟩) rylt).trans ry0; have c5 := (hby.cell (p := ⟨w.heap.size + 1, 1, none⟩) rylt).trans ry1; have c6 := (hby.cell (p := ⟨w.heap.size + 1, 2, none⟩) rylt).trans ry2; have c7 := (hby.cell (p := ⟨w.heap.size + 1, 3, none⟩) rylt).trans ry3; have c8 := (hby.cell (p := ⟨wa.heap.size, 0, none⟩) talt).trans ta0; have c9 := (hby.cell (p := ⟨wa.heap.size, 1, none⟩) talt).trans ta1; have c10 := (hby.cell (p := ⟨wa.heap.size, 2, none⟩) talt).trans ta2; have c11 := (hby.cell (p := ⟨wa.heap.size, 3, none⟩) talt).trans ta3; have c12 := (hby.cell (p := ⟨wc.heap.size, 0, none⟩) tblt).trans tb0; have c13 := (hby.cell (p := ⟨wc.heap.size, 1, none⟩) tblt).trans tb1; have c14 := (hby.cell (p := ⟨wc.heap.size, 2, none⟩) tblt).trans tb2; have c15 := (hby.cell (p := ⟨wc.heap.size, 3, none⟩) tblt).trans tb3))
    all_goals
      go_wp2
      go_ret
      exact ⟨rfl, by first | exact (H.call hbx).below | exact (H.call hby).below⟩
end Go.Proofs.Ytlkigihghpcglaa
