/- The walk of the law TokenSwap. -/
import Derived.Test.YtlkigihghpcglaaDoorTokL
namespace Go.Proofs.YtlkigihghpcglaaDoor
open Go.RowKit
set_option linter.unusedVariables false
set_option maxRecDepth 100000 in
set_option maxHeartbeats 2000000 in
theorem walk_tokenSwap (w : World) (a0 : Value) (w0 : Fit Tryd.prog w 51 a0) (a1 : Int) (w1 : (Lit.int .i64 a1).wf = true) (a2 : Int) (w2 : (Lit.int .i64 a2).wf = true) :
    Calls Tryd.prog 11 #[a0, .int .i64 a1, .int .i64 a2] w fun e w' => e = .returned (.bool true) ∧ Below w.heap.size w w' := by
  obtain ⟨e, f, g, h, rfl, we, wf, wg, wh⟩ := raw_open w0
  obtain ⟨cls, hcls, hc4⟩ := pk_natI e 4 (by omega)
  have hM := fun W => made_is e f g h cls W we wf wg wh hcls
  clear w0 hc4
  have H := Mem.init w
  obtain ⟨W0, hW0⟩ : ∃ W0, (w).alloc (.cells #[.int .i64 e, .int .i64 f, .int .i64 g, .int .i64 h] 51) = W0 := ⟨_, rfl⟩
  replace H : Mem (w) [] _ [.blk (w.heap.size) 51 #[.int .i64 e, .int .i64 f, .int .i64 g, .int .i64 h]] := Mem.alloc H (w.heap.size) (by first | (simp; done) | (simp; omega)) #[.int .i64 e, .int .i64 f, .int .i64 g, .int .i64 h] 51
  rw [hW0] at H
  have rx0 : (W0).cell? ⟨w.heap.size, 0, none⟩ = some (.int .i64 e) := (H.blk 0 rfl).cell 0
  have rxf0 : (W0).frozen? ⟨w.heap.size, 0, none⟩ = false := (H.blk 0 rfl).frozen 0
  have rx1 : (W0).cell? ⟨w.heap.size, 1, none⟩ = some (.int .i64 f) := (H.blk 0 rfl).cell 1
  have rxf1 : (W0).frozen? ⟨w.heap.size, 1, none⟩ = false := (H.blk 0 rfl).frozen 1
  have rx2 : (W0).cell? ⟨w.heap.size, 2, none⟩ = some (.int .i64 g) := (H.blk 0 rfl).cell 2
  have rxf2 : (W0).frozen? ⟨w.heap.size, 2, none⟩ = false := (H.blk 0 rfl).frozen 2
  have rx3 : (W0).cell? ⟨w.heap.size, 3, none⟩ = some (.int .i64 h) := (H.blk 0 rfl).cell 3
  have rxf3 : (W0).frozen? ⟨w.heap.size, 3, none⟩ = false := (H.blk 0 rfl).frozen 3
  have rxlt : w.heap.size < (W0).heap.size := H.lt 0 rfl
  obtain ⟨p, hp, hp2⟩ := pk_natI a2 2 (by omega)
  obtain ⟨far, hfar⟩ : ∃ far : Nat, (1 : Int) + (p : Int) = (far : Int) := ⟨1 + p, by omega⟩
  have hf2 : far = 1 ∨ far = 2 := by omega
  have hfw : IntKind.i64.wrap (1 + (p : Int)) = (far : Int) := by rw [hfar]; exact IntWalk.i64_in _ (by omega)
  have hfp := Lib.hid hfar
  have Hf2 := Lib.hid hf2
  have hp1 : (p : Int) ≤ 1 := by omega
  clear hf2 hp2
  go_enter Tryd.func11, Tryd.ntmps11
  go_wp2_with fail
  refine (hM _).mono ?_
  rintro e1 wa ⟨id, am, tag, rfl, hk, hmv, hba⟩
  replace H : Mem (w) [] (wa) [.blk (w.heap.size) 51 #[.int .i64 e, .int .i64 f, .int .i64 g, .int .i64 h]] := Mem.call H hba
  clear rx0 rxf0 rx1 rxf1 rx2 rxf2 rx3 rxf3 rxlt
  have rx0 : (wa).cell? ⟨w.heap.size, 0, none⟩ = some (.int .i64 e) := (H.blk 0 rfl).cell 0
  have rxf0 : (wa).frozen? ⟨w.heap.size, 0, none⟩ = false := (H.blk 0 rfl).frozen 0
  have rx1 : (wa).cell? ⟨w.heap.size, 1, none⟩ = some (.int .i64 f) := (H.blk 0 rfl).cell 1
  have rxf1 : (wa).frozen? ⟨w.heap.size, 1, none⟩ = false := (H.blk 0 rfl).frozen 1
  have rx2 : (wa).cell? ⟨w.heap.size, 2, none⟩ = some (.int .i64 g) := (H.blk 0 rfl).cell 2
  have rxf2 : (wa).frozen? ⟨w.heap.size, 2, none⟩ = false := (H.blk 0 rfl).frozen 2
  have rx3 : (wa).cell? ⟨w.heap.size, 3, none⟩ = some (.int .i64 h) := (H.blk 0 rfl).cell 3
  have rxf3 : (wa).frozen? ⟨w.heap.size, 3, none⟩ = false := (H.blk 0 rfl).frozen 3
  have rxlt : w.heap.size < (wa).heap.size := H.lt 0 rfl
  clear hba hW0
  have hF := fun W => format_ok cls id am tag W hk
  have hlen := tokD_len hk
  have hle := tokD_le cls id am tag
  have hrs := tokD_rest cls id am tag
  have hsz := dstr_size (tokD cls id am tag)
  rw [tokD_len hk] at hsz
  obtain ⟨l, hl⟩ : ∃ l, tokD cls id am tag = l := ⟨_, rfl⟩
  have hPg := fun W => parse_ok (tokD cls id am tag) W (tokD_le _ _ _ _) (tokD_len hk) cls id am tag 0 (Lib.hid (by rw [val_tokD]; exact parseS_tok hk))
  rw [hl] at hF hsz hlen hle hrs hPg
  clear hl
  have hSw := fun W => swapped_ok l a1 far W (by have := Hf2.out; omega) (by have := Hf2.out; omega) (by omega) w1
  go_wp2_with fail
  refine (hF _).mono ?_
  rintro e1 wc ⟨rfl, hbc⟩
  replace H : Mem (w) [] (wc) [.blk (w.heap.size) 51 #[.int .i64 e, .int .i64 f, .int .i64 g, .int .i64 h]] := Mem.call H hbc
  clear rx0 rxf0 rx1 rxf1 rx2 rxf2 rx3 rxf3 rxlt
  have rx0 : (wc).cell? ⟨w.heap.size, 0, none⟩ = some (.int .i64 e) := (H.blk 0 rfl).cell 0
  have rxf0 : (wc).frozen? ⟨w.heap.size, 0, none⟩ = false := (H.blk 0 rfl).frozen 0
  have rx1 : (wc).cell? ⟨w.heap.size, 1, none⟩ = some (.int .i64 f) := (H.blk 0 rfl).cell 1
  have rxf1 : (wc).frozen? ⟨w.heap.size, 1, none⟩ = false := (H.blk 0 rfl).frozen 1
  have rx2 : (wc).cell? ⟨w.heap.size, 2, none⟩ = some (.int .i64 g) := (H.blk 0 rfl).cell 2
  have rxf2 : (wc).frozen? ⟨w.heap.size, 2, none⟩ = false := (H.blk 0 rfl).frozen 2
  have rx3 : (wc).cell? ⟨w.heap.size, 3, none⟩ = some (.int .i64 h) := (H.blk 0 rfl).cell 3
  have rxf3 : (wc).frozen? ⟨w.heap.size, 3, none⟩ = false := (H.blk 0 rfl).frozen 3
  have rxlt : w.heap.size < (wc).heap.size := H.lt 0 rfl
  clear hbc hF
  have HL := Lib.hid (show l.length = 20 ∧ (∀ d ∈ l, d ≤ 9) ∧ rest97 l = 0 from ⟨hlen, hle, hrs⟩)
  clear hlen hle hrs
  have HK := Lib.hid hk
  clear hk
  go_wp2_with (go_at_call 17; (with_reducible refine (picked_is _ hp w2 (by omega) (by omega)).mono ?_); rintro e1 w' ⟨rfl, rfl⟩)
  refine (hSw _).mono ?_
  rintro e1 wd ⟨i, hi, rfl, hbd⟩
  replace H : Mem (w) [] (wd) [.blk (w.heap.size) 51 #[.int .i64 e, .int .i64 f, .int .i64 g, .int .i64 h]] := Mem.call H hbd
  clear rx0 rxf0 rx1 rxf1 rx2 rxf2 rx3 rxf3 rxlt
  have rx0 : (wd).cell? ⟨w.heap.size, 0, none⟩ = some (.int .i64 e) := (H.blk 0 rfl).cell 0
  have rxf0 : (wd).frozen? ⟨w.heap.size, 0, none⟩ = false := (H.blk 0 rfl).frozen 0
  have rx1 : (wd).cell? ⟨w.heap.size, 1, none⟩ = some (.int .i64 f) := (H.blk 0 rfl).cell 1
  have rxf1 : (wd).frozen? ⟨w.heap.size, 1, none⟩ = false := (H.blk 0 rfl).frozen 1
  have rx2 : (wd).cell? ⟨w.heap.size, 2, none⟩ = some (.int .i64 g) := (H.blk 0 rfl).cell 2
  have rxf2 : (wd).frozen? ⟨w.heap.size, 2, none⟩ = false := (H.blk 0 rfl).frozen 2
  have rx3 : (wd).cell? ⟨w.heap.size, 3, none⟩ = some (.int .i64 h) := (H.blk 0 rfl).cell 3
  have rxf3 : (wd).frozen? ⟨w.heap.size, 3, none⟩ = false := (H.blk 0 rfl).frozen 3
  have rxlt : w.heap.size < (wd).heap.size := H.lt 0 rfl
  obtain ⟨hlen, hle, hrs⟩ := HL.out
  have hlen2 : (swp l i far).length = 20 := by rw [swp_length (by have := Hf2.out; omega) hi, hlen]
  have hle2 : ∀ d ∈ swp l i far, d ≤ 9 := fun d hd => hle d (swp_mem hd)

  by_cases hsame : swp l i far = l
  · rw [hsame]
    have hsl : ((dstr l).toList == (dstr l).toList) = true := by simp
    clear hbd hSw hlen hle hrs HL hlen2 hle2 hsame hi
    go_wp2_with fail
    refine (hPg _).mono ?_
    rintro e1 we ⟨rfl, hbe⟩
    replace H : Mem (w) [] (we) [.blk (w.heap.size) 51 #[.int .i64 e, .int .i64 f, .int .i64 g, .int .i64 h]] := Mem.call H hbe
    clear rx0 rxf0 rx1 rxf1 rx2 rxf2 rx3 rxf3 rxlt
    have rx0 : (we).cell? ⟨w.heap.size, 0, none⟩ = some (.int .i64 e) := (H.blk 0 rfl).cell 0
    have rxf0 : (we).frozen? ⟨w.heap.size, 0, none⟩ = false := (H.blk 0 rfl).frozen 0
    have rx1 : (we).cell? ⟨w.heap.size, 1, none⟩ = some (.int .i64 f) := (H.blk 0 rfl).cell 1
    have rxf1 : (we).frozen? ⟨w.heap.size, 1, none⟩ = false := (H.blk 0 rfl).frozen 1
    have rx2 : (we).cell? ⟨w.heap.size, 2, none⟩ = some (.int .i64 g) := (H.blk 0 rfl).cell 2
    have rxf2 : (we).frozen? ⟨w.heap.size, 2, none⟩ = false := (H.blk 0 rfl).frozen 2
    have rx3 : (we).cell? ⟨w.heap.size, 3, none⟩ = some (.int .i64 h) := (H.blk 0 rfl).cell 3
    have rxf3 : (we).frozen? ⟨w.heap.size, 3, none⟩ = false := (H.blk 0 rfl).frozen 3
    have rxlt : w.heap.size < (we).heap.size := H.lt 0 rfl
    clear hbe hPg
    go_wp2_with fail
    obtain ⟨wf, hwf⟩ : ∃ wf, (we).alloc (.cells #[.int .i64 (cls : Int), .int .i64 (id : Int), .int .i64 (am : Int), .int .i64 (tag : Int)] 52) = wf := ⟨_, rfl⟩
    replace H : Mem (w) [] _ [.blk (w.heap.size) 51 #[.int .i64 e, .int .i64 f, .int .i64 g, .int .i64 h], .blk (we.heap.size) 52 #[.int .i64 (cls : Int), .int .i64 (id : Int), .int .i64 (am : Int), .int .i64 (tag : Int)]] := Mem.alloc H (we.heap.size) (by first | (simp; done) | (simp; omega)) #[.int .i64 (cls : Int), .int .i64 (id : Int), .int .i64 (am : Int), .int .i64 (tag : Int)] 52
    rw [hwf] at H ⊢
    clear hwf
    clear rx0 rxf0 rx1 rxf1 rx2 rxf2 rx3 rxf3 rxlt
    have rx0 : (wf).cell? ⟨w.heap.size, 0, none⟩ = some (.int .i64 e) := (H.blk 0 rfl).cell 0
    have rxf0 : (wf).frozen? ⟨w.heap.size, 0, none⟩ = false := (H.blk 0 rfl).frozen 0
    have rx1 : (wf).cell? ⟨w.heap.size, 1, none⟩ = some (.int .i64 f) := (H.blk 0 rfl).cell 1
    have rxf1 : (wf).frozen? ⟨w.heap.size, 1, none⟩ = false := (H.blk 0 rfl).frozen 1
    have rx2 : (wf).cell? ⟨w.heap.size, 2, none⟩ = some (.int .i64 g) := (H.blk 0 rfl).cell 2
    have rxf2 : (wf).frozen? ⟨w.heap.size, 2, none⟩ = false := (H.blk 0 rfl).frozen 2
    have rx3 : (wf).cell? ⟨w.heap.size, 3, none⟩ = some (.int .i64 h) := (H.blk 0 rfl).cell 3
    have rxf3 : (wf).frozen? ⟨w.heap.size, 3, none⟩ = false := (H.blk 0 rfl).frozen 3
    have rxlt : w.heap.size < (wf).heap.size := H.lt 0 rfl
    have tk0 : (wf).cell? ⟨we.heap.size, 0, none⟩ = some (.int .i64 (cls : Int)) := (H.blk 1 rfl).cell 0
    have tkf0 : (wf).frozen? ⟨we.heap.size, 0, none⟩ = false := (H.blk 1 rfl).frozen 0
    have tk1 : (wf).cell? ⟨we.heap.size, 1, none⟩ = some (.int .i64 (id : Int)) := (H.blk 1 rfl).cell 1
    have tkf1 : (wf).frozen? ⟨we.heap.size, 1, none⟩ = false := (H.blk 1 rfl).frozen 1
    have tk2 : (wf).cell? ⟨we.heap.size, 2, none⟩ = some (.int .i64 (am : Int)) := (H.blk 1 rfl).cell 2
    have tkf2 : (wf).frozen? ⟨we.heap.size, 2, none⟩ = false := (H.blk 1 rfl).frozen 2
    have tk3 : (wf).cell? ⟨we.heap.size, 3, none⟩ = some (.int .i64 (tag : Int)) := (H.blk 1 rfl).cell 3
    have tkf3 : (wf).frozen? ⟨we.heap.size, 3, none⟩ = false := (H.blk 1 rfl).frozen 3
    have tklt : we.heap.size < (wf).heap.size := H.lt 1 rfl
    have ne_rx_tk : w.heap.size ≠ we.heap.size := H.ne 0 1 rfl rfl (by decide)
    have ne_tk_rx : we.heap.size ≠ w.heap.size := H.ne 1 0 rfl rfl (by decide)
    have hEq := fun W => tok_same (cls : Int) (id : Int) (am : Int) (tag : Int) W
    go_region_held3 (fun w' => w'.cell? ⟨w.heap.size, 0, none⟩ = some (.int .i64 e) ∧ w'.cell? ⟨w.heap.size, 1, none⟩ = some (.int .i64 f) ∧ w'.cell? ⟨w.heap.size, 2, none⟩ = some (.int .i64 g) ∧ w'.cell? ⟨w.heap.size, 3, none⟩ = some (.int .i64 h) ∧ w'.cell? ⟨we.heap.size, 0, none⟩ = some (.int .i64 (cls : Int)) ∧ w'.cell? ⟨we.heap.size, 1, none⟩ = some (.int .i64 (id : Int)) ∧ w'.cell? ⟨we.heap.size, 2, none⟩ = some (.int .i64 (am : Int)) ∧ w'.cell? ⟨we.heap.size, 3, none⟩ = some (.int .i64 (tag : Int))) (first | go_keep | fail) ((go_at_call 24; (with_reducible refine (hM _).mono ?_); rintro e1 wg ⟨id2, am2, tag2, rfl, _, hmv2, hbg⟩; obtain ⟨rfl, rfl, rfl⟩ := madeV_eq hmv.out hmv2.out; have c0 := (hbg.cell (p := ⟨w.heap.size, 0, none⟩) rxlt).trans rx0; have c1 := (hbg.cell (p := ⟨w.heap.size, 1, none⟩) rxlt).trans rx1; have c2 := (hbg.cell (p := ⟨w.heap.size, 2, none⟩) rxlt).trans rx2; have c3 := (hbg.cell (p := ⟨w.heap.size, 3, none⟩) rxlt).trans rx3; have c4 := (hbg.cell (p := ⟨we.heap.size, 0, none⟩) tklt).trans tk0; have c5 := (hbg.cell (p := ⟨we.heap.size, 1, none⟩) tklt).trans tk1; have c6 := (hbg.cell (p := ⟨we.heap.size, 2, none⟩) tklt).trans tk2; have c7 := (hbg.cell (p := ⟨we.heap.size, 3, none⟩) tklt).trans tk3))
    replace H : Mem (w) [] (wg) [.blk (w.heap.size) 51 #[.int .i64 e, .int .i64 f, .int .i64 g, .int .i64 h], .blk (we.heap.size) 52 #[.int .i64 (cls : Int), .int .i64 (id : Int), .int .i64 (am : Int), .int .i64 (tag : Int)]] := Mem.call (Mem.drew H) hbg
    clear rx0 rxf0 rx1 rxf1 rx2 rxf2 rx3 rxf3 rxlt tk0 tkf0 tk1 tkf1 tk2 tkf2 tk3 tkf3 tklt ne_rx_tk ne_tk_rx
    go_wp2
    go_ret
    exact ⟨rfl, by first | exact H.below | exact (H.call (below_a1 _ _)).below | exact (H.call (below_a2 _ _ _)).below⟩
  · skip
    have hsl : ((dstr (swp l i far)).toList == (dstr l).toList) = false := by
      rw [str_beq]; simp only [decide_eq_false_iff_not]
      exact fun h => hsame (dstr_inj hle2 hle h)
    have hno : val10 (swp l i far) % 97 ≠ 0 := rest_ne hrs (fun h => hsame (swp_same hle Hf2.out hi h))
    obtain ⟨m, hm⟩ : ∃ m, swp l i far = m := ⟨_, rfl⟩
    rw [hm] at hno hlen2 hle2 hsl ⊢
    have hPs := parseS_no hno
    clear hbd hSw hm hi hlen hle hrs hno HL hsame hPg
    rcases hPs with hR | hR
    all_goals
      have hP := fun W => parse_ok m W hle2 hlen2 _ _ _ _ _ (Lib.hid hR)
      clear hR hle2 hlen2
      go_wp2_with fail
      refine (hP _).mono ?_
      rintro e1 we ⟨rfl, hbe⟩
      replace H := H.call hbe
      clear hbe hP
      go_wp2
      go_ret
      exact ⟨rfl, by first | exact H.below | exact (H.call (below_a1 _ _)).below⟩
end Go.Proofs.YtlkigihghpcglaaDoor
