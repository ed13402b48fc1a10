/- The walk of the law TokenSlip. -/
import Derived.Test.YtlkigihghpcglaaDoorTokL
namespace Go.Proofs.YtlkigihghpcglaaDoor
open Go.RowKit
set_option linter.unusedVariables false
set_option maxRecDepth 100000 in
set_option maxHeartbeats 2000000 in
theorem walk_tokenSlip (w : World) (a0 : Value) (w0 : Fit Tryd.prog w 51 a0) (a1 : Int) (w1 : (Lit.int .i64 a1).wf = true) (a2 : Int) (w2 : (Lit.int .i64 a2).wf = true) :
    Calls Tryd.prog 10 #[a0, .int .i64 a1, .int .i64 a2] w fun e w' => e = .returned (.bool true) ∧ Below w.heap.size w w' := by
  obtain ⟨e, f, g, h, rfl, we, wf, wg, wh⟩ := raw_open w0
  obtain ⟨cls, hcls, hc4⟩ := pk_natI e 4 (by omega)
  have hM := fun W => made_ok e f g h cls W we wf wg wh hcls
  clear w0 hc4
  have H := Mem.init w
  obtain ⟨W0, hW0⟩ : ∃ W0, (w).alloc (.cells #[.int .i64 e, .int .i64 f, .int .i64 g, .int .i64 h] 51) = W0 := ⟨_, rfl⟩
  replace H : Mem (w) [] _ [.blk (w.heap.size) 51 #[.int .i64 e, .int .i64 f, .int .i64 g, .int .i64 h]] := Mem.alloc H (w.heap.size) (by first | (simp; done) | (simp; omega)) #[.int .i64 e, .int .i64 f, .int .i64 g, .int .i64 h] 51
  rw [hW0] at H
  have rx0 : (W0).cell? ⟨w.heap.size, 0, none⟩ = some (.int .i64 e) := (H.blk 0 rfl).cell 0
  have rxf0 : (W0).frozen? ⟨w.heap.size, 0, none⟩ = false := (H.blk 0 rfl).frozen 0
  have rx1 : (W0).cell? ⟨w.heap.size, 1, none⟩ = some (.int .i64 f) := (H.blk 0 rfl).cell 1
  have rxf1 : (W0).frozen? ⟨w.heap.size, 1, none⟩ = false := (H.blk 0 rfl).frozen 1
  have rx2 : (W0).cell? ⟨w.heap.size, 2, none⟩ = some (.int .i64 g) := (H.blk 0 rfl).cell 2
  have rxf2 : (W0).frozen? ⟨w.heap.size, 2, none⟩ = false := (H.blk 0 rfl).frozen 2
  have rx3 : (W0).cell? ⟨w.heap.size, 3, none⟩ = some (.int .i64 h) := (H.blk 0 rfl).cell 3
  have rxf3 : (W0).frozen? ⟨w.heap.size, 3, none⟩ = false := (H.blk 0 rfl).frozen 3
  have rxlt : w.heap.size < (W0).heap.size := H.lt 0 rfl
  go_enter Tryd.func10, Tryd.ntmps10
  go_wp2_with fail
  refine (hM _).mono ?_
  rintro e1 wa ⟨id, am, tag, rfl, hk, hba⟩
  replace H : Mem (w) [] (wa) [.blk (w.heap.size) 51 #[.int .i64 e, .int .i64 f, .int .i64 g, .int .i64 h]] := Mem.call H hba
  clear rx0 rxf0 rx1 rxf1 rx2 rxf2 rx3 rxf3 rxlt
  have rx0 : (wa).cell? ⟨w.heap.size, 0, none⟩ = some (.int .i64 e) := (H.blk 0 rfl).cell 0
  have rxf0 : (wa).frozen? ⟨w.heap.size, 0, none⟩ = false := (H.blk 0 rfl).frozen 0
  have rx1 : (wa).cell? ⟨w.heap.size, 1, none⟩ = some (.int .i64 f) := (H.blk 0 rfl).cell 1
  have rxf1 : (wa).frozen? ⟨w.heap.size, 1, none⟩ = false := (H.blk 0 rfl).frozen 1
  have rx2 : (wa).cell? ⟨w.heap.size, 2, none⟩ = some (.int .i64 g) := (H.blk 0 rfl).cell 2
  have rxf2 : (wa).frozen? ⟨w.heap.size, 2, none⟩ = false := (H.blk 0 rfl).frozen 2
  have rx3 : (wa).cell? ⟨w.heap.size, 3, none⟩ = some (.int .i64 h) := (H.blk 0 rfl).cell 3
  have rxf3 : (wa).frozen? ⟨w.heap.size, 3, none⟩ = false := (H.blk 0 rfl).frozen 3
  have rxlt : w.heap.size < (wa).heap.size := H.lt 0 rfl
  clear hba hW0
  have hF := fun W => format_ok cls id am tag W hk
  have hlen := tokD_len hk
  have hle := tokD_le cls id am tag
  have hrs := tokD_rest cls id am tag
  have hsz := dstr_size (tokD cls id am tag)
  rw [tokD_len hk] at hsz
  obtain ⟨l, hl⟩ : ∃ l, tokD cls id am tag = l := ⟨_, rfl⟩
  rw [hl] at hF hsz hlen hle hrs
  clear hl hk hM
  have hSl := fun W => slipped_ok l a1 a2 W (by omega) (by omega) hle w1 w2
  go_wp2_with fail
  refine (hF _).mono ?_
  rintro e1 wc ⟨rfl, hbc⟩
  replace H : Mem (w) [] (wc) [.blk (w.heap.size) 51 #[.int .i64 e, .int .i64 f, .int .i64 g, .int .i64 h]] := Mem.call H hbc
  clear rx0 rxf0 rx1 rxf1 rx2 rxf2 rx3 rxf3 rxlt
  clear hbc hF
  have HL := Lib.hid (show l.length = 20 ∧ (∀ d ∈ l, d ≤ 9) ∧ rest97 l = 0 from ⟨hlen, hle, hrs⟩)
  clear hlen hle hrs
  go_wp2_with fail
  refine (hSl _).mono ?_
  rintro e1 wd ⟨i, d, hi, hd, hne, rfl, hbd⟩
  replace H : Mem (w) [] (wd) [.blk (w.heap.size) 51 #[.int .i64 e, .int .i64 f, .int .i64 g, .int .i64 h]] := Mem.call H hbd
  obtain ⟨hlen, hle, hrs⟩ := HL.out
  have hno : val10 (l.set i d) % 97 ≠ 0 := rest_ne hrs (fun h => by
    obtain ⟨p, q, h1, h2⟩ := set_parts (d := d) hi
    rw [h2] at h
    conv at h => lhs; rw [h1]
    exact hne (rest97_slip (hle _ (List.getElem_mem _)) hd h).symm)
  have hlen2 : (l.set i d).length = 20 := by rw [List.length_set, hlen]
  have hle2 := set_le hle hd (i := i)
  obtain ⟨m, hm⟩ : ∃ m, l.set i d = m := ⟨_, rfl⟩
  rw [hm] at hno hlen2 hle2 ⊢
  have hPs := parseS_no hno
  clear hbd hSl hm hne hd hi hlen hle hrs hno HL
  rcases hPs with hR | hR
  all_goals
    have hP := fun W => parse_ok m W hle2 hlen2 _ _ _ _ _ (Lib.hid hR)
    clear hR hle2 hlen2
    go_wp2_with fail
    refine (hP _).mono ?_
    rintro e1 we ⟨rfl, hbe⟩
    replace H := H.call hbe
    clear hbe hP
    go_wp2
    go_ret
    exact ⟨rfl, H.call (below_a1 _ _) |>.below⟩
end Go.Proofs.YtlkigihghpcglaaDoor
