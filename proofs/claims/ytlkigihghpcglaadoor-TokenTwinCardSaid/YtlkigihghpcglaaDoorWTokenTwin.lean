/- The walk of the law TokenTwin. -/
import Derived.Test.YtlkigihghpcglaaDoorTokL
namespace Go.Proofs.YtlkigihghpcglaaDoor
open Go.RowKit
set_option linter.unusedVariables false
set_option maxRecDepth 100000 in
set_option maxHeartbeats 2000000 in
theorem walk_tokenTwin (w : World) (a0 : Value) (w0 : Fit Tryd.prog w 51 a0) (a1 : Int) (w1 : (Lit.int .i64 a1).wf = true) (a2 : Int) (w2 : (Lit.int .i64 a2).wf = true) :
    Calls Tryd.prog 12 #[a0, .int .i64 a1, .int .i64 a2] w fun e w' => e = .returned (.bool true) ∧ Below w.heap.size w w' := by
  obtain ⟨e, f, g, h, rfl, we, wf, wg, wh⟩ := raw_open w0
  obtain ⟨cls, hcls, hc4⟩ := pk_natI e 4 (by omega)
  have hM := fun W => made_ok e f g h cls W we wf wg wh hcls
  clear w0 hc4
  have H := Mem.init w
  obtain ⟨W0, hW0⟩ : ∃ W0, (w).alloc (.cells #[.int .i64 e, .int .i64 f, .int .i64 g, .int .i64 h] 51) = W0 := ⟨_, rfl⟩
  replace H : Mem (w) [] _ [.blk (w.heap.size) 51 #[.int .i64 e, .int .i64 f, .int .i64 g, .int .i64 h]] := Mem.alloc H (w.heap.size) (by first | (simp; done) | (simp; omega)) #[.int .i64 e, .int .i64 f, .int .i64 g, .int .i64 h] 51
  rw [hW0] at H
  have rx0 : (W0).cell? ⟨w.heap.size, 0, none⟩ = some (.int .i64 e) := (H.blk 0 rfl).cell 0
  have rxf0 : (W0).frozen? ⟨w.heap.size, 0, none⟩ = false := (H.blk 0 rfl).frozen 0
  have rx1 : (W0).cell? ⟨w.heap.size, 1, none⟩ = some (.int .i64 f) := (H.blk 0 rfl).cell 1
  have rxf1 : (W0).frozen? ⟨w.heap.size, 1, none⟩ = false := (H.blk 0 rfl).frozen 1
  have rx2 : (W0).cell? ⟨w.heap.size, 2, none⟩ = some (.int .i64 g) := (H.blk 0 rfl).cell 2
  have rxf2 : (W0).frozen? ⟨w.heap.size, 2, none⟩ = false := (H.blk 0 rfl).frozen 2
  have rx3 : (W0).cell? ⟨w.heap.size, 3, none⟩ = some (.int .i64 h) := (H.blk 0 rfl).cell 3
  have rxf3 : (W0).frozen? ⟨w.heap.size, 3, none⟩ = false := (H.blk 0 rfl).frozen 3
  have rxlt : w.heap.size < (W0).heap.size := H.lt 0 rfl
  obtain ⟨i, hi, hi19⟩ := pk_natI a1 19 (by omega)
  have Hi := Lib.hid hi19
  have hiI : (i : Int) ≤ 18 := by omega
  clear hi19
  go_enter Tryd.func12, Tryd.ntmps12
  go_wp2_with fail
  refine (hM _).mono ?_
  rintro e1 wa ⟨id, am, tag, rfl, hk, hba⟩
  replace H : Mem (w) [] (wa) [.blk (w.heap.size) 51 #[.int .i64 e, .int .i64 f, .int .i64 g, .int .i64 h]] := Mem.call H hba
  clear rx0 rxf0 rx1 rxf1 rx2 rxf2 rx3 rxf3 rxlt
  have rx0 : (wa).cell? ⟨w.heap.size, 0, none⟩ = some (.int .i64 e) := (H.blk 0 rfl).cell 0
  have rxf0 : (wa).frozen? ⟨w.heap.size, 0, none⟩ = false := (H.blk 0 rfl).frozen 0
  have rx1 : (wa).cell? ⟨w.heap.size, 1, none⟩ = some (.int .i64 f) := (H.blk 0 rfl).cell 1
  have rxf1 : (wa).frozen? ⟨w.heap.size, 1, none⟩ = false := (H.blk 0 rfl).frozen 1
  have rx2 : (wa).cell? ⟨w.heap.size, 2, none⟩ = some (.int .i64 g) := (H.blk 0 rfl).cell 2
  have rxf2 : (wa).frozen? ⟨w.heap.size, 2, none⟩ = false := (H.blk 0 rfl).frozen 2
  have rx3 : (wa).cell? ⟨w.heap.size, 3, none⟩ = some (.int .i64 h) := (H.blk 0 rfl).cell 3
  have rxf3 : (wa).frozen? ⟨w.heap.size, 3, none⟩ = false := (H.blk 0 rfl).frozen 3
  have rxlt : w.heap.size < (wa).heap.size := H.lt 0 rfl
  clear hba hW0
  have hF := fun W => format_ok cls id am tag W hk
  have hlen := tokD_len hk
  have hle := tokD_le cls id am tag
  have hrs := tokD_rest cls id am tag
  have hsz := dstr_size (tokD cls id am tag)
  rw [tokD_len hk] at hsz
  obtain ⟨l, hl⟩ : ∃ l, tokD cls id am tag = l := ⟨_, rfl⟩
  rw [hl] at hF hsz hlen hle hrs
  clear hl hk hM
  have h0 : i < l.length := by have := Hi.out; omega
  have h1 : i + 1 < l.length := by have := Hi.out; omega
  have hSl := fun W => slipped_is l (i : Int) a2 i W (by show _ = _; rw [hlen]; exact pk_self (by have := Hi.out; omega)) h0 (by omega) (by omega) hle (WalkArith.wf_i64 (by omega)) w2
  have hb0 := dstr_byte hle i (by omega)
  have hb1 := dstr_byte hle (i + 1) (by omega)
  obtain ⟨x, hx⟩ : ∃ x, l[i] = x := ⟨_, rfl⟩
  obtain ⟨y, hy⟩ : ∃ y, l[i + 1] = y := ⟨_, rfl⟩
  rw [hx] at hb0
  rw [hy] at hb1
  have HX := Lib.hid hx
  have HY := Lib.hid hy
  have hiN : (i : Int) + 1 ≤ 19 := by omega
  have hi0 : i < 20 := by omega
  have hi1 : i + 1 < 20 := by omega
  clear hx hy
  go_wp2_with fail
  refine (hF _).mono ?_
  rintro e1 wc ⟨rfl, hbc⟩
  replace H : Mem (w) [] (wc) [.blk (w.heap.size) 51 #[.int .i64 e, .int .i64 f, .int .i64 g, .int .i64 h]] := Mem.call H hbc
  clear rx0 rxf0 rx1 rxf1 rx2 rxf2 rx3 rxf3 rxlt
  clear hbc hF
  have HL := Lib.hid (show l.length = 20 ∧ (∀ d ∈ l, d ≤ 9) ∧ rest97 l = 0 ∧ i < l.length ∧ i + 1 < l.length from ⟨hlen, hle, hrs, h0, h1⟩)
  clear hlen hle hrs

  by_cases hxy : x = y
  · subst hxy
    have hbx : (48 + (x : Int) != 48 + (x : Int)) = false := by simp
    go_wp2_with (go_at_call 17; (with_reducible refine (picked_is _ hi w1 (by omega) (by omega)).mono ?_); rintro e1 w' ⟨rfl, rfl⟩)
    go_quiet (fail)
    obtain ⟨wq, hwq⟩ : ∃ wq, (wc).drewN nq = wq := ⟨_, rfl⟩
    replace H := H.drewN nq
    rw [hwq] at H ⊢
    clear hwq
    go_wp2_with fail
    refine (hSl _).mono ?_
    rintro e1 wd ⟨d, hil, hd, hne, rfl, hbd⟩
    replace H : Mem (w) [] (wd) [.blk (w.heap.size) 51 #[.int .i64 e, .int .i64 f, .int .i64 g, .int .i64 h]] := Mem.call H hbd
    clear hbd hSl hb0 hb1 hbx hi w1
    obtain ⟨m, hm⟩ : ∃ m, l.set i d = m := ⟨_, rfl⟩
    have hml : (dstr m).size = 20 := by rw [dstr_size, ← hm, List.length_set, HL.out.1]
    rw [hm]
    have HM2 := Lib.hid hm
    clear hm
    have hS := @ByteArray.size_append
    have hi2 : (i : Int) + 2 ≤ 20 := by omega
    have hi3 : (i : Int) + 1 ≤ 20 := by omega
    have hi4 : (i : Int) ≤ (i : Int) + 1 := by omega
    have hmin1 : min (i + 1) 20 = i + 1 := by omega
    go_wp2_with fail
    go_quiet (fail)
    obtain ⟨hlen, hle, hrs, _, _⟩ := HL.out
    obtain ⟨p, q, e1, e2⟩ := twin_str (d := d) hlen h1 HX.out HY.out
    rw [HM2.out] at e2
    rw [e2]
    obtain ⟨we, hwe⟩ : ∃ we, (wd).drewN nq = we := ⟨_, rfl⟩
    replace H := H.drewN nq
    rw [hwe] at H ⊢
    clear hwe
    have hle2 : ∀ z ∈ p ++ d :: d :: q, z ≤ 9 := fun z hz => by
      have hz2 : z = d ∨ z ∈ l := by
        rw [e1]
        simp only [List.mem_append, List.mem_cons] at hz ⊢
        rcases hz with h | h | h | h
        · exact .inr (.inl h)
        · exact .inl h
        · exact .inl h
        · exact .inr (.inr (.inr (.inr h)))
      rcases hz2 with h | h
      · omega
      · exact hle z h
    have hlen2 : (p ++ d :: d :: q).length = 20 := by
      have h := congrArg List.length e1
      simp at h ⊢
      omega
    have hno : val10 (p ++ d :: d :: q) % 97 ≠ 0 := rest_ne hrs (fun h => by
      conv at h => lhs; rw [e1]
      exact hne ((rest97_twin (hle x (by rw [e1]; simp)) hd h).symm.trans HX.out.symm))
    obtain ⟨t, ht⟩ : ∃ t, p ++ d :: d :: q = t := ⟨_, rfl⟩
    rw [ht] at hle2 hlen2 hno ⊢
    have hPs := parseS_no hno
    clear hS hi2 hi3 hi4 hmin1 hlen hle hrs e1 e2 hne hd hil hml HM2 hno ht HL HX HY
    rcases hPs with hR | hR
    all_goals
      have hP := fun W => parse_ok t W hle2 hlen2 _ _ _ _ _ (Lib.hid hR)
      clear hR hle2 hlen2
      go_wp2_with fail
      refine (hP _).mono ?_
      rintro e1 we ⟨rfl, hbe⟩
      replace H := H.call hbe
      clear hbe hP
      go_wp2
      go_ret
      exact ⟨rfl, by first | exact H.below | exact (H.call (below_a1 _ _)).below⟩
  · skip
    have hbx : (48 + (x : Int) != 48 + (y : Int)) = true := by simp; omega
    clear hSl
    go_wp2_with (go_at_call 17; (with_reducible refine (picked_is _ hi w1 (by omega) (by omega)).mono ?_); rintro e1 w' ⟨rfl, rfl⟩)
    go_quiet (fail)
    obtain ⟨wq, hwq⟩ : ∃ wq, (wc).drewN nq = wq := ⟨_, rfl⟩
    replace H := H.drewN nq
    rw [hwq] at H ⊢
    clear hwq
    go_wp2
    go_ret
    exact ⟨rfl, H.below⟩
end Go.Proofs.YtlkigihghpcglaaDoor
