/- The walk of the law OracleAgain. -/
import Derived.Test.YtfifkfkbfllnfaaWOracleOnly
import Derived.Deep.RegionWith
import Derived.Deep.RegionHeld3
namespace Go.Proofs.Ytfifkfkbfllnfaa
open Go.RowKit Go.Maps Go.ChangeShapes Go.WideShapes
set_option maxRecDepth 100000 in
set_option maxHeartbeats 4000000 in
theorem keep4 {W W' : World} {b g : Nat} {x0 x1 x2 y : Value} (hb : Below W.heap.size W W') (h : W.cell? ⟨b, 0, none⟩ = some x0 ∧ W.cell? ⟨b, 1, none⟩ = some x1 ∧ W.cell? ⟨b, 2, none⟩ = some x2 ∧ W.cell? ⟨g, 0, none⟩ = some y) :
    W'.cell? ⟨b, 0, none⟩ = some x0 ∧ W'.cell? ⟨b, 1, none⟩ = some x1 ∧ W'.cell? ⟨b, 2, none⟩ = some x2 ∧ W'.cell? ⟨g, 0, none⟩ = some y := by
  obtain ⟨h0, h1, h2, h3⟩ := h
  exact ⟨(hb.cell (World.block_lt_of_cell? _ _ h0)).trans h0, (hb.cell (World.block_lt_of_cell? _ _ h1)).trans h1, (hb.cell (World.block_lt_of_cell? _ _ h2)).trans h2, (hb.cell (World.block_lt_of_cell? _ _ h3)).trans h3⟩
theorem keep4s {W : World} {b g g2 : Nat} {x0 x1 x2 y : Value} (h : W.cell? ⟨b, 0, none⟩ = some x0 ∧ W.cell? ⟨b, 1, none⟩ = some x1 ∧ W.cell? ⟨b, 2, none⟩ = some x2 ∧ W.cell? ⟨g, 0, none⟩ = some y) (h1 : g2 ≠ b) (h2 : g2 ≠ g) (v : Value) :
    (W.setCell ⟨g2, 0, none⟩ v).cell? ⟨b, 0, none⟩ = some x0 ∧ (W.setCell ⟨g2, 0, none⟩ v).cell? ⟨b, 1, none⟩ = some x1 ∧ (W.setCell ⟨g2, 0, none⟩ v).cell? ⟨b, 2, none⟩ = some x2 ∧ (W.setCell ⟨g2, 0, none⟩ v).cell? ⟨g, 0, none⟩ = some y := by
  obtain ⟨k0, k1, k2, k3⟩ := h
  have e : ∀ (q : Addr), q.block ≠ g2 → (W.setCell ⟨g2, 0, none⟩ v).cell? q = W.cell? q := fun q hq => World.cell?_setCell_other W _ q v (fun e => hq (by rw [← e]))
  exact ⟨(e _ (Ne.symm h1)).trans k0, (e _ (Ne.symm h1)).trans k1, (e _ (Ne.symm h1)).trans k2, (e _ (Ne.symm h2)).trans k3⟩
set_option maxRecDepth 100000 in
set_option maxHeartbeats 2000000 in
theorem walk_oracleAgain (w : World) (a0 : Value) (w0 : Fit Try.prog w 22 a0) (a1 : Value) (w1 : Fit Try.prog w 24 a1) (a2 : Int) (w2 : (Lit.int .i64 a2).wf = true) :
    Calls Try.prog 3 #[a0, a1, .int .i64 a2] w fun e w' => e = .returned (.bool true) ∧ Below w.heap.size w w' := by
  obtain ⟨n, f, hv⟩ := w0.rows (ks := [.i64, .i64, .i64, .i64]) Try.underlying22 (by kernel_rfl) (by simp) (by kernel_rfl)
  obtain ⟨A, cp, rfl, hL1, hL2, hwf, hcell⟩ := hv
  have hL : n ≤ 9223372036854775807 := by unfold maxLen at hL2; omega
  obtain ⟨ua, ub, uc, ud, rfl, wua, wub, wuc, wud⟩ := ask_of w1 Try.underlying24 (by kernel_rfl)
  clear w0 w1 hL1 hL2
  obtain ⟨pm, hpm, pm1⟩ := pk_nat ua 3 (by omega)
  obtain ⟨pr, hpr, pr1⟩ := pk_nat ub 3 (by omega)
  obtain ⟨pb, hpb, pb1⟩ := pk_nat uc 5 (by omega)
  obtain ⟨pd, hpd, pd1⟩ := pk_nat ud 65536 (by omega)
  obtain ⟨dd, hdd, dd1⟩ := pk_nat a2 65536 (by omega)
  have hpk := mayK_small pm1 pr1 pb1
  have hpw := wf3_small pm1 pr1 pb1
  have hU := Blk.new w 24 #[.int .i64 ua, .int .i64 ub, .int .i64 uc, .int .i64 ud]
  go_enter Try.func3, Try.ntmps3
  go_wp2_with fail
  go_loopw [8] (fun i wr => ∃ (k : Nat) (L : List Pr) (A' : Option Addr) (c' : Nat), k ≤ n ∧ k ≤ 100 ∧ L.length ≤ k ∧ i = .int .i64 k ∧ OOk L ∧ wr.ownsRow (w.heap.size + 2) 107 4 (.slice A' L.length c') L.length (prs L) ∧ Blk wr (w.heap.size + 1) 27 #[.slice A' L.length c'] ∧ Blk wr w.heap.size 24 #[.int .i64 ua, .int .i64 ub, .int .i64 uc, .int .i64 ud] ∧ Below w.heap.size w wr) (fun i _ => 100 - (intOf i).toNat)
  case atStart => exact ⟨0, [], none, 0, by omega, by omega, by simp, rfl, ⟨by simp, by simp, by simp⟩, World.ownsRow_nil _ _ _ _, heap_alloc2 _ _ _, hU.alloc _, below_a2 _ _ _⟩
  case round =>
    obtain ⟨k, L, A', c', hkn, hk1, hLk, rfl, hok, hown, hO, hP, hb⟩ := hrel
    have hps := isps_own (l := L) rfl (ook_wf hok) hown
    have hOlt := hO.lt
    have hPlt := hP.lt
    by_cases hlt : k < n ∧ k < 100
    · obtain ⟨hlt, hlt1⟩ := hlt
      obtain ⟨b, off, rfl, hB, hc⟩ := hcell (by omega)
      have q0 := (hb.cell (p := ⟨b, off + (k * 4 + 0), none⟩) hB).trans (hc k hlt 0 _ rfl)
      have q1 := (hb.cell (p := ⟨b, off + (k * 4 + 1), none⟩) hB).trans (hc k hlt 1 _ rfl)
      have q2 := (hb.cell (p := ⟨b, off + (k * 4 + 2), none⟩) hB).trans (hc k hlt 2 _ rfl)
      have q3 := (hb.cell (p := ⟨b, off + (k * 4 + 3), none⟩) hB).trans (hc k hlt 3 _ rfl)
      have z0 := hwf k hlt 0 _ rfl
      have z1 := hwf k hlt 1 _ rfl
      have z2 := hwf k hlt 2 _ rfl
      have z3 := hwf k hlt 3 _ rfl
      clear hc hcell hwf
      generalize f k 0 = x0 at *
      generalize f k 1 = x1 at *
      generalize f k 2 = x2 at *
      generalize f k 3 = x3 at *
      simp only [Nat.add_zero, ← Nat.add_assoc] at q0 q1 q2 q3
      obtain ⟨qm, hqm, qm1⟩ := pk_nat x0 3 (by omega)
      obtain ⟨qr, hqr, qr1⟩ := pk_nat x1 3 (by omega)
      obtain ⟨qb, hqb, qb1⟩ := pk_nat x2 5 (by omega)
      obtain ⟨qd, hqd, qd1⟩ := pk_nat x3 65536 (by omega)
      have i1 : (k : Int) < (n : Int) := by omega
      have i2 : (k : Int) < 100 := by omega
      go_wp2_with fail
      refine (asked_ok x0 x1 x2 x3 qm qr qb qd _ z0 z1 z2 z3 hqm hqr hqb hqd).mono ?_
      rintro e wb ⟨rfl, hbb⟩
      have hsb := hbb.size
      have hO2 := (hO.below hbb hOlt).alloc (.cells #[.int .i64 qm, .int .i64 qr, .int .i64 qb, .int .i64 qd] 24)
      have hP2 := (hP.below hbb hPlt).alloc (.cells #[.int .i64 qm, .int .i64 qr, .int .i64 qb, .int .i64 qd] 24)
      have hps2 := hps.below (hbb.alloc hsb (.cells #[.int .i64 qm, .int .i64 qr, .int .i64 qb, .int .i64 qd] 24))
      have bB := (hb.trans (hbb.mono hb.size)).alloc (by have := hb.size; omega) (.cells #[.int .i64 qm, .int .i64 qr, .int .i64 qb, .int .i64 qd] 24)
      have hqk := mayK_small qm1 qr1 qb1
      have hqw := wf3_small qm1 qr1 qb1
      obtain ⟨L2, hL2⟩ : ∃ L2, Hid (issL L qm qr qb qd = L2) := ⟨_, rfl⟩
      obtain ⟨t, ht⟩ : ∃ t, Hid (issT L qm qr qb qd = t) := ⟨_, rfl⟩
      have hok2 : OOk L2 := by rw [← hL2.out]; exact issL_ok hok hqk (by omega) (by omega) (by omega)
      have hln := issL_len L qm qr qb qd
      rw [hL2.out] at hln
      have hlen : L2.length ≤ k + 1 := by omega
      have hOb := hO.below hbb hOlt
      have nb : w.heap.size + 1 < wb.heap.size := by omega
      clear hO hP hln hL
      have r0 : wb.cell? ⟨w.heap.size + 1, 0, none⟩ = some (.slice A' L.length c') := hOb.cell 0
      have rf0 : wb.frozen? ⟨w.heap.size + 1, 0, none⟩ = false := hOb.frozen 0
      go_wp2_with fail
      refine (issue_ok _ L L2 _ _ _ _ t _ hps2 hok hqk hqw (by omega) (by omega) (by omega) hL2 ht).mono ?_
      rintro e wc ⟨A2, c2, rfl, hps3, hown3, hbc⟩
      have hsc := hbc.size
      simp at hsc
      have hO3 := hO2.below hbc (by simp; omega)
      have hP3 := hP2.below hbc (by simp; omega)
      have bC := bB.trans (hbc.mono bB.size)
      have hO4 := hO3.alloc (.cells #[.slice A2 L2.length c2] 27)
      have hP4 := hP3.alloc (.cells #[.slice A2 L2.length c2] 27)
      have hps5 := (own_far (own_mono hown3 (by simp; omega : w.heap.size + 2 ≤ _)) (p := ⟨w.heap.size + 1, 0, none⟩) (by show _ < _; dsimp only; omega) (.slice A2 L2.length c2)).alloc (.cells #[.slice A2 L2.length c2] 27)
      have hO5 := (hO3.set_ 0 (.slice A2 L2.length c2)).alloc (.cells #[.slice A2 L2.length c2] 27)
      have hP5 := (hP3.far (p := ⟨w.heap.size + 1, 0, none⟩) (by show _ ≠ _; dsimp only; omega) (.slice A2 L2.length c2)).alloc (.cells #[.slice A2 L2.length c2] 27)
      have bE := (bC.setCell (p := ⟨w.heap.size + 1, 0, none⟩) (by show _ ≤ _; dsimp only; omega) (.slice A2 L2.length c2)).alloc (by have := bC.size; simp; omega) (.cells #[.slice A2 L2.length c2] 27)
      have n1 : w.heap.size + 1 < wc.heap.size := by omega
      clear hO2 hP2 hps3 hps2 hbc hbb hOb r0 rf0 hps hown hown3 hO4 hP4
      have r0 : wc.cell? ⟨w.heap.size + 1, 0, none⟩ = some (.slice A' L.length c') := hO3.cell 0
      have rf0 : wc.frozen? ⟨w.heap.size + 1, 0, none⟩ = false := hO3.frozen 0
      clear hO3 hP3
      go_wp2
      go_roundw
      case rel => exact ⟨k + 1, L2, A2, c2, by omega, by omega, by omega, by go_num, hok2, hps5, hO5, hP5, bE⟩
      case measure => simp [intOf]; omega
    · have hlt1 : ((k : Int) < (n : Int) ∧ ¬ (k : Int) < 100) ∨ ¬ (k : Int) < (n : Int) := by omega
      obtain ⟨L2, hL2⟩ : ∃ L2, Hid (issL L pm pr pb pd = L2) := ⟨_, rfl⟩
      obtain ⟨t, ht⟩ : ∃ t, Hid (issT L pm pr pb pd = t) := ⟨_, rfl⟩
      have hok2 : OOk L2 := by rw [← hL2.out]; exact issL_ok hok hpk (by omega) (by omega) (by omega)
      have hln := issL_len L pm pr pb pd
      rw [hL2.out] at hln
      have hlk : Hid (look L2 ((pm : Int), (pr : Int), (pb : Int)) = some t) := by
        show _ = _
        rw [← hL2.out, issL_look, if_pos rfl, ht.out]
      have hpos : 1 ≤ L2.length := by
        rcases Nat.eq_zero_or_pos L2.length with h | h
        · have h2 := hlk.out
          rw [List.eq_nil_of_length_eq_zero h] at h2
          cases h2
        · exact h
      have hL3 : Hid (issL L2 pm pr pb dd = L2) := by show _ = _; unfold issL; rw [hlk.out, if_neg (by simp)]
      have ht3 : Hid (issT L2 pm pr pb dd = t) := by show _ = _; unfold issT; rw [hlk.out]; rfl
      clear hcell hwf hown
      have r0 : wr.cell? ⟨w.heap.size + 1, 0, none⟩ = some (.slice A' L.length c') := hO.cell 0
      have rf0 : wr.frozen? ⟨w.heap.size + 1, 0, none⟩ = false := hO.frozen 0
      have u0 : wr.cell? ⟨w.heap.size, 0, none⟩ = some (.int .i64 ua) := hP.cell 0
      have uf0 : wr.frozen? ⟨w.heap.size, 0, none⟩ = false := hP.frozen 0
      have u1 : wr.cell? ⟨w.heap.size, 1, none⟩ = some (.int .i64 ub) := hP.cell 1
      have uf1 : wr.frozen? ⟨w.heap.size, 1, none⟩ = false := hP.frozen 1
      have u2 : wr.cell? ⟨w.heap.size, 2, none⟩ = some (.int .i64 uc) := hP.cell 2
      have uf2 : wr.frozen? ⟨w.heap.size, 2, none⟩ = false := hP.frozen 2
      have u3 : wr.cell? ⟨w.heap.size, 3, none⟩ = some (.int .i64 ud) := hP.cell 3
      have uf3 : wr.frozen? ⟨w.heap.size, 3, none⟩ = false := hP.frozen 3
      rcases hlt1 with ⟨g1, g2⟩ | g1
      all_goals
        go_wp2_with fail
        refine (asked_ok ua ub uc ud pm pr pb pd _ wua wub wuc wud hpm hpr hpb hpd).mono ?_
        rintro e wb ⟨rfl, hbb⟩
        have hsb := hbb.size
        have hOb := hO.below hbb hOlt
        have n1 : w.heap.size + 1 < wb.heap.size := by omega
        have bB := (hb.trans (hbb.mono hb.size)).alloc (by have := hb.size; omega) (.cells #[.int .i64 pm, .int .i64 pr, .int .i64 pb, .int .i64 pd] 24)
        have hps2 := hps.below (hbb.alloc hsb (.cells #[.int .i64 pm, .int .i64 pr, .int .i64 pb, .int .i64 pd] 24))
        have hA2 := Blk.new wb 24 #[.int .i64 pm, .int .i64 pr, .int .i64 pb, .int .i64 pd]
        have hO2 := hOb.alloc (.cells #[.int .i64 pm, .int .i64 pr, .int .i64 pb, .int .i64 pd] 24)
        clear r0 rf0 u0 uf0 u1 uf1 u2 uf2 u3 uf3
        have r0 : wb.cell? ⟨w.heap.size + 1, 0, none⟩ = some (.slice A' L.length c') := hOb.cell 0
        have rf0 : wb.frozen? ⟨w.heap.size + 1, 0, none⟩ = false := hOb.frozen 0
        go_wp2_with fail
        refine (issue_ok _ L L2 _ _ _ _ t _ hps2 hok hpk hpw (by omega) (by omega) (by omega) hL2 ht).mono ?_
        rintro e wc ⟨A2, c2, rfl, hps3, hown3, hbc⟩
        have hsc := hbc.size
        simp at hsc
        have hO3 := hO2.below hbc (by simp; omega)
        have hA3 := hA2.below hbc (by simp)
        have bC := bB.trans (hbc.mono bB.size)
        have n2 : wb.heap.size < wc.heap.size := by omega
        have n3 : w.heap.size + 1 < wc.heap.size := by omega
        clear r0 rf0 hown3
        have r0 : wc.cell? ⟨w.heap.size + 1, 0, none⟩ = some (.slice A' L.length c') := hO3.cell 0
        have rf0 : wc.frozen? ⟨w.heap.size + 1, 0, none⟩ = false := hO3.frozen 0
        have s0 : wc.cell? ⟨wb.heap.size, 0, none⟩ = some (.int .i64 pm) := hA3.cell 0
        have sf0 : wc.frozen? ⟨wb.heap.size, 0, none⟩ = false := hA3.frozen 0
        have s1 : wc.cell? ⟨wb.heap.size, 1, none⟩ = some (.int .i64 pr) := hA3.cell 1
        have sf1 : wc.frozen? ⟨wb.heap.size, 1, none⟩ = false := hA3.frozen 1
        have s2 : wc.cell? ⟨wb.heap.size, 2, none⟩ = some (.int .i64 pb) := hA3.cell 2
        have sf2 : wc.frozen? ⟨wb.heap.size, 2, none⟩ = false := hA3.frozen 2
        have s3 : wc.cell? ⟨wb.heap.size, 3, none⟩ = some (.int .i64 pd) := hA3.cell 3
        have sf3 : wc.frozen? ⟨wb.heap.size, 3, none⟩ = false := hA3.frozen 3
        go_wp2_with fail
        have hpsA : IsPs (wc.alloc (.cells #[.slice A2 L2.length c2] 27)).drew (.slice A2 L2.length c2) L2 := hps3.below (Below.drew (below_a1 wc (.cells #[.slice A2 L2.length c2] 27)))
        have hpsB : IsPs ((wc.alloc (.cells #[.slice A2 L2.length c2] 27)).alloc (.cells #[.slice none 0 0] 27)).drew (.slice A2 L2.length c2) L2 := hps3.below (Below.drew (below_a2 wc _ _))
        have hB17 : Blk ((wc.alloc (.cells #[.slice A2 L2.length c2] 27)).alloc (.cells #[.slice none 0 0] 27)).drew (wc.heap.size + 1) 27 #[.slice none 0 0] := heap_alloc2 wc _ _
        have nB17 : wc.heap.size + 1 < ((wc.alloc (.cells #[.slice A2 L2.length c2] 27)).alloc (.cells #[.slice none 0 0] 27)).drew.heap.size := by simp
        have sA : (wc.alloc (.cells #[.slice A2 L2.length c2] 27)).drew.cell? ⟨wb.heap.size, 0, none⟩ = some (.int .i64 pm) ∧ (wc.alloc (.cells #[.slice A2 L2.length c2] 27)).drew.cell? ⟨wb.heap.size, 1, none⟩ = some (.int .i64 pr) ∧ (wc.alloc (.cells #[.slice A2 L2.length c2] 27)).drew.cell? ⟨wb.heap.size, 2, none⟩ = some (.int .i64 pb) ∧ (wc.alloc (.cells #[.slice A2 L2.length c2] 27)).drew.cell? ⟨wc.heap.size, 0, none⟩ = some (.slice A2 L2.length c2) :=
          ⟨(hA3.alloc _).cell 0, (hA3.alloc _).cell 1, (hA3.alloc _).cell 2, (Blk.new wc 27 #[.slice A2 L2.length c2]).cell 0⟩
        have bCA : Below w.heap.size w (wc.alloc (.cells #[.slice A2 L2.length c2] 27)).drew := Below.drew (bC.alloc bC.size _)
        have bCB : Below w.heap.size w ((wc.alloc (.cells #[.slice A2 L2.length c2] 27)).alloc (.cells #[.slice none 0 0] 27)).drew := Below.drew ((bC.alloc bC.size _).alloc (by have := bC.size; simp; omega) _)
        have nO3 : w.heap.size + 1 < (wc.alloc (.cells #[.slice A2 L2.length c2] 27)).drew.heap.size := by simp; omega
        have nO3b : w.heap.size + 1 < ((wc.alloc (.cells #[.slice A2 L2.length c2] 27)).alloc (.cells #[.slice none 0 0] 27)).drew.heap.size := by simp; omega
        have hO3A : Blk (wc.alloc (.cells #[.slice A2 L2.length c2] 27)).drew (w.heap.size + 1) 27 #[.slice A' L.length c'] := hO3.alloc _
        have hO3B : Blk ((wc.alloc (.cells #[.slice A2 L2.length c2] 27)).alloc (.cells #[.slice none 0 0] 27)).drew (w.heap.size + 1) 27 #[.slice A' L.length c'] := (hO3.alloc _).alloc _
        have n17o : w.heap.size + 1 ≠ wc.heap.size + 1 := by omega
        have hposI : (0 : Int) < (L2.length : Int) := by omega
        have hlnI : (L2.length : Int) ≤ (L.length : Int) + 1 := by omega
        have n17b : wc.heap.size + 1 ≠ wb.heap.size := by omega
        have n17g : wc.heap.size + 1 ≠ wc.heap.size := by omega
        have hdd' : Hid (pk a2 65536 = (dd : Int)) := hdd
        have hdd1 : (1 : Int) ≤ 65536 := by omega
        have hdd2 : (65536 : Int) ≤ 9223372036854775807 := by omega
        have hd1 : (0 : Int) ≤ (dd : Int) := by omega
        have hd2 : (dd : Int) ≤ 65535 := by omega
        have hd3 : L2.length < 500 := by omega
        have sB := keep4 (below_a1 _ (.cells #[.slice none 0 0] 27)) sA
        go_region_held3 (fun w' => w'.cell? ⟨wb.heap.size, 0, none⟩ = some (.int .i64 pm) ∧ w'.cell? ⟨wb.heap.size, 1, none⟩ = some (.int .i64 pr) ∧ w'.cell? ⟨wb.heap.size, 2, none⟩ = some (.int .i64 pb) ∧ w'.cell? ⟨wc.heap.size, 0, none⟩ = some (.slice A2 L2.length c2)) (first | go_keep | exact sA | exact sB | exact kk | exact keep4s kk n17b n17g _ | fail) (first | (go_at_call 17; (with_reducible refine (picked_is _ hdd' w2 hdd1 hdd2).mono ?_); rintro e w' ⟨rfl, rfl⟩) | (go_at_call 16; (with_reducible refine (issue_ok _ L2 L2 _ _ _ _ t _ hpsA hok2 hpk hpw hd1 hd2 hd3 hL3 ht3).mono ?_); rintro e wd ⟨A3, c3, rfl, hps5, hown5, hbd⟩; have kk := keep4 hbd sA) | (go_at_call 16; (with_reducible refine (issue_ok _ L2 L2 _ _ _ _ t _ hpsB hok2 hpk hpw hd1 hd2 hd3 hL3 ht3).mono ?_); rintro e wd ⟨A3, c3, rfl, hps5, hown5, hbd⟩; have kk := keep4 hbd sB; have hZ := hB17.below hbd nB17; have z0 := hZ.cell 0; have z1 := hZ.frozen 0) | fail)
        all_goals
          clear hOb hO2 hO3 hA2 hA3 hps2 hps3 hpsA hpsB sA sB
          first
            | (have hO4 := hO3A.below hbd nO3
               have hO5 := (hO4.alloc (.cells #[.slice A3 L2.length c3] 27)).cell 0
               have bD := (bCA.trans (hbd.mono bCA.size)).alloc (Nat.le_trans bCA.size hbd.size) (.cells #[.slice A3 L2.length c3] 27)
               have f17 := (Blk.new wd 27 #[.slice A3 L2.length c3]).cell 0
               clear hO4 hO3A hO3B
               go_wp2
               go_ret
               exact ⟨ret_true (by simp), bD⟩)
            | (have hO4 := hO3B.below hbd nO3b
               have hO5 := (hO4.far (p := ⟨wc.heap.size + 1, 0, none⟩) n17o (.slice A3 L2.length c3)).cell 0
               have f17 : (wd.setCell ⟨wc.heap.size + 1, 0, none⟩ (.slice A3 L2.length c3)).cell? ⟨wc.heap.size + 1, 0, none⟩ = some (.slice A3 L2.length c3) := by
                 have := (hZ.set_ 0 (.slice A3 L2.length c3)).cell 0
                 simpa using this
               have bD := (bCB.trans (hbd.mono bCB.size)).setCell (p := ⟨wc.heap.size + 1, 0, none⟩) (by show _ ≤ wc.heap.size + 1; omega) (.slice A3 L2.length c3)
               clear hO4 hO3A hO3B
               go_wp2
               go_ret
               exact ⟨ret_true (by simp), bD⟩)
end Go.Proofs.Ytfifkfkbfllnfaa
