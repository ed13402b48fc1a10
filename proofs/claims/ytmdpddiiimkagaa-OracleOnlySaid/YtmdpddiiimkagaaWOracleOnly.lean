/- The walk of the law OracleOnly. -/
import Derived.Test.YtmdpddiiimkagaaAsked
namespace Go.Proofs.Ytmdpddiiimkagaa
open Go.RowKit Go.Maps Go.ChangeShapes Go.WideShapes
theorem ask_of {P : Program} {t : TypeId} {fs : Array Field} {v : Value} {w : World} (h : Fit P w t v) (hu : P.underlying t = some (.struct fs)) (hk : leafInts P t = some [.i64, .i64, .i64, .i64]) :
    ∃ a b c d : Int, v = .agg #[.int .i64 a, .int .i64 b, .int .i64 c, .int .i64 d] ∧ (Lit.int .i64 a).wf = true ∧ (Lit.int .i64 b).wf = true ∧ (Lit.int .i64 c).wf = true ∧ (Lit.int .i64 d).wf = true := by
  obtain ⟨cs, rfl, hcf⟩ := h.struct hu
  obtain ⟨ns, hl, rfl, hw⟩ := hcf.ints (ks := [.i64, .i64, .i64, .i64]) hk
  match ns, hl with
  | [a, b, c, d], _ => exact ⟨a, b, c, d, rfl, hw 0 _ _ rfl rfl, hw 1 _ _ rfl rfl, hw 2 _ _ rfl rfl, hw 3 _ _ rfl rfl⟩
theorem verify_is (v : Value) (l : List Pr) (x y z d : Int) (w : World) (b : Bool) (hv : IsPs w v l) (hl : OOk l) (hw : wf3 x y z) {o : Option Int} (ho : Hid (look l (x, y, z) = o)) (hb : (o == some d) = b) :
    Calls Try.prog 25 #[.agg #[v], .int .i64 x, .int .i64 y, .int .i64 z, .int .i64 d] w fun e w' => e = .returned (.bool b) ∧ Below w.heap.size w w' := by
  rw [← hb]; exact verify_ok v l x y z d w hv hl hw o ho
/-- The tag that is known, or none. -/
def tagOf (l : List Pr) (k : Int × Int × Int) : Int := (look l k).getD (-1)
set_option maxRecDepth 100000 in
set_option maxHeartbeats 4000000 in
theorem walk_oracleOnly (w : World) (a0 : Value) (w0 : Fit Try.prog w 43 a0) (a1 : Value) (w1 : Fit Try.prog w 45 a1) :
    Calls Try.prog 8 #[a0, a1] w fun e w' => e = .returned (.bool true) ∧ Below w.heap.size w w' := by
  obtain ⟨n, f, hv⟩ := w0.rows (ks := [.i64, .i64, .i64, .i64]) Try.underlying43 (by kernel_rfl) (by simp) (by kernel_rfl)
  obtain ⟨A, cp, rfl, hL1, hL2, hwf, hcell⟩ := hv
  have hL : n ≤ 9223372036854775807 := by unfold maxLen at hL2; omega
  obtain ⟨ua, ub, uc, ud, rfl, wua, wub, wuc, wud⟩ := ask_of w1 Try.underlying45 (by kernel_rfl)
  clear w0 w1 hL1 hL2
  obtain ⟨pm, hpm, pm1⟩ := pk_nat ua 3 (by omega)
  obtain ⟨pr, hpr, pr1⟩ := pk_nat ub 3 (by omega)
  obtain ⟨pb, hpb, pb1⟩ := pk_nat uc 5 (by omega)
  obtain ⟨pd, hpd, pd1⟩ := pk_nat ud 65536 (by omega)
  have hpk := mayK_small pm1 pr1 pb1
  have hpw := wf3_small pm1 pr1 pb1
  go_enter Try.func8, Try.ntmps8
  go_wp2_with fail
  refine (asked_ok ua ub uc ud pm pr pb pd _ wua wub wuc wud hpm hpr hpb hpd).mono ?_
  rintro e wa ⟨rfl, hba⟩
  have hsa := hba.size
  simp at hsa
  have hO := ((show Blk ((w.alloc (.cells #[.int .i64 ua, .int .i64 ub, .int .i64 uc, .int .i64 ud] 45)).alloc (.cells #[.slice none 0 0] 48)) (w.heap.size + 1) 48 #[.slice none 0 0] from heap_alloc2 _ _ _).below hba (by simp; try omega)).alloc (.cells #[.int .i64 pm, .int .i64 pr, .int .i64 pb, .int .i64 pd] 45)
  have hP := Blk.new wa 45 #[.int .i64 pm, .int .i64 pr, .int .i64 pb, .int .i64 pd]
  have bA := ((below_a2 w _ _).step hba).alloc (by omega) (.cells #[.int .i64 pm, .int .i64 pr, .int .i64 pb, .int .i64 pd] 45)
  obtain ⟨G, hG⟩ : ∃ G, wa.heap.size = G := ⟨_, rfl⟩
  have hGw : w.heap.size + 1 < G := by omega
  rw [hG] at hP
  have HG := Lib.hid hG
  clear hba hpm hpr hpb hpd hG
  go_wp2_with fail
  rw [HG.out]
  go_loopw [7, 8] (fun u i wr => ∃ (k : Nat) (T : Int) (L : List Pr) (A' : Option Addr) (c' : Nat), k ≤ n ∧ k ≤ 100 ∧ L.length ≤ k ∧ u = .int .i64 T ∧ i = .int .i64 k ∧ Hid (tagOf L (pm, pr, pb) = T) ∧ OOk L ∧ wr.ownsRow (w.heap.size + 2) 105 4 (.slice A' L.length c') L.length (prs L) ∧ Blk wr (w.heap.size + 1) 48 #[.slice A' L.length c'] ∧ Blk wr G 45 #[.int .i64 pm, .int .i64 pr, .int .i64 pb, .int .i64 pd] ∧ Below w.heap.size w wr) (fun _ i _ => 100 - (intOf i).toNat)
  case atStart => exact ⟨0, -1, [], none, 0, by omega, by omega, by simp, rfl, rfl, rfl, ⟨by simp, by simp, by simp⟩, World.ownsRow_nil _ _ _ _, hO, hP, bA⟩
  case round =>
    obtain ⟨k, T, L, A', c', hkn, hk1, hLk, rfl, rfl, HT, hok, hown, hO, hP, hb⟩ := hrel
    have hps := isps_own (l := L) rfl (ook_wf hok) hown
    have hOlt := hO.lt
    have hPlt := hP.lt
    by_cases hlt : k < n ∧ k < 100
    · obtain ⟨hlt, hlt1⟩ := hlt
      obtain ⟨b, off, rfl, hB, hc⟩ := hcell (by omega)
      have q0 := (hb.cell (p := ⟨b, off + (k * 4 + 0), none⟩) hB).trans (hc k hlt 0 _ rfl)
      have q1 := (hb.cell (p := ⟨b, off + (k * 4 + 1), none⟩) hB).trans (hc k hlt 1 _ rfl)
      have q2 := (hb.cell (p := ⟨b, off + (k * 4 + 2), none⟩) hB).trans (hc k hlt 2 _ rfl)
      have q3 := (hb.cell (p := ⟨b, off + (k * 4 + 3), none⟩) hB).trans (hc k hlt 3 _ rfl)
      have z0 := hwf k hlt 0 _ rfl
      have z1 := hwf k hlt 1 _ rfl
      have z2 := hwf k hlt 2 _ rfl
      have z3 := hwf k hlt 3 _ rfl
      clear hc hcell hwf
      generalize f k 0 = x0 at *
      generalize f k 1 = x1 at *
      generalize f k 2 = x2 at *
      generalize f k 3 = x3 at *
      simp only [Nat.add_zero, ← Nat.add_assoc] at q0 q1 q2 q3
      obtain ⟨qm, hqm, qm1⟩ := pk_nat x0 3 (by omega)
      obtain ⟨qr, hqr, qr1⟩ := pk_nat x1 3 (by omega)
      obtain ⟨qb, hqb, qb1⟩ := pk_nat x2 5 (by omega)
      obtain ⟨qd, hqd, qd1⟩ := pk_nat x3 65536 (by omega)
      have i1 : (k : Int) < (n : Int) := by omega
      have i2 : (k : Int) < 100 := by omega
      go_wp2_with fail
      refine (asked_ok x0 x1 x2 x3 qm qr qb qd _ z0 z1 z2 z3 hqm hqr hqb hqd).mono ?_
      rintro e wb ⟨rfl, hbb⟩
      have hsb := hbb.size
      have hO2 := (hO.below hbb hOlt).alloc (.cells #[.int .i64 qm, .int .i64 qr, .int .i64 qb, .int .i64 qd] 45)
      have hP2 := (hP.below hbb hPlt).alloc (.cells #[.int .i64 qm, .int .i64 qr, .int .i64 qb, .int .i64 qd] 45)
      have hA2 := Blk.new wb 45 #[.int .i64 qm, .int .i64 qr, .int .i64 qb, .int .i64 qd]
      have hps2 := hps.below (hbb.alloc hsb (.cells #[.int .i64 qm, .int .i64 qr, .int .i64 qb, .int .i64 qd] 45))
      have bB := (hb.trans (hbb.mono hb.size)).alloc (by have := hb.size; omega) (.cells #[.int .i64 qm, .int .i64 qr, .int .i64 qb, .int .i64 qd] 45)
      have hqk := mayK_small qm1 qr1 qb1
      have hqw := wf3_small qm1 qr1 qb1
      obtain ⟨L2, hL2⟩ : ∃ L2, Hid (issL L qm qr qb qd = L2) := ⟨_, rfl⟩
      obtain ⟨t, ht⟩ : ∃ t, Hid (issT L qm qr qb qd = t) := ⟨_, rfl⟩
      have hok2 : OOk L2 := by rw [← hL2.out]; exact issL_ok hok hqk (by omega) (by omega) (by omega)
      have hln := issL_len L qm qr qb qd
      rw [hL2.out] at hln
      have hlk := fun k => issL_look L qm qr qb qd k
      rw [hL2.out, ht.out] at hlk
      have HLK := Lib.hid hlk
      have HSome : Hid (look L2 ((qm : Int), (qr : Int), (qb : Int)) = some t) := by show _ = _; rw [hlk, if_pos rfl]
      have hlen : L2.length ≤ k + 1 := by omega
      have hOb := hO.below hbb hOlt
      have nb : w.heap.size + 1 < wb.heap.size := by omega
      clear hlk hO hP hln hL
      have r0 : wb.cell? ⟨w.heap.size + 1, 0, none⟩ = some (.slice A' L.length c') := hOb.cell 0
      have rf0 : wb.frozen? ⟨w.heap.size + 1, 0, none⟩ = false := hOb.frozen 0
      go_wp2_with fail
      refine (issue_ok _ L L2 _ _ _ _ t _ hps2 hok hqk hqw (by omega) (by omega) (by omega) hL2 ht).mono ?_
      rintro e wc ⟨A2, c2, rfl, hps3, hown3, hbc⟩
      have hsc := hbc.size
      simp at hsc
      have hO3 := hO2.below hbc (by simp; omega)
      have hP3 := hP2.below hbc (by simp; omega)
      have hA3 := hA2.below hbc (by simp)
      have bC := bB.trans (hbc.mono bB.size)
      have hps4 := hps3.below (below_a1 wc (.cells #[.slice A2 L2.length c2] 48))
      have n6 : wb.heap.size < wc.heap.size := by omega
      have v0 : wc.cell? ⟨wb.heap.size, 0, none⟩ = some (.int .i64 qm) := hA3.cell 0
      have vf0 : wc.frozen? ⟨wb.heap.size, 0, none⟩ = false := hA3.frozen 0
      have v1 : wc.cell? ⟨wb.heap.size, 1, none⟩ = some (.int .i64 qr) := hA3.cell 1
      have vf1 : wc.frozen? ⟨wb.heap.size, 1, none⟩ = false := hA3.frozen 1
      have v2 : wc.cell? ⟨wb.heap.size, 2, none⟩ = some (.int .i64 qb) := hA3.cell 2
      have vf2 : wc.frozen? ⟨wb.heap.size, 2, none⟩ = false := hA3.frozen 2
      have v3 : wc.cell? ⟨wb.heap.size, 3, none⟩ = some (.int .i64 qd) := hA3.cell 3
      have vf3 : wc.frozen? ⟨wb.heap.size, 3, none⟩ = false := hA3.frozen 3
      go_wp2_with fail
      refine (verify_ok _ L2 _ _ _ t _ hps4 hok2 hqw _ HSome).mono ?_
      rintro e wd ⟨rfl, hbd⟩
      have hsd := hbd.size
      simp at hsd
      have hO4 := (hO3.alloc (.cells #[.slice A2 L2.length c2] 48)).below hbd (by simp; omega)
      have hP4 := (hP3.alloc (.cells #[.slice A2 L2.length c2] 48)).below hbd (by simp; omega)
      have hA4 := (hA3.alloc (.cells #[.slice A2 L2.length c2] 48)).below hbd (by simp; omega)
      have hN4 := (Blk.new wc 48 #[.slice A2 L2.length c2]).below hbd (by simp)
      have bD := (bC.alloc (by have := bC.size; omega) (.cells #[.slice A2 L2.length c2] 48)).trans (hbd.mono (by have := bC.size; simp; omega))
      have hps5 := own_far (own_mono (own_below (hown3.alloc (.cells #[.slice A2 L2.length c2] 48)) hbd) (by simp; omega : w.heap.size + 2 ≤ _)) (p := ⟨w.heap.size + 1, 0, none⟩) (by show _ < _; dsimp only; omega) (.slice A2 L2.length c2)
      have hO5 := hO4.set_ 0 (.slice A2 L2.length c2)
      have hP5 := hP4.far (p := ⟨w.heap.size + 1, 0, none⟩) (by show _ ≠ _; dsimp only; omega) (.slice A2 L2.length c2)
      have bE := bD.setCell (p := ⟨w.heap.size + 1, 0, none⟩) (by show _ ≤ _; dsimp only; omega) (.slice A2 L2.length c2)
      have n1 : w.heap.size + 1 < wd.heap.size := by omega
      have n2 : G < wd.heap.size := by omega
      have n3 : wb.heap.size < wd.heap.size := by omega
      have n4 : wc.heap.size < wd.heap.size := by omega
      have n5 : G < wb.heap.size := by omega
      clear hO2 hO3 hP2 hP3 hA2 hA3 hps3 hps4 hps2 hbc hbd hbb hOb r0 rf0 hps hown hown3 v0 vf0 v1 vf1 v2 vf2 v3 vf3
      have r0 : wd.cell? ⟨w.heap.size + 1, 0, none⟩ = some (.slice A' L.length c') := hO4.cell 0
      have rf0 : wd.frozen? ⟨w.heap.size + 1, 0, none⟩ = false := hO4.frozen 0
      have s0 : wd.cell? ⟨wc.heap.size, 0, none⟩ = some (.slice A2 L2.length c2) := hN4.cell 0
      have sf0 : wd.frozen? ⟨wc.heap.size, 0, none⟩ = false := hN4.frozen 0
      have t0 : wd.cell? ⟨wb.heap.size, 0, none⟩ = some (.int .i64 qm) := hA4.cell 0
      have tf0 : wd.frozen? ⟨wb.heap.size, 0, none⟩ = false := hA4.frozen 0
      have t1 : wd.cell? ⟨wb.heap.size, 1, none⟩ = some (.int .i64 qr) := hA4.cell 1
      have tf1 : wd.frozen? ⟨wb.heap.size, 1, none⟩ = false := hA4.frozen 1
      have t2 : wd.cell? ⟨wb.heap.size, 2, none⟩ = some (.int .i64 qb) := hA4.cell 2
      have tf2 : wd.frozen? ⟨wb.heap.size, 2, none⟩ = false := hA4.frozen 2
      have t3 : wd.cell? ⟨wb.heap.size, 3, none⟩ = some (.int .i64 qd) := hA4.cell 3
      have tf3 : wd.frozen? ⟨wb.heap.size, 3, none⟩ = false := hA4.frozen 3
      have u0 : wd.cell? ⟨G, 0, none⟩ = some (.int .i64 pm) := hP4.cell 0
      have uf0 : wd.frozen? ⟨G, 0, none⟩ = false := hP4.frozen 0
      have u1 : wd.cell? ⟨G, 1, none⟩ = some (.int .i64 pr) := hP4.cell 1
      have uf1 : wd.frozen? ⟨G, 1, none⟩ = false := hP4.frozen 1
      have u2 : wd.cell? ⟨G, 2, none⟩ = some (.int .i64 pb) := hP4.cell 2
      have uf2 : wd.frozen? ⟨G, 2, none⟩ = false := hP4.frozen 2
      have u3 : wd.cell? ⟨G, 3, none⟩ = some (.int .i64 pd) := hP4.cell 3
      have uf3 : wd.frozen? ⟨G, 3, none⟩ = false := hP4.frozen 3
      clear hO4 hN4 hA4 hP4
      by_cases hkey : ((pm : Int), (pr : Int), (pb : Int)) = ((qm : Int), (qr : Int), (qb : Int))
      · have HT2 : Hid (tagOf L2 (pm, pr, pb) = t) := by show _ = _; unfold tagOf; rw [HLK.out, if_pos hkey]; rfl
        injection hkey with e1 e2
        injection e2 with e2 e3
        have g1 : ((qm : Int) == (pm : Int)) = true := by simp; omega
        have g2 : ((qr : Int) == (pr : Int)) = true := by simp; omega
        have g3 : ((qb : Int) == (pb : Int)) = true := by simp; omega
        clear e1 e2 e3
        go_wp2
        go_roundw
        case rel => exact ⟨k + 1, t, L2, A2, c2, by omega, by omega, by omega, rfl, by go_num, HT2, hok2, hps5, hO5, hP5, bE⟩
        case measure => simp [intOf]; omega
      · have HT2 : Hid (tagOf L2 (pm, pr, pb) = T) := by show _ = _; unfold tagOf; rw [HLK.out, if_neg hkey]; exact HT.out
        rcases (show pm ≠ qm ∨ (pm = qm ∧ pr ≠ qr) ∨ (pm = qm ∧ pr = qr ∧ pb ≠ qb) by
          by_cases e1 : pm = qm
          · by_cases e2 : pr = qr
            · refine .inr (.inr ⟨e1, e2, fun e3 => hkey (by rw [e1, e2, e3])⟩)
            · exact .inr (.inl ⟨e1, e2⟩)
          · exact .inl e1) with g | g | g
        · have g1 : ((qm : Int) == (pm : Int)) = false := by simp; omega
          clear hkey g
          go_wp2
          go_roundw
          case rel => exact ⟨k + 1, T, L2, A2, c2, by omega, by omega, by omega, rfl, by go_num, HT2, hok2, hps5, hO5, hP5, bE⟩
          case measure => simp [intOf]; omega
        · have g1 : ((qm : Int) == (pm : Int)) = true := by simp; omega
          have g2 : ((qr : Int) == (pr : Int)) = false := by simp; omega
          clear hkey g
          go_wp2
          go_roundw
          case rel => exact ⟨k + 1, T, L2, A2, c2, by omega, by omega, by omega, rfl, by go_num, HT2, hok2, hps5, hO5, hP5, bE⟩
          case measure => simp [intOf]; omega
        · have g1 : ((qm : Int) == (pm : Int)) = true := by simp; omega
          have g2 : ((qr : Int) == (pr : Int)) = true := by simp; omega
          have g3 : ((qb : Int) == (pb : Int)) = false := by simp; omega
          clear hkey g
          go_wp2
          go_roundw
          case rel => exact ⟨k + 1, T, L2, A2, c2, by omega, by omega, by omega, rfl, by go_num, HT2, hok2, hps5, hO5, hP5, bE⟩
          case measure => simp [intOf]; omega
    · have hlt1 : ((k : Int) < (n : Int) ∧ ¬ (k : Int) < 100) ∨ ¬ (k : Int) < (n : Int) := by omega
      clear hcell hwf hown
      have r0 : wr.cell? ⟨w.heap.size + 1, 0, none⟩ = some (.slice A' L.length c') := hO.cell 0
      have rf0 : wr.frozen? ⟨w.heap.size + 1, 0, none⟩ = false := hO.frozen 0
      have u0 : wr.cell? ⟨G, 0, none⟩ = some (.int .i64 pm) := hP.cell 0
      have uf0 : wr.frozen? ⟨G, 0, none⟩ = false := hP.frozen 0
      have u1 : wr.cell? ⟨G, 1, none⟩ = some (.int .i64 pr) := hP.cell 1
      have uf1 : wr.frozen? ⟨G, 1, none⟩ = false := hP.frozen 1
      have u2 : wr.cell? ⟨G, 2, none⟩ = some (.int .i64 pb) := hP.cell 2
      have uf2 : wr.frozen? ⟨G, 2, none⟩ = false := hP.frozen 2
      have u3 : wr.cell? ⟨G, 3, none⟩ = some (.int .i64 pd) := hP.cell 3
      have uf3 : wr.frozen? ⟨G, 3, none⟩ = false := hP.frozen 3
      clear hO hP
      obtain ⟨o, ho⟩ : ∃ o, look L ((pm : Int), (pr : Int), (pb : Int)) = o := ⟨_, rfl⟩
      have HO := Lib.hid ho
      cases o with
      | none =>
        obtain rfl : T = -1 := by have := HT.out; unfold tagOf at this; rw [ho] at this; exact this.symm
        clear ho HT
        have e0 : ((-1 : Int) == (pd : Int)) = false := by rw [beq_eq_false_iff_ne]; omega
        rcases hlt1 with ⟨g1, g2⟩ | g1
        all_goals
          go_wp2_with fail
          refine (omay_ok _ L _ hps hok).mono ?_
          rintro e wb ⟨rfl, hbb⟩
          obtain ⟨c1, f1⟩ := bcell hbb
          have s1 := hbb.size
          go_wp2_with fail
          refine (verify_is _ L _ _ _ _ _ false (hps.below hbb) hok hpw HO (by simp; try omega)).mono ?_
          rintro e wc ⟨rfl, hbc⟩
          obtain ⟨c2, f2⟩ := bcell hbc
          have s2 := hbc.size
          have n1 : G < wb.heap.size := by omega
          have n2 : w.heap.size + 1 < wb.heap.size := by omega
          go_wp2_with fail
          refine (verify_is _ L _ _ _ _ _ false ((hps.below hbb).below hbc) hok hpw HO (by simp; try omega)).mono ?_
          rintro e wd ⟨rfl, hbd⟩
          obtain ⟨c3, f3⟩ := bcell hbd
          have n3 : G < wc.heap.size := by omega
          go_wp2
          go_ret
          exact ⟨ret_true (by simp; try omega), hb.trans (((hbb.step hbc).step hbd).mono hb.size)⟩
      | some t =>
        obtain rfl : T = t := by have := HT.out; unfold tagOf at this; rw [ho] at this; exact this.symm
        obtain ⟨pp, hpp, _, ht0⟩ := look_some_mem ho
        have ht1 := (hok.2.1 pp hpp).2.1
        rw [ht0] at ht1
        clear ho HT ht0 hpp
        by_cases e : T = (pd : Int)
        · have e0 : (T == (pd : Int)) = true := by rw [beq_iff_eq]; exact e
          have HE := Lib.hid e
          clear e
          rcases hlt1 with ⟨g1, g2⟩ | g1
          all_goals
            go_wp2_with fail
            refine (omay_ok _ L _ hps hok).mono ?_
            rintro e wb ⟨rfl, hbb⟩
            obtain ⟨c1, f1⟩ := bcell hbb
            have s1 := hbb.size
            go_wp2_with fail
            refine (verify_is _ L _ _ _ _ _ true (hps.below hbb) hok hpw HO (by have := HE.out; simp; try omega)).mono ?_
            rintro e wc ⟨rfl, hbc⟩
            obtain ⟨c2, f2⟩ := bcell hbc
            have s2 := hbc.size
            have n1 : G < wb.heap.size := by omega
            have n2 : w.heap.size + 1 < wb.heap.size := by omega
            go_wp2_with fail
            refine (verify_is _ L _ _ _ _ _ true ((hps.below hbb).below hbc) hok hpw HO (by have := HE.out; simp; try omega)).mono ?_
            rintro e wd ⟨rfl, hbd⟩
            obtain ⟨c3, f3⟩ := bcell hbd
            have n3 : G < wc.heap.size := by omega
            go_wp2
            go_ret
            exact ⟨ret_true (by simp; try omega), hb.trans (((hbb.step hbc).step hbd).mono hb.size)⟩
        · have e0 : (T == (pd : Int)) = false := by rw [beq_eq_false_iff_ne]; exact e
          rcases hlt1 with ⟨g1, g2⟩ | g1
          all_goals
            go_wp2_with fail
            refine (omay_ok _ L _ hps hok).mono ?_
            rintro e wb ⟨rfl, hbb⟩
            obtain ⟨c1, f1⟩ := bcell hbb
            have s1 := hbb.size
            go_wp2_with fail
            refine (verify_is _ L _ _ _ _ _ false (hps.below hbb) hok hpw HO (by simp; try omega)).mono ?_
            rintro e wc ⟨rfl, hbc⟩
            obtain ⟨c2, f2⟩ := bcell hbc
            have s2 := hbc.size
            have n1 : G < wb.heap.size := by omega
            have n2 : w.heap.size + 1 < wb.heap.size := by omega
            go_wp2_with fail
            refine (verify_is _ L _ _ _ _ _ true ((hps.below hbb).below hbc) hok hpw HO (by simp; try omega)).mono ?_
            rintro e wd ⟨rfl, hbd⟩
            obtain ⟨c3, f3⟩ := bcell hbd
            have n3 : G < wc.heap.size := by omega
            go_wp2
            go_ret
            exact ⟨ret_true (by simp; try omega), hb.trans (((hbb.step hbc).step hbd).mono hb.size)⟩
end Go.Proofs.Ytmdpddiiimkagaa
