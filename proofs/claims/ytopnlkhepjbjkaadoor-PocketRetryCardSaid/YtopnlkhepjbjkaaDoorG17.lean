/- meter: (state).take. -/
import Derived.Test.YtopnlkhepjbjkaaDoorG16
import Derived.Deep.DeepCutAuto
import Derived.BigRegion
namespace Go.Proofs.YtopnlkhepjbjkaaDoor
open Go.RowKit Go.Maps Go.ChangeShapes Go.WideShapes
set_option linter.unusedVariables false
set_option maxRecDepth 100000 in
set_option maxHeartbeats 2000000 in
theorem mtake_ok (g me rev cr H B bad lock cls id am tag : Nat) (w : World) (hg : Blk w g 87 #[.int .i64 (me : Int), .int .i64 (rev : Int), .int .i64 (cr : Int), .int .i64 (H : Int), .int .u64 (B : Int), .int .i64 (bad : Int), .int .i64 (lock : Int), .int .i64 0])
    (hW : WMay H B) (h1 : cr ≤ 99999999) (hk : TkOk cls id am tag) (hc : cls ≤ 2) (rev2 cr2 H2 B2 bad2 ad E : Nat) (hE : Hid (takeS rev cr H B bad cls id am = (rev2, cr2, H2, B2, bad2, ad, E))) :
    Calls Tryd.prog 36 #[.pointer (some ⟨g, 0, none⟩), .agg #[.int .i64 (cls : Int), .int .i64 (id : Int), .int .i64 (am : Int), .int .i64 (tag : Int)]] w fun e w' =>
      e = .returned (.int .i64 (E : Int)) ∧ Mem w [g] w' [.blk g 87 #[.int .i64 (me : Int), .int .i64 (rev2 : Int), .int .i64 (cr2 : Int), .int .i64 (H2 : Int), .int .u64 (B2 : Int), .int .i64 (bad2 : Int), .int .i64 (lock : Int), .int .i64 (ad : Int)]] := by
  have ham := hk.am
  obtain ⟨k1, k2, k3, k4, k5⟩ := hk
  obtain ⟨C, hC⟩ : ∃ C, judge H B id = C := ⟨_, rfl⟩
  obtain ⟨h2, b2, hT, hT0⟩ : ∃ h2 b2 : Nat, (∀ W, Calls Tryd.prog 63 #[.agg #[.int .i64 (H : Int), .int .u64 (B : Int)], .int .i64 (id : Int)] W fun e w' => e = .returned (.tuple #[.agg #[.int .i64 (h2 : Int), .int .u64 (b2 : Int)], .int .i64 (C : Int)]) ∧ Below W.heap.size W w') ∧ (C = 0 → (wtake H B id).1 = h2 ∧ (wtake H B id).2 = b2) := by
    rcases Nat.eq_zero_or_pos C with h | h
    · subst h
      exact ⟨_, _, fun W => take_ok H B id W hW k2 k3 hC, fun _ => ⟨rfl, rfl⟩⟩
    · exact ⟨0, 0, fun W => take_no H B id C W hW k2 k3 (Lib.hid hC) h, fun h0 => by omega⟩
  have hE := hE.out
  unfold takeS at hE
  rw [hC] at hE
  have HE := Lib.hid hE
  have HT0 := Lib.hid hT0
  clear hE hT0 hC hW
  have hgl := Blk.lt hg
  have HM : Mem (w) [g] (w) [.blk (g) 87 #[.int .i64 (me : Int), .int .i64 (rev : Int), .int .i64 (cr : Int), .int .i64 (H : Int), .int .u64 (B : Int), .int .i64 (bad : Int), .int .i64 (lock : Int), .int .i64 0]] := Mem.init1 hg
  obtain ⟨W0, hW0⟩ : ∃ W0, (w).alloc (.cells #[.int .i64 (cls : Int), .int .i64 (id : Int), .int .i64 (am : Int), .int .i64 (tag : Int)] 48) = W0 := ⟨_, rfl⟩
  replace HM : Mem (w) [g] _ [.blk (g) 87 #[.int .i64 (me : Int), .int .i64 (rev : Int), .int .i64 (cr : Int), .int .i64 (H : Int), .int .u64 (B : Int), .int .i64 (bad : Int), .int .i64 (lock : Int), .int .i64 0], .blk (w.heap.size) 48 #[.int .i64 (cls : Int), .int .i64 (id : Int), .int .i64 (am : Int), .int .i64 (tag : Int)]] := Mem.alloc HM (w.heap.size) (by first | (simp; done) | (simp; omega)) #[.int .i64 (cls : Int), .int .i64 (id : Int), .int .i64 (am : Int), .int .i64 (tag : Int)] 48
  rw [hW0] at HM
  have s0 : (W0).cell? ⟨g, 0, none⟩ = some (.int .i64 (me : Int)) := (HM.blk 0 rfl).cell 0
  have sf0 : (W0).frozen? ⟨g, 0, none⟩ = false := (HM.blk 0 rfl).frozen 0
  have s1 : (W0).cell? ⟨g, 1, none⟩ = some (.int .i64 (rev : Int)) := (HM.blk 0 rfl).cell 1
  have sf1 : (W0).frozen? ⟨g, 1, none⟩ = false := (HM.blk 0 rfl).frozen 1
  have s2 : (W0).cell? ⟨g, 2, none⟩ = some (.int .i64 (cr : Int)) := (HM.blk 0 rfl).cell 2
  have sf2 : (W0).frozen? ⟨g, 2, none⟩ = false := (HM.blk 0 rfl).frozen 2
  have s3 : (W0).cell? ⟨g, 3, none⟩ = some (.int .i64 (H : Int)) := (HM.blk 0 rfl).cell 3
  have sf3 : (W0).frozen? ⟨g, 3, none⟩ = false := (HM.blk 0 rfl).frozen 3
  have s4 : (W0).cell? ⟨g, 4, none⟩ = some (.int .u64 (B : Int)) := (HM.blk 0 rfl).cell 4
  have sf4 : (W0).frozen? ⟨g, 4, none⟩ = false := (HM.blk 0 rfl).frozen 4
  have s5 : (W0).cell? ⟨g, 5, none⟩ = some (.int .i64 (bad : Int)) := (HM.blk 0 rfl).cell 5
  have sf5 : (W0).frozen? ⟨g, 5, none⟩ = false := (HM.blk 0 rfl).frozen 5
  have s6 : (W0).cell? ⟨g, 6, none⟩ = some (.int .i64 (lock : Int)) := (HM.blk 0 rfl).cell 6
  have sf6 : (W0).frozen? ⟨g, 6, none⟩ = false := (HM.blk 0 rfl).frozen 6
  have s7 : (W0).cell? ⟨g, 7, none⟩ = some (.int .i64 0) := (HM.blk 0 rfl).cell 7
  have sf7 : (W0).frozen? ⟨g, 7, none⟩ = false := (HM.blk 0 rfl).frozen 7
  have slt : g < (W0).heap.size := HM.lt 0 rfl
  have tk0 : (W0).cell? ⟨w.heap.size, 0, none⟩ = some (.int .i64 (cls : Int)) := (HM.blk 1 rfl).cell 0
  have tkf0 : (W0).frozen? ⟨w.heap.size, 0, none⟩ = false := (HM.blk 1 rfl).frozen 0
  have tk1 : (W0).cell? ⟨w.heap.size, 1, none⟩ = some (.int .i64 (id : Int)) := (HM.blk 1 rfl).cell 1
  have tkf1 : (W0).frozen? ⟨w.heap.size, 1, none⟩ = false := (HM.blk 1 rfl).frozen 1
  have tk2 : (W0).cell? ⟨w.heap.size, 2, none⟩ = some (.int .i64 (am : Int)) := (HM.blk 1 rfl).cell 2
  have tkf2 : (W0).frozen? ⟨w.heap.size, 2, none⟩ = false := (HM.blk 1 rfl).frozen 2
  have tk3 : (W0).cell? ⟨w.heap.size, 3, none⟩ = some (.int .i64 (tag : Int)) := (HM.blk 1 rfl).cell 3
  have tkf3 : (W0).frozen? ⟨w.heap.size, 3, none⟩ = false := (HM.blk 1 rfl).frozen 3
  have tklt : w.heap.size < (W0).heap.size := HM.lt 1 rfl
  have ne_s_tk : g ≠ w.heap.size := HM.ne 0 1 rfl rfl (by decide)
  have ne_tk_s : w.heap.size ≠ g := HM.ne 1 0 rfl rfl (by decide)
  go_enter Tryd.func36, Tryd.ntmps36
  go_upto_region 1 with fail
  go_cut [5, 6] (fun p q wx => ∃ gw : Nat, p = .pointer (some ⟨gw, 0, none⟩) ∧ q = .int .i64 (C : Int) ∧ Mem w [g] wx [.blk g 87 #[.int .i64 (me : Int), .int .i64 (rev : Int), .int .i64 (cr : Int), .int .i64 (H : Int), .int .u64 (B : Int), .int .i64 (bad : Int), .int .i64 (lock : Int), .int .i64 0], .blk w.heap.size 48 #[.int .i64 (cls : Int), .int .i64 (id : Int), .int .i64 (am : Int), .int .i64 (tag : Int)], .blk gw 37 #[.int .i64 (h2 : Int), .int .u64 (b2 : Int)]])
  case first =>
    clear HE HT0 hg
    have V1 : Blk (W0.alloc (.cells #[.int .i64 0, .int .u64 0] 37)).drew W0.heap.size 37 #[.int .i64 0, .int .u64 0] := Blk.new W0 _ _
    have V2 : W0.heap.size + 1 ≤ ((W0.alloc (.cells #[.int .i64 0, .int .u64 0] 37)).drew).heap.size := by simp
    go_region_with (first | (go_at_call 63; (with_reducible refine (hT W0.drew).mono ?_); rintro e wt ⟨rfl, hbt⟩) | (go_at_call 63; (with_reducible refine (hT (W0.alloc (.cells #[.int .i64 0, .int .u64 0] 37)).drew).mono ?_); rintro e wt ⟨rfl, hbt⟩; have V3 := Nat.le_trans V2 hbt.size; have z := Blk.below V1 hbt V1.lt; have z0 := z.cell 0; have zf0 := z.frozen 0; have z1 := z.cell 1; have zf1 := z.frozen 1; have zlt : W0.heap.size < wt.heap.size := (by omega)))
    all_goals

      clear V1 V2 hT
      clear s0 sf0 s1 sf1 s2 sf2 s3 sf3 s4 sf4 s5 sf5 s6 sf6 s7 sf7 slt tk0 tkf0 tk1 tkf1 tk2 tkf2 tk3 tkf3 tklt ne_s_tk ne_tk_s

      first
      | (replace HM : Mem (w) [g] (wt) [.blk (g) 87 #[.int .i64 (me : Int), .int .i64 (rev : Int), .int .i64 (cr : Int), .int .i64 (H : Int), .int .u64 (B : Int), .int .i64 (bad : Int), .int .i64 (lock : Int), .int .i64 0], .blk (w.heap.size) 48 #[.int .i64 (cls : Int), .int .i64 (id : Int), .int .i64 (am : Int), .int .i64 (tag : Int)]] := Mem.call (Mem.drew HM) hbt
         obtain ⟨Wz, hWz⟩ : ∃ Wz, (wt).alloc (.cells #[.int .i64 (h2 : Int), .int .u64 (b2 : Int)] 37) = Wz := ⟨_, rfl⟩
         replace HM : Mem (w) [g] _ [.blk (g) 87 #[.int .i64 (me : Int), .int .i64 (rev : Int), .int .i64 (cr : Int), .int .i64 (H : Int), .int .u64 (B : Int), .int .i64 (bad : Int), .int .i64 (lock : Int), .int .i64 0], .blk (w.heap.size) 48 #[.int .i64 (cls : Int), .int .i64 (id : Int), .int .i64 (am : Int), .int .i64 (tag : Int)], .blk (wt.heap.size) 37 #[.int .i64 (h2 : Int), .int .u64 (b2 : Int)]] := Mem.alloc HM (wt.heap.size) (by first | (simp; done) | (simp; omega)) #[.int .i64 (h2 : Int), .int .u64 (b2 : Int)] 37
         rw [hWz] at HM ⊢
         clear hWz
         go_wp2_with fail
         go_meet
         exact ⟨_, rfl, rfl, HM⟩)
      | (skip
         obtain ⟨Wy, hWy⟩ : ∃ Wy, ((W0).alloc (.cells #[.int .i64 0, .int .u64 0] 37)).drew = Wy := ⟨_, rfl⟩
         replace HM : Mem (w) [g] _ [.blk (g) 87 #[.int .i64 (me : Int), .int .i64 (rev : Int), .int .i64 (cr : Int), .int .i64 (H : Int), .int .u64 (B : Int), .int .i64 (bad : Int), .int .i64 (lock : Int), .int .i64 0], .blk (w.heap.size) 48 #[.int .i64 (cls : Int), .int .i64 (id : Int), .int .i64 (am : Int), .int .i64 (tag : Int)], .blk (W0.heap.size) 37 #[.int .i64 0, .int .u64 0]] := Mem.alloc HM (W0.heap.size) (by first | (simp; done) | (simp; omega)) #[.int .i64 0, .int .u64 0] 37
         replace HM := HM.drew
         rw [hWy] at HM
         rw [hWy] at hbt
         replace HM : Mem (w) [g] (wt) [.blk (g) 87 #[.int .i64 (me : Int), .int .i64 (rev : Int), .int .i64 (cr : Int), .int .i64 (H : Int), .int .u64 (B : Int), .int .i64 (bad : Int), .int .i64 (lock : Int), .int .i64 0], .blk (w.heap.size) 48 #[.int .i64 (cls : Int), .int .i64 (id : Int), .int .i64 (am : Int), .int .i64 (tag : Int)], .blk (W0.heap.size) 37 #[.int .i64 0, .int .u64 0]] := Mem.call HM hbt
         obtain ⟨Wz, hWz⟩ : ∃ Wz, ((wt).setCell ⟨W0.heap.size, 0, none⟩ (.int .i64 (h2 : Int))).setCell ⟨W0.heap.size, 1, none⟩ (.int .u64 (b2 : Int)) = Wz := ⟨_, rfl⟩
         replace HM : Mem (w) [g] _ [.blk (g) 87 #[.int .i64 (me : Int), .int .i64 (rev : Int), .int .i64 (cr : Int), .int .i64 (H : Int), .int .u64 (B : Int), .int .i64 (bad : Int), .int .i64 (lock : Int), .int .i64 0], .blk (w.heap.size) 48 #[.int .i64 (cls : Int), .int .i64 (id : Int), .int .i64 (am : Int), .int .i64 (tag : Int)], .blk (W0.heap.size) 37 #[.int .i64 (h2 : Int), .int .u64 0]] := Mem.set 2 HM rfl 0 (.int .i64 (h2 : Int))
         replace HM : Mem (w) [g] _ [.blk (g) 87 #[.int .i64 (me : Int), .int .i64 (rev : Int), .int .i64 (cr : Int), .int .i64 (H : Int), .int .u64 (B : Int), .int .i64 (bad : Int), .int .i64 (lock : Int), .int .i64 0], .blk (w.heap.size) 48 #[.int .i64 (cls : Int), .int .i64 (id : Int), .int .i64 (am : Int), .int .i64 (tag : Int)], .blk (W0.heap.size) 37 #[.int .i64 (h2 : Int), .int .u64 (b2 : Int)]] := Mem.set 2 HM rfl 1 (.int .u64 (b2 : Int))
         rw [hWz] at HM ⊢
         clear hWz
         go_wp2_with fail
         go_meet
         exact ⟨_, rfl, rfl, HM⟩)
  case rest =>
    obtain ⟨gw, rfl, rfl, HM⟩ := hcut
    have HM : Mem (w) [g] (wc) [.blk (g) 87 #[.int .i64 (me : Int), .int .i64 (rev : Int), .int .i64 (cr : Int), .int .i64 (H : Int), .int .u64 (B : Int), .int .i64 (bad : Int), .int .i64 (lock : Int), .int .i64 0], .blk (w.heap.size) 48 #[.int .i64 (cls : Int), .int .i64 (id : Int), .int .i64 (am : Int), .int .i64 (tag : Int)], .blk (gw) 37 #[.int .i64 (h2 : Int), .int .u64 (b2 : Int)]] := HM
    have s0 : (wc).cell? ⟨g, 0, none⟩ = some (.int .i64 (me : Int)) := (HM.blk 0 rfl).cell 0
    have sf0 : (wc).frozen? ⟨g, 0, none⟩ = false := (HM.blk 0 rfl).frozen 0
    have s1 : (wc).cell? ⟨g, 1, none⟩ = some (.int .i64 (rev : Int)) := (HM.blk 0 rfl).cell 1
    have sf1 : (wc).frozen? ⟨g, 1, none⟩ = false := (HM.blk 0 rfl).frozen 1
    have s2 : (wc).cell? ⟨g, 2, none⟩ = some (.int .i64 (cr : Int)) := (HM.blk 0 rfl).cell 2
    have sf2 : (wc).frozen? ⟨g, 2, none⟩ = false := (HM.blk 0 rfl).frozen 2
    have s3 : (wc).cell? ⟨g, 3, none⟩ = some (.int .i64 (H : Int)) := (HM.blk 0 rfl).cell 3
    have sf3 : (wc).frozen? ⟨g, 3, none⟩ = false := (HM.blk 0 rfl).frozen 3
    have s4 : (wc).cell? ⟨g, 4, none⟩ = some (.int .u64 (B : Int)) := (HM.blk 0 rfl).cell 4
    have sf4 : (wc).frozen? ⟨g, 4, none⟩ = false := (HM.blk 0 rfl).frozen 4
    have s5 : (wc).cell? ⟨g, 5, none⟩ = some (.int .i64 (bad : Int)) := (HM.blk 0 rfl).cell 5
    have sf5 : (wc).frozen? ⟨g, 5, none⟩ = false := (HM.blk 0 rfl).frozen 5
    have s6 : (wc).cell? ⟨g, 6, none⟩ = some (.int .i64 (lock : Int)) := (HM.blk 0 rfl).cell 6
    have sf6 : (wc).frozen? ⟨g, 6, none⟩ = false := (HM.blk 0 rfl).frozen 6
    have s7 : (wc).cell? ⟨g, 7, none⟩ = some (.int .i64 0) := (HM.blk 0 rfl).cell 7
    have sf7 : (wc).frozen? ⟨g, 7, none⟩ = false := (HM.blk 0 rfl).frozen 7
    have slt : g < (wc).heap.size := HM.lt 0 rfl
    have tk0 : (wc).cell? ⟨w.heap.size, 0, none⟩ = some (.int .i64 (cls : Int)) := (HM.blk 1 rfl).cell 0
    have tkf0 : (wc).frozen? ⟨w.heap.size, 0, none⟩ = false := (HM.blk 1 rfl).frozen 0
    have tk1 : (wc).cell? ⟨w.heap.size, 1, none⟩ = some (.int .i64 (id : Int)) := (HM.blk 1 rfl).cell 1
    have tkf1 : (wc).frozen? ⟨w.heap.size, 1, none⟩ = false := (HM.blk 1 rfl).frozen 1
    have tk2 : (wc).cell? ⟨w.heap.size, 2, none⟩ = some (.int .i64 (am : Int)) := (HM.blk 1 rfl).cell 2
    have tkf2 : (wc).frozen? ⟨w.heap.size, 2, none⟩ = false := (HM.blk 1 rfl).frozen 2
    have tk3 : (wc).cell? ⟨w.heap.size, 3, none⟩ = some (.int .i64 (tag : Int)) := (HM.blk 1 rfl).cell 3
    have tkf3 : (wc).frozen? ⟨w.heap.size, 3, none⟩ = false := (HM.blk 1 rfl).frozen 3
    have tklt : w.heap.size < (wc).heap.size := HM.lt 1 rfl
    have wn0 : (wc).cell? ⟨gw, 0, none⟩ = some (.int .i64 (h2 : Int)) := (HM.blk 2 rfl).cell 0
    have wnf0 : (wc).frozen? ⟨gw, 0, none⟩ = false := (HM.blk 2 rfl).frozen 0
    have wn1 : (wc).cell? ⟨gw, 1, none⟩ = some (.int .u64 (b2 : Int)) := (HM.blk 2 rfl).cell 1
    have wnf1 : (wc).frozen? ⟨gw, 1, none⟩ = false := (HM.blk 2 rfl).frozen 1
    have wnlt : gw < (wc).heap.size := HM.lt 2 rfl
    have ne_s_tk : g ≠ w.heap.size := HM.ne 0 1 rfl rfl (by decide)
    have ne_s_wn : g ≠ gw := HM.ne 0 2 rfl rfl (by decide)
    have ne_tk_s : w.heap.size ≠ g := HM.ne 1 0 rfl rfl (by decide)
    have ne_tk_wn : w.heap.size ≠ gw := HM.ne 1 2 rfl rfl (by decide)
    have ne_wn_s : gw ≠ g := HM.ne 2 0 rfl rfl (by decide)
    have ne_wn_tk : gw ≠ w.heap.size := HM.ne 2 1 rfl rfl (by decide)

    have HE2 := HE.out
    rcases Nat.eq_zero_or_pos C with hC | hC
    · subst hC
      obtain ⟨e1, e2⟩ := HT0.out rfl
      rw [if_neg (by omega), e1, e2] at HE2
      have hgb := HM.blk 0 rfl
      clear HT0 HE
      rcases Nat.lt_or_ge 1 cls with hc1 | hc1
      · have hcl : cls = 2 := by omega
        have hq1 : ((cls : Int) == 1) = false := by simp; omega
        have hq2 : ((cls : Int) == 2) = true := by simp; omega
        rw [if_neg (by omega), if_neg (by omega)] at HE2
        have hCh := fun rv E h => mchange_ok g me rev cr H B bad lock am wc hgb rv E h
        go_wp2_with fail
        by_cases hle : am ≤ rev
        · rw [if_pos hle] at HE2
          injection HE2 with f1 HE2; injection HE2 with f2 HE2; injection HE2 with f3 HE2; injection HE2 with f4 HE2; injection HE2 with f5 HE2; injection HE2 with f6 f7
          subst f1; subst f2; subst f3; subst f4; subst f5; subst f6; subst f7
          refine (hCh rev 24 (by show _ = _; rw [if_pos hle])).mono ?_
          rintro e wd ⟨rfl, hK⟩
          replace HM : Mem (w) [g] (wd) [.blk (g) 87 #[.int .i64 (me : Int), .int .i64 (rev : Int), .int .i64 (cr : Int), .int .i64 (H : Int), .int .u64 (B : Int), .int .i64 (bad : Int), .int .i64 (lock : Int), .int .i64 0], .blk (w.heap.size) 48 #[.int .i64 (cls : Int), .int .i64 (id : Int), .int .i64 (am : Int), .int .i64 (tag : Int)], .blk (gw) 37 #[.int .i64 (h2 : Int), .int .u64 (b2 : Int)]] := Mem.joinAt 0 HM rfl hK
          clear s0 sf0 s1 sf1 s2 sf2 s3 sf3 s4 sf4 s5 sf5 s6 sf6 s7 sf7 slt tk0 tkf0 tk1 tkf1 tk2 tkf2 tk3 tkf3 tklt wn0 wnf0 wn1 wnf1 wnlt ne_s_tk ne_s_wn ne_tk_s ne_tk_wn ne_wn_s ne_wn_tk
          have s0 : (wd).cell? ⟨g, 0, none⟩ = some (.int .i64 (me : Int)) := (HM.blk 0 rfl).cell 0
          have sf0 : (wd).frozen? ⟨g, 0, none⟩ = false := (HM.blk 0 rfl).frozen 0
          have s1 : (wd).cell? ⟨g, 1, none⟩ = some (.int .i64 (rev : Int)) := (HM.blk 0 rfl).cell 1
          have sf1 : (wd).frozen? ⟨g, 1, none⟩ = false := (HM.blk 0 rfl).frozen 1
          have s2 : (wd).cell? ⟨g, 2, none⟩ = some (.int .i64 (cr : Int)) := (HM.blk 0 rfl).cell 2
          have sf2 : (wd).frozen? ⟨g, 2, none⟩ = false := (HM.blk 0 rfl).frozen 2
          have s3 : (wd).cell? ⟨g, 3, none⟩ = some (.int .i64 (H : Int)) := (HM.blk 0 rfl).cell 3
          have sf3 : (wd).frozen? ⟨g, 3, none⟩ = false := (HM.blk 0 rfl).frozen 3
          have s4 : (wd).cell? ⟨g, 4, none⟩ = some (.int .u64 (B : Int)) := (HM.blk 0 rfl).cell 4
          have sf4 : (wd).frozen? ⟨g, 4, none⟩ = false := (HM.blk 0 rfl).frozen 4
          have s5 : (wd).cell? ⟨g, 5, none⟩ = some (.int .i64 (bad : Int)) := (HM.blk 0 rfl).cell 5
          have sf5 : (wd).frozen? ⟨g, 5, none⟩ = false := (HM.blk 0 rfl).frozen 5
          have s6 : (wd).cell? ⟨g, 6, none⟩ = some (.int .i64 (lock : Int)) := (HM.blk 0 rfl).cell 6
          have sf6 : (wd).frozen? ⟨g, 6, none⟩ = false := (HM.blk 0 rfl).frozen 6
          have s7 : (wd).cell? ⟨g, 7, none⟩ = some (.int .i64 0) := (HM.blk 0 rfl).cell 7
          have sf7 : (wd).frozen? ⟨g, 7, none⟩ = false := (HM.blk 0 rfl).frozen 7
          have slt : g < (wd).heap.size := HM.lt 0 rfl
          have tk0 : (wd).cell? ⟨w.heap.size, 0, none⟩ = some (.int .i64 (cls : Int)) := (HM.blk 1 rfl).cell 0
          have tkf0 : (wd).frozen? ⟨w.heap.size, 0, none⟩ = false := (HM.blk 1 rfl).frozen 0
          have tk1 : (wd).cell? ⟨w.heap.size, 1, none⟩ = some (.int .i64 (id : Int)) := (HM.blk 1 rfl).cell 1
          have tkf1 : (wd).frozen? ⟨w.heap.size, 1, none⟩ = false := (HM.blk 1 rfl).frozen 1
          have tk2 : (wd).cell? ⟨w.heap.size, 2, none⟩ = some (.int .i64 (am : Int)) := (HM.blk 1 rfl).cell 2
          have tkf2 : (wd).frozen? ⟨w.heap.size, 2, none⟩ = false := (HM.blk 1 rfl).frozen 2
          have tk3 : (wd).cell? ⟨w.heap.size, 3, none⟩ = some (.int .i64 (tag : Int)) := (HM.blk 1 rfl).cell 3
          have tkf3 : (wd).frozen? ⟨w.heap.size, 3, none⟩ = false := (HM.blk 1 rfl).frozen 3
          have tklt : w.heap.size < (wd).heap.size := HM.lt 1 rfl
          have wn0 : (wd).cell? ⟨gw, 0, none⟩ = some (.int .i64 (h2 : Int)) := (HM.blk 2 rfl).cell 0
          have wnf0 : (wd).frozen? ⟨gw, 0, none⟩ = false := (HM.blk 2 rfl).frozen 0
          have wn1 : (wd).cell? ⟨gw, 1, none⟩ = some (.int .u64 (b2 : Int)) := (HM.blk 2 rfl).cell 1
          have wnf1 : (wd).frozen? ⟨gw, 1, none⟩ = false := (HM.blk 2 rfl).frozen 1
          have wnlt : gw < (wd).heap.size := HM.lt 2 rfl
          have ne_s_tk : g ≠ w.heap.size := HM.ne 0 1 rfl rfl (by decide)
          have ne_s_wn : g ≠ gw := HM.ne 0 2 rfl rfl (by decide)
          have ne_tk_s : w.heap.size ≠ g := HM.ne 1 0 rfl rfl (by decide)
          have ne_tk_wn : w.heap.size ≠ gw := HM.ne 1 2 rfl rfl (by decide)
          have ne_wn_s : gw ≠ g := HM.ne 2 0 rfl rfl (by decide)
          have ne_wn_tk : gw ≠ w.heap.size := HM.ne 2 1 rfl rfl (by decide)
          clear hCh hK hgb
          go_wp2
          go_ret
          exact ⟨rfl, (HM.drop_ 2).drop_ 1⟩
        · skip
          rw [if_neg hle] at HE2
          injection HE2 with f1 HE2; injection HE2 with f2 HE2; injection HE2 with f3 HE2; injection HE2 with f4 HE2; injection HE2 with f5 HE2; injection HE2 with f6 f7
          subst f1; subst f2; subst f3; subst f4; subst f5; subst f6; subst f7
          refine (hCh am 0 (by show _ = _; rw [if_neg hle])).mono ?_
          rintro e wd ⟨rfl, hK⟩
          replace HM : Mem (w) [g] (wd) [.blk (g) 87 #[.int .i64 (me : Int), .int .i64 (am : Int), .int .i64 (cr : Int), .int .i64 (H : Int), .int .u64 (B : Int), .int .i64 (bad : Int), .int .i64 (lock : Int), .int .i64 0], .blk (w.heap.size) 48 #[.int .i64 (cls : Int), .int .i64 (id : Int), .int .i64 (am : Int), .int .i64 (tag : Int)], .blk (gw) 37 #[.int .i64 (h2 : Int), .int .u64 (b2 : Int)]] := Mem.joinAt 0 HM rfl hK
          clear s0 sf0 s1 sf1 s2 sf2 s3 sf3 s4 sf4 s5 sf5 s6 sf6 s7 sf7 slt tk0 tkf0 tk1 tkf1 tk2 tkf2 tk3 tkf3 tklt wn0 wnf0 wn1 wnf1 wnlt ne_s_tk ne_s_wn ne_tk_s ne_tk_wn ne_wn_s ne_wn_tk
          have s0 : (wd).cell? ⟨g, 0, none⟩ = some (.int .i64 (me : Int)) := (HM.blk 0 rfl).cell 0
          have sf0 : (wd).frozen? ⟨g, 0, none⟩ = false := (HM.blk 0 rfl).frozen 0
          have s1 : (wd).cell? ⟨g, 1, none⟩ = some (.int .i64 (am : Int)) := (HM.blk 0 rfl).cell 1
          have sf1 : (wd).frozen? ⟨g, 1, none⟩ = false := (HM.blk 0 rfl).frozen 1
          have s2 : (wd).cell? ⟨g, 2, none⟩ = some (.int .i64 (cr : Int)) := (HM.blk 0 rfl).cell 2
          have sf2 : (wd).frozen? ⟨g, 2, none⟩ = false := (HM.blk 0 rfl).frozen 2
          have s3 : (wd).cell? ⟨g, 3, none⟩ = some (.int .i64 (H : Int)) := (HM.blk 0 rfl).cell 3
          have sf3 : (wd).frozen? ⟨g, 3, none⟩ = false := (HM.blk 0 rfl).frozen 3
          have s4 : (wd).cell? ⟨g, 4, none⟩ = some (.int .u64 (B : Int)) := (HM.blk 0 rfl).cell 4
          have sf4 : (wd).frozen? ⟨g, 4, none⟩ = false := (HM.blk 0 rfl).frozen 4
          have s5 : (wd).cell? ⟨g, 5, none⟩ = some (.int .i64 (bad : Int)) := (HM.blk 0 rfl).cell 5
          have sf5 : (wd).frozen? ⟨g, 5, none⟩ = false := (HM.blk 0 rfl).frozen 5
          have s6 : (wd).cell? ⟨g, 6, none⟩ = some (.int .i64 (lock : Int)) := (HM.blk 0 rfl).cell 6
          have sf6 : (wd).frozen? ⟨g, 6, none⟩ = false := (HM.blk 0 rfl).frozen 6
          have s7 : (wd).cell? ⟨g, 7, none⟩ = some (.int .i64 0) := (HM.blk 0 rfl).cell 7
          have sf7 : (wd).frozen? ⟨g, 7, none⟩ = false := (HM.blk 0 rfl).frozen 7
          have slt : g < (wd).heap.size := HM.lt 0 rfl
          have tk0 : (wd).cell? ⟨w.heap.size, 0, none⟩ = some (.int .i64 (cls : Int)) := (HM.blk 1 rfl).cell 0
          have tkf0 : (wd).frozen? ⟨w.heap.size, 0, none⟩ = false := (HM.blk 1 rfl).frozen 0
          have tk1 : (wd).cell? ⟨w.heap.size, 1, none⟩ = some (.int .i64 (id : Int)) := (HM.blk 1 rfl).cell 1
          have tkf1 : (wd).frozen? ⟨w.heap.size, 1, none⟩ = false := (HM.blk 1 rfl).frozen 1
          have tk2 : (wd).cell? ⟨w.heap.size, 2, none⟩ = some (.int .i64 (am : Int)) := (HM.blk 1 rfl).cell 2
          have tkf2 : (wd).frozen? ⟨w.heap.size, 2, none⟩ = false := (HM.blk 1 rfl).frozen 2
          have tk3 : (wd).cell? ⟨w.heap.size, 3, none⟩ = some (.int .i64 (tag : Int)) := (HM.blk 1 rfl).cell 3
          have tkf3 : (wd).frozen? ⟨w.heap.size, 3, none⟩ = false := (HM.blk 1 rfl).frozen 3
          have tklt : w.heap.size < (wd).heap.size := HM.lt 1 rfl
          have wn0 : (wd).cell? ⟨gw, 0, none⟩ = some (.int .i64 (h2 : Int)) := (HM.blk 2 rfl).cell 0
          have wnf0 : (wd).frozen? ⟨gw, 0, none⟩ = false := (HM.blk 2 rfl).frozen 0
          have wn1 : (wd).cell? ⟨gw, 1, none⟩ = some (.int .u64 (b2 : Int)) := (HM.blk 2 rfl).cell 1
          have wnf1 : (wd).frozen? ⟨gw, 1, none⟩ = false := (HM.blk 2 rfl).frozen 1
          have wnlt : gw < (wd).heap.size := HM.lt 2 rfl
          have ne_s_tk : g ≠ w.heap.size := HM.ne 0 1 rfl rfl (by decide)
          have ne_s_wn : g ≠ gw := HM.ne 0 2 rfl rfl (by decide)
          have ne_tk_s : w.heap.size ≠ g := HM.ne 1 0 rfl rfl (by decide)
          have ne_tk_wn : w.heap.size ≠ gw := HM.ne 1 2 rfl rfl (by decide)
          have ne_wn_s : gw ≠ g := HM.ne 2 0 rfl rfl (by decide)
          have ne_wn_tk : gw ≠ w.heap.size := HM.ne 2 1 rfl rfl (by decide)
          clear hCh hK hgb
          go_wp2
          obtain ⟨We, hWe⟩ : ∃ We, (((wd).setCell ⟨g, 3, none⟩ (.int .i64 (h2 : Int))).setCell ⟨g, 4, none⟩ (.int .u64 (b2 : Int))).setCell ⟨g, 5, none⟩ (.int .i64 0) = We := ⟨_, rfl⟩
          replace HM : Mem (w) [g] _ [.blk (g) 87 #[.int .i64 (me : Int), .int .i64 (am : Int), .int .i64 (cr : Int), .int .i64 (h2 : Int), .int .u64 (B : Int), .int .i64 (bad : Int), .int .i64 (lock : Int), .int .i64 0], .blk (w.heap.size) 48 #[.int .i64 (cls : Int), .int .i64 (id : Int), .int .i64 (am : Int), .int .i64 (tag : Int)], .blk (gw) 37 #[.int .i64 (h2 : Int), .int .u64 (b2 : Int)]] := Mem.set 0 HM rfl 3 (.int .i64 (h2 : Int))
          replace HM : Mem (w) [g] _ [.blk (g) 87 #[.int .i64 (me : Int), .int .i64 (am : Int), .int .i64 (cr : Int), .int .i64 (h2 : Int), .int .u64 (b2 : Int), .int .i64 (bad : Int), .int .i64 (lock : Int), .int .i64 0], .blk (w.heap.size) 48 #[.int .i64 (cls : Int), .int .i64 (id : Int), .int .i64 (am : Int), .int .i64 (tag : Int)], .blk (gw) 37 #[.int .i64 (h2 : Int), .int .u64 (b2 : Int)]] := Mem.set 0 HM rfl 4 (.int .u64 (b2 : Int))
          replace HM : Mem (w) [g] _ [.blk (g) 87 #[.int .i64 (me : Int), .int .i64 (am : Int), .int .i64 (cr : Int), .int .i64 (h2 : Int), .int .u64 (b2 : Int), .int .i64 0, .int .i64 (lock : Int), .int .i64 0], .blk (w.heap.size) 48 #[.int .i64 (cls : Int), .int .i64 (id : Int), .int .i64 (am : Int), .int .i64 (tag : Int)], .blk (gw) 37 #[.int .i64 (h2 : Int), .int .u64 (b2 : Int)]] := Mem.set 0 HM rfl 5 (.int .i64 0)
          rw [hWe] at HM ⊢
          clear hWe
          go_ret
          exact ⟨rfl, (HM.drop_ 2).drop_ 1⟩
      · rcases Nat.eq_zero_or_pos cls with hc0 | hc0
        · skip
          have hq1 : ((cls : Int) == 1) = false := by simp; omega
          have hq2 : ((cls : Int) == 2) = false := by simp; omega
          rw [if_pos hc0] at HE2
          have hCr := fun c a E h => mcredit_ok g me rev cr H B bad lock am wc hgb h1 ham c a E h
          go_wp2_with fail
          by_cases hle : 99999999 < cr + am
          · rw [if_pos hle] at HE2
            injection HE2 with f1 HE2; injection HE2 with f2 HE2; injection HE2 with f3 HE2; injection HE2 with f4 HE2; injection HE2 with f5 HE2; injection HE2 with f6 f7
            subst f1; subst f2; subst f3; subst f4; subst f5; subst f6; subst f7
            refine (hCr cr 0 15 (by show _ = _; rw [if_pos hle])).mono ?_
            rintro e wd ⟨rfl, hK⟩
            replace HM : Mem (w) [g] (wd) [.blk (g) 87 #[.int .i64 (me : Int), .int .i64 (rev : Int), .int .i64 (cr : Int), .int .i64 (H : Int), .int .u64 (B : Int), .int .i64 (bad : Int), .int .i64 (lock : Int), .int .i64 0], .blk (w.heap.size) 48 #[.int .i64 (cls : Int), .int .i64 (id : Int), .int .i64 (am : Int), .int .i64 (tag : Int)], .blk (gw) 37 #[.int .i64 (h2 : Int), .int .u64 (b2 : Int)]] := Mem.joinAt 0 HM rfl hK
            clear s0 sf0 s1 sf1 s2 sf2 s3 sf3 s4 sf4 s5 sf5 s6 sf6 s7 sf7 slt tk0 tkf0 tk1 tkf1 tk2 tkf2 tk3 tkf3 tklt wn0 wnf0 wn1 wnf1 wnlt ne_s_tk ne_s_wn ne_tk_s ne_tk_wn ne_wn_s ne_wn_tk
            have s0 : (wd).cell? ⟨g, 0, none⟩ = some (.int .i64 (me : Int)) := (HM.blk 0 rfl).cell 0
            have sf0 : (wd).frozen? ⟨g, 0, none⟩ = false := (HM.blk 0 rfl).frozen 0
            have s1 : (wd).cell? ⟨g, 1, none⟩ = some (.int .i64 (rev : Int)) := (HM.blk 0 rfl).cell 1
            have sf1 : (wd).frozen? ⟨g, 1, none⟩ = false := (HM.blk 0 rfl).frozen 1
            have s2 : (wd).cell? ⟨g, 2, none⟩ = some (.int .i64 (cr : Int)) := (HM.blk 0 rfl).cell 2
            have sf2 : (wd).frozen? ⟨g, 2, none⟩ = false := (HM.blk 0 rfl).frozen 2
            have s3 : (wd).cell? ⟨g, 3, none⟩ = some (.int .i64 (H : Int)) := (HM.blk 0 rfl).cell 3
            have sf3 : (wd).frozen? ⟨g, 3, none⟩ = false := (HM.blk 0 rfl).frozen 3
            have s4 : (wd).cell? ⟨g, 4, none⟩ = some (.int .u64 (B : Int)) := (HM.blk 0 rfl).cell 4
            have sf4 : (wd).frozen? ⟨g, 4, none⟩ = false := (HM.blk 0 rfl).frozen 4
            have s5 : (wd).cell? ⟨g, 5, none⟩ = some (.int .i64 (bad : Int)) := (HM.blk 0 rfl).cell 5
            have sf5 : (wd).frozen? ⟨g, 5, none⟩ = false := (HM.blk 0 rfl).frozen 5
            have s6 : (wd).cell? ⟨g, 6, none⟩ = some (.int .i64 (lock : Int)) := (HM.blk 0 rfl).cell 6
            have sf6 : (wd).frozen? ⟨g, 6, none⟩ = false := (HM.blk 0 rfl).frozen 6
            have s7 : (wd).cell? ⟨g, 7, none⟩ = some (.int .i64 0) := (HM.blk 0 rfl).cell 7
            have sf7 : (wd).frozen? ⟨g, 7, none⟩ = false := (HM.blk 0 rfl).frozen 7
            have slt : g < (wd).heap.size := HM.lt 0 rfl
            have tk0 : (wd).cell? ⟨w.heap.size, 0, none⟩ = some (.int .i64 (cls : Int)) := (HM.blk 1 rfl).cell 0
            have tkf0 : (wd).frozen? ⟨w.heap.size, 0, none⟩ = false := (HM.blk 1 rfl).frozen 0
            have tk1 : (wd).cell? ⟨w.heap.size, 1, none⟩ = some (.int .i64 (id : Int)) := (HM.blk 1 rfl).cell 1
            have tkf1 : (wd).frozen? ⟨w.heap.size, 1, none⟩ = false := (HM.blk 1 rfl).frozen 1
            have tk2 : (wd).cell? ⟨w.heap.size, 2, none⟩ = some (.int .i64 (am : Int)) := (HM.blk 1 rfl).cell 2
            have tkf2 : (wd).frozen? ⟨w.heap.size, 2, none⟩ = false := (HM.blk 1 rfl).frozen 2
            have tk3 : (wd).cell? ⟨w.heap.size, 3, none⟩ = some (.int .i64 (tag : Int)) := (HM.blk 1 rfl).cell 3
            have tkf3 : (wd).frozen? ⟨w.heap.size, 3, none⟩ = false := (HM.blk 1 rfl).frozen 3
            have tklt : w.heap.size < (wd).heap.size := HM.lt 1 rfl
            have wn0 : (wd).cell? ⟨gw, 0, none⟩ = some (.int .i64 (h2 : Int)) := (HM.blk 2 rfl).cell 0
            have wnf0 : (wd).frozen? ⟨gw, 0, none⟩ = false := (HM.blk 2 rfl).frozen 0
            have wn1 : (wd).cell? ⟨gw, 1, none⟩ = some (.int .u64 (b2 : Int)) := (HM.blk 2 rfl).cell 1
            have wnf1 : (wd).frozen? ⟨gw, 1, none⟩ = false := (HM.blk 2 rfl).frozen 1
            have wnlt : gw < (wd).heap.size := HM.lt 2 rfl
            have ne_s_tk : g ≠ w.heap.size := HM.ne 0 1 rfl rfl (by decide)
            have ne_s_wn : g ≠ gw := HM.ne 0 2 rfl rfl (by decide)
            have ne_tk_s : w.heap.size ≠ g := HM.ne 1 0 rfl rfl (by decide)
            have ne_tk_wn : w.heap.size ≠ gw := HM.ne 1 2 rfl rfl (by decide)
            have ne_wn_s : gw ≠ g := HM.ne 2 0 rfl rfl (by decide)
            have ne_wn_tk : gw ≠ w.heap.size := HM.ne 2 1 rfl rfl (by decide)
            clear hCr hK hgb
            go_wp2
            go_ret
            exact ⟨rfl, (HM.drop_ 2).drop_ 1⟩
          · skip
            rw [if_neg hle] at HE2
            obtain ⟨x, hx⟩ : ∃ x, cr + am = x := ⟨_, rfl⟩
            rw [hx] at HE2
            injection HE2 with f1 HE2; injection HE2 with f2 HE2; injection HE2 with f3 HE2; injection HE2 with f4 HE2; injection HE2 with f5 HE2; injection HE2 with f6 f7
            subst f1; subst f2; subst f3; subst f4; subst f5; subst f6; subst f7
            refine (hCr x am 0 (by show _ = _; rw [if_neg hle, hx])).mono ?_
            rintro e wd ⟨rfl, hK⟩
            replace HM : Mem (w) [g] (wd) [.blk (g) 87 #[.int .i64 (me : Int), .int .i64 (rev : Int), .int .i64 (x : Int), .int .i64 (H : Int), .int .u64 (B : Int), .int .i64 (bad : Int), .int .i64 (lock : Int), .int .i64 (am : Int)], .blk (w.heap.size) 48 #[.int .i64 (cls : Int), .int .i64 (id : Int), .int .i64 (am : Int), .int .i64 (tag : Int)], .blk (gw) 37 #[.int .i64 (h2 : Int), .int .u64 (b2 : Int)]] := Mem.joinAt 0 HM rfl hK
            clear s0 sf0 s1 sf1 s2 sf2 s3 sf3 s4 sf4 s5 sf5 s6 sf6 s7 sf7 slt tk0 tkf0 tk1 tkf1 tk2 tkf2 tk3 tkf3 tklt wn0 wnf0 wn1 wnf1 wnlt ne_s_tk ne_s_wn ne_tk_s ne_tk_wn ne_wn_s ne_wn_tk
            have s0 : (wd).cell? ⟨g, 0, none⟩ = some (.int .i64 (me : Int)) := (HM.blk 0 rfl).cell 0
            have sf0 : (wd).frozen? ⟨g, 0, none⟩ = false := (HM.blk 0 rfl).frozen 0
            have s1 : (wd).cell? ⟨g, 1, none⟩ = some (.int .i64 (rev : Int)) := (HM.blk 0 rfl).cell 1
            have sf1 : (wd).frozen? ⟨g, 1, none⟩ = false := (HM.blk 0 rfl).frozen 1
            have s2 : (wd).cell? ⟨g, 2, none⟩ = some (.int .i64 (x : Int)) := (HM.blk 0 rfl).cell 2
            have sf2 : (wd).frozen? ⟨g, 2, none⟩ = false := (HM.blk 0 rfl).frozen 2
            have s3 : (wd).cell? ⟨g, 3, none⟩ = some (.int .i64 (H : Int)) := (HM.blk 0 rfl).cell 3
            have sf3 : (wd).frozen? ⟨g, 3, none⟩ = false := (HM.blk 0 rfl).frozen 3
            have s4 : (wd).cell? ⟨g, 4, none⟩ = some (.int .u64 (B : Int)) := (HM.blk 0 rfl).cell 4
            have sf4 : (wd).frozen? ⟨g, 4, none⟩ = false := (HM.blk 0 rfl).frozen 4
            have s5 : (wd).cell? ⟨g, 5, none⟩ = some (.int .i64 (bad : Int)) := (HM.blk 0 rfl).cell 5
            have sf5 : (wd).frozen? ⟨g, 5, none⟩ = false := (HM.blk 0 rfl).frozen 5
            have s6 : (wd).cell? ⟨g, 6, none⟩ = some (.int .i64 (lock : Int)) := (HM.blk 0 rfl).cell 6
            have sf6 : (wd).frozen? ⟨g, 6, none⟩ = false := (HM.blk 0 rfl).frozen 6
            have s7 : (wd).cell? ⟨g, 7, none⟩ = some (.int .i64 (am : Int)) := (HM.blk 0 rfl).cell 7
            have sf7 : (wd).frozen? ⟨g, 7, none⟩ = false := (HM.blk 0 rfl).frozen 7
            have slt : g < (wd).heap.size := HM.lt 0 rfl
            have tk0 : (wd).cell? ⟨w.heap.size, 0, none⟩ = some (.int .i64 (cls : Int)) := (HM.blk 1 rfl).cell 0
            have tkf0 : (wd).frozen? ⟨w.heap.size, 0, none⟩ = false := (HM.blk 1 rfl).frozen 0
            have tk1 : (wd).cell? ⟨w.heap.size, 1, none⟩ = some (.int .i64 (id : Int)) := (HM.blk 1 rfl).cell 1
            have tkf1 : (wd).frozen? ⟨w.heap.size, 1, none⟩ = false := (HM.blk 1 rfl).frozen 1
            have tk2 : (wd).cell? ⟨w.heap.size, 2, none⟩ = some (.int .i64 (am : Int)) := (HM.blk 1 rfl).cell 2
            have tkf2 : (wd).frozen? ⟨w.heap.size, 2, none⟩ = false := (HM.blk 1 rfl).frozen 2
            have tk3 : (wd).cell? ⟨w.heap.size, 3, none⟩ = some (.int .i64 (tag : Int)) := (HM.blk 1 rfl).cell 3
            have tkf3 : (wd).frozen? ⟨w.heap.size, 3, none⟩ = false := (HM.blk 1 rfl).frozen 3
            have tklt : w.heap.size < (wd).heap.size := HM.lt 1 rfl
            have wn0 : (wd).cell? ⟨gw, 0, none⟩ = some (.int .i64 (h2 : Int)) := (HM.blk 2 rfl).cell 0
            have wnf0 : (wd).frozen? ⟨gw, 0, none⟩ = false := (HM.blk 2 rfl).frozen 0
            have wn1 : (wd).cell? ⟨gw, 1, none⟩ = some (.int .u64 (b2 : Int)) := (HM.blk 2 rfl).cell 1
            have wnf1 : (wd).frozen? ⟨gw, 1, none⟩ = false := (HM.blk 2 rfl).frozen 1
            have wnlt : gw < (wd).heap.size := HM.lt 2 rfl
            have ne_s_tk : g ≠ w.heap.size := HM.ne 0 1 rfl rfl (by decide)
            have ne_s_wn : g ≠ gw := HM.ne 0 2 rfl rfl (by decide)
            have ne_tk_s : w.heap.size ≠ g := HM.ne 1 0 rfl rfl (by decide)
            have ne_tk_wn : w.heap.size ≠ gw := HM.ne 1 2 rfl rfl (by decide)
            have ne_wn_s : gw ≠ g := HM.ne 2 0 rfl rfl (by decide)
            have ne_wn_tk : gw ≠ w.heap.size := HM.ne 2 1 rfl rfl (by decide)
            clear hCr hK hgb hx
            go_wp2
            obtain ⟨We, hWe⟩ : ∃ We, (((wd).setCell ⟨g, 3, none⟩ (.int .i64 (h2 : Int))).setCell ⟨g, 4, none⟩ (.int .u64 (b2 : Int))).setCell ⟨g, 5, none⟩ (.int .i64 0) = We := ⟨_, rfl⟩
            replace HM : Mem (w) [g] _ [.blk (g) 87 #[.int .i64 (me : Int), .int .i64 (rev : Int), .int .i64 (x : Int), .int .i64 (h2 : Int), .int .u64 (B : Int), .int .i64 (bad : Int), .int .i64 (lock : Int), .int .i64 (am : Int)], .blk (w.heap.size) 48 #[.int .i64 (cls : Int), .int .i64 (id : Int), .int .i64 (am : Int), .int .i64 (tag : Int)], .blk (gw) 37 #[.int .i64 (h2 : Int), .int .u64 (b2 : Int)]] := Mem.set 0 HM rfl 3 (.int .i64 (h2 : Int))
            replace HM : Mem (w) [g] _ [.blk (g) 87 #[.int .i64 (me : Int), .int .i64 (rev : Int), .int .i64 (x : Int), .int .i64 (h2 : Int), .int .u64 (b2 : Int), .int .i64 (bad : Int), .int .i64 (lock : Int), .int .i64 (am : Int)], .blk (w.heap.size) 48 #[.int .i64 (cls : Int), .int .i64 (id : Int), .int .i64 (am : Int), .int .i64 (tag : Int)], .blk (gw) 37 #[.int .i64 (h2 : Int), .int .u64 (b2 : Int)]] := Mem.set 0 HM rfl 4 (.int .u64 (b2 : Int))
            replace HM : Mem (w) [g] _ [.blk (g) 87 #[.int .i64 (me : Int), .int .i64 (rev : Int), .int .i64 (x : Int), .int .i64 (h2 : Int), .int .u64 (b2 : Int), .int .i64 0, .int .i64 (lock : Int), .int .i64 (am : Int)], .blk (w.heap.size) 48 #[.int .i64 (cls : Int), .int .i64 (id : Int), .int .i64 (am : Int), .int .i64 (tag : Int)], .blk (gw) 37 #[.int .i64 (h2 : Int), .int .u64 (b2 : Int)]] := Mem.set 0 HM rfl 5 (.int .i64 0)
            rw [hWe] at HM ⊢
            clear hWe
            go_ret
            exact ⟨rfl, (HM.drop_ 2).drop_ 1⟩
        · skip
          have hcl : cls = 1 := by omega
          have hq1 : ((cls : Int) == 1) = true := by simp; omega
          rw [if_neg (by omega), if_pos hcl] at HE2
          clear hcl
          have hCl := fun x => mclear_ok g me rev cr H B bad lock x wc hgb
          injection HE2 with f1 HE2; injection HE2 with f2 HE2; injection HE2 with f3 HE2; injection HE2 with f4 HE2; injection HE2 with f5 HE2; injection HE2 with f6 f7
          subst f1; subst f2; subst f3; subst f4; subst f5; subst f6; subst f7
          go_wp2_with fail
          refine (hCl _).mono ?_
          rintro e wd ⟨rfl, hK⟩
          replace HM : Mem (w) [g] (wd) [.blk (g) 87 #[.int .i64 (me : Int), .int .i64 (rev : Int), .int .i64 0, .int .i64 (H : Int), .int .u64 (B : Int), .int .i64 (bad : Int), .int .i64 (lock : Int), .int .i64 0], .blk (w.heap.size) 48 #[.int .i64 (cls : Int), .int .i64 (id : Int), .int .i64 (am : Int), .int .i64 (tag : Int)], .blk (gw) 37 #[.int .i64 (h2 : Int), .int .u64 (b2 : Int)]] := Mem.joinAt 0 HM rfl hK
          clear s0 sf0 s1 sf1 s2 sf2 s3 sf3 s4 sf4 s5 sf5 s6 sf6 s7 sf7 slt tk0 tkf0 tk1 tkf1 tk2 tkf2 tk3 tkf3 tklt wn0 wnf0 wn1 wnf1 wnlt ne_s_tk ne_s_wn ne_tk_s ne_tk_wn ne_wn_s ne_wn_tk
          have s0 : (wd).cell? ⟨g, 0, none⟩ = some (.int .i64 (me : Int)) := (HM.blk 0 rfl).cell 0
          have sf0 : (wd).frozen? ⟨g, 0, none⟩ = false := (HM.blk 0 rfl).frozen 0
          have s1 : (wd).cell? ⟨g, 1, none⟩ = some (.int .i64 (rev : Int)) := (HM.blk 0 rfl).cell 1
          have sf1 : (wd).frozen? ⟨g, 1, none⟩ = false := (HM.blk 0 rfl).frozen 1
          have s2 : (wd).cell? ⟨g, 2, none⟩ = some (.int .i64 0) := (HM.blk 0 rfl).cell 2
          have sf2 : (wd).frozen? ⟨g, 2, none⟩ = false := (HM.blk 0 rfl).frozen 2
          have s3 : (wd).cell? ⟨g, 3, none⟩ = some (.int .i64 (H : Int)) := (HM.blk 0 rfl).cell 3
          have sf3 : (wd).frozen? ⟨g, 3, none⟩ = false := (HM.blk 0 rfl).frozen 3
          have s4 : (wd).cell? ⟨g, 4, none⟩ = some (.int .u64 (B : Int)) := (HM.blk 0 rfl).cell 4
          have sf4 : (wd).frozen? ⟨g, 4, none⟩ = false := (HM.blk 0 rfl).frozen 4
          have s5 : (wd).cell? ⟨g, 5, none⟩ = some (.int .i64 (bad : Int)) := (HM.blk 0 rfl).cell 5
          have sf5 : (wd).frozen? ⟨g, 5, none⟩ = false := (HM.blk 0 rfl).frozen 5
          have s6 : (wd).cell? ⟨g, 6, none⟩ = some (.int .i64 (lock : Int)) := (HM.blk 0 rfl).cell 6
          have sf6 : (wd).frozen? ⟨g, 6, none⟩ = false := (HM.blk 0 rfl).frozen 6
          have s7 : (wd).cell? ⟨g, 7, none⟩ = some (.int .i64 0) := (HM.blk 0 rfl).cell 7
          have sf7 : (wd).frozen? ⟨g, 7, none⟩ = false := (HM.blk 0 rfl).frozen 7
          have slt : g < (wd).heap.size := HM.lt 0 rfl
          have tk0 : (wd).cell? ⟨w.heap.size, 0, none⟩ = some (.int .i64 (cls : Int)) := (HM.blk 1 rfl).cell 0
          have tkf0 : (wd).frozen? ⟨w.heap.size, 0, none⟩ = false := (HM.blk 1 rfl).frozen 0
          have tk1 : (wd).cell? ⟨w.heap.size, 1, none⟩ = some (.int .i64 (id : Int)) := (HM.blk 1 rfl).cell 1
          have tkf1 : (wd).frozen? ⟨w.heap.size, 1, none⟩ = false := (HM.blk 1 rfl).frozen 1
          have tk2 : (wd).cell? ⟨w.heap.size, 2, none⟩ = some (.int .i64 (am : Int)) := (HM.blk 1 rfl).cell 2
          have tkf2 : (wd).frozen? ⟨w.heap.size, 2, none⟩ = false := (HM.blk 1 rfl).frozen 2
          have tk3 : (wd).cell? ⟨w.heap.size, 3, none⟩ = some (.int .i64 (tag : Int)) := (HM.blk 1 rfl).cell 3
          have tkf3 : (wd).frozen? ⟨w.heap.size, 3, none⟩ = false := (HM.blk 1 rfl).frozen 3
          have tklt : w.heap.size < (wd).heap.size := HM.lt 1 rfl
          have wn0 : (wd).cell? ⟨gw, 0, none⟩ = some (.int .i64 (h2 : Int)) := (HM.blk 2 rfl).cell 0
          have wnf0 : (wd).frozen? ⟨gw, 0, none⟩ = false := (HM.blk 2 rfl).frozen 0
          have wn1 : (wd).cell? ⟨gw, 1, none⟩ = some (.int .u64 (b2 : Int)) := (HM.blk 2 rfl).cell 1
          have wnf1 : (wd).frozen? ⟨gw, 1, none⟩ = false := (HM.blk 2 rfl).frozen 1
          have wnlt : gw < (wd).heap.size := HM.lt 2 rfl
          have ne_s_tk : g ≠ w.heap.size := HM.ne 0 1 rfl rfl (by decide)
          have ne_s_wn : g ≠ gw := HM.ne 0 2 rfl rfl (by decide)
          have ne_tk_s : w.heap.size ≠ g := HM.ne 1 0 rfl rfl (by decide)
          have ne_tk_wn : w.heap.size ≠ gw := HM.ne 1 2 rfl rfl (by decide)
          have ne_wn_s : gw ≠ g := HM.ne 2 0 rfl rfl (by decide)
          have ne_wn_tk : gw ≠ w.heap.size := HM.ne 2 1 rfl rfl (by decide)
          clear hCl hK hgb
          go_wp2
          obtain ⟨We, hWe⟩ : ∃ We, (((wd).setCell ⟨g, 3, none⟩ (.int .i64 (h2 : Int))).setCell ⟨g, 4, none⟩ (.int .u64 (b2 : Int))).setCell ⟨g, 5, none⟩ (.int .i64 0) = We := ⟨_, rfl⟩
          replace HM : Mem (w) [g] _ [.blk (g) 87 #[.int .i64 (me : Int), .int .i64 (rev : Int), .int .i64 0, .int .i64 (h2 : Int), .int .u64 (B : Int), .int .i64 (bad : Int), .int .i64 (lock : Int), .int .i64 0], .blk (w.heap.size) 48 #[.int .i64 (cls : Int), .int .i64 (id : Int), .int .i64 (am : Int), .int .i64 (tag : Int)], .blk (gw) 37 #[.int .i64 (h2 : Int), .int .u64 (b2 : Int)]] := Mem.set 0 HM rfl 3 (.int .i64 (h2 : Int))
          replace HM : Mem (w) [g] _ [.blk (g) 87 #[.int .i64 (me : Int), .int .i64 (rev : Int), .int .i64 0, .int .i64 (h2 : Int), .int .u64 (b2 : Int), .int .i64 (bad : Int), .int .i64 (lock : Int), .int .i64 0], .blk (w.heap.size) 48 #[.int .i64 (cls : Int), .int .i64 (id : Int), .int .i64 (am : Int), .int .i64 (tag : Int)], .blk (gw) 37 #[.int .i64 (h2 : Int), .int .u64 (b2 : Int)]] := Mem.set 0 HM rfl 4 (.int .u64 (b2 : Int))
          replace HM : Mem (w) [g] _ [.blk (g) 87 #[.int .i64 (me : Int), .int .i64 (rev : Int), .int .i64 0, .int .i64 (h2 : Int), .int .u64 (b2 : Int), .int .i64 0, .int .i64 (lock : Int), .int .i64 0], .blk (w.heap.size) 48 #[.int .i64 (cls : Int), .int .i64 (id : Int), .int .i64 (am : Int), .int .i64 (tag : Int)], .blk (gw) 37 #[.int .i64 (h2 : Int), .int .u64 (b2 : Int)]] := Mem.set 0 HM rfl 5 (.int .i64 0)
          rw [hWe] at HM ⊢
          clear hWe
          go_ret
          exact ⟨rfl, (HM.drop_ 2).drop_ 1⟩
    · skip
      rw [if_pos (by omega)] at HE2
      injection HE2 with f1 HE2; injection HE2 with f2 HE2; injection HE2 with f3 HE2; injection HE2 with f4 HE2; injection HE2 with f5 HE2; injection HE2 with f6 f7
      subst f1; subst f2; subst f3; subst f4; subst f5; subst f6; subst f7
      have hC0 : ((C : Int) == 0) = false := by simp; omega
      clear HT0 HE
      go_wp2
      go_ret
      exact ⟨rfl, (HM.drop_ 2).drop_ 1⟩
end Go.Proofs.YtopnlkhepjbjkaaDoor
