/- The walk of the law PocketBurns. -/
import Derived.Test.YtopnlkhepjbjkaaDoorG35
import Derived.Test.YtopnlkhepjbjkaaDoorG3
namespace Go.Proofs.YtopnlkhepjbjkaaDoor
open Go.RowKit
set_option linter.unusedVariables false
set_option maxRecDepth 100000 in
set_option maxHeartbeats 8000000 in
theorem walk_pocketBurns (w : World) (a0 : Int) (w0 : (Lit.int .i64 a0).wf = true) (a1 : Int) (w1 : (Lit.int .i64 a1).wf = true) (a2 : Int) (w2 : (Lit.int .i64 a2).wf = true) (a3 : Int) (w3 : (Lit.int .i64 a3).wf = true) :
    Calls Tryd.prog 6 #[.int .i64 a0, .int .i64 a1, .int .i64 a2, .int .i64 a3] w fun e w' => e = .returned (.bool true) ∧ Below w.heap.size w w' := by
  obtain ⟨me, hme, m1⟩ := pk_nat a0 50 (by omega)
  obtain ⟨ld, hld, l1⟩ := pk_nat a2 1001 (by omega)
  obtain ⟨cc, hcc, c1⟩ := pk_nat a1 2097151 (by omega)
  have hP := fun v W h => pocketAt_ok me 1 (fun _ j => if j = 2 then a1 else 0) v W m1 h
  have hB : ∀ (v : Value) (A : Option Addr) (W : World), Blk W A.get!.block 45 #[.int .i64 0, .int .i64 0, .int .i64 a1, .int .i64 0] → True := fun _ _ _ _ => trivial
  clear hB
  have HM := Mem.init w
  go_enter Tryd.func6, Tryd.ntmps6
  go_wp2_with fail
  refine (picked_is _ hme w0 (by omega) (by omega)).mono ?_
  rintro e w9 ⟨rfl, rfl⟩
  go_wp2_with fail
  obtain ⟨W0, hW0⟩ : ∃ W0, (w).alloc (.cells #[.int .i64 0, .int .i64 0, .int .i64 a1, .int .i64 0] 45) = W0 := ⟨_, rfl⟩
  replace HM : Mem (w) [] _ [.blk (w.heap.size) 45 #[.int .i64 0, .int .i64 0, .int .i64 a1, .int .i64 0]] := Mem.alloc HM (w.heap.size) (by first | (simp; done) | (simp; omega)) #[.int .i64 0, .int .i64 0, .int .i64 a1, .int .i64 0] 45
  rw [hW0] at HM ⊢
  clear hW0
  have hR : IsRows W0 (.slice (some ⟨w.heap.size, 0, none⟩) 1 1) [.i64, .i64, .i64, .i64] 1 (fun _ j => if j = 2 then a1 else 0) := by
    have hb := HM.blk 0 rfl
    refine ⟨_, 1, rfl, Nat.le_refl _, by unfold maxLen; omega, fun i hi j k hk => ?_, fun _ => ⟨_, 0, rfl, hb.lt, fun i hi j k hk => ?_⟩⟩
    · rcases j with _ | _ | _ | _ | j <;> simp at hk <;> subst hk <;> first | exact (show (Lit.int .i64 0).wf = true by decide) | exact w1
    · obtain rfl : i = 0 := by omega
      rw [hb.cell]
      rcases j with _ | _ | _ | _ | j <;> simp at hk <;> subst hk <;> rfl
  refine (hP _ _ hR).mono ?_
  rintro e wa ⟨x, C, l, A, c, rev, cr, H, b, bad, lock, s, rfl, hx, hS, hb, hm, hO, hl, hPth, hown, hba⟩
  obtain ⟨rfl, hcr, rfl, rfl⟩ := path_credit (show Path me [(0, 0, a1, 0)] rev cr H b bad lock l from by simpa [rawsL] using hPth)
  have hcr2 : cr = 1 + cc := by have h1 := hcc.out; have e1 : ((2097151 : Nat) : Int) = 2097151 := rfl; rw [e1] at h1; omega
  replace HM : Mem (w) [] (wa) [.blk (w.heap.size) 45 #[.int .i64 0, .int .i64 0, .int .i64 a1, .int .i64 0], .row (W0.heap.size) (116) (4) (.slice A l.length c) (l.length) (prs l)] := Mem.row HM hba hown (Nat.le_refl _)
  obtain ⟨u, hu⟩ : ∃ u, min ld cr = u := ⟨_, rfl⟩
  obtain ⟨z, hz⟩ : ∃ z, cr - u = z := ⟨_, rfl⟩
  have hBt := fun W h => boot_ok x C me 0 cr H b 0 0 s W h hS hb hm
  have hTk := fun W h => ticked_ok x C me 0 cr H b 0 0 ld u z 0 s W h hS hb hm (by omega) hu hz rfl
  unfold RetKeyed at hTk
  simp only [Int.cast_ofNat_Int] at hBt hTk
  have K1 : (1 : Int) ≤ 2097151 := by omega
  have K2 : (2097151 : Int) ≤ 9223372036854775807 := by omega
  have hcs : (ld = 0 ∧ u = 0) ∨ (0 < u ∧ (ld : Int) ≤ (cr : Int) ∧ u = ld) ∨ (0 < u ∧ ¬ (ld : Int) ≤ (cr : Int) ∧ u = cr) := by omega
  have hcrI : IntKind.i64.wrap (1 + (cc : Int)) = (cr : Int) := by rw [IntWalk.i64_in _ (by omega)]; omega
  clear hP hR hba hown hPth hl hO hcr hcr2
  have K3 : (1 : Int) ≤ 1001 := by omega
  have K4 : (1001 : Int) ≤ 9223372036854775807 := by omega
  have K5 : (1 : Int) ≤ 8 := by omega
  have K6 : (8 : Int) ≤ 9223372036854775807 := by omega
  have hCl := hS.len
  have hWe := fun W => win_eql H b H b W
  go_wp2_with fail
  obtain ⟨W1, hW1⟩ : ∃ W1, (wa).alloc (.cells #[.slice A l.length c] 33) = W1 := ⟨_, rfl⟩
  replace HM : Mem (w) [] _ [.blk (w.heap.size) 45 #[.int .i64 0, .int .i64 0, .int .i64 a1, .int .i64 0], .row (W0.heap.size) (116) (4) (.slice A l.length c) (l.length) (prs l), .blk (wa.heap.size) 33 #[.slice A l.length c]] := Mem.alloc HM (wa.heap.size) (by first | (simp; done) | (simp; omega)) #[.slice A l.length c] 33
  rw [hW1] at HM ⊢
  replace hx : IsWs W1 x C := by rw [← hW1]; exact hx.below (below_a1 _ _)
  clear hW1
  refine (picked_is _ hld w2 K3 K4).mono ?_
  rintro e w8 ⟨rfl, rfl⟩
  go_wp2_with fail
  refine (hBt _ hx).mono ?_
  rintro e wb ⟨rfl, hbb⟩
  replace hx := hx.below hbb
  replace HM : Mem (w) [] (wb) [.blk (w.heap.size) 45 #[.int .i64 0, .int .i64 0, .int .i64 a1, .int .i64 0], .row (W0.heap.size) (116) (4) (.slice A l.length c) (l.length) (prs l), .blk (wa.heap.size) 33 #[.slice A l.length c]] := Mem.call HM hbb
  clear hbb hBt
  go_wp2_with fail
  obtain ⟨W2, hW2⟩ : ∃ W2, (wb).alloc (.cells #[.int .i64 (me : Int), .int .i64 0, .int .i64 (cr : Int), .int .i64 (H : Int), .int .u64 (b : Int), .int .i64 0, .int .i64 0] 39) = W2 := ⟨_, rfl⟩
  replace HM : Mem (w) [] _ [.blk (w.heap.size) 45 #[.int .i64 0, .int .i64 0, .int .i64 a1, .int .i64 0], .row (W0.heap.size) (116) (4) (.slice A l.length c) (l.length) (prs l), .blk (wa.heap.size) 33 #[.slice A l.length c], .blk (wb.heap.size) 39 #[.int .i64 (me : Int), .int .i64 0, .int .i64 (cr : Int), .int .i64 (H : Int), .int .u64 (b : Int), .int .i64 0, .int .i64 0]] := Mem.alloc HM (wb.heap.size) (by first | (simp; done) | (simp; omega)) #[.int .i64 (me : Int), .int .i64 0, .int .i64 (cr : Int), .int .i64 (H : Int), .int .u64 (b : Int), .int .i64 0, .int .i64 0] 39
  rw [hW2] at HM ⊢
  replace hx : IsWs W2 x C := by rw [← hW2]; exact hx.below (below_a1 _ _)
  clear hW2
  refine (hTk _ hx).mono ?_
  rintro e wd ⟨y, rfl, hy, hbd⟩
  replace hx := hx.below hbd
  replace HM : Mem (w) [] (wd) [.blk (w.heap.size) 45 #[.int .i64 0, .int .i64 0, .int .i64 a1, .int .i64 0], .row (W0.heap.size) (116) (4) (.slice A l.length c) (l.length) (prs l), .blk (wa.heap.size) 33 #[.slice A l.length c], .blk (wb.heap.size) 39 #[.int .i64 (me : Int), .int .i64 0, .int .i64 (cr : Int), .int .i64 (H : Int), .int .u64 (b : Int), .int .i64 0, .int .i64 0]] := Mem.call HM hbd
  have om0 : (wd).cell? ⟨wb.heap.size, 0, none⟩ = some (.int .i64 (me : Int)) := (HM.blk 3 rfl).cell 0
  have omf0 : (wd).frozen? ⟨wb.heap.size, 0, none⟩ = false := (HM.blk 3 rfl).frozen 0
  have om1 : (wd).cell? ⟨wb.heap.size, 1, none⟩ = some (.int .i64 0) := (HM.blk 3 rfl).cell 1
  have omf1 : (wd).frozen? ⟨wb.heap.size, 1, none⟩ = false := (HM.blk 3 rfl).frozen 1
  have om2 : (wd).cell? ⟨wb.heap.size, 2, none⟩ = some (.int .i64 (cr : Int)) := (HM.blk 3 rfl).cell 2
  have omf2 : (wd).frozen? ⟨wb.heap.size, 2, none⟩ = false := (HM.blk 3 rfl).frozen 2
  have om3 : (wd).cell? ⟨wb.heap.size, 3, none⟩ = some (.int .i64 (H : Int)) := (HM.blk 3 rfl).cell 3
  have omf3 : (wd).frozen? ⟨wb.heap.size, 3, none⟩ = false := (HM.blk 3 rfl).frozen 3
  have om4 : (wd).cell? ⟨wb.heap.size, 4, none⟩ = some (.int .u64 (b : Int)) := (HM.blk 3 rfl).cell 4
  have omf4 : (wd).frozen? ⟨wb.heap.size, 4, none⟩ = false := (HM.blk 3 rfl).frozen 4
  have om5 : (wd).cell? ⟨wb.heap.size, 5, none⟩ = some (.int .i64 0) := (HM.blk 3 rfl).cell 5
  have omf5 : (wd).frozen? ⟨wb.heap.size, 5, none⟩ = false := (HM.blk 3 rfl).frozen 5
  have om6 : (wd).cell? ⟨wb.heap.size, 6, none⟩ = some (.int .i64 0) := (HM.blk 3 rfl).cell 6
  have omf6 : (wd).frozen? ⟨wb.heap.size, 6, none⟩ = false := (HM.blk 3 rfl).frozen 6
  have omlt : wb.heap.size < (wd).heap.size := HM.lt 3 rfl
  clear hbd hTk hld w2 K3 K4

  rcases hcs with ⟨rfl, rfl⟩ | hcs
  · obtain rfl : cr = z := by omega
    rw [pkW_same] at hy
    obtain ⟨A3, c3, rfl, _, _, _, _⟩ := hy
    clear hu hz m1 l1 c1 hb hm hS hCl
    have hq0 : (0 : Int) ≤ (cr : Int) := by omega
    go_wp2_with fail
    go_quiet ((go_at_call 8; exact Calls.quiet_of_same ((picked_is _ hcc w1 K1 K2).mono fun _ _ h => ⟨h.1, h.2.symm⟩)))
    go_wp2
    go_ret
    exact ⟨rfl, below_draws HM.below _⟩
  · have hu1 : 0 < u := by omega
    have hmn : min (ld : Int) (cr : Int) = (u : Int) := by omega
    have hzb : cr ≠ z := by omega
    obtain ⟨b1, b2, b3, b4, b5, b6, b7⟩ := may_bounds hb hm
    have hm2 : mmay me ((0 : Nat) : Int) z H b ((0 : Nat) : Int) ((0 : Nat) : Int) = true := may_of m1 (by omega) (by omega) (by omega) (by omega) (by omega) b7
    rw [pkW_diff (fun hh => hzb hh.2.1)] at hy
    obtain ⟨hP1, hP2⟩ := slW_ok hS (mws_len me 0 z H b 0 0)
    have hst := sl_store hS (mws_len me 0 z H b 0 0)
    obtain ⟨P, hPP⟩ : ∃ P, slW C 5 (mws me 0 z H b 0 0) s = P := ⟨_, rfl⟩
    rw [hPP] at hy hP1 hP2 hst
    obtain ⟨k, hk, hk8⟩ := pk_nat a3 8 (by omega)
    have hA := fun u W h3 h4 => apply_ok x u C P k W h3 h4 (by omega) (by omega) (by omega) hP1 (by omega)
    have hsub : (cr : Int) - (u : Int) = (z : Int) := by omega
    have hwz : IntKind.i64.wrap ((cr : Int) - (u : Int)) = (z : Int) := by rw [hsub]; exact IntWalk.i64_in _ (by omega)
    have q1 : ((u : Int) == 0) = false := by simp; omega
    have hku : k < 7 ∨ k = 7 := by omega
    have hy0 := hy
    obtain ⟨A3, c3, rfl, _, _, _, _⟩ := hy
    rw [hP2] at hy0 ⊢
    have hD : ∃ D, applyW C (P.take k) = D ∧ ((k < 7 ∧ IsSl D 5 (mws me 0 cr H b 0 0) s) ∨ (k = 7 ∧ IsSl D 5 (mws me 0 z H b 0 0) (1 - s))) := by
      refine ⟨_, rfl, ?_⟩
      rcases hku with h | h
      · exact .inl ⟨h, hst.1 k (by omega)⟩
      · refine .inr ⟨h, ?_⟩
        have e : P.take k = P := List.take_of_length_le (by omega)
        rw [e]; exact hst.2
    obtain ⟨D, hDe, hDs⟩ := hD
    rw [hDe] at hA
    have HY := Lib.hid hy0
    have HD := Lib.hid hDs
    have HSub := Lib.hid hwz
    clear hy0 hDs hDe hst hPP hP1 hP2 hku hsub hwz hu hz hcs b1 b2 b3 b4 b5 b6 b7 l1 c1 hCl hS hzb hu1 hk8
    go_wp2_with fail
    go_quiet ((go_at_call 8; exact Calls.quiet_of_same ((picked_is _ hcc w1 K1 K2).mono fun _ _ h => ⟨h.1, h.2.symm⟩)))
    obtain ⟨Wq, hWq⟩ : ∃ Wq, (wd).drewN nq = Wq := ⟨_, rfl⟩
    replace HM := HM.drewN nq
    rw [hWq] at HM ⊢
    replace hx : IsWs Wq x C := by rw [← hWq]; exact hx
    have hyq : IsWr Wq (.slice A3 7 c3) P := by rw [← hWq]; exact HY.out
    clear hWq hcc w1 K1 K2 hmn q1 HY
    go_wp2_with fail
    refine (picked_is _ hk w3 K5 K6).mono ?_
    rintro e w7 ⟨rfl, rfl⟩
    go_wp2_with fail
    refine (hA _ _ hx hyq).mono ?_
    rintro e we ⟨dv, rfl, hdv, hbe⟩
    replace HM : Mem (w) [] (we) [.blk (w.heap.size) 45 #[.int .i64 0, .int .i64 0, .int .i64 a1, .int .i64 0], .row (W0.heap.size) (116) (4) (.slice A l.length c) (l.length) (prs l), .blk (wa.heap.size) 33 #[.slice A l.length c], .blk (wb.heap.size) 39 #[.int .i64 (me : Int), .int .i64 0, .int .i64 (cr : Int), .int .i64 (H : Int), .int .u64 (b : Int), .int .i64 0, .int .i64 0]] := Mem.call HM hbe
    clear hA hbe hx hyq hk w3 K5 K6
    have hwz := HSub.out
    rcases HD.out with ⟨hk7, hsl⟩ | ⟨rfl, hsl⟩
    · have hB1 := boot_ok dv D me 0 cr H b 0 0 s we hdv hsl hb hm
      simp only [Int.cast_ofNat_Int] at hB1
      have hk7b : ((k : Int) == 7) = false := by simp; omega
      clear hb hm hm2 hsl HD hk7
      go_wp2_with fail
      refine hB1.mono ?_
      rintro e wf ⟨rfl, hbf⟩
      replace HM : Mem (w) [] (wf) [.blk (w.heap.size) 45 #[.int .i64 0, .int .i64 0, .int .i64 a1, .int .i64 0], .row (W0.heap.size) (116) (4) (.slice A l.length c) (l.length) (prs l), .blk (wa.heap.size) 33 #[.slice A l.length c], .blk (wb.heap.size) 39 #[.int .i64 (me : Int), .int .i64 0, .int .i64 (cr : Int), .int .i64 (H : Int), .int .u64 (b : Int), .int .i64 0, .int .i64 0]] := Mem.call HM hbf
      clear hbf hB1

      clear om0 omf0 om1 omf1 om2 omf2 om3 omf3 om4 omf4 om5 omf5 om6 omf6 omlt
      have om0 : (wf).cell? ⟨wb.heap.size, 0, none⟩ = some (.int .i64 (me : Int)) := (HM.blk 3 rfl).cell 0
      have omf0 : (wf).frozen? ⟨wb.heap.size, 0, none⟩ = false := (HM.blk 3 rfl).frozen 0
      have om1 : (wf).cell? ⟨wb.heap.size, 1, none⟩ = some (.int .i64 0) := (HM.blk 3 rfl).cell 1
      have omf1 : (wf).frozen? ⟨wb.heap.size, 1, none⟩ = false := (HM.blk 3 rfl).frozen 1
      have om2 : (wf).cell? ⟨wb.heap.size, 2, none⟩ = some (.int .i64 (cr : Int)) := (HM.blk 3 rfl).cell 2
      have omf2 : (wf).frozen? ⟨wb.heap.size, 2, none⟩ = false := (HM.blk 3 rfl).frozen 2
      have om3 : (wf).cell? ⟨wb.heap.size, 3, none⟩ = some (.int .i64 (H : Int)) := (HM.blk 3 rfl).cell 3
      have omf3 : (wf).frozen? ⟨wb.heap.size, 3, none⟩ = false := (HM.blk 3 rfl).frozen 3
      have om4 : (wf).cell? ⟨wb.heap.size, 4, none⟩ = some (.int .u64 (b : Int)) := (HM.blk 3 rfl).cell 4
      have omf4 : (wf).frozen? ⟨wb.heap.size, 4, none⟩ = false := (HM.blk 3 rfl).frozen 4
      have om5 : (wf).cell? ⟨wb.heap.size, 5, none⟩ = some (.int .i64 0) := (HM.blk 3 rfl).cell 5
      have omf5 : (wf).frozen? ⟨wb.heap.size, 5, none⟩ = false := (HM.blk 3 rfl).frozen 5
      have om6 : (wf).cell? ⟨wb.heap.size, 6, none⟩ = some (.int .i64 0) := (HM.blk 3 rfl).cell 6
      have omf6 : (wf).frozen? ⟨wb.heap.size, 6, none⟩ = false := (HM.blk 3 rfl).frozen 6
      have omlt : wb.heap.size < (wf).heap.size := HM.lt 3 rfl
      go_wp2
      go_ret
      exact ⟨rfl, HM.below.alloc HM.below.size _⟩
    · skip
      have hB1 := boot_ok dv D me 0 z H b 0 0 (1 - s) we hdv hsl hb hm2
      simp only [Int.cast_ofNat_Int] at hB1
      clear hb hm hm2 hsl HD
      go_wp2_with fail
      refine hB1.mono ?_
      rintro e wf ⟨rfl, hbf⟩
      replace HM : Mem (w) [] (wf) [.blk (w.heap.size) 45 #[.int .i64 0, .int .i64 0, .int .i64 a1, .int .i64 0], .row (W0.heap.size) (116) (4) (.slice A l.length c) (l.length) (prs l), .blk (wa.heap.size) 33 #[.slice A l.length c], .blk (wb.heap.size) 39 #[.int .i64 (me : Int), .int .i64 0, .int .i64 (cr : Int), .int .i64 (H : Int), .int .u64 (b : Int), .int .i64 0, .int .i64 0]] := Mem.call HM hbf
      clear hbf hB1
      clear om0 omf0 om1 omf1 om2 omf2 om3 omf3 om4 omf4 om5 omf5 om6 omf6 omlt
      have om0 : (wf).cell? ⟨wb.heap.size, 0, none⟩ = some (.int .i64 (me : Int)) := (HM.blk 3 rfl).cell 0
      have omf0 : (wf).frozen? ⟨wb.heap.size, 0, none⟩ = false := (HM.blk 3 rfl).frozen 0
      have om1 : (wf).cell? ⟨wb.heap.size, 1, none⟩ = some (.int .i64 0) := (HM.blk 3 rfl).cell 1
      have omf1 : (wf).frozen? ⟨wb.heap.size, 1, none⟩ = false := (HM.blk 3 rfl).frozen 1
      have om2 : (wf).cell? ⟨wb.heap.size, 2, none⟩ = some (.int .i64 (cr : Int)) := (HM.blk 3 rfl).cell 2
      have omf2 : (wf).frozen? ⟨wb.heap.size, 2, none⟩ = false := (HM.blk 3 rfl).frozen 2
      have om3 : (wf).cell? ⟨wb.heap.size, 3, none⟩ = some (.int .i64 (H : Int)) := (HM.blk 3 rfl).cell 3
      have omf3 : (wf).frozen? ⟨wb.heap.size, 3, none⟩ = false := (HM.blk 3 rfl).frozen 3
      have om4 : (wf).cell? ⟨wb.heap.size, 4, none⟩ = some (.int .u64 (b : Int)) := (HM.blk 3 rfl).cell 4
      have omf4 : (wf).frozen? ⟨wb.heap.size, 4, none⟩ = false := (HM.blk 3 rfl).frozen 4
      have om5 : (wf).cell? ⟨wb.heap.size, 5, none⟩ = some (.int .i64 0) := (HM.blk 3 rfl).cell 5
      have omf5 : (wf).frozen? ⟨wb.heap.size, 5, none⟩ = false := (HM.blk 3 rfl).frozen 5
      have om6 : (wf).cell? ⟨wb.heap.size, 6, none⟩ = some (.int .i64 0) := (HM.blk 3 rfl).cell 6
      have omf6 : (wf).frozen? ⟨wb.heap.size, 6, none⟩ = false := (HM.blk 3 rfl).frozen 6
      have omlt : wb.heap.size < (wf).heap.size := HM.lt 3 rfl
      go_wp2
      go_ret
      exact ⟨rfl, HM.below.alloc HM.below.size _⟩
end Go.Proofs.YtopnlkhepjbjkaaDoor
