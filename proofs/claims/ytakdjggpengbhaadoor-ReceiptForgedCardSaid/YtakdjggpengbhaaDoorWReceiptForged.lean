/- The walk of the law ReceiptForged. -/
import Derived.Test.YtakdjggpengbhaaDoorSlip
import Derived.Test.YtakdjggpengbhaaDoorRcCheck
namespace Go.Proofs.YtakdjggpengbhaaDoor
open Go.RowKit
set_option linter.unusedVariables false
set_option maxRecDepth 100000 in
theorem slip_fit {v : Value} {w : World} (h : Fit Tryd.prog w 55 v) : ∃ x0 x1 x2 x3 x4 x5 x6 x7 x8 : Int, v = .agg #[.int .i64 x0, .int .i64 x1, .int .i64 x2, .int .i64 x3, .int .i64 x4, .int .i64 x5, .int .i64 x6, .int .i64 x7, .int .i64 x8] ∧ (Lit.int .i64 x0).wf = true ∧ (Lit.int .i64 x1).wf = true ∧ (Lit.int .i64 x2).wf = true ∧ (Lit.int .i64 x3).wf = true ∧ (Lit.int .i64 x4).wf = true ∧ (Lit.int .i64 x5).wf = true ∧ (Lit.int .i64 x6).wf = true ∧ (Lit.int .i64 x7).wf = true ∧ (Lit.int .i64 x8).wf = true := by
  obtain ⟨cs, rfl, hcf⟩ := h.struct Tryd.underlying55
  obtain ⟨ns, hl, rfl, hw⟩ := hcf.ints (ks := [.i64, .i64, .i64, .i64, .i64, .i64, .i64, .i64, .i64]) (by kernel_rfl)
  match ns, hl with
  | [a0, a1, a2, a3, a4, a5, a6, a7, a8], _ => exact ⟨a0, a1, a2, a3, a4, a5, a6, a7, a8, rfl, hw 0 _ _ rfl rfl, hw 1 _ _ rfl rfl, hw 2 _ _ rfl rfl, hw 3 _ _ rfl rfl, hw 4 _ _ rfl rfl, hw 5 _ _ rfl rfl, hw 6 _ _ rfl rfl, hw 7 _ _ rfl rfl, hw 8 _ _ rfl rfl⟩
set_option maxRecDepth 100000 in
set_option maxHeartbeats 4000000 in
theorem walk_receiptForged (w : World) (a0 : Value) (w0 : Fit Tryd.prog w 55 a0) (a1 : Int) (w1 : (Lit.int .i64 a1).wf = true) (a2 : Int) (w2 : (Lit.int .i64 a2).wf = true) :
    Calls Tryd.prog 8 #[a0, .int .i64 a1, .int .i64 a2] w fun e w' => e = .returned (.bool true) ∧ Below w.heap.size w w' := by
  obtain ⟨x0, x1, x2, x3, x4, x5, x6, x7, x8, rfl, v0, v1, v2, v3, v4, v5, v6, v7, v8⟩ := slip_fit w0
  obtain ⟨k, hk, hk5⟩ := pk_natI a1 5 (by omega)
  obtain ⟨by_, hby, hby1⟩ := pk_natI a2 1000 (by omega)
  obtain ⟨more, hmo⟩ : ∃ n, 1 + by_ = n := ⟨_, rfl⟩
  have hmoI : (1 : Int) + (by_ : Int) = (more : Int) := by omega
  have hmow : IntKind.i64.wrap (more : Int) = (more : Int) := IntWalk.i64_in _ (by omega)
  have hm1 : 1 ≤ more ∧ more ≤ 1000 := by omega
  have hS := fun W => slip_ok x0 x1 x2 x3 x4 x5 x6 x7 x8 W v0 v1 v2 v3 v4 v5 v6 v7 v8
  clear hmo hby1 w0 v0 v1 v2 v3 v4 v5 v6 v7 v8
  have hk5' := Lib.hid hk5
  clear hk5
  have HM := Mem.init w
  obtain ⟨W0, hW0⟩ : ∃ W0, (w).alloc (.cells #[.int .i64 x0, .int .i64 x1, .int .i64 x2, .int .i64 x3, .int .i64 x4, .int .i64 x5, .int .i64 x6, .int .i64 x7, .int .i64 x8] 55) = W0 := ⟨_, rfl⟩
  replace HM : Mem (w) [] _ [.blk (w.heap.size) 55 #[.int .i64 x0, .int .i64 x1, .int .i64 x2, .int .i64 x3, .int .i64 x4, .int .i64 x5, .int .i64 x6, .int .i64 x7, .int .i64 x8]] := Mem.alloc HM (w.heap.size) (by first | (simp; done) | (simp; omega)) #[.int .i64 x0, .int .i64 x1, .int .i64 x2, .int .i64 x3, .int .i64 x4, .int .i64 x5, .int .i64 x6, .int .i64 x7, .int .i64 x8] 55
  rw [hW0] at HM
  have sx0 : (W0).cell? ⟨w.heap.size, 0, none⟩ = some (.int .i64 x0) := (HM.blk 0 rfl).cell 0
  have sxf0 : (W0).frozen? ⟨w.heap.size, 0, none⟩ = false := (HM.blk 0 rfl).frozen 0
  have sx1 : (W0).cell? ⟨w.heap.size, 1, none⟩ = some (.int .i64 x1) := (HM.blk 0 rfl).cell 1
  have sxf1 : (W0).frozen? ⟨w.heap.size, 1, none⟩ = false := (HM.blk 0 rfl).frozen 1
  have sx2 : (W0).cell? ⟨w.heap.size, 2, none⟩ = some (.int .i64 x2) := (HM.blk 0 rfl).cell 2
  have sxf2 : (W0).frozen? ⟨w.heap.size, 2, none⟩ = false := (HM.blk 0 rfl).frozen 2
  have sx3 : (W0).cell? ⟨w.heap.size, 3, none⟩ = some (.int .i64 x3) := (HM.blk 0 rfl).cell 3
  have sxf3 : (W0).frozen? ⟨w.heap.size, 3, none⟩ = false := (HM.blk 0 rfl).frozen 3
  have sx4 : (W0).cell? ⟨w.heap.size, 4, none⟩ = some (.int .i64 x4) := (HM.blk 0 rfl).cell 4
  have sxf4 : (W0).frozen? ⟨w.heap.size, 4, none⟩ = false := (HM.blk 0 rfl).frozen 4
  have sx5 : (W0).cell? ⟨w.heap.size, 5, none⟩ = some (.int .i64 x5) := (HM.blk 0 rfl).cell 5
  have sxf5 : (W0).frozen? ⟨w.heap.size, 5, none⟩ = false := (HM.blk 0 rfl).frozen 5
  have sx6 : (W0).cell? ⟨w.heap.size, 6, none⟩ = some (.int .i64 x6) := (HM.blk 0 rfl).cell 6
  have sxf6 : (W0).frozen? ⟨w.heap.size, 6, none⟩ = false := (HM.blk 0 rfl).frozen 6
  have sx7 : (W0).cell? ⟨w.heap.size, 7, none⟩ = some (.int .i64 x7) := (HM.blk 0 rfl).cell 7
  have sxf7 : (W0).frozen? ⟨w.heap.size, 7, none⟩ = false := (HM.blk 0 rfl).frozen 7
  have sx8 : (W0).cell? ⟨w.heap.size, 8, none⟩ = some (.int .i64 x8) := (HM.blk 0 rfl).cell 8
  have sxf8 : (W0).frozen? ⟨w.heap.size, 8, none⟩ = false := (HM.blk 0 rfl).frozen 8
  have sxlt : w.heap.size < (W0).heap.size := HM.lt 0 rfl
  go_enter Tryd.func8, Tryd.ntmps8
  go_wp2_with fail
  refine (hS _).mono ?_
  rintro e wa ⟨m, cls, id, am, tag, T, d, f, p, g, u, hm, hK, hd, hf, hp, hg, hT, hu, rfl, hba⟩
  have hid1 := hK.h2
  have hid2 := hK.h3
  have ham := hK.am
  have hu1 : u ≤ 2097151 := by rw [hu]; split <;> omega
  obtain ⟨Sx, hSx⟩ : ∃ s, dstr (tokD cls id am tag) = s := ⟨_, rfl⟩
  rw [hSx]
  replace HM : Mem (w) [] (wa) [.blk (w.heap.size) 55 #[.int .i64 x0, .int .i64 x1, .int .i64 x2, .int .i64 x3, .int .i64 x4, .int .i64 x5, .int .i64 x6, .int .i64 x7, .int .i64 x8]] := Mem.call HM hba
  clear hba hS hW0 hK hu ham hSx
  have F := Lib.hid (show m < 50 ∧ 1 ≤ id ∧ id ≤ 1048575 ∧ d < 20000000 ∧ f < 20000000 ∧ p < 20000000 ∧ g < 20000000 ∧ T = d + f + p + g ∧ u ≤ 2097151 ∧ 1 ≤ more ∧ more ≤ 1000 from ⟨hm, hid1, hid2, hd, hf, hp, hg, hT, hu1, hm1⟩)
  clear hm hid1 hid2 hd hf hp hg hT hu1 hm1
  go_wp2_with fail
  obtain ⟨W1, hW1⟩ : ∃ W1, (wa).alloc (.cells #[.int .i64 (m : Int), .int .i64 (id : Int), .int .i64 (T : Int), .int .i64 (d : Int), .int .i64 (f : Int), .int .i64 (p : Int), .int .i64 (g : Int), .int .i64 (u : Int), .string Sx] 59) = W1 := ⟨_, rfl⟩
  replace HM : Mem (w) [] _ [.blk (w.heap.size) 55 #[.int .i64 x0, .int .i64 x1, .int .i64 x2, .int .i64 x3, .int .i64 x4, .int .i64 x5, .int .i64 x6, .int .i64 x7, .int .i64 x8], .blk (wa.heap.size) 59 #[.int .i64 (m : Int), .int .i64 (id : Int), .int .i64 (T : Int), .int .i64 (d : Int), .int .i64 (f : Int), .int .i64 (p : Int), .int .i64 (g : Int), .int .i64 (u : Int), .string Sx]] := Mem.alloc HM (wa.heap.size) (by first | (simp; done) | (simp; omega)) #[.int .i64 (m : Int), .int .i64 (id : Int), .int .i64 (T : Int), .int .i64 (d : Int), .int .i64 (f : Int), .int .i64 (p : Int), .int .i64 (g : Int), .int .i64 (u : Int), .string Sx] 59
  rw [hW1] at HM ⊢
  clear hW1
  clear sx0 sxf0 sx1 sxf1 sx2 sxf2 sx3 sxf3 sx4 sxf4 sx5 sxf5 sx6 sxf6 sx7 sxf7 sx8 sxf8 sxlt
  have rr0 : (W1).cell? ⟨wa.heap.size, 0, none⟩ = some (.int .i64 (m : Int)) := (HM.blk 1 rfl).cell 0
  have rrf0 : (W1).frozen? ⟨wa.heap.size, 0, none⟩ = false := (HM.blk 1 rfl).frozen 0
  have rr1 : (W1).cell? ⟨wa.heap.size, 1, none⟩ = some (.int .i64 (id : Int)) := (HM.blk 1 rfl).cell 1
  have rrf1 : (W1).frozen? ⟨wa.heap.size, 1, none⟩ = false := (HM.blk 1 rfl).frozen 1
  have rr2 : (W1).cell? ⟨wa.heap.size, 2, none⟩ = some (.int .i64 (T : Int)) := (HM.blk 1 rfl).cell 2
  have rrf2 : (W1).frozen? ⟨wa.heap.size, 2, none⟩ = false := (HM.blk 1 rfl).frozen 2
  have rr3 : (W1).cell? ⟨wa.heap.size, 3, none⟩ = some (.int .i64 (d : Int)) := (HM.blk 1 rfl).cell 3
  have rrf3 : (W1).frozen? ⟨wa.heap.size, 3, none⟩ = false := (HM.blk 1 rfl).frozen 3
  have rr4 : (W1).cell? ⟨wa.heap.size, 4, none⟩ = some (.int .i64 (f : Int)) := (HM.blk 1 rfl).cell 4
  have rrf4 : (W1).frozen? ⟨wa.heap.size, 4, none⟩ = false := (HM.blk 1 rfl).frozen 4
  have rr5 : (W1).cell? ⟨wa.heap.size, 5, none⟩ = some (.int .i64 (p : Int)) := (HM.blk 1 rfl).cell 5
  have rrf5 : (W1).frozen? ⟨wa.heap.size, 5, none⟩ = false := (HM.blk 1 rfl).frozen 5
  have rr6 : (W1).cell? ⟨wa.heap.size, 6, none⟩ = some (.int .i64 (g : Int)) := (HM.blk 1 rfl).cell 6
  have rrf6 : (W1).frozen? ⟨wa.heap.size, 6, none⟩ = false := (HM.blk 1 rfl).frozen 6
  have rr7 : (W1).cell? ⟨wa.heap.size, 7, none⟩ = some (.int .i64 (u : Int)) := (HM.blk 1 rfl).cell 7
  have rrf7 : (W1).frozen? ⟨wa.heap.size, 7, none⟩ = false := (HM.blk 1 rfl).frozen 7
  have rr8 : (W1).cell? ⟨wa.heap.size, 8, none⟩ = some (.string Sx) := (HM.blk 1 rfl).cell 8
  have rrf8 : (W1).frozen? ⟨wa.heap.size, 8, none⟩ = false := (HM.blk 1 rfl).frozen 8
  have rrlt : wa.heap.size < (W1).heap.size := HM.lt 1 rfl
  refine (picked_is _ hby w2 (by omega) (by omega)).mono ?_
  rintro e1 w9 ⟨rfl, rfl⟩
  go_wp2_with fail
  refine (picked_is _ hk w1 (by omega) (by omega)).mono ?_
  rintro e1 w9 ⟨rfl, rfl⟩
  clear hby hk w1 w2

  obtain hk | hk | hk | hk | hk : k = 0 ∨ k = 1 ∨ k = 2 ∨ k = 3 ∨ k = 4 := by have := hk5'.out; omega
  · skip
    have F' := F.out
    obtain ⟨n, hn⟩ : ∃ n, d + more = n := ⟨_, rfl⟩
    have e1 : (d : Int) + (more : Int) = (n : Int) := by omega
    have e2 : IntKind.i64.wrap (n : Int) = (n : Int) := IntWalk.i64_in _ (by omega)
    have hC := fun W => check_money m id T n f p g u Sx W (by omega) (by omega) (by omega) (by omega) (by omega) (by omega) (by omega) (by omega) (by omega) (by omega)
    have hSh := fun W => show_money m id T n f p g u Sx W (by omega) (by omega) (by omega) (by omega) (by omega) (by omega) (by omega) (by omega) (by omega) (by omega)
    have hkI : (k : Int) = 0 := by omega
    clear F' F hn hk5'
    rw [hkI]
    clear hkI hk
    go_wp2_with fail
    obtain ⟨W2, hW2⟩ : ∃ W2, (W1).setCell ⟨wa.heap.size, 3, none⟩ (.int .i64 (n : Int)) = W2 := ⟨_, rfl⟩
    replace HM : Mem (w) [] _ [.blk (w.heap.size) 55 #[.int .i64 x0, .int .i64 x1, .int .i64 x2, .int .i64 x3, .int .i64 x4, .int .i64 x5, .int .i64 x6, .int .i64 x7, .int .i64 x8], .blk (wa.heap.size) 59 #[.int .i64 (m : Int), .int .i64 (id : Int), .int .i64 (T : Int), .int .i64 (n : Int), .int .i64 (f : Int), .int .i64 (p : Int), .int .i64 (g : Int), .int .i64 (u : Int), .string Sx]] := Mem.set 1 HM rfl 3 (.int .i64 (n : Int))
    rw [hW2] at HM ⊢
    clear hW2
    refine (hC _).mono ?_
    rintro e wb ⟨rfl, hbb⟩
    replace HM : Mem (w) [] (wb) [.blk (w.heap.size) 55 #[.int .i64 x0, .int .i64 x1, .int .i64 x2, .int .i64 x3, .int .i64 x4, .int .i64 x5, .int .i64 x6, .int .i64 x7, .int .i64 x8], .blk (wa.heap.size) 59 #[.int .i64 (m : Int), .int .i64 (id : Int), .int .i64 (T : Int), .int .i64 (n : Int), .int .i64 (f : Int), .int .i64 (p : Int), .int .i64 (g : Int), .int .i64 (u : Int), .string Sx]] := Mem.call HM hbb
    clear rr0 rrf0 rr1 rrf1 rr2 rrf2 rr3 rrf3 rr4 rrf4 rr5 rrf5 rr6 rrf6 rr7 rrf7 rr8 rrf8 rrlt
    have rr0 : (wb).cell? ⟨wa.heap.size, 0, none⟩ = some (.int .i64 (m : Int)) := (HM.blk 1 rfl).cell 0
    have rrf0 : (wb).frozen? ⟨wa.heap.size, 0, none⟩ = false := (HM.blk 1 rfl).frozen 0
    have rr1 : (wb).cell? ⟨wa.heap.size, 1, none⟩ = some (.int .i64 (id : Int)) := (HM.blk 1 rfl).cell 1
    have rrf1 : (wb).frozen? ⟨wa.heap.size, 1, none⟩ = false := (HM.blk 1 rfl).frozen 1
    have rr2 : (wb).cell? ⟨wa.heap.size, 2, none⟩ = some (.int .i64 (T : Int)) := (HM.blk 1 rfl).cell 2
    have rrf2 : (wb).frozen? ⟨wa.heap.size, 2, none⟩ = false := (HM.blk 1 rfl).frozen 2
    have rr3 : (wb).cell? ⟨wa.heap.size, 3, none⟩ = some (.int .i64 (n : Int)) := (HM.blk 1 rfl).cell 3
    have rrf3 : (wb).frozen? ⟨wa.heap.size, 3, none⟩ = false := (HM.blk 1 rfl).frozen 3
    have rr4 : (wb).cell? ⟨wa.heap.size, 4, none⟩ = some (.int .i64 (f : Int)) := (HM.blk 1 rfl).cell 4
    have rrf4 : (wb).frozen? ⟨wa.heap.size, 4, none⟩ = false := (HM.blk 1 rfl).frozen 4
    have rr5 : (wb).cell? ⟨wa.heap.size, 5, none⟩ = some (.int .i64 (p : Int)) := (HM.blk 1 rfl).cell 5
    have rrf5 : (wb).frozen? ⟨wa.heap.size, 5, none⟩ = false := (HM.blk 1 rfl).frozen 5
    have rr6 : (wb).cell? ⟨wa.heap.size, 6, none⟩ = some (.int .i64 (g : Int)) := (HM.blk 1 rfl).cell 6
    have rrf6 : (wb).frozen? ⟨wa.heap.size, 6, none⟩ = false := (HM.blk 1 rfl).frozen 6
    have rr7 : (wb).cell? ⟨wa.heap.size, 7, none⟩ = some (.int .i64 (u : Int)) := (HM.blk 1 rfl).cell 7
    have rrf7 : (wb).frozen? ⟨wa.heap.size, 7, none⟩ = false := (HM.blk 1 rfl).frozen 7
    have rr8 : (wb).cell? ⟨wa.heap.size, 8, none⟩ = some (.string Sx) := (HM.blk 1 rfl).cell 8
    have rrf8 : (wb).frozen? ⟨wa.heap.size, 8, none⟩ = false := (HM.blk 1 rfl).frozen 8
    have rrlt : wa.heap.size < (wb).heap.size := HM.lt 1 rfl
    clear hbb hC
    go_wp2_with fail
    refine (hSh _).mono ?_
    rintro e we ⟨rfl, hbe⟩
    replace HM : Mem (w) [] (we) [.blk (w.heap.size) 55 #[.int .i64 x0, .int .i64 x1, .int .i64 x2, .int .i64 x3, .int .i64 x4, .int .i64 x5, .int .i64 x6, .int .i64 x7, .int .i64 x8], .blk (wa.heap.size) 59 #[.int .i64 (m : Int), .int .i64 (id : Int), .int .i64 (T : Int), .int .i64 (n : Int), .int .i64 (f : Int), .int .i64 (p : Int), .int .i64 (g : Int), .int .i64 (u : Int), .string Sx]] := Mem.call HM hbe
    clear hbe hSh
    go_wp2
    go_ret
    exact ⟨rfl, HM.below⟩
  · skip
    have F' := F.out
    obtain ⟨n, hn⟩ : ∃ n, f + more = n := ⟨_, rfl⟩
    have e1 : (f : Int) + (more : Int) = (n : Int) := by omega
    have e2 : IntKind.i64.wrap (n : Int) = (n : Int) := IntWalk.i64_in _ (by omega)
    have hC := fun W => check_money m id T d n p g u Sx W (by omega) (by omega) (by omega) (by omega) (by omega) (by omega) (by omega) (by omega) (by omega) (by omega)
    have hSh := fun W => show_money m id T d n p g u Sx W (by omega) (by omega) (by omega) (by omega) (by omega) (by omega) (by omega) (by omega) (by omega) (by omega)
    have hkI : (k : Int) = 1 := by omega
    clear F' F hn hk5'
    rw [hkI]
    clear hkI hk
    go_wp2_with fail
    obtain ⟨W2, hW2⟩ : ∃ W2, (W1).setCell ⟨wa.heap.size, 4, none⟩ (.int .i64 (n : Int)) = W2 := ⟨_, rfl⟩
    replace HM : Mem (w) [] _ [.blk (w.heap.size) 55 #[.int .i64 x0, .int .i64 x1, .int .i64 x2, .int .i64 x3, .int .i64 x4, .int .i64 x5, .int .i64 x6, .int .i64 x7, .int .i64 x8], .blk (wa.heap.size) 59 #[.int .i64 (m : Int), .int .i64 (id : Int), .int .i64 (T : Int), .int .i64 (d : Int), .int .i64 (n : Int), .int .i64 (p : Int), .int .i64 (g : Int), .int .i64 (u : Int), .string Sx]] := Mem.set 1 HM rfl 4 (.int .i64 (n : Int))
    rw [hW2] at HM ⊢
    clear hW2
    refine (hC _).mono ?_
    rintro e wb ⟨rfl, hbb⟩
    replace HM : Mem (w) [] (wb) [.blk (w.heap.size) 55 #[.int .i64 x0, .int .i64 x1, .int .i64 x2, .int .i64 x3, .int .i64 x4, .int .i64 x5, .int .i64 x6, .int .i64 x7, .int .i64 x8], .blk (wa.heap.size) 59 #[.int .i64 (m : Int), .int .i64 (id : Int), .int .i64 (T : Int), .int .i64 (d : Int), .int .i64 (n : Int), .int .i64 (p : Int), .int .i64 (g : Int), .int .i64 (u : Int), .string Sx]] := Mem.call HM hbb
    clear rr0 rrf0 rr1 rrf1 rr2 rrf2 rr3 rrf3 rr4 rrf4 rr5 rrf5 rr6 rrf6 rr7 rrf7 rr8 rrf8 rrlt
    have rr0 : (wb).cell? ⟨wa.heap.size, 0, none⟩ = some (.int .i64 (m : Int)) := (HM.blk 1 rfl).cell 0
    have rrf0 : (wb).frozen? ⟨wa.heap.size, 0, none⟩ = false := (HM.blk 1 rfl).frozen 0
    have rr1 : (wb).cell? ⟨wa.heap.size, 1, none⟩ = some (.int .i64 (id : Int)) := (HM.blk 1 rfl).cell 1
    have rrf1 : (wb).frozen? ⟨wa.heap.size, 1, none⟩ = false := (HM.blk 1 rfl).frozen 1
    have rr2 : (wb).cell? ⟨wa.heap.size, 2, none⟩ = some (.int .i64 (T : Int)) := (HM.blk 1 rfl).cell 2
    have rrf2 : (wb).frozen? ⟨wa.heap.size, 2, none⟩ = false := (HM.blk 1 rfl).frozen 2
    have rr3 : (wb).cell? ⟨wa.heap.size, 3, none⟩ = some (.int .i64 (d : Int)) := (HM.blk 1 rfl).cell 3
    have rrf3 : (wb).frozen? ⟨wa.heap.size, 3, none⟩ = false := (HM.blk 1 rfl).frozen 3
    have rr4 : (wb).cell? ⟨wa.heap.size, 4, none⟩ = some (.int .i64 (n : Int)) := (HM.blk 1 rfl).cell 4
    have rrf4 : (wb).frozen? ⟨wa.heap.size, 4, none⟩ = false := (HM.blk 1 rfl).frozen 4
    have rr5 : (wb).cell? ⟨wa.heap.size, 5, none⟩ = some (.int .i64 (p : Int)) := (HM.blk 1 rfl).cell 5
    have rrf5 : (wb).frozen? ⟨wa.heap.size, 5, none⟩ = false := (HM.blk 1 rfl).frozen 5
    have rr6 : (wb).cell? ⟨wa.heap.size, 6, none⟩ = some (.int .i64 (g : Int)) := (HM.blk 1 rfl).cell 6
    have rrf6 : (wb).frozen? ⟨wa.heap.size, 6, none⟩ = false := (HM.blk 1 rfl).frozen 6
    have rr7 : (wb).cell? ⟨wa.heap.size, 7, none⟩ = some (.int .i64 (u : Int)) := (HM.blk 1 rfl).cell 7
    have rrf7 : (wb).frozen? ⟨wa.heap.size, 7, none⟩ = false := (HM.blk 1 rfl).frozen 7
    have rr8 : (wb).cell? ⟨wa.heap.size, 8, none⟩ = some (.string Sx) := (HM.blk 1 rfl).cell 8
    have rrf8 : (wb).frozen? ⟨wa.heap.size, 8, none⟩ = false := (HM.blk 1 rfl).frozen 8
    have rrlt : wa.heap.size < (wb).heap.size := HM.lt 1 rfl
    clear hbb hC
    go_wp2_with fail
    refine (hSh _).mono ?_
    rintro e we ⟨rfl, hbe⟩
    replace HM : Mem (w) [] (we) [.blk (w.heap.size) 55 #[.int .i64 x0, .int .i64 x1, .int .i64 x2, .int .i64 x3, .int .i64 x4, .int .i64 x5, .int .i64 x6, .int .i64 x7, .int .i64 x8], .blk (wa.heap.size) 59 #[.int .i64 (m : Int), .int .i64 (id : Int), .int .i64 (T : Int), .int .i64 (d : Int), .int .i64 (n : Int), .int .i64 (p : Int), .int .i64 (g : Int), .int .i64 (u : Int), .string Sx]] := Mem.call HM hbe
    clear hbe hSh
    go_wp2
    go_ret
    exact ⟨rfl, HM.below⟩
  · skip
    have F' := F.out
    obtain ⟨n, hn⟩ : ∃ n, p + more = n := ⟨_, rfl⟩
    have e1 : (p : Int) + (more : Int) = (n : Int) := by omega
    have e2 : IntKind.i64.wrap (n : Int) = (n : Int) := IntWalk.i64_in _ (by omega)
    have hC := fun W => check_money m id T d f n g u Sx W (by omega) (by omega) (by omega) (by omega) (by omega) (by omega) (by omega) (by omega) (by omega) (by omega)
    have hSh := fun W => show_money m id T d f n g u Sx W (by omega) (by omega) (by omega) (by omega) (by omega) (by omega) (by omega) (by omega) (by omega) (by omega)
    have hkI : (k : Int) = 2 := by omega
    clear F' F hn hk5'
    rw [hkI]
    clear hkI hk
    go_wp2_with fail
    obtain ⟨W2, hW2⟩ : ∃ W2, (W1).setCell ⟨wa.heap.size, 5, none⟩ (.int .i64 (n : Int)) = W2 := ⟨_, rfl⟩
    replace HM : Mem (w) [] _ [.blk (w.heap.size) 55 #[.int .i64 x0, .int .i64 x1, .int .i64 x2, .int .i64 x3, .int .i64 x4, .int .i64 x5, .int .i64 x6, .int .i64 x7, .int .i64 x8], .blk (wa.heap.size) 59 #[.int .i64 (m : Int), .int .i64 (id : Int), .int .i64 (T : Int), .int .i64 (d : Int), .int .i64 (f : Int), .int .i64 (n : Int), .int .i64 (g : Int), .int .i64 (u : Int), .string Sx]] := Mem.set 1 HM rfl 5 (.int .i64 (n : Int))
    rw [hW2] at HM ⊢
    clear hW2
    refine (hC _).mono ?_
    rintro e wb ⟨rfl, hbb⟩
    replace HM : Mem (w) [] (wb) [.blk (w.heap.size) 55 #[.int .i64 x0, .int .i64 x1, .int .i64 x2, .int .i64 x3, .int .i64 x4, .int .i64 x5, .int .i64 x6, .int .i64 x7, .int .i64 x8], .blk (wa.heap.size) 59 #[.int .i64 (m : Int), .int .i64 (id : Int), .int .i64 (T : Int), .int .i64 (d : Int), .int .i64 (f : Int), .int .i64 (n : Int), .int .i64 (g : Int), .int .i64 (u : Int), .string Sx]] := Mem.call HM hbb
    clear rr0 rrf0 rr1 rrf1 rr2 rrf2 rr3 rrf3 rr4 rrf4 rr5 rrf5 rr6 rrf6 rr7 rrf7 rr8 rrf8 rrlt
    have rr0 : (wb).cell? ⟨wa.heap.size, 0, none⟩ = some (.int .i64 (m : Int)) := (HM.blk 1 rfl).cell 0
    have rrf0 : (wb).frozen? ⟨wa.heap.size, 0, none⟩ = false := (HM.blk 1 rfl).frozen 0
    have rr1 : (wb).cell? ⟨wa.heap.size, 1, none⟩ = some (.int .i64 (id : Int)) := (HM.blk 1 rfl).cell 1
    have rrf1 : (wb).frozen? ⟨wa.heap.size, 1, none⟩ = false := (HM.blk 1 rfl).frozen 1
    have rr2 : (wb).cell? ⟨wa.heap.size, 2, none⟩ = some (.int .i64 (T : Int)) := (HM.blk 1 rfl).cell 2
    have rrf2 : (wb).frozen? ⟨wa.heap.size, 2, none⟩ = false := (HM.blk 1 rfl).frozen 2
    have rr3 : (wb).cell? ⟨wa.heap.size, 3, none⟩ = some (.int .i64 (d : Int)) := (HM.blk 1 rfl).cell 3
    have rrf3 : (wb).frozen? ⟨wa.heap.size, 3, none⟩ = false := (HM.blk 1 rfl).frozen 3
    have rr4 : (wb).cell? ⟨wa.heap.size, 4, none⟩ = some (.int .i64 (f : Int)) := (HM.blk 1 rfl).cell 4
    have rrf4 : (wb).frozen? ⟨wa.heap.size, 4, none⟩ = false := (HM.blk 1 rfl).frozen 4
    have rr5 : (wb).cell? ⟨wa.heap.size, 5, none⟩ = some (.int .i64 (n : Int)) := (HM.blk 1 rfl).cell 5
    have rrf5 : (wb).frozen? ⟨wa.heap.size, 5, none⟩ = false := (HM.blk 1 rfl).frozen 5
    have rr6 : (wb).cell? ⟨wa.heap.size, 6, none⟩ = some (.int .i64 (g : Int)) := (HM.blk 1 rfl).cell 6
    have rrf6 : (wb).frozen? ⟨wa.heap.size, 6, none⟩ = false := (HM.blk 1 rfl).frozen 6
    have rr7 : (wb).cell? ⟨wa.heap.size, 7, none⟩ = some (.int .i64 (u : Int)) := (HM.blk 1 rfl).cell 7
    have rrf7 : (wb).frozen? ⟨wa.heap.size, 7, none⟩ = false := (HM.blk 1 rfl).frozen 7
    have rr8 : (wb).cell? ⟨wa.heap.size, 8, none⟩ = some (.string Sx) := (HM.blk 1 rfl).cell 8
    have rrf8 : (wb).frozen? ⟨wa.heap.size, 8, none⟩ = false := (HM.blk 1 rfl).frozen 8
    have rrlt : wa.heap.size < (wb).heap.size := HM.lt 1 rfl
    clear hbb hC
    go_wp2_with fail
    refine (hSh _).mono ?_
    rintro e we ⟨rfl, hbe⟩
    replace HM : Mem (w) [] (we) [.blk (w.heap.size) 55 #[.int .i64 x0, .int .i64 x1, .int .i64 x2, .int .i64 x3, .int .i64 x4, .int .i64 x5, .int .i64 x6, .int .i64 x7, .int .i64 x8], .blk (wa.heap.size) 59 #[.int .i64 (m : Int), .int .i64 (id : Int), .int .i64 (T : Int), .int .i64 (d : Int), .int .i64 (f : Int), .int .i64 (n : Int), .int .i64 (g : Int), .int .i64 (u : Int), .string Sx]] := Mem.call HM hbe
    clear hbe hSh
    go_wp2
    go_ret
    exact ⟨rfl, HM.below⟩
  · skip
    have F' := F.out
    obtain ⟨n, hn⟩ : ∃ n, g + more = n := ⟨_, rfl⟩
    have e1 : (g : Int) + (more : Int) = (n : Int) := by omega
    have e2 : IntKind.i64.wrap (n : Int) = (n : Int) := IntWalk.i64_in _ (by omega)
    have hC := fun W => check_money m id T d f p n u Sx W (by omega) (by omega) (by omega) (by omega) (by omega) (by omega) (by omega) (by omega) (by omega) (by omega)
    have hSh := fun W => show_money m id T d f p n u Sx W (by omega) (by omega) (by omega) (by omega) (by omega) (by omega) (by omega) (by omega) (by omega) (by omega)
    have hkI : (k : Int) = 3 := by omega
    clear F' F hn hk5'
    rw [hkI]
    clear hkI hk
    go_wp2_with fail
    obtain ⟨W2, hW2⟩ : ∃ W2, (W1).setCell ⟨wa.heap.size, 6, none⟩ (.int .i64 (n : Int)) = W2 := ⟨_, rfl⟩
    replace HM : Mem (w) [] _ [.blk (w.heap.size) 55 #[.int .i64 x0, .int .i64 x1, .int .i64 x2, .int .i64 x3, .int .i64 x4, .int .i64 x5, .int .i64 x6, .int .i64 x7, .int .i64 x8], .blk (wa.heap.size) 59 #[.int .i64 (m : Int), .int .i64 (id : Int), .int .i64 (T : Int), .int .i64 (d : Int), .int .i64 (f : Int), .int .i64 (p : Int), .int .i64 (n : Int), .int .i64 (u : Int), .string Sx]] := Mem.set 1 HM rfl 6 (.int .i64 (n : Int))
    rw [hW2] at HM ⊢
    clear hW2
    refine (hC _).mono ?_
    rintro e wb ⟨rfl, hbb⟩
    replace HM : Mem (w) [] (wb) [.blk (w.heap.size) 55 #[.int .i64 x0, .int .i64 x1, .int .i64 x2, .int .i64 x3, .int .i64 x4, .int .i64 x5, .int .i64 x6, .int .i64 x7, .int .i64 x8], .blk (wa.heap.size) 59 #[.int .i64 (m : Int), .int .i64 (id : Int), .int .i64 (T : Int), .int .i64 (d : Int), .int .i64 (f : Int), .int .i64 (p : Int), .int .i64 (n : Int), .int .i64 (u : Int), .string Sx]] := Mem.call HM hbb
    clear rr0 rrf0 rr1 rrf1 rr2 rrf2 rr3 rrf3 rr4 rrf4 rr5 rrf5 rr6 rrf6 rr7 rrf7 rr8 rrf8 rrlt
    have rr0 : (wb).cell? ⟨wa.heap.size, 0, none⟩ = some (.int .i64 (m : Int)) := (HM.blk 1 rfl).cell 0
    have rrf0 : (wb).frozen? ⟨wa.heap.size, 0, none⟩ = false := (HM.blk 1 rfl).frozen 0
    have rr1 : (wb).cell? ⟨wa.heap.size, 1, none⟩ = some (.int .i64 (id : Int)) := (HM.blk 1 rfl).cell 1
    have rrf1 : (wb).frozen? ⟨wa.heap.size, 1, none⟩ = false := (HM.blk 1 rfl).frozen 1
    have rr2 : (wb).cell? ⟨wa.heap.size, 2, none⟩ = some (.int .i64 (T : Int)) := (HM.blk 1 rfl).cell 2
    have rrf2 : (wb).frozen? ⟨wa.heap.size, 2, none⟩ = false := (HM.blk 1 rfl).frozen 2
    have rr3 : (wb).cell? ⟨wa.heap.size, 3, none⟩ = some (.int .i64 (d : Int)) := (HM.blk 1 rfl).cell 3
    have rrf3 : (wb).frozen? ⟨wa.heap.size, 3, none⟩ = false := (HM.blk 1 rfl).frozen 3
    have rr4 : (wb).cell? ⟨wa.heap.size, 4, none⟩ = some (.int .i64 (f : Int)) := (HM.blk 1 rfl).cell 4
    have rrf4 : (wb).frozen? ⟨wa.heap.size, 4, none⟩ = false := (HM.blk 1 rfl).frozen 4
    have rr5 : (wb).cell? ⟨wa.heap.size, 5, none⟩ = some (.int .i64 (p : Int)) := (HM.blk 1 rfl).cell 5
    have rrf5 : (wb).frozen? ⟨wa.heap.size, 5, none⟩ = false := (HM.blk 1 rfl).frozen 5
    have rr6 : (wb).cell? ⟨wa.heap.size, 6, none⟩ = some (.int .i64 (n : Int)) := (HM.blk 1 rfl).cell 6
    have rrf6 : (wb).frozen? ⟨wa.heap.size, 6, none⟩ = false := (HM.blk 1 rfl).frozen 6
    have rr7 : (wb).cell? ⟨wa.heap.size, 7, none⟩ = some (.int .i64 (u : Int)) := (HM.blk 1 rfl).cell 7
    have rrf7 : (wb).frozen? ⟨wa.heap.size, 7, none⟩ = false := (HM.blk 1 rfl).frozen 7
    have rr8 : (wb).cell? ⟨wa.heap.size, 8, none⟩ = some (.string Sx) := (HM.blk 1 rfl).cell 8
    have rrf8 : (wb).frozen? ⟨wa.heap.size, 8, none⟩ = false := (HM.blk 1 rfl).frozen 8
    have rrlt : wa.heap.size < (wb).heap.size := HM.lt 1 rfl
    clear hbb hC
    go_wp2_with fail
    refine (hSh _).mono ?_
    rintro e we ⟨rfl, hbe⟩
    replace HM : Mem (w) [] (we) [.blk (w.heap.size) 55 #[.int .i64 x0, .int .i64 x1, .int .i64 x2, .int .i64 x3, .int .i64 x4, .int .i64 x5, .int .i64 x6, .int .i64 x7, .int .i64 x8], .blk (wa.heap.size) 59 #[.int .i64 (m : Int), .int .i64 (id : Int), .int .i64 (T : Int), .int .i64 (d : Int), .int .i64 (f : Int), .int .i64 (p : Int), .int .i64 (n : Int), .int .i64 (u : Int), .string Sx]] := Mem.call HM hbe
    clear hbe hSh
    go_wp2
    go_ret
    exact ⟨rfl, HM.below⟩
  · skip
    have F' := F.out
    obtain ⟨n, hn⟩ : ∃ n, T + more = n := ⟨_, rfl⟩
    have e1 : (T : Int) + (more : Int) = (n : Int) := by omega
    have e2 : IntKind.i64.wrap (n : Int) = (n : Int) := IntWalk.i64_in _ (by omega)
    have hC := fun W => check_money m id n d f p g u Sx W (by omega) (by omega) (by omega) (by omega) (by omega) (by omega) (by omega) (by omega) (by omega) (by omega)
    have hSh := fun W => show_money m id n d f p g u Sx W (by omega) (by omega) (by omega) (by omega) (by omega) (by omega) (by omega) (by omega) (by omega) (by omega)
    have hkI : (k : Int) = 4 := by omega
    clear F' F hn hk5'
    rw [hkI]
    clear hkI hk
    go_wp2_with fail
    obtain ⟨W2, hW2⟩ : ∃ W2, (W1).setCell ⟨wa.heap.size, 2, none⟩ (.int .i64 (n : Int)) = W2 := ⟨_, rfl⟩
    replace HM : Mem (w) [] _ [.blk (w.heap.size) 55 #[.int .i64 x0, .int .i64 x1, .int .i64 x2, .int .i64 x3, .int .i64 x4, .int .i64 x5, .int .i64 x6, .int .i64 x7, .int .i64 x8], .blk (wa.heap.size) 59 #[.int .i64 (m : Int), .int .i64 (id : Int), .int .i64 (n : Int), .int .i64 (d : Int), .int .i64 (f : Int), .int .i64 (p : Int), .int .i64 (g : Int), .int .i64 (u : Int), .string Sx]] := Mem.set 1 HM rfl 2 (.int .i64 (n : Int))
    rw [hW2] at HM ⊢
    clear hW2
    refine (hC _).mono ?_
    rintro e wb ⟨rfl, hbb⟩
    replace HM : Mem (w) [] (wb) [.blk (w.heap.size) 55 #[.int .i64 x0, .int .i64 x1, .int .i64 x2, .int .i64 x3, .int .i64 x4, .int .i64 x5, .int .i64 x6, .int .i64 x7, .int .i64 x8], .blk (wa.heap.size) 59 #[.int .i64 (m : Int), .int .i64 (id : Int), .int .i64 (n : Int), .int .i64 (d : Int), .int .i64 (f : Int), .int .i64 (p : Int), .int .i64 (g : Int), .int .i64 (u : Int), .string Sx]] := Mem.call HM hbb
    clear rr0 rrf0 rr1 rrf1 rr2 rrf2 rr3 rrf3 rr4 rrf4 rr5 rrf5 rr6 rrf6 rr7 rrf7 rr8 rrf8 rrlt
    have rr0 : (wb).cell? ⟨wa.heap.size, 0, none⟩ = some (.int .i64 (m : Int)) := (HM.blk 1 rfl).cell 0
    have rrf0 : (wb).frozen? ⟨wa.heap.size, 0, none⟩ = false := (HM.blk 1 rfl).frozen 0
    have rr1 : (wb).cell? ⟨wa.heap.size, 1, none⟩ = some (.int .i64 (id : Int)) := (HM.blk 1 rfl).cell 1
    have rrf1 : (wb).frozen? ⟨wa.heap.size, 1, none⟩ = false := (HM.blk 1 rfl).frozen 1
    have rr2 : (wb).cell? ⟨wa.heap.size, 2, none⟩ = some (.int .i64 (n : Int)) := (HM.blk 1 rfl).cell 2
    have rrf2 : (wb).frozen? ⟨wa.heap.size, 2, none⟩ = false := (HM.blk 1 rfl).frozen 2
    have rr3 : (wb).cell? ⟨wa.heap.size, 3, none⟩ = some (.int .i64 (d : Int)) := (HM.blk 1 rfl).cell 3
    have rrf3 : (wb).frozen? ⟨wa.heap.size, 3, none⟩ = false := (HM.blk 1 rfl).frozen 3
    have rr4 : (wb).cell? ⟨wa.heap.size, 4, none⟩ = some (.int .i64 (f : Int)) := (HM.blk 1 rfl).cell 4
    have rrf4 : (wb).frozen? ⟨wa.heap.size, 4, none⟩ = false := (HM.blk 1 rfl).frozen 4
    have rr5 : (wb).cell? ⟨wa.heap.size, 5, none⟩ = some (.int .i64 (p : Int)) := (HM.blk 1 rfl).cell 5
    have rrf5 : (wb).frozen? ⟨wa.heap.size, 5, none⟩ = false := (HM.blk 1 rfl).frozen 5
    have rr6 : (wb).cell? ⟨wa.heap.size, 6, none⟩ = some (.int .i64 (g : Int)) := (HM.blk 1 rfl).cell 6
    have rrf6 : (wb).frozen? ⟨wa.heap.size, 6, none⟩ = false := (HM.blk 1 rfl).frozen 6
    have rr7 : (wb).cell? ⟨wa.heap.size, 7, none⟩ = some (.int .i64 (u : Int)) := (HM.blk 1 rfl).cell 7
    have rrf7 : (wb).frozen? ⟨wa.heap.size, 7, none⟩ = false := (HM.blk 1 rfl).frozen 7
    have rr8 : (wb).cell? ⟨wa.heap.size, 8, none⟩ = some (.string Sx) := (HM.blk 1 rfl).cell 8
    have rrf8 : (wb).frozen? ⟨wa.heap.size, 8, none⟩ = false := (HM.blk 1 rfl).frozen 8
    have rrlt : wa.heap.size < (wb).heap.size := HM.lt 1 rfl
    clear hbb hC
    go_wp2_with fail
    refine (hSh _).mono ?_
    rintro e we ⟨rfl, hbe⟩
    replace HM : Mem (w) [] (we) [.blk (w.heap.size) 55 #[.int .i64 x0, .int .i64 x1, .int .i64 x2, .int .i64 x3, .int .i64 x4, .int .i64 x5, .int .i64 x6, .int .i64 x7, .int .i64 x8], .blk (wa.heap.size) 59 #[.int .i64 (m : Int), .int .i64 (id : Int), .int .i64 (n : Int), .int .i64 (d : Int), .int .i64 (f : Int), .int .i64 (p : Int), .int .i64 (g : Int), .int .i64 (u : Int), .string Sx]] := Mem.call HM hbe
    clear hbe hSh
    go_wp2
    go_ret
    exact ⟨rfl, HM.below⟩
end Go.Proofs.YtakdjggpengbhaaDoor
