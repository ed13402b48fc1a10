/- The walk of the law MeterRefuses. -/
import Derived.Test.YtjdbgpkadfnfiaaKeyN
import Derived.Deep.RegionWith
namespace Go.Proofs.Ytjdbgpkadfnfiaa
open Go.RowKit
set_option linter.unusedVariables false
set_option maxRecDepth 100000 in
theorem meter_fitm {v : Value} {w : World} (h : Fit Try.prog w 26 v) : ∃ (me rev cr h' : Int) (b : Nat) (bad lock : Int), v = .agg #[.int .i64 me, .int .i64 rev, .int .i64 cr, .int .i64 h', .int .u64 b, .int .i64 bad, .int .i64 lock] ∧
    (Lit.int .i64 h').wf = true ∧ b < 2 ^ 64 ∧ (Lit.int .i64 bad).wf = true ∧ (Lit.int .i64 lock).wf = true := by
  obtain ⟨cs, rfl, hcf⟩ := h.struct Try.underlying26
  obtain ⟨ns, hl, rfl, hw⟩ := hcf.ints (ks := [.i64, .i64, .i64, .i64, .u64, .i64, .i64]) (by kernel_rfl)
  match ns, hl with
  | [a, b, c, d, e, f, g], _ =>
    have hb := bounds_u64 (hw 4 _ _ rfl rfl)
    obtain ⟨n, rfl⟩ : ∃ n : Nat, e = n := ⟨e.toNat, by omega⟩
    exact ⟨a, b, c, d, n, f, g, rfl, hw 3 _ _ rfl rfl, by omega, hw 5 _ _ rfl rfl, hw 6 _ _ rfl rfl⟩
set_option maxRecDepth 100000 in
theorem token_fit {v : Value} {w : World} (h : Fit Try.prog w 31 v) : ∃ a b c d : Int, v = .agg #[.int .i64 a, .int .i64 b, .int .i64 c, .int .i64 d] := by
  obtain ⟨cs, rfl, hcf⟩ := h.struct Try.underlying31
  obtain ⟨ns, hl, rfl, hw⟩ := hcf.ints (ks := [.i64, .i64, .i64, .i64]) (by kernel_rfl)
  match ns, hl with
  | [a, b, c, d], _ => exact ⟨a, b, c, d, rfl⟩
set_option maxRecDepth 100000 in
set_option maxHeartbeats 4000000 in
theorem walk_meterRefuses (w : World) (a0 : Value) (w0 : Fit Try.prog w 26 a0) (a1 : Value) (w1 : Fit Try.prog w 29 a1) (a2 : Value) (w2 : Fit Try.prog w 31 a2) :
    Calls Try.prog 3 #[a0, a1, a2] w fun e w' => e = .returned (.bool true) ∧ Below w.heap.size w w' := by
  obtain ⟨me, rev, cr, hh, b, bad, lock, rfl, w4, hb, w5, w6⟩ := meter_fitm w0
  obtain ⟨A, c, l, rfl, hv⟩ := oracle_fit w1
  obtain ⟨cls, id, am, tag, rfl⟩ := token_fit w2
  clear w0 w1 w2
  cases hm : mmay me rev cr hh b bad lock with
  | false =>
    have hEq := fun W => meter_same 0 0 0 0 0 0 0 W
    have HM := Mem.init w
    obtain ⟨W0, hW0⟩ : ∃ W0, (((w).alloc (.cells #[.int .i64 me, .int .i64 rev, .int .i64 cr, .int .i64 hh, .int .u64 (b : Int), .int .i64 bad, .int .i64 lock] 26)).alloc (.cells #[.slice A l.length c] 29)).alloc (.cells #[.int .i64 cls, .int .i64 id, .int .i64 am, .int .i64 tag] 31) = W0 := ⟨_, rfl⟩
    replace HM : Mem (w) [] _ [.blk (w.heap.size) 26 #[.int .i64 me, .int .i64 rev, .int .i64 cr, .int .i64 hh, .int .u64 (b : Int), .int .i64 bad, .int .i64 lock]] := Mem.alloc HM (w.heap.size) (by first | (simp; done) | (simp; omega)) #[.int .i64 me, .int .i64 rev, .int .i64 cr, .int .i64 hh, .int .u64 (b : Int), .int .i64 bad, .int .i64 lock] 26
    replace HM : Mem (w) [] _ [.blk (w.heap.size) 26 #[.int .i64 me, .int .i64 rev, .int .i64 cr, .int .i64 hh, .int .u64 (b : Int), .int .i64 bad, .int .i64 lock], .blk (w.heap.size + 1) 29 #[.slice A l.length c]] := Mem.alloc HM (w.heap.size + 1) (by first | (simp; done) | (simp; omega)) #[.slice A l.length c] 29
    replace HM : Mem (w) [] _ [.blk (w.heap.size) 26 #[.int .i64 me, .int .i64 rev, .int .i64 cr, .int .i64 hh, .int .u64 (b : Int), .int .i64 bad, .int .i64 lock], .blk (w.heap.size + 1) 29 #[.slice A l.length c], .blk (w.heap.size + 1 + 1) 31 #[.int .i64 cls, .int .i64 id, .int .i64 am, .int .i64 tag]] := Mem.alloc HM (w.heap.size + 1 + 1) (by first | (simp; done) | (simp; omega)) #[.int .i64 cls, .int .i64 id, .int .i64 am, .int .i64 tag] 31
    rw [hW0] at HM
    have mt0 : (W0).cell? ⟨w.heap.size, 0, none⟩ = some (.int .i64 me) := (HM.blk 0 rfl).cell 0
    have mtf0 : (W0).frozen? ⟨w.heap.size, 0, none⟩ = false := (HM.blk 0 rfl).frozen 0
    have mt1 : (W0).cell? ⟨w.heap.size, 1, none⟩ = some (.int .i64 rev) := (HM.blk 0 rfl).cell 1
    have mtf1 : (W0).frozen? ⟨w.heap.size, 1, none⟩ = false := (HM.blk 0 rfl).frozen 1
    have mt2 : (W0).cell? ⟨w.heap.size, 2, none⟩ = some (.int .i64 cr) := (HM.blk 0 rfl).cell 2
    have mtf2 : (W0).frozen? ⟨w.heap.size, 2, none⟩ = false := (HM.blk 0 rfl).frozen 2
    have mt3 : (W0).cell? ⟨w.heap.size, 3, none⟩ = some (.int .i64 hh) := (HM.blk 0 rfl).cell 3
    have mtf3 : (W0).frozen? ⟨w.heap.size, 3, none⟩ = false := (HM.blk 0 rfl).frozen 3
    have mt4 : (W0).cell? ⟨w.heap.size, 4, none⟩ = some (.int .u64 (b : Int)) := (HM.blk 0 rfl).cell 4
    have mtf4 : (W0).frozen? ⟨w.heap.size, 4, none⟩ = false := (HM.blk 0 rfl).frozen 4
    have mt5 : (W0).cell? ⟨w.heap.size, 5, none⟩ = some (.int .i64 bad) := (HM.blk 0 rfl).cell 5
    have mtf5 : (W0).frozen? ⟨w.heap.size, 5, none⟩ = false := (HM.blk 0 rfl).frozen 5
    have mt6 : (W0).cell? ⟨w.heap.size, 6, none⟩ = some (.int .i64 lock) := (HM.blk 0 rfl).cell 6
    have mtf6 : (W0).frozen? ⟨w.heap.size, 6, none⟩ = false := (HM.blk 0 rfl).frozen 6
    have mtlt : w.heap.size < (W0).heap.size := HM.lt 0 rfl
    have oc0 : (W0).cell? ⟨w.heap.size + 1, 0, none⟩ = some (.slice A l.length c) := (HM.blk 1 rfl).cell 0
    have ocf0 : (W0).frozen? ⟨w.heap.size + 1, 0, none⟩ = false := (HM.blk 1 rfl).frozen 0
    have oclt : w.heap.size + 1 < (W0).heap.size := HM.lt 1 rfl
    have tk0 : (W0).cell? ⟨w.heap.size + 1 + 1, 0, none⟩ = some (.int .i64 cls) := (HM.blk 2 rfl).cell 0
    have tkf0 : (W0).frozen? ⟨w.heap.size + 1 + 1, 0, none⟩ = false := (HM.blk 2 rfl).frozen 0
    have tk1 : (W0).cell? ⟨w.heap.size + 1 + 1, 1, none⟩ = some (.int .i64 id) := (HM.blk 2 rfl).cell 1
    have tkf1 : (W0).frozen? ⟨w.heap.size + 1 + 1, 1, none⟩ = false := (HM.blk 2 rfl).frozen 1
    have tk2 : (W0).cell? ⟨w.heap.size + 1 + 1, 2, none⟩ = some (.int .i64 am) := (HM.blk 2 rfl).cell 2
    have tkf2 : (W0).frozen? ⟨w.heap.size + 1 + 1, 2, none⟩ = false := (HM.blk 2 rfl).frozen 2
    have tk3 : (W0).cell? ⟨w.heap.size + 1 + 1, 3, none⟩ = some (.int .i64 tag) := (HM.blk 2 rfl).cell 3
    have tkf3 : (W0).frozen? ⟨w.heap.size + 1 + 1, 3, none⟩ = false := (HM.blk 2 rfl).frozen 3
    have tklt : w.heap.size + 1 + 1 < (W0).heap.size := HM.lt 2 rfl
    have ne_mt_oc : w.heap.size ≠ w.heap.size + 1 := HM.ne 0 1 rfl rfl (by decide)
    have ne_mt_tk : w.heap.size ≠ w.heap.size + 1 + 1 := HM.ne 0 2 rfl rfl (by decide)
    have ne_oc_mt : w.heap.size + 1 ≠ w.heap.size := HM.ne 1 0 rfl rfl (by decide)
    have ne_oc_tk : w.heap.size + 1 ≠ w.heap.size + 1 + 1 := HM.ne 1 2 rfl rfl (by decide)
    have ne_tk_mt : w.heap.size + 1 + 1 ≠ w.heap.size := HM.ne 2 0 rfl rfl (by decide)
    have ne_tk_oc : w.heap.size + 1 + 1 ≠ w.heap.size + 1 := HM.ne 2 1 rfl rfl (by decide)
    have hv0 := hv.below HM.below
    go_enter Try.func3, Try.ntmps3
    go_wp2_with fail
    refine (key_state1 (.slice A l.length c) l me rev cr hh b bad lock cls id am tag _ hv0 w4 hb w5 w6 hm).mono ?_
    rintro e1 wa ⟨rfl, hba⟩
    replace HM : Mem (w) [] (wa) [.blk (w.heap.size) 26 #[.int .i64 me, .int .i64 rev, .int .i64 cr, .int .i64 hh, .int .u64 (b : Int), .int .i64 bad, .int .i64 lock], .blk (w.heap.size + 1) 29 #[.slice A l.length c], .blk (w.heap.size + 1 + 1) 31 #[.int .i64 cls, .int .i64 id, .int .i64 am, .int .i64 tag]] := Mem.call HM hba
    clear mt0 mtf0 mt1 mtf1 mt2 mtf2 mt3 mtf3 mt4 mtf4 mt5 mtf5 mt6 mtf6 mtlt oc0 ocf0 oclt tk0 tkf0 tk1 tkf1 tk2 tkf2 tk3 tkf3 tklt ne_mt_oc ne_mt_tk ne_oc_mt ne_oc_tk ne_tk_mt ne_tk_oc
    have mt0 : (wa).cell? ⟨w.heap.size, 0, none⟩ = some (.int .i64 me) := (HM.blk 0 rfl).cell 0
    have mtf0 : (wa).frozen? ⟨w.heap.size, 0, none⟩ = false := (HM.blk 0 rfl).frozen 0
    have mt1 : (wa).cell? ⟨w.heap.size, 1, none⟩ = some (.int .i64 rev) := (HM.blk 0 rfl).cell 1
    have mtf1 : (wa).frozen? ⟨w.heap.size, 1, none⟩ = false := (HM.blk 0 rfl).frozen 1
    have mt2 : (wa).cell? ⟨w.heap.size, 2, none⟩ = some (.int .i64 cr) := (HM.blk 0 rfl).cell 2
    have mtf2 : (wa).frozen? ⟨w.heap.size, 2, none⟩ = false := (HM.blk 0 rfl).frozen 2
    have mt3 : (wa).cell? ⟨w.heap.size, 3, none⟩ = some (.int .i64 hh) := (HM.blk 0 rfl).cell 3
    have mtf3 : (wa).frozen? ⟨w.heap.size, 3, none⟩ = false := (HM.blk 0 rfl).frozen 3
    have mt4 : (wa).cell? ⟨w.heap.size, 4, none⟩ = some (.int .u64 (b : Int)) := (HM.blk 0 rfl).cell 4
    have mtf4 : (wa).frozen? ⟨w.heap.size, 4, none⟩ = false := (HM.blk 0 rfl).frozen 4
    have mt5 : (wa).cell? ⟨w.heap.size, 5, none⟩ = some (.int .i64 bad) := (HM.blk 0 rfl).cell 5
    have mtf5 : (wa).frozen? ⟨w.heap.size, 5, none⟩ = false := (HM.blk 0 rfl).frozen 5
    have mt6 : (wa).cell? ⟨w.heap.size, 6, none⟩ = some (.int .i64 lock) := (HM.blk 0 rfl).cell 6
    have mtf6 : (wa).frozen? ⟨w.heap.size, 6, none⟩ = false := (HM.blk 0 rfl).frozen 6
    have mtlt : w.heap.size < (wa).heap.size := HM.lt 0 rfl
    have tk0 : (wa).cell? ⟨w.heap.size + 1 + 1, 0, none⟩ = some (.int .i64 cls) := (HM.blk 2 rfl).cell 0
    have tkf0 : (wa).frozen? ⟨w.heap.size + 1 + 1, 0, none⟩ = false := (HM.blk 2 rfl).frozen 0
    have tk1 : (wa).cell? ⟨w.heap.size + 1 + 1, 1, none⟩ = some (.int .i64 id) := (HM.blk 2 rfl).cell 1
    have tkf1 : (wa).frozen? ⟨w.heap.size + 1 + 1, 1, none⟩ = false := (HM.blk 2 rfl).frozen 1
    have tk2 : (wa).cell? ⟨w.heap.size + 1 + 1, 2, none⟩ = some (.int .i64 am) := (HM.blk 2 rfl).cell 2
    have tkf2 : (wa).frozen? ⟨w.heap.size + 1 + 1, 2, none⟩ = false := (HM.blk 2 rfl).frozen 2
    have tk3 : (wa).cell? ⟨w.heap.size + 1 + 1, 3, none⟩ = some (.int .i64 tag) := (HM.blk 2 rfl).cell 3
    have tkf3 : (wa).frozen? ⟨w.heap.size + 1 + 1, 3, none⟩ = false := (HM.blk 2 rfl).frozen 3
    have tklt : w.heap.size + 1 + 1 < (wa).heap.size := HM.lt 2 rfl
    have ne_mt_tk : w.heap.size ≠ w.heap.size + 1 + 1 := HM.ne 0 2 rfl rfl (by decide)
    have ne_tk_mt : w.heap.size + 1 + 1 ≠ w.heap.size := HM.ne 2 0 rfl rfl (by decide)
    clear hba hW0 hv0
    go_wp2
    go_ret
    exact ⟨rfl, HM.call (below_a1 _ _) |>.below⟩
  | true =>
    by_cases ho : OOk l
    · rcases tfault_vals cls id am tag with hf | hf
      · obtain ⟨⟨a1, a2, a3, a4, a5, a6⟩, ⟨b1, b2, b3, b4, b5⟩, H, rfl, hW⟩ := mmay_bd hb hm
        obtain ⟨me, rfl⟩ : ∃ k : Nat, me = (k : Int) := ⟨me.toNat, by omega⟩
        obtain ⟨rev, rfl⟩ : ∃ k : Nat, rev = (k : Int) := ⟨rev.toNat, by omega⟩
        obtain ⟨cr, rfl⟩ : ∃ k : Nat, cr = (k : Int) := ⟨cr.toNat, by omega⟩
        obtain ⟨bad, rfl⟩ : ∃ k : Nat, bad = (k : Int) := ⟨bad.toNat, by omega⟩
        obtain ⟨lock, rfl⟩ : ∃ k : Nat, lock = (k : Int) := ⟨lock.toNat, by omega⟩
        obtain ⟨cls, id, am, tag, rfl, rfl, rfl, rfl, hk⟩ := tfault_zero hf
        obtain ⟨r2, c2, h2, d2, e2, k2, ad, E, hKS⟩ : ∃ r2 c2 h2 d2 e2 k2 ad E, keyS l me rev cr H b bad lock cls id am tag = (r2, c2, h2, d2, e2, k2, ad, E) := ⟨_, _, _, _, _, _, _, _, rfl⟩
        have hLaw := keyS_law hKS hk
        have ham := hk.am
        have hKey := fun W h => key_ok (.slice A l.length c) l me rev cr H b bad lock cls id am tag r2 c2 h2 d2 e2 k2 ad E W h ho hb hm hk (Lib.hid hKS)
        clear hf w4 w5 w6 hKS hk hm ho
        rcases hLaw with ⟨l1, l2, l3, l4, l5⟩ | ⟨l1, l2, l3, l4, l5, l6, l7, l8, l9, l10⟩ | ⟨l1, l2, l3, l4, l5, l6, l7⟩
        · subst l1
          have l2I : (rev : Int) ≤ (r2 : Int) := by omega
          have h4 : (((c2 : Int) - (cr : Int) = (ad : Int)) ∧ 0 < ad ∧ ((cls : Int) == 0) = true) ∨ (((c2 : Int) - (cr : Int) = 0) ∧ ad = 0 ∧ ((cls : Int) == 0) = false) ∨ (((c2 : Int) - (cr : Int) < 0) ∧ ad = 0 ∧ ((cls : Int) == 0) = false) := by
            rcases l4 with ⟨g1, g2⟩ | ⟨g1, g2⟩
            · exact .inl ⟨by omega, g2, by simp; omega⟩
            · rcases l3 with ⟨g3, g4⟩ | ⟨g3, g4⟩
              · exact .inr (.inl ⟨by omega, g2, by simp; omega⟩)
              · exact .inr (.inr ⟨by omega, g2, by simp; omega⟩)
          have c9 : (c2 : Int) ≤ 200000000 := by omega
          clear l3 l4
          rcases h4 with ⟨g1, g2, g3⟩ | ⟨g1, rfl, g3⟩ | ⟨g1, rfl, g3⟩
          · have g4 : IntKind.i64.wrap ((c2 : Int) - (cr : Int)) = (ad : Int) := by rw [g1]; exact IntWalk.i64_in _ (by omega)
            have g5 : 0 < (ad : Int) := by omega
            clear g1 l2 a1 a2 a3 a4 a5 a6 b1 b2 b3 b4 b5 hW ham l5 c9
            have HM := Mem.init w
            obtain ⟨W0, hW0⟩ : ∃ W0, (((w).alloc (.cells #[.int .i64 (me : Int), .int .i64 (rev : Int), .int .i64 (cr : Int), .int .i64 (H : Int), .int .u64 (b : Int), .int .i64 (bad : Int), .int .i64 (lock : Int)] 26)).alloc (.cells #[.slice A l.length c] 29)).alloc (.cells #[.int .i64 (cls : Int), .int .i64 (id : Int), .int .i64 (am : Int), .int .i64 (tag : Int)] 31) = W0 := ⟨_, rfl⟩
            replace HM : Mem (w) [] _ [.blk (w.heap.size) 26 #[.int .i64 (me : Int), .int .i64 (rev : Int), .int .i64 (cr : Int), .int .i64 (H : Int), .int .u64 (b : Int), .int .i64 (bad : Int), .int .i64 (lock : Int)]] := Mem.alloc HM (w.heap.size) (by first | (simp; done) | (simp; omega)) #[.int .i64 (me : Int), .int .i64 (rev : Int), .int .i64 (cr : Int), .int .i64 (H : Int), .int .u64 (b : Int), .int .i64 (bad : Int), .int .i64 (lock : Int)] 26
            replace HM : Mem (w) [] _ [.blk (w.heap.size) 26 #[.int .i64 (me : Int), .int .i64 (rev : Int), .int .i64 (cr : Int), .int .i64 (H : Int), .int .u64 (b : Int), .int .i64 (bad : Int), .int .i64 (lock : Int)], .blk (w.heap.size + 1) 29 #[.slice A l.length c]] := Mem.alloc HM (w.heap.size + 1) (by first | (simp; done) | (simp; omega)) #[.slice A l.length c] 29
            replace HM : Mem (w) [] _ [.blk (w.heap.size) 26 #[.int .i64 (me : Int), .int .i64 (rev : Int), .int .i64 (cr : Int), .int .i64 (H : Int), .int .u64 (b : Int), .int .i64 (bad : Int), .int .i64 (lock : Int)], .blk (w.heap.size + 1) 29 #[.slice A l.length c], .blk (w.heap.size + 1 + 1) 31 #[.int .i64 (cls : Int), .int .i64 (id : Int), .int .i64 (am : Int), .int .i64 (tag : Int)]] := Mem.alloc HM (w.heap.size + 1 + 1) (by first | (simp; done) | (simp; omega)) #[.int .i64 (cls : Int), .int .i64 (id : Int), .int .i64 (am : Int), .int .i64 (tag : Int)] 31
            rw [hW0] at HM
            have mt0 : (W0).cell? ⟨w.heap.size, 0, none⟩ = some (.int .i64 (me : Int)) := (HM.blk 0 rfl).cell 0
            have mtf0 : (W0).frozen? ⟨w.heap.size, 0, none⟩ = false := (HM.blk 0 rfl).frozen 0
            have mt1 : (W0).cell? ⟨w.heap.size, 1, none⟩ = some (.int .i64 (rev : Int)) := (HM.blk 0 rfl).cell 1
            have mtf1 : (W0).frozen? ⟨w.heap.size, 1, none⟩ = false := (HM.blk 0 rfl).frozen 1
            have mt2 : (W0).cell? ⟨w.heap.size, 2, none⟩ = some (.int .i64 (cr : Int)) := (HM.blk 0 rfl).cell 2
            have mtf2 : (W0).frozen? ⟨w.heap.size, 2, none⟩ = false := (HM.blk 0 rfl).frozen 2
            have mt3 : (W0).cell? ⟨w.heap.size, 3, none⟩ = some (.int .i64 (H : Int)) := (HM.blk 0 rfl).cell 3
            have mtf3 : (W0).frozen? ⟨w.heap.size, 3, none⟩ = false := (HM.blk 0 rfl).frozen 3
            have mt4 : (W0).cell? ⟨w.heap.size, 4, none⟩ = some (.int .u64 (b : Int)) := (HM.blk 0 rfl).cell 4
            have mtf4 : (W0).frozen? ⟨w.heap.size, 4, none⟩ = false := (HM.blk 0 rfl).frozen 4
            have mt5 : (W0).cell? ⟨w.heap.size, 5, none⟩ = some (.int .i64 (bad : Int)) := (HM.blk 0 rfl).cell 5
            have mtf5 : (W0).frozen? ⟨w.heap.size, 5, none⟩ = false := (HM.blk 0 rfl).frozen 5
            have mt6 : (W0).cell? ⟨w.heap.size, 6, none⟩ = some (.int .i64 (lock : Int)) := (HM.blk 0 rfl).cell 6
            have mtf6 : (W0).frozen? ⟨w.heap.size, 6, none⟩ = false := (HM.blk 0 rfl).frozen 6
            have mtlt : w.heap.size < (W0).heap.size := HM.lt 0 rfl
            have oc0 : (W0).cell? ⟨w.heap.size + 1, 0, none⟩ = some (.slice A l.length c) := (HM.blk 1 rfl).cell 0
            have ocf0 : (W0).frozen? ⟨w.heap.size + 1, 0, none⟩ = false := (HM.blk 1 rfl).frozen 0
            have oclt : w.heap.size + 1 < (W0).heap.size := HM.lt 1 rfl
            have tk0 : (W0).cell? ⟨w.heap.size + 1 + 1, 0, none⟩ = some (.int .i64 (cls : Int)) := (HM.blk 2 rfl).cell 0
            have tkf0 : (W0).frozen? ⟨w.heap.size + 1 + 1, 0, none⟩ = false := (HM.blk 2 rfl).frozen 0
            have tk1 : (W0).cell? ⟨w.heap.size + 1 + 1, 1, none⟩ = some (.int .i64 (id : Int)) := (HM.blk 2 rfl).cell 1
            have tkf1 : (W0).frozen? ⟨w.heap.size + 1 + 1, 1, none⟩ = false := (HM.blk 2 rfl).frozen 1
            have tk2 : (W0).cell? ⟨w.heap.size + 1 + 1, 2, none⟩ = some (.int .i64 (am : Int)) := (HM.blk 2 rfl).cell 2
            have tkf2 : (W0).frozen? ⟨w.heap.size + 1 + 1, 2, none⟩ = false := (HM.blk 2 rfl).frozen 2
            have tk3 : (W0).cell? ⟨w.heap.size + 1 + 1, 3, none⟩ = some (.int .i64 (tag : Int)) := (HM.blk 2 rfl).cell 3
            have tkf3 : (W0).frozen? ⟨w.heap.size + 1 + 1, 3, none⟩ = false := (HM.blk 2 rfl).frozen 3
            have tklt : w.heap.size + 1 + 1 < (W0).heap.size := HM.lt 2 rfl
            have ne_mt_oc : w.heap.size ≠ w.heap.size + 1 := HM.ne 0 1 rfl rfl (by decide)
            have ne_mt_tk : w.heap.size ≠ w.heap.size + 1 + 1 := HM.ne 0 2 rfl rfl (by decide)
            have ne_oc_mt : w.heap.size + 1 ≠ w.heap.size := HM.ne 1 0 rfl rfl (by decide)
            have ne_oc_tk : w.heap.size + 1 ≠ w.heap.size + 1 + 1 := HM.ne 1 2 rfl rfl (by decide)
            have ne_tk_mt : w.heap.size + 1 + 1 ≠ w.heap.size := HM.ne 2 0 rfl rfl (by decide)
            have ne_tk_oc : w.heap.size + 1 + 1 ≠ w.heap.size + 1 := HM.ne 2 1 rfl rfl (by decide)
            have hv0 := hv.below HM.below
            go_enter Try.func3, Try.ntmps3
            go_wp2_with fail
            refine (hKey _ hv0).mono ?_
            rintro e1 wa ⟨rfl, hba⟩
            replace HM : Mem (w) [] (wa) [.blk (w.heap.size) 26 #[.int .i64 (me : Int), .int .i64 (rev : Int), .int .i64 (cr : Int), .int .i64 (H : Int), .int .u64 (b : Int), .int .i64 (bad : Int), .int .i64 (lock : Int)], .blk (w.heap.size + 1) 29 #[.slice A l.length c], .blk (w.heap.size + 1 + 1) 31 #[.int .i64 (cls : Int), .int .i64 (id : Int), .int .i64 (am : Int), .int .i64 (tag : Int)]] := Mem.call HM hba
            clear mt0 mtf0 mt1 mtf1 mt2 mtf2 mt3 mtf3 mt4 mtf4 mt5 mtf5 mt6 mtf6 mtlt oc0 ocf0 oclt tk0 tkf0 tk1 tkf1 tk2 tkf2 tk3 tkf3 tklt ne_mt_oc ne_mt_tk ne_oc_mt ne_oc_tk ne_tk_mt ne_tk_oc
            have mt0 : (wa).cell? ⟨w.heap.size, 0, none⟩ = some (.int .i64 (me : Int)) := (HM.blk 0 rfl).cell 0
            have mtf0 : (wa).frozen? ⟨w.heap.size, 0, none⟩ = false := (HM.blk 0 rfl).frozen 0
            have mt1 : (wa).cell? ⟨w.heap.size, 1, none⟩ = some (.int .i64 (rev : Int)) := (HM.blk 0 rfl).cell 1
            have mtf1 : (wa).frozen? ⟨w.heap.size, 1, none⟩ = false := (HM.blk 0 rfl).frozen 1
            have mt2 : (wa).cell? ⟨w.heap.size, 2, none⟩ = some (.int .i64 (cr : Int)) := (HM.blk 0 rfl).cell 2
            have mtf2 : (wa).frozen? ⟨w.heap.size, 2, none⟩ = false := (HM.blk 0 rfl).frozen 2
            have mt3 : (wa).cell? ⟨w.heap.size, 3, none⟩ = some (.int .i64 (H : Int)) := (HM.blk 0 rfl).cell 3
            have mtf3 : (wa).frozen? ⟨w.heap.size, 3, none⟩ = false := (HM.blk 0 rfl).frozen 3
            have mt4 : (wa).cell? ⟨w.heap.size, 4, none⟩ = some (.int .u64 (b : Int)) := (HM.blk 0 rfl).cell 4
            have mtf4 : (wa).frozen? ⟨w.heap.size, 4, none⟩ = false := (HM.blk 0 rfl).frozen 4
            have mt5 : (wa).cell? ⟨w.heap.size, 5, none⟩ = some (.int .i64 (bad : Int)) := (HM.blk 0 rfl).cell 5
            have mtf5 : (wa).frozen? ⟨w.heap.size, 5, none⟩ = false := (HM.blk 0 rfl).frozen 5
            have mt6 : (wa).cell? ⟨w.heap.size, 6, none⟩ = some (.int .i64 (lock : Int)) := (HM.blk 0 rfl).cell 6
            have mtf6 : (wa).frozen? ⟨w.heap.size, 6, none⟩ = false := (HM.blk 0 rfl).frozen 6
            have mtlt : w.heap.size < (wa).heap.size := HM.lt 0 rfl
            have tk0 : (wa).cell? ⟨w.heap.size + 1 + 1, 0, none⟩ = some (.int .i64 (cls : Int)) := (HM.blk 2 rfl).cell 0
            have tkf0 : (wa).frozen? ⟨w.heap.size + 1 + 1, 0, none⟩ = false := (HM.blk 2 rfl).frozen 0
            have tk1 : (wa).cell? ⟨w.heap.size + 1 + 1, 1, none⟩ = some (.int .i64 (id : Int)) := (HM.blk 2 rfl).cell 1
            have tkf1 : (wa).frozen? ⟨w.heap.size + 1 + 1, 1, none⟩ = false := (HM.blk 2 rfl).frozen 1
            have tk2 : (wa).cell? ⟨w.heap.size + 1 + 1, 2, none⟩ = some (.int .i64 (am : Int)) := (HM.blk 2 rfl).cell 2
            have tkf2 : (wa).frozen? ⟨w.heap.size + 1 + 1, 2, none⟩ = false := (HM.blk 2 rfl).frozen 2
            have tk3 : (wa).cell? ⟨w.heap.size + 1 + 1, 3, none⟩ = some (.int .i64 (tag : Int)) := (HM.blk 2 rfl).cell 3
            have tkf3 : (wa).frozen? ⟨w.heap.size + 1 + 1, 3, none⟩ = false := (HM.blk 2 rfl).frozen 3
            have tklt : w.heap.size + 1 + 1 < (wa).heap.size := HM.lt 2 rfl
            have ne_mt_tk : w.heap.size ≠ w.heap.size + 1 + 1 := HM.ne 0 2 rfl rfl (by decide)
            have ne_tk_mt : w.heap.size + 1 + 1 ≠ w.heap.size := HM.ne 2 0 rfl rfl (by decide)
            clear hba hW0 hv0
            go_wp2
            go_ret
            exact ⟨rfl, HM.call (below_a1 _ _) |>.below⟩
          · have g4 : IntKind.i64.wrap ((c2 : Int) - (cr : Int)) = 0 := by rw [g1]; rfl
            clear g1 l2 a1 a2 a3 a4 a5 a6 b1 b2 b3 b4 b5 hW ham l5 c9
            have HM := Mem.init w
            obtain ⟨W0, hW0⟩ : ∃ W0, (((w).alloc (.cells #[.int .i64 (me : Int), .int .i64 (rev : Int), .int .i64 (cr : Int), .int .i64 (H : Int), .int .u64 (b : Int), .int .i64 (bad : Int), .int .i64 (lock : Int)] 26)).alloc (.cells #[.slice A l.length c] 29)).alloc (.cells #[.int .i64 (cls : Int), .int .i64 (id : Int), .int .i64 (am : Int), .int .i64 (tag : Int)] 31) = W0 := ⟨_, rfl⟩
            replace HM : Mem (w) [] _ [.blk (w.heap.size) 26 #[.int .i64 (me : Int), .int .i64 (rev : Int), .int .i64 (cr : Int), .int .i64 (H : Int), .int .u64 (b : Int), .int .i64 (bad : Int), .int .i64 (lock : Int)]] := Mem.alloc HM (w.heap.size) (by first | (simp; done) | (simp; omega)) #[.int .i64 (me : Int), .int .i64 (rev : Int), .int .i64 (cr : Int), .int .i64 (H : Int), .int .u64 (b : Int), .int .i64 (bad : Int), .int .i64 (lock : Int)] 26
            replace HM : Mem (w) [] _ [.blk (w.heap.size) 26 #[.int .i64 (me : Int), .int .i64 (rev : Int), .int .i64 (cr : Int), .int .i64 (H : Int), .int .u64 (b : Int), .int .i64 (bad : Int), .int .i64 (lock : Int)], .blk (w.heap.size + 1) 29 #[.slice A l.length c]] := Mem.alloc HM (w.heap.size + 1) (by first | (simp; done) | (simp; omega)) #[.slice A l.length c] 29
            replace HM : Mem (w) [] _ [.blk (w.heap.size) 26 #[.int .i64 (me : Int), .int .i64 (rev : Int), .int .i64 (cr : Int), .int .i64 (H : Int), .int .u64 (b : Int), .int .i64 (bad : Int), .int .i64 (lock : Int)], .blk (w.heap.size + 1) 29 #[.slice A l.length c], .blk (w.heap.size + 1 + 1) 31 #[.int .i64 (cls : Int), .int .i64 (id : Int), .int .i64 (am : Int), .int .i64 (tag : Int)]] := Mem.alloc HM (w.heap.size + 1 + 1) (by first | (simp; done) | (simp; omega)) #[.int .i64 (cls : Int), .int .i64 (id : Int), .int .i64 (am : Int), .int .i64 (tag : Int)] 31
            rw [hW0] at HM
            have mt0 : (W0).cell? ⟨w.heap.size, 0, none⟩ = some (.int .i64 (me : Int)) := (HM.blk 0 rfl).cell 0
            have mtf0 : (W0).frozen? ⟨w.heap.size, 0, none⟩ = false := (HM.blk 0 rfl).frozen 0
            have mt1 : (W0).cell? ⟨w.heap.size, 1, none⟩ = some (.int .i64 (rev : Int)) := (HM.blk 0 rfl).cell 1
            have mtf1 : (W0).frozen? ⟨w.heap.size, 1, none⟩ = false := (HM.blk 0 rfl).frozen 1
            have mt2 : (W0).cell? ⟨w.heap.size, 2, none⟩ = some (.int .i64 (cr : Int)) := (HM.blk 0 rfl).cell 2
            have mtf2 : (W0).frozen? ⟨w.heap.size, 2, none⟩ = false := (HM.blk 0 rfl).frozen 2
            have mt3 : (W0).cell? ⟨w.heap.size, 3, none⟩ = some (.int .i64 (H : Int)) := (HM.blk 0 rfl).cell 3
            have mtf3 : (W0).frozen? ⟨w.heap.size, 3, none⟩ = false := (HM.blk 0 rfl).frozen 3
            have mt4 : (W0).cell? ⟨w.heap.size, 4, none⟩ = some (.int .u64 (b : Int)) := (HM.blk 0 rfl).cell 4
            have mtf4 : (W0).frozen? ⟨w.heap.size, 4, none⟩ = false := (HM.blk 0 rfl).frozen 4
            have mt5 : (W0).cell? ⟨w.heap.size, 5, none⟩ = some (.int .i64 (bad : Int)) := (HM.blk 0 rfl).cell 5
            have mtf5 : (W0).frozen? ⟨w.heap.size, 5, none⟩ = false := (HM.blk 0 rfl).frozen 5
            have mt6 : (W0).cell? ⟨w.heap.size, 6, none⟩ = some (.int .i64 (lock : Int)) := (HM.blk 0 rfl).cell 6
            have mtf6 : (W0).frozen? ⟨w.heap.size, 6, none⟩ = false := (HM.blk 0 rfl).frozen 6
            have mtlt : w.heap.size < (W0).heap.size := HM.lt 0 rfl
            have oc0 : (W0).cell? ⟨w.heap.size + 1, 0, none⟩ = some (.slice A l.length c) := (HM.blk 1 rfl).cell 0
            have ocf0 : (W0).frozen? ⟨w.heap.size + 1, 0, none⟩ = false := (HM.blk 1 rfl).frozen 0
            have oclt : w.heap.size + 1 < (W0).heap.size := HM.lt 1 rfl
            have tk0 : (W0).cell? ⟨w.heap.size + 1 + 1, 0, none⟩ = some (.int .i64 (cls : Int)) := (HM.blk 2 rfl).cell 0
            have tkf0 : (W0).frozen? ⟨w.heap.size + 1 + 1, 0, none⟩ = false := (HM.blk 2 rfl).frozen 0
            have tk1 : (W0).cell? ⟨w.heap.size + 1 + 1, 1, none⟩ = some (.int .i64 (id : Int)) := (HM.blk 2 rfl).cell 1
            have tkf1 : (W0).frozen? ⟨w.heap.size + 1 + 1, 1, none⟩ = false := (HM.blk 2 rfl).frozen 1
            have tk2 : (W0).cell? ⟨w.heap.size + 1 + 1, 2, none⟩ = some (.int .i64 (am : Int)) := (HM.blk 2 rfl).cell 2
            have tkf2 : (W0).frozen? ⟨w.heap.size + 1 + 1, 2, none⟩ = false := (HM.blk 2 rfl).frozen 2
            have tk3 : (W0).cell? ⟨w.heap.size + 1 + 1, 3, none⟩ = some (.int .i64 (tag : Int)) := (HM.blk 2 rfl).cell 3
            have tkf3 : (W0).frozen? ⟨w.heap.size + 1 + 1, 3, none⟩ = false := (HM.blk 2 rfl).frozen 3
            have tklt : w.heap.size + 1 + 1 < (W0).heap.size := HM.lt 2 rfl
            have ne_mt_oc : w.heap.size ≠ w.heap.size + 1 := HM.ne 0 1 rfl rfl (by decide)
            have ne_mt_tk : w.heap.size ≠ w.heap.size + 1 + 1 := HM.ne 0 2 rfl rfl (by decide)
            have ne_oc_mt : w.heap.size + 1 ≠ w.heap.size := HM.ne 1 0 rfl rfl (by decide)
            have ne_oc_tk : w.heap.size + 1 ≠ w.heap.size + 1 + 1 := HM.ne 1 2 rfl rfl (by decide)
            have ne_tk_mt : w.heap.size + 1 + 1 ≠ w.heap.size := HM.ne 2 0 rfl rfl (by decide)
            have ne_tk_oc : w.heap.size + 1 + 1 ≠ w.heap.size + 1 := HM.ne 2 1 rfl rfl (by decide)
            have hv0 := hv.below HM.below
            go_enter Try.func3, Try.ntmps3
            go_wp2_with fail
            refine (hKey _ hv0).mono ?_
            rintro e1 wa ⟨rfl, hba⟩
            replace HM : Mem (w) [] (wa) [.blk (w.heap.size) 26 #[.int .i64 (me : Int), .int .i64 (rev : Int), .int .i64 (cr : Int), .int .i64 (H : Int), .int .u64 (b : Int), .int .i64 (bad : Int), .int .i64 (lock : Int)], .blk (w.heap.size + 1) 29 #[.slice A l.length c], .blk (w.heap.size + 1 + 1) 31 #[.int .i64 (cls : Int), .int .i64 (id : Int), .int .i64 (am : Int), .int .i64 (tag : Int)]] := Mem.call HM hba
            clear mt0 mtf0 mt1 mtf1 mt2 mtf2 mt3 mtf3 mt4 mtf4 mt5 mtf5 mt6 mtf6 mtlt oc0 ocf0 oclt tk0 tkf0 tk1 tkf1 tk2 tkf2 tk3 tkf3 tklt ne_mt_oc ne_mt_tk ne_oc_mt ne_oc_tk ne_tk_mt ne_tk_oc
            have mt0 : (wa).cell? ⟨w.heap.size, 0, none⟩ = some (.int .i64 (me : Int)) := (HM.blk 0 rfl).cell 0
            have mtf0 : (wa).frozen? ⟨w.heap.size, 0, none⟩ = false := (HM.blk 0 rfl).frozen 0
            have mt1 : (wa).cell? ⟨w.heap.size, 1, none⟩ = some (.int .i64 (rev : Int)) := (HM.blk 0 rfl).cell 1
            have mtf1 : (wa).frozen? ⟨w.heap.size, 1, none⟩ = false := (HM.blk 0 rfl).frozen 1
            have mt2 : (wa).cell? ⟨w.heap.size, 2, none⟩ = some (.int .i64 (cr : Int)) := (HM.blk 0 rfl).cell 2
            have mtf2 : (wa).frozen? ⟨w.heap.size, 2, none⟩ = false := (HM.blk 0 rfl).frozen 2
            have mt3 : (wa).cell? ⟨w.heap.size, 3, none⟩ = some (.int .i64 (H : Int)) := (HM.blk 0 rfl).cell 3
            have mtf3 : (wa).frozen? ⟨w.heap.size, 3, none⟩ = false := (HM.blk 0 rfl).frozen 3
            have mt4 : (wa).cell? ⟨w.heap.size, 4, none⟩ = some (.int .u64 (b : Int)) := (HM.blk 0 rfl).cell 4
            have mtf4 : (wa).frozen? ⟨w.heap.size, 4, none⟩ = false := (HM.blk 0 rfl).frozen 4
            have mt5 : (wa).cell? ⟨w.heap.size, 5, none⟩ = some (.int .i64 (bad : Int)) := (HM.blk 0 rfl).cell 5
            have mtf5 : (wa).frozen? ⟨w.heap.size, 5, none⟩ = false := (HM.blk 0 rfl).frozen 5
            have mt6 : (wa).cell? ⟨w.heap.size, 6, none⟩ = some (.int .i64 (lock : Int)) := (HM.blk 0 rfl).cell 6
            have mtf6 : (wa).frozen? ⟨w.heap.size, 6, none⟩ = false := (HM.blk 0 rfl).frozen 6
            have mtlt : w.heap.size < (wa).heap.size := HM.lt 0 rfl
            have tk0 : (wa).cell? ⟨w.heap.size + 1 + 1, 0, none⟩ = some (.int .i64 (cls : Int)) := (HM.blk 2 rfl).cell 0
            have tkf0 : (wa).frozen? ⟨w.heap.size + 1 + 1, 0, none⟩ = false := (HM.blk 2 rfl).frozen 0
            have tk1 : (wa).cell? ⟨w.heap.size + 1 + 1, 1, none⟩ = some (.int .i64 (id : Int)) := (HM.blk 2 rfl).cell 1
            have tkf1 : (wa).frozen? ⟨w.heap.size + 1 + 1, 1, none⟩ = false := (HM.blk 2 rfl).frozen 1
            have tk2 : (wa).cell? ⟨w.heap.size + 1 + 1, 2, none⟩ = some (.int .i64 (am : Int)) := (HM.blk 2 rfl).cell 2
            have tkf2 : (wa).frozen? ⟨w.heap.size + 1 + 1, 2, none⟩ = false := (HM.blk 2 rfl).frozen 2
            have tk3 : (wa).cell? ⟨w.heap.size + 1 + 1, 3, none⟩ = some (.int .i64 (tag : Int)) := (HM.blk 2 rfl).cell 3
            have tkf3 : (wa).frozen? ⟨w.heap.size + 1 + 1, 3, none⟩ = false := (HM.blk 2 rfl).frozen 3
            have tklt : w.heap.size + 1 + 1 < (wa).heap.size := HM.lt 2 rfl
            have ne_mt_tk : w.heap.size ≠ w.heap.size + 1 + 1 := HM.ne 0 2 rfl rfl (by decide)
            have ne_tk_mt : w.heap.size + 1 + 1 ≠ w.heap.size := HM.ne 2 0 rfl rfl (by decide)
            clear hba hW0 hv0
            go_wp2
            go_ret
            exact ⟨rfl, HM.call (below_a1 _ _) |>.below⟩
          · obtain ⟨z, hz⟩ : ∃ z : Int, (c2 : Int) - (cr : Int) = z := ⟨_, rfl⟩
            have g4 : IntKind.i64.wrap ((c2 : Int) - (cr : Int)) = z := by rw [hz]; exact IntWalk.i64_in _ (by omega)
            have g5 : max (0 : Int) z = 0 := by omega
            have g6 : ¬ (0 : Int) < z := by omega
            have g7 : z ≤ 0 := by omega
            clear g1 hz l2 a1 a2 a3 a4 a5 a6 b1 b2 b3 b4 b5 hW ham l5 c9
            have HM := Mem.init w
            obtain ⟨W0, hW0⟩ : ∃ W0, (((w).alloc (.cells #[.int .i64 (me : Int), .int .i64 (rev : Int), .int .i64 (cr : Int), .int .i64 (H : Int), .int .u64 (b : Int), .int .i64 (bad : Int), .int .i64 (lock : Int)] 26)).alloc (.cells #[.slice A l.length c] 29)).alloc (.cells #[.int .i64 (cls : Int), .int .i64 (id : Int), .int .i64 (am : Int), .int .i64 (tag : Int)] 31) = W0 := ⟨_, rfl⟩
            replace HM : Mem (w) [] _ [.blk (w.heap.size) 26 #[.int .i64 (me : Int), .int .i64 (rev : Int), .int .i64 (cr : Int), .int .i64 (H : Int), .int .u64 (b : Int), .int .i64 (bad : Int), .int .i64 (lock : Int)]] := Mem.alloc HM (w.heap.size) (by first | (simp; done) | (simp; omega)) #[.int .i64 (me : Int), .int .i64 (rev : Int), .int .i64 (cr : Int), .int .i64 (H : Int), .int .u64 (b : Int), .int .i64 (bad : Int), .int .i64 (lock : Int)] 26
            replace HM : Mem (w) [] _ [.blk (w.heap.size) 26 #[.int .i64 (me : Int), .int .i64 (rev : Int), .int .i64 (cr : Int), .int .i64 (H : Int), .int .u64 (b : Int), .int .i64 (bad : Int), .int .i64 (lock : Int)], .blk (w.heap.size + 1) 29 #[.slice A l.length c]] := Mem.alloc HM (w.heap.size + 1) (by first | (simp; done) | (simp; omega)) #[.slice A l.length c] 29
            replace HM : Mem (w) [] _ [.blk (w.heap.size) 26 #[.int .i64 (me : Int), .int .i64 (rev : Int), .int .i64 (cr : Int), .int .i64 (H : Int), .int .u64 (b : Int), .int .i64 (bad : Int), .int .i64 (lock : Int)], .blk (w.heap.size + 1) 29 #[.slice A l.length c], .blk (w.heap.size + 1 + 1) 31 #[.int .i64 (cls : Int), .int .i64 (id : Int), .int .i64 (am : Int), .int .i64 (tag : Int)]] := Mem.alloc HM (w.heap.size + 1 + 1) (by first | (simp; done) | (simp; omega)) #[.int .i64 (cls : Int), .int .i64 (id : Int), .int .i64 (am : Int), .int .i64 (tag : Int)] 31
            rw [hW0] at HM
            have mt0 : (W0).cell? ⟨w.heap.size, 0, none⟩ = some (.int .i64 (me : Int)) := (HM.blk 0 rfl).cell 0
            have mtf0 : (W0).frozen? ⟨w.heap.size, 0, none⟩ = false := (HM.blk 0 rfl).frozen 0
            have mt1 : (W0).cell? ⟨w.heap.size, 1, none⟩ = some (.int .i64 (rev : Int)) := (HM.blk 0 rfl).cell 1
            have mtf1 : (W0).frozen? ⟨w.heap.size, 1, none⟩ = false := (HM.blk 0 rfl).frozen 1
            have mt2 : (W0).cell? ⟨w.heap.size, 2, none⟩ = some (.int .i64 (cr : Int)) := (HM.blk 0 rfl).cell 2
            have mtf2 : (W0).frozen? ⟨w.heap.size, 2, none⟩ = false := (HM.blk 0 rfl).frozen 2
            have mt3 : (W0).cell? ⟨w.heap.size, 3, none⟩ = some (.int .i64 (H : Int)) := (HM.blk 0 rfl).cell 3
            have mtf3 : (W0).frozen? ⟨w.heap.size, 3, none⟩ = false := (HM.blk 0 rfl).frozen 3
            have mt4 : (W0).cell? ⟨w.heap.size, 4, none⟩ = some (.int .u64 (b : Int)) := (HM.blk 0 rfl).cell 4
            have mtf4 : (W0).frozen? ⟨w.heap.size, 4, none⟩ = false := (HM.blk 0 rfl).frozen 4
            have mt5 : (W0).cell? ⟨w.heap.size, 5, none⟩ = some (.int .i64 (bad : Int)) := (HM.blk 0 rfl).cell 5
            have mtf5 : (W0).frozen? ⟨w.heap.size, 5, none⟩ = false := (HM.blk 0 rfl).frozen 5
            have mt6 : (W0).cell? ⟨w.heap.size, 6, none⟩ = some (.int .i64 (lock : Int)) := (HM.blk 0 rfl).cell 6
            have mtf6 : (W0).frozen? ⟨w.heap.size, 6, none⟩ = false := (HM.blk 0 rfl).frozen 6
            have mtlt : w.heap.size < (W0).heap.size := HM.lt 0 rfl
            have oc0 : (W0).cell? ⟨w.heap.size + 1, 0, none⟩ = some (.slice A l.length c) := (HM.blk 1 rfl).cell 0
            have ocf0 : (W0).frozen? ⟨w.heap.size + 1, 0, none⟩ = false := (HM.blk 1 rfl).frozen 0
            have oclt : w.heap.size + 1 < (W0).heap.size := HM.lt 1 rfl
            have tk0 : (W0).cell? ⟨w.heap.size + 1 + 1, 0, none⟩ = some (.int .i64 (cls : Int)) := (HM.blk 2 rfl).cell 0
            have tkf0 : (W0).frozen? ⟨w.heap.size + 1 + 1, 0, none⟩ = false := (HM.blk 2 rfl).frozen 0
            have tk1 : (W0).cell? ⟨w.heap.size + 1 + 1, 1, none⟩ = some (.int .i64 (id : Int)) := (HM.blk 2 rfl).cell 1
            have tkf1 : (W0).frozen? ⟨w.heap.size + 1 + 1, 1, none⟩ = false := (HM.blk 2 rfl).frozen 1
            have tk2 : (W0).cell? ⟨w.heap.size + 1 + 1, 2, none⟩ = some (.int .i64 (am : Int)) := (HM.blk 2 rfl).cell 2
            have tkf2 : (W0).frozen? ⟨w.heap.size + 1 + 1, 2, none⟩ = false := (HM.blk 2 rfl).frozen 2
            have tk3 : (W0).cell? ⟨w.heap.size + 1 + 1, 3, none⟩ = some (.int .i64 (tag : Int)) := (HM.blk 2 rfl).cell 3
            have tkf3 : (W0).frozen? ⟨w.heap.size + 1 + 1, 3, none⟩ = false := (HM.blk 2 rfl).frozen 3
            have tklt : w.heap.size + 1 + 1 < (W0).heap.size := HM.lt 2 rfl
            have ne_mt_oc : w.heap.size ≠ w.heap.size + 1 := HM.ne 0 1 rfl rfl (by decide)
            have ne_mt_tk : w.heap.size ≠ w.heap.size + 1 + 1 := HM.ne 0 2 rfl rfl (by decide)
            have ne_oc_mt : w.heap.size + 1 ≠ w.heap.size := HM.ne 1 0 rfl rfl (by decide)
            have ne_oc_tk : w.heap.size + 1 ≠ w.heap.size + 1 + 1 := HM.ne 1 2 rfl rfl (by decide)
            have ne_tk_mt : w.heap.size + 1 + 1 ≠ w.heap.size := HM.ne 2 0 rfl rfl (by decide)
            have ne_tk_oc : w.heap.size + 1 + 1 ≠ w.heap.size + 1 := HM.ne 2 1 rfl rfl (by decide)
            have hv0 := hv.below HM.below
            go_enter Try.func3, Try.ntmps3
            go_wp2_with fail
            refine (hKey _ hv0).mono ?_
            rintro e1 wa ⟨rfl, hba⟩
            replace HM : Mem (w) [] (wa) [.blk (w.heap.size) 26 #[.int .i64 (me : Int), .int .i64 (rev : Int), .int .i64 (cr : Int), .int .i64 (H : Int), .int .u64 (b : Int), .int .i64 (bad : Int), .int .i64 (lock : Int)], .blk (w.heap.size + 1) 29 #[.slice A l.length c], .blk (w.heap.size + 1 + 1) 31 #[.int .i64 (cls : Int), .int .i64 (id : Int), .int .i64 (am : Int), .int .i64 (tag : Int)]] := Mem.call HM hba
            clear mt0 mtf0 mt1 mtf1 mt2 mtf2 mt3 mtf3 mt4 mtf4 mt5 mtf5 mt6 mtf6 mtlt oc0 ocf0 oclt tk0 tkf0 tk1 tkf1 tk2 tkf2 tk3 tkf3 tklt ne_mt_oc ne_mt_tk ne_oc_mt ne_oc_tk ne_tk_mt ne_tk_oc
            have mt0 : (wa).cell? ⟨w.heap.size, 0, none⟩ = some (.int .i64 (me : Int)) := (HM.blk 0 rfl).cell 0
            have mtf0 : (wa).frozen? ⟨w.heap.size, 0, none⟩ = false := (HM.blk 0 rfl).frozen 0
            have mt1 : (wa).cell? ⟨w.heap.size, 1, none⟩ = some (.int .i64 (rev : Int)) := (HM.blk 0 rfl).cell 1
            have mtf1 : (wa).frozen? ⟨w.heap.size, 1, none⟩ = false := (HM.blk 0 rfl).frozen 1
            have mt2 : (wa).cell? ⟨w.heap.size, 2, none⟩ = some (.int .i64 (cr : Int)) := (HM.blk 0 rfl).cell 2
            have mtf2 : (wa).frozen? ⟨w.heap.size, 2, none⟩ = false := (HM.blk 0 rfl).frozen 2
            have mt3 : (wa).cell? ⟨w.heap.size, 3, none⟩ = some (.int .i64 (H : Int)) := (HM.blk 0 rfl).cell 3
            have mtf3 : (wa).frozen? ⟨w.heap.size, 3, none⟩ = false := (HM.blk 0 rfl).frozen 3
            have mt4 : (wa).cell? ⟨w.heap.size, 4, none⟩ = some (.int .u64 (b : Int)) := (HM.blk 0 rfl).cell 4
            have mtf4 : (wa).frozen? ⟨w.heap.size, 4, none⟩ = false := (HM.blk 0 rfl).frozen 4
            have mt5 : (wa).cell? ⟨w.heap.size, 5, none⟩ = some (.int .i64 (bad : Int)) := (HM.blk 0 rfl).cell 5
            have mtf5 : (wa).frozen? ⟨w.heap.size, 5, none⟩ = false := (HM.blk 0 rfl).frozen 5
            have mt6 : (wa).cell? ⟨w.heap.size, 6, none⟩ = some (.int .i64 (lock : Int)) := (HM.blk 0 rfl).cell 6
            have mtf6 : (wa).frozen? ⟨w.heap.size, 6, none⟩ = false := (HM.blk 0 rfl).frozen 6
            have mtlt : w.heap.size < (wa).heap.size := HM.lt 0 rfl
            have tk0 : (wa).cell? ⟨w.heap.size + 1 + 1, 0, none⟩ = some (.int .i64 (cls : Int)) := (HM.blk 2 rfl).cell 0
            have tkf0 : (wa).frozen? ⟨w.heap.size + 1 + 1, 0, none⟩ = false := (HM.blk 2 rfl).frozen 0
            have tk1 : (wa).cell? ⟨w.heap.size + 1 + 1, 1, none⟩ = some (.int .i64 (id : Int)) := (HM.blk 2 rfl).cell 1
            have tkf1 : (wa).frozen? ⟨w.heap.size + 1 + 1, 1, none⟩ = false := (HM.blk 2 rfl).frozen 1
            have tk2 : (wa).cell? ⟨w.heap.size + 1 + 1, 2, none⟩ = some (.int .i64 (am : Int)) := (HM.blk 2 rfl).cell 2
            have tkf2 : (wa).frozen? ⟨w.heap.size + 1 + 1, 2, none⟩ = false := (HM.blk 2 rfl).frozen 2
            have tk3 : (wa).cell? ⟨w.heap.size + 1 + 1, 3, none⟩ = some (.int .i64 (tag : Int)) := (HM.blk 2 rfl).cell 3
            have tkf3 : (wa).frozen? ⟨w.heap.size + 1 + 1, 3, none⟩ = false := (HM.blk 2 rfl).frozen 3
            have tklt : w.heap.size + 1 + 1 < (wa).heap.size := HM.lt 2 rfl
            have ne_mt_tk : w.heap.size ≠ w.heap.size + 1 + 1 := HM.ne 0 2 rfl rfl (by decide)
            have ne_tk_mt : w.heap.size + 1 + 1 ≠ w.heap.size := HM.ne 2 0 rfl rfl (by decide)
            clear hba hW0 hv0
            go_wp2
            go_ret
            exact ⟨rfl, HM.call (below_a1 _ _) |>.below⟩
        · subst l4; subst l5; subst l6; subst l7; subst l8; subst l9; subst l10
          have g1 : ((E : Int) == 5) = false := by simp; omega
          have g2 : ((E : Int) == 0) = false := by simp; omega
          have g3 : ((E : Int) == 12) = false := by simp; omega
          have hEq := fun W => meter_same (me : Int) (r2 : Int) (c2 : Int) (h2 : Int) (d2 : Int) (e2 : Int) (k2 : Int) W
          clear l1 l2 l3 a1 a2 a3 a4 a5 a6 b1 b2 b3 b4 b5 hW ham
          have HM := Mem.init w
          obtain ⟨W0, hW0⟩ : ∃ W0, (((w).alloc (.cells #[.int .i64 (me : Int), .int .i64 (r2 : Int), .int .i64 (c2 : Int), .int .i64 (h2 : Int), .int .u64 (d2 : Int), .int .i64 (e2 : Int), .int .i64 (k2 : Int)] 26)).alloc (.cells #[.slice A l.length c] 29)).alloc (.cells #[.int .i64 (cls : Int), .int .i64 (id : Int), .int .i64 (am : Int), .int .i64 (tag : Int)] 31) = W0 := ⟨_, rfl⟩
          replace HM : Mem (w) [] _ [.blk (w.heap.size) 26 #[.int .i64 (me : Int), .int .i64 (r2 : Int), .int .i64 (c2 : Int), .int .i64 (h2 : Int), .int .u64 (d2 : Int), .int .i64 (e2 : Int), .int .i64 (k2 : Int)]] := Mem.alloc HM (w.heap.size) (by first | (simp; done) | (simp; omega)) #[.int .i64 (me : Int), .int .i64 (r2 : Int), .int .i64 (c2 : Int), .int .i64 (h2 : Int), .int .u64 (d2 : Int), .int .i64 (e2 : Int), .int .i64 (k2 : Int)] 26
          replace HM : Mem (w) [] _ [.blk (w.heap.size) 26 #[.int .i64 (me : Int), .int .i64 (r2 : Int), .int .i64 (c2 : Int), .int .i64 (h2 : Int), .int .u64 (d2 : Int), .int .i64 (e2 : Int), .int .i64 (k2 : Int)], .blk (w.heap.size + 1) 29 #[.slice A l.length c]] := Mem.alloc HM (w.heap.size + 1) (by first | (simp; done) | (simp; omega)) #[.slice A l.length c] 29
          replace HM : Mem (w) [] _ [.blk (w.heap.size) 26 #[.int .i64 (me : Int), .int .i64 (r2 : Int), .int .i64 (c2 : Int), .int .i64 (h2 : Int), .int .u64 (d2 : Int), .int .i64 (e2 : Int), .int .i64 (k2 : Int)], .blk (w.heap.size + 1) 29 #[.slice A l.length c], .blk (w.heap.size + 1 + 1) 31 #[.int .i64 (cls : Int), .int .i64 (id : Int), .int .i64 (am : Int), .int .i64 (tag : Int)]] := Mem.alloc HM (w.heap.size + 1 + 1) (by first | (simp; done) | (simp; omega)) #[.int .i64 (cls : Int), .int .i64 (id : Int), .int .i64 (am : Int), .int .i64 (tag : Int)] 31
          rw [hW0] at HM
          have mt0 : (W0).cell? ⟨w.heap.size, 0, none⟩ = some (.int .i64 (me : Int)) := (HM.blk 0 rfl).cell 0
          have mtf0 : (W0).frozen? ⟨w.heap.size, 0, none⟩ = false := (HM.blk 0 rfl).frozen 0
          have mt1 : (W0).cell? ⟨w.heap.size, 1, none⟩ = some (.int .i64 (r2 : Int)) := (HM.blk 0 rfl).cell 1
          have mtf1 : (W0).frozen? ⟨w.heap.size, 1, none⟩ = false := (HM.blk 0 rfl).frozen 1
          have mt2 : (W0).cell? ⟨w.heap.size, 2, none⟩ = some (.int .i64 (c2 : Int)) := (HM.blk 0 rfl).cell 2
          have mtf2 : (W0).frozen? ⟨w.heap.size, 2, none⟩ = false := (HM.blk 0 rfl).frozen 2
          have mt3 : (W0).cell? ⟨w.heap.size, 3, none⟩ = some (.int .i64 (h2 : Int)) := (HM.blk 0 rfl).cell 3
          have mtf3 : (W0).frozen? ⟨w.heap.size, 3, none⟩ = false := (HM.blk 0 rfl).frozen 3
          have mt4 : (W0).cell? ⟨w.heap.size, 4, none⟩ = some (.int .u64 (d2 : Int)) := (HM.blk 0 rfl).cell 4
          have mtf4 : (W0).frozen? ⟨w.heap.size, 4, none⟩ = false := (HM.blk 0 rfl).frozen 4
          have mt5 : (W0).cell? ⟨w.heap.size, 5, none⟩ = some (.int .i64 (e2 : Int)) := (HM.blk 0 rfl).cell 5
          have mtf5 : (W0).frozen? ⟨w.heap.size, 5, none⟩ = false := (HM.blk 0 rfl).frozen 5
          have mt6 : (W0).cell? ⟨w.heap.size, 6, none⟩ = some (.int .i64 (k2 : Int)) := (HM.blk 0 rfl).cell 6
          have mtf6 : (W0).frozen? ⟨w.heap.size, 6, none⟩ = false := (HM.blk 0 rfl).frozen 6
          have mtlt : w.heap.size < (W0).heap.size := HM.lt 0 rfl
          have oc0 : (W0).cell? ⟨w.heap.size + 1, 0, none⟩ = some (.slice A l.length c) := (HM.blk 1 rfl).cell 0
          have ocf0 : (W0).frozen? ⟨w.heap.size + 1, 0, none⟩ = false := (HM.blk 1 rfl).frozen 0
          have oclt : w.heap.size + 1 < (W0).heap.size := HM.lt 1 rfl
          have tk0 : (W0).cell? ⟨w.heap.size + 1 + 1, 0, none⟩ = some (.int .i64 (cls : Int)) := (HM.blk 2 rfl).cell 0
          have tkf0 : (W0).frozen? ⟨w.heap.size + 1 + 1, 0, none⟩ = false := (HM.blk 2 rfl).frozen 0
          have tk1 : (W0).cell? ⟨w.heap.size + 1 + 1, 1, none⟩ = some (.int .i64 (id : Int)) := (HM.blk 2 rfl).cell 1
          have tkf1 : (W0).frozen? ⟨w.heap.size + 1 + 1, 1, none⟩ = false := (HM.blk 2 rfl).frozen 1
          have tk2 : (W0).cell? ⟨w.heap.size + 1 + 1, 2, none⟩ = some (.int .i64 (am : Int)) := (HM.blk 2 rfl).cell 2
          have tkf2 : (W0).frozen? ⟨w.heap.size + 1 + 1, 2, none⟩ = false := (HM.blk 2 rfl).frozen 2
          have tk3 : (W0).cell? ⟨w.heap.size + 1 + 1, 3, none⟩ = some (.int .i64 (tag : Int)) := (HM.blk 2 rfl).cell 3
          have tkf3 : (W0).frozen? ⟨w.heap.size + 1 + 1, 3, none⟩ = false := (HM.blk 2 rfl).frozen 3
          have tklt : w.heap.size + 1 + 1 < (W0).heap.size := HM.lt 2 rfl
          have ne_mt_oc : w.heap.size ≠ w.heap.size + 1 := HM.ne 0 1 rfl rfl (by decide)
          have ne_mt_tk : w.heap.size ≠ w.heap.size + 1 + 1 := HM.ne 0 2 rfl rfl (by decide)
          have ne_oc_mt : w.heap.size + 1 ≠ w.heap.size := HM.ne 1 0 rfl rfl (by decide)
          have ne_oc_tk : w.heap.size + 1 ≠ w.heap.size + 1 + 1 := HM.ne 1 2 rfl rfl (by decide)
          have ne_tk_mt : w.heap.size + 1 + 1 ≠ w.heap.size := HM.ne 2 0 rfl rfl (by decide)
          have ne_tk_oc : w.heap.size + 1 + 1 ≠ w.heap.size + 1 := HM.ne 2 1 rfl rfl (by decide)
          have hv0 := hv.below HM.below
          go_enter Try.func3, Try.ntmps3
          go_wp2_with fail
          refine (hKey _ hv0).mono ?_
          rintro e1 wa ⟨rfl, hba⟩
          replace HM : Mem (w) [] (wa) [.blk (w.heap.size) 26 #[.int .i64 (me : Int), .int .i64 (r2 : Int), .int .i64 (c2 : Int), .int .i64 (h2 : Int), .int .u64 (d2 : Int), .int .i64 (e2 : Int), .int .i64 (k2 : Int)], .blk (w.heap.size + 1) 29 #[.slice A l.length c], .blk (w.heap.size + 1 + 1) 31 #[.int .i64 (cls : Int), .int .i64 (id : Int), .int .i64 (am : Int), .int .i64 (tag : Int)]] := Mem.call HM hba
          clear mt0 mtf0 mt1 mtf1 mt2 mtf2 mt3 mtf3 mt4 mtf4 mt5 mtf5 mt6 mtf6 mtlt oc0 ocf0 oclt tk0 tkf0 tk1 tkf1 tk2 tkf2 tk3 tkf3 tklt ne_mt_oc ne_mt_tk ne_oc_mt ne_oc_tk ne_tk_mt ne_tk_oc
          have mt0 : (wa).cell? ⟨w.heap.size, 0, none⟩ = some (.int .i64 (me : Int)) := (HM.blk 0 rfl).cell 0
          have mtf0 : (wa).frozen? ⟨w.heap.size, 0, none⟩ = false := (HM.blk 0 rfl).frozen 0
          have mt1 : (wa).cell? ⟨w.heap.size, 1, none⟩ = some (.int .i64 (r2 : Int)) := (HM.blk 0 rfl).cell 1
          have mtf1 : (wa).frozen? ⟨w.heap.size, 1, none⟩ = false := (HM.blk 0 rfl).frozen 1
          have mt2 : (wa).cell? ⟨w.heap.size, 2, none⟩ = some (.int .i64 (c2 : Int)) := (HM.blk 0 rfl).cell 2
          have mtf2 : (wa).frozen? ⟨w.heap.size, 2, none⟩ = false := (HM.blk 0 rfl).frozen 2
          have mt3 : (wa).cell? ⟨w.heap.size, 3, none⟩ = some (.int .i64 (h2 : Int)) := (HM.blk 0 rfl).cell 3
          have mtf3 : (wa).frozen? ⟨w.heap.size, 3, none⟩ = false := (HM.blk 0 rfl).frozen 3
          have mt4 : (wa).cell? ⟨w.heap.size, 4, none⟩ = some (.int .u64 (d2 : Int)) := (HM.blk 0 rfl).cell 4
          have mtf4 : (wa).frozen? ⟨w.heap.size, 4, none⟩ = false := (HM.blk 0 rfl).frozen 4
          have mt5 : (wa).cell? ⟨w.heap.size, 5, none⟩ = some (.int .i64 (e2 : Int)) := (HM.blk 0 rfl).cell 5
          have mtf5 : (wa).frozen? ⟨w.heap.size, 5, none⟩ = false := (HM.blk 0 rfl).frozen 5
          have mt6 : (wa).cell? ⟨w.heap.size, 6, none⟩ = some (.int .i64 (k2 : Int)) := (HM.blk 0 rfl).cell 6
          have mtf6 : (wa).frozen? ⟨w.heap.size, 6, none⟩ = false := (HM.blk 0 rfl).frozen 6
          have mtlt : w.heap.size < (wa).heap.size := HM.lt 0 rfl
          have tk0 : (wa).cell? ⟨w.heap.size + 1 + 1, 0, none⟩ = some (.int .i64 (cls : Int)) := (HM.blk 2 rfl).cell 0
          have tkf0 : (wa).frozen? ⟨w.heap.size + 1 + 1, 0, none⟩ = false := (HM.blk 2 rfl).frozen 0
          have tk1 : (wa).cell? ⟨w.heap.size + 1 + 1, 1, none⟩ = some (.int .i64 (id : Int)) := (HM.blk 2 rfl).cell 1
          have tkf1 : (wa).frozen? ⟨w.heap.size + 1 + 1, 1, none⟩ = false := (HM.blk 2 rfl).frozen 1
          have tk2 : (wa).cell? ⟨w.heap.size + 1 + 1, 2, none⟩ = some (.int .i64 (am : Int)) := (HM.blk 2 rfl).cell 2
          have tkf2 : (wa).frozen? ⟨w.heap.size + 1 + 1, 2, none⟩ = false := (HM.blk 2 rfl).frozen 2
          have tk3 : (wa).cell? ⟨w.heap.size + 1 + 1, 3, none⟩ = some (.int .i64 (tag : Int)) := (HM.blk 2 rfl).cell 3
          have tkf3 : (wa).frozen? ⟨w.heap.size + 1 + 1, 3, none⟩ = false := (HM.blk 2 rfl).frozen 3
          have tklt : w.heap.size + 1 + 1 < (wa).heap.size := HM.lt 2 rfl
          have ne_mt_tk : w.heap.size ≠ w.heap.size + 1 + 1 := HM.ne 0 2 rfl rfl (by decide)
          have ne_tk_mt : w.heap.size + 1 + 1 ≠ w.heap.size := HM.ne 2 0 rfl rfl (by decide)
          clear hba hW0 hv0
          go_wp2
          go_ret
          exact ⟨rfl, HM.call (below_a1 _ _) |>.below⟩
        · subst l1; subst l2; subst l3; subst l4; subst l5; subst l6
          have hEq := fun W => meter_same (me : Int) (r2 : Int) (c2 : Int) (h2 : Int) (d2 : Int) (bad : Int) (lock : Int) W
          rcases l7 with ⟨rfl, rfl, rfl⟩ | ⟨g1, rfl, rfl⟩
          · have hEq := fun W => meter_same (me : Int) (r2 : Int) (c2 : Int) (h2 : Int) (d2 : Int) 4 (lock : Int) W
            clear a1 a2 a3 a4 a5 a6 b1 b2 b3 b4 b5 hW ham
            have HM := Mem.init w
            obtain ⟨W0, hW0⟩ : ∃ W0, (((w).alloc (.cells #[.int .i64 (me : Int), .int .i64 (r2 : Int), .int .i64 (c2 : Int), .int .i64 (h2 : Int), .int .u64 (d2 : Int), .int .i64 4, .int .i64 (lock : Int)] 26)).alloc (.cells #[.slice A l.length c] 29)).alloc (.cells #[.int .i64 (cls : Int), .int .i64 (id : Int), .int .i64 (am : Int), .int .i64 (tag : Int)] 31) = W0 := ⟨_, rfl⟩
            replace HM : Mem (w) [] _ [.blk (w.heap.size) 26 #[.int .i64 (me : Int), .int .i64 (r2 : Int), .int .i64 (c2 : Int), .int .i64 (h2 : Int), .int .u64 (d2 : Int), .int .i64 4, .int .i64 (lock : Int)]] := Mem.alloc HM (w.heap.size) (by first | (simp; done) | (simp; omega)) #[.int .i64 (me : Int), .int .i64 (r2 : Int), .int .i64 (c2 : Int), .int .i64 (h2 : Int), .int .u64 (d2 : Int), .int .i64 4, .int .i64 (lock : Int)] 26
            replace HM : Mem (w) [] _ [.blk (w.heap.size) 26 #[.int .i64 (me : Int), .int .i64 (r2 : Int), .int .i64 (c2 : Int), .int .i64 (h2 : Int), .int .u64 (d2 : Int), .int .i64 4, .int .i64 (lock : Int)], .blk (w.heap.size + 1) 29 #[.slice A l.length c]] := Mem.alloc HM (w.heap.size + 1) (by first | (simp; done) | (simp; omega)) #[.slice A l.length c] 29
            replace HM : Mem (w) [] _ [.blk (w.heap.size) 26 #[.int .i64 (me : Int), .int .i64 (r2 : Int), .int .i64 (c2 : Int), .int .i64 (h2 : Int), .int .u64 (d2 : Int), .int .i64 4, .int .i64 (lock : Int)], .blk (w.heap.size + 1) 29 #[.slice A l.length c], .blk (w.heap.size + 1 + 1) 31 #[.int .i64 (cls : Int), .int .i64 (id : Int), .int .i64 (am : Int), .int .i64 (tag : Int)]] := Mem.alloc HM (w.heap.size + 1 + 1) (by first | (simp; done) | (simp; omega)) #[.int .i64 (cls : Int), .int .i64 (id : Int), .int .i64 (am : Int), .int .i64 (tag : Int)] 31
            rw [hW0] at HM
            have mt0 : (W0).cell? ⟨w.heap.size, 0, none⟩ = some (.int .i64 (me : Int)) := (HM.blk 0 rfl).cell 0
            have mtf0 : (W0).frozen? ⟨w.heap.size, 0, none⟩ = false := (HM.blk 0 rfl).frozen 0
            have mt1 : (W0).cell? ⟨w.heap.size, 1, none⟩ = some (.int .i64 (r2 : Int)) := (HM.blk 0 rfl).cell 1
            have mtf1 : (W0).frozen? ⟨w.heap.size, 1, none⟩ = false := (HM.blk 0 rfl).frozen 1
            have mt2 : (W0).cell? ⟨w.heap.size, 2, none⟩ = some (.int .i64 (c2 : Int)) := (HM.blk 0 rfl).cell 2
            have mtf2 : (W0).frozen? ⟨w.heap.size, 2, none⟩ = false := (HM.blk 0 rfl).frozen 2
            have mt3 : (W0).cell? ⟨w.heap.size, 3, none⟩ = some (.int .i64 (h2 : Int)) := (HM.blk 0 rfl).cell 3
            have mtf3 : (W0).frozen? ⟨w.heap.size, 3, none⟩ = false := (HM.blk 0 rfl).frozen 3
            have mt4 : (W0).cell? ⟨w.heap.size, 4, none⟩ = some (.int .u64 (d2 : Int)) := (HM.blk 0 rfl).cell 4
            have mtf4 : (W0).frozen? ⟨w.heap.size, 4, none⟩ = false := (HM.blk 0 rfl).frozen 4
            have mt5 : (W0).cell? ⟨w.heap.size, 5, none⟩ = some (.int .i64 4) := (HM.blk 0 rfl).cell 5
            have mtf5 : (W0).frozen? ⟨w.heap.size, 5, none⟩ = false := (HM.blk 0 rfl).frozen 5
            have mt6 : (W0).cell? ⟨w.heap.size, 6, none⟩ = some (.int .i64 (lock : Int)) := (HM.blk 0 rfl).cell 6
            have mtf6 : (W0).frozen? ⟨w.heap.size, 6, none⟩ = false := (HM.blk 0 rfl).frozen 6
            have mtlt : w.heap.size < (W0).heap.size := HM.lt 0 rfl
            have oc0 : (W0).cell? ⟨w.heap.size + 1, 0, none⟩ = some (.slice A l.length c) := (HM.blk 1 rfl).cell 0
            have ocf0 : (W0).frozen? ⟨w.heap.size + 1, 0, none⟩ = false := (HM.blk 1 rfl).frozen 0
            have oclt : w.heap.size + 1 < (W0).heap.size := HM.lt 1 rfl
            have tk0 : (W0).cell? ⟨w.heap.size + 1 + 1, 0, none⟩ = some (.int .i64 (cls : Int)) := (HM.blk 2 rfl).cell 0
            have tkf0 : (W0).frozen? ⟨w.heap.size + 1 + 1, 0, none⟩ = false := (HM.blk 2 rfl).frozen 0
            have tk1 : (W0).cell? ⟨w.heap.size + 1 + 1, 1, none⟩ = some (.int .i64 (id : Int)) := (HM.blk 2 rfl).cell 1
            have tkf1 : (W0).frozen? ⟨w.heap.size + 1 + 1, 1, none⟩ = false := (HM.blk 2 rfl).frozen 1
            have tk2 : (W0).cell? ⟨w.heap.size + 1 + 1, 2, none⟩ = some (.int .i64 (am : Int)) := (HM.blk 2 rfl).cell 2
            have tkf2 : (W0).frozen? ⟨w.heap.size + 1 + 1, 2, none⟩ = false := (HM.blk 2 rfl).frozen 2
            have tk3 : (W0).cell? ⟨w.heap.size + 1 + 1, 3, none⟩ = some (.int .i64 (tag : Int)) := (HM.blk 2 rfl).cell 3
            have tkf3 : (W0).frozen? ⟨w.heap.size + 1 + 1, 3, none⟩ = false := (HM.blk 2 rfl).frozen 3
            have tklt : w.heap.size + 1 + 1 < (W0).heap.size := HM.lt 2 rfl
            have ne_mt_oc : w.heap.size ≠ w.heap.size + 1 := HM.ne 0 1 rfl rfl (by decide)
            have ne_mt_tk : w.heap.size ≠ w.heap.size + 1 + 1 := HM.ne 0 2 rfl rfl (by decide)
            have ne_oc_mt : w.heap.size + 1 ≠ w.heap.size := HM.ne 1 0 rfl rfl (by decide)
            have ne_oc_tk : w.heap.size + 1 ≠ w.heap.size + 1 + 1 := HM.ne 1 2 rfl rfl (by decide)
            have ne_tk_mt : w.heap.size + 1 + 1 ≠ w.heap.size := HM.ne 2 0 rfl rfl (by decide)
            have ne_tk_oc : w.heap.size + 1 + 1 ≠ w.heap.size + 1 := HM.ne 2 1 rfl rfl (by decide)
            have hv0 := hv.below HM.below
            go_enter Try.func3, Try.ntmps3
            go_wp2_with fail
            refine (hKey _ hv0).mono ?_
            rintro e1 wa ⟨rfl, hba⟩
            replace HM : Mem (w) [] (wa) [.blk (w.heap.size) 26 #[.int .i64 (me : Int), .int .i64 (r2 : Int), .int .i64 (c2 : Int), .int .i64 (h2 : Int), .int .u64 (d2 : Int), .int .i64 4, .int .i64 (lock : Int)], .blk (w.heap.size + 1) 29 #[.slice A l.length c], .blk (w.heap.size + 1 + 1) 31 #[.int .i64 (cls : Int), .int .i64 (id : Int), .int .i64 (am : Int), .int .i64 (tag : Int)]] := Mem.call HM hba
            clear mt0 mtf0 mt1 mtf1 mt2 mtf2 mt3 mtf3 mt4 mtf4 mt5 mtf5 mt6 mtf6 mtlt oc0 ocf0 oclt tk0 tkf0 tk1 tkf1 tk2 tkf2 tk3 tkf3 tklt ne_mt_oc ne_mt_tk ne_oc_mt ne_oc_tk ne_tk_mt ne_tk_oc
            have mt0 : (wa).cell? ⟨w.heap.size, 0, none⟩ = some (.int .i64 (me : Int)) := (HM.blk 0 rfl).cell 0
            have mtf0 : (wa).frozen? ⟨w.heap.size, 0, none⟩ = false := (HM.blk 0 rfl).frozen 0
            have mt1 : (wa).cell? ⟨w.heap.size, 1, none⟩ = some (.int .i64 (r2 : Int)) := (HM.blk 0 rfl).cell 1
            have mtf1 : (wa).frozen? ⟨w.heap.size, 1, none⟩ = false := (HM.blk 0 rfl).frozen 1
            have mt2 : (wa).cell? ⟨w.heap.size, 2, none⟩ = some (.int .i64 (c2 : Int)) := (HM.blk 0 rfl).cell 2
            have mtf2 : (wa).frozen? ⟨w.heap.size, 2, none⟩ = false := (HM.blk 0 rfl).frozen 2
            have mt3 : (wa).cell? ⟨w.heap.size, 3, none⟩ = some (.int .i64 (h2 : Int)) := (HM.blk 0 rfl).cell 3
            have mtf3 : (wa).frozen? ⟨w.heap.size, 3, none⟩ = false := (HM.blk 0 rfl).frozen 3
            have mt4 : (wa).cell? ⟨w.heap.size, 4, none⟩ = some (.int .u64 (d2 : Int)) := (HM.blk 0 rfl).cell 4
            have mtf4 : (wa).frozen? ⟨w.heap.size, 4, none⟩ = false := (HM.blk 0 rfl).frozen 4
            have mt5 : (wa).cell? ⟨w.heap.size, 5, none⟩ = some (.int .i64 4) := (HM.blk 0 rfl).cell 5
            have mtf5 : (wa).frozen? ⟨w.heap.size, 5, none⟩ = false := (HM.blk 0 rfl).frozen 5
            have mt6 : (wa).cell? ⟨w.heap.size, 6, none⟩ = some (.int .i64 (lock : Int)) := (HM.blk 0 rfl).cell 6
            have mtf6 : (wa).frozen? ⟨w.heap.size, 6, none⟩ = false := (HM.blk 0 rfl).frozen 6
            have mtlt : w.heap.size < (wa).heap.size := HM.lt 0 rfl
            have tk0 : (wa).cell? ⟨w.heap.size + 1 + 1, 0, none⟩ = some (.int .i64 (cls : Int)) := (HM.blk 2 rfl).cell 0
            have tkf0 : (wa).frozen? ⟨w.heap.size + 1 + 1, 0, none⟩ = false := (HM.blk 2 rfl).frozen 0
            have tk1 : (wa).cell? ⟨w.heap.size + 1 + 1, 1, none⟩ = some (.int .i64 (id : Int)) := (HM.blk 2 rfl).cell 1
            have tkf1 : (wa).frozen? ⟨w.heap.size + 1 + 1, 1, none⟩ = false := (HM.blk 2 rfl).frozen 1
            have tk2 : (wa).cell? ⟨w.heap.size + 1 + 1, 2, none⟩ = some (.int .i64 (am : Int)) := (HM.blk 2 rfl).cell 2
            have tkf2 : (wa).frozen? ⟨w.heap.size + 1 + 1, 2, none⟩ = false := (HM.blk 2 rfl).frozen 2
            have tk3 : (wa).cell? ⟨w.heap.size + 1 + 1, 3, none⟩ = some (.int .i64 (tag : Int)) := (HM.blk 2 rfl).cell 3
            have tkf3 : (wa).frozen? ⟨w.heap.size + 1 + 1, 3, none⟩ = false := (HM.blk 2 rfl).frozen 3
            have tklt : w.heap.size + 1 + 1 < (wa).heap.size := HM.lt 2 rfl
            have ne_mt_tk : w.heap.size ≠ w.heap.size + 1 + 1 := HM.ne 0 2 rfl rfl (by decide)
            have ne_tk_mt : w.heap.size + 1 + 1 ≠ w.heap.size := HM.ne 2 0 rfl rfl (by decide)
            clear hba hW0 hv0
            go_wp2
            go_ret
            exact ⟨rfl, HM.call (below_a2 _ _ _) |>.below⟩
          · obtain ⟨bd, hbd⟩ : ∃ bd, bad + 1 = bd := ⟨_, rfl⟩
            rw [hbd] at hKey
            have g2 : ((bad : Int) == 4) = false := by simp; omega
            have g3 : IntKind.i64.wrap ((bad : Int) + 1) = (bd : Int) := by rw [IntWalk.i64_in _ (by omega)]; omega
            clear a1 a2 a3 a4 a5 a6 b1 b2 b3 b4 b5 hW ham hbd g1
            have HM := Mem.init w
            obtain ⟨W0, hW0⟩ : ∃ W0, (((w).alloc (.cells #[.int .i64 (me : Int), .int .i64 (r2 : Int), .int .i64 (c2 : Int), .int .i64 (h2 : Int), .int .u64 (d2 : Int), .int .i64 (bad : Int), .int .i64 (k2 : Int)] 26)).alloc (.cells #[.slice A l.length c] 29)).alloc (.cells #[.int .i64 (cls : Int), .int .i64 (id : Int), .int .i64 (am : Int), .int .i64 (tag : Int)] 31) = W0 := ⟨_, rfl⟩
            replace HM : Mem (w) [] _ [.blk (w.heap.size) 26 #[.int .i64 (me : Int), .int .i64 (r2 : Int), .int .i64 (c2 : Int), .int .i64 (h2 : Int), .int .u64 (d2 : Int), .int .i64 (bad : Int), .int .i64 (k2 : Int)]] := Mem.alloc HM (w.heap.size) (by first | (simp; done) | (simp; omega)) #[.int .i64 (me : Int), .int .i64 (r2 : Int), .int .i64 (c2 : Int), .int .i64 (h2 : Int), .int .u64 (d2 : Int), .int .i64 (bad : Int), .int .i64 (k2 : Int)] 26
            replace HM : Mem (w) [] _ [.blk (w.heap.size) 26 #[.int .i64 (me : Int), .int .i64 (r2 : Int), .int .i64 (c2 : Int), .int .i64 (h2 : Int), .int .u64 (d2 : Int), .int .i64 (bad : Int), .int .i64 (k2 : Int)], .blk (w.heap.size + 1) 29 #[.slice A l.length c]] := Mem.alloc HM (w.heap.size + 1) (by first | (simp; done) | (simp; omega)) #[.slice A l.length c] 29
            replace HM : Mem (w) [] _ [.blk (w.heap.size) 26 #[.int .i64 (me : Int), .int .i64 (r2 : Int), .int .i64 (c2 : Int), .int .i64 (h2 : Int), .int .u64 (d2 : Int), .int .i64 (bad : Int), .int .i64 (k2 : Int)], .blk (w.heap.size + 1) 29 #[.slice A l.length c], .blk (w.heap.size + 1 + 1) 31 #[.int .i64 (cls : Int), .int .i64 (id : Int), .int .i64 (am : Int), .int .i64 (tag : Int)]] := Mem.alloc HM (w.heap.size + 1 + 1) (by first | (simp; done) | (simp; omega)) #[.int .i64 (cls : Int), .int .i64 (id : Int), .int .i64 (am : Int), .int .i64 (tag : Int)] 31
            rw [hW0] at HM
            have mt0 : (W0).cell? ⟨w.heap.size, 0, none⟩ = some (.int .i64 (me : Int)) := (HM.blk 0 rfl).cell 0
            have mtf0 : (W0).frozen? ⟨w.heap.size, 0, none⟩ = false := (HM.blk 0 rfl).frozen 0
            have mt1 : (W0).cell? ⟨w.heap.size, 1, none⟩ = some (.int .i64 (r2 : Int)) := (HM.blk 0 rfl).cell 1
            have mtf1 : (W0).frozen? ⟨w.heap.size, 1, none⟩ = false := (HM.blk 0 rfl).frozen 1
            have mt2 : (W0).cell? ⟨w.heap.size, 2, none⟩ = some (.int .i64 (c2 : Int)) := (HM.blk 0 rfl).cell 2
            have mtf2 : (W0).frozen? ⟨w.heap.size, 2, none⟩ = false := (HM.blk 0 rfl).frozen 2
            have mt3 : (W0).cell? ⟨w.heap.size, 3, none⟩ = some (.int .i64 (h2 : Int)) := (HM.blk 0 rfl).cell 3
            have mtf3 : (W0).frozen? ⟨w.heap.size, 3, none⟩ = false := (HM.blk 0 rfl).frozen 3
            have mt4 : (W0).cell? ⟨w.heap.size, 4, none⟩ = some (.int .u64 (d2 : Int)) := (HM.blk 0 rfl).cell 4
            have mtf4 : (W0).frozen? ⟨w.heap.size, 4, none⟩ = false := (HM.blk 0 rfl).frozen 4
            have mt5 : (W0).cell? ⟨w.heap.size, 5, none⟩ = some (.int .i64 (bad : Int)) := (HM.blk 0 rfl).cell 5
            have mtf5 : (W0).frozen? ⟨w.heap.size, 5, none⟩ = false := (HM.blk 0 rfl).frozen 5
            have mt6 : (W0).cell? ⟨w.heap.size, 6, none⟩ = some (.int .i64 (k2 : Int)) := (HM.blk 0 rfl).cell 6
            have mtf6 : (W0).frozen? ⟨w.heap.size, 6, none⟩ = false := (HM.blk 0 rfl).frozen 6
            have mtlt : w.heap.size < (W0).heap.size := HM.lt 0 rfl
            have oc0 : (W0).cell? ⟨w.heap.size + 1, 0, none⟩ = some (.slice A l.length c) := (HM.blk 1 rfl).cell 0
            have ocf0 : (W0).frozen? ⟨w.heap.size + 1, 0, none⟩ = false := (HM.blk 1 rfl).frozen 0
            have oclt : w.heap.size + 1 < (W0).heap.size := HM.lt 1 rfl
            have tk0 : (W0).cell? ⟨w.heap.size + 1 + 1, 0, none⟩ = some (.int .i64 (cls : Int)) := (HM.blk 2 rfl).cell 0
            have tkf0 : (W0).frozen? ⟨w.heap.size + 1 + 1, 0, none⟩ = false := (HM.blk 2 rfl).frozen 0
            have tk1 : (W0).cell? ⟨w.heap.size + 1 + 1, 1, none⟩ = some (.int .i64 (id : Int)) := (HM.blk 2 rfl).cell 1
            have tkf1 : (W0).frozen? ⟨w.heap.size + 1 + 1, 1, none⟩ = false := (HM.blk 2 rfl).frozen 1
            have tk2 : (W0).cell? ⟨w.heap.size + 1 + 1, 2, none⟩ = some (.int .i64 (am : Int)) := (HM.blk 2 rfl).cell 2
            have tkf2 : (W0).frozen? ⟨w.heap.size + 1 + 1, 2, none⟩ = false := (HM.blk 2 rfl).frozen 2
            have tk3 : (W0).cell? ⟨w.heap.size + 1 + 1, 3, none⟩ = some (.int .i64 (tag : Int)) := (HM.blk 2 rfl).cell 3
            have tkf3 : (W0).frozen? ⟨w.heap.size + 1 + 1, 3, none⟩ = false := (HM.blk 2 rfl).frozen 3
            have tklt : w.heap.size + 1 + 1 < (W0).heap.size := HM.lt 2 rfl
            have ne_mt_oc : w.heap.size ≠ w.heap.size + 1 := HM.ne 0 1 rfl rfl (by decide)
            have ne_mt_tk : w.heap.size ≠ w.heap.size + 1 + 1 := HM.ne 0 2 rfl rfl (by decide)
            have ne_oc_mt : w.heap.size + 1 ≠ w.heap.size := HM.ne 1 0 rfl rfl (by decide)
            have ne_oc_tk : w.heap.size + 1 ≠ w.heap.size + 1 + 1 := HM.ne 1 2 rfl rfl (by decide)
            have ne_tk_mt : w.heap.size + 1 + 1 ≠ w.heap.size := HM.ne 2 0 rfl rfl (by decide)
            have ne_tk_oc : w.heap.size + 1 + 1 ≠ w.heap.size + 1 := HM.ne 2 1 rfl rfl (by decide)
            have hv0 := hv.below HM.below
            go_enter Try.func3, Try.ntmps3
            go_wp2_with fail
            refine (hKey _ hv0).mono ?_
            rintro e1 wa ⟨rfl, hba⟩
            replace HM : Mem (w) [] (wa) [.blk (w.heap.size) 26 #[.int .i64 (me : Int), .int .i64 (r2 : Int), .int .i64 (c2 : Int), .int .i64 (h2 : Int), .int .u64 (d2 : Int), .int .i64 (bad : Int), .int .i64 (k2 : Int)], .blk (w.heap.size + 1) 29 #[.slice A l.length c], .blk (w.heap.size + 1 + 1) 31 #[.int .i64 (cls : Int), .int .i64 (id : Int), .int .i64 (am : Int), .int .i64 (tag : Int)]] := Mem.call HM hba
            clear mt0 mtf0 mt1 mtf1 mt2 mtf2 mt3 mtf3 mt4 mtf4 mt5 mtf5 mt6 mtf6 mtlt oc0 ocf0 oclt tk0 tkf0 tk1 tkf1 tk2 tkf2 tk3 tkf3 tklt ne_mt_oc ne_mt_tk ne_oc_mt ne_oc_tk ne_tk_mt ne_tk_oc
            have mt0 : (wa).cell? ⟨w.heap.size, 0, none⟩ = some (.int .i64 (me : Int)) := (HM.blk 0 rfl).cell 0
            have mtf0 : (wa).frozen? ⟨w.heap.size, 0, none⟩ = false := (HM.blk 0 rfl).frozen 0
            have mt1 : (wa).cell? ⟨w.heap.size, 1, none⟩ = some (.int .i64 (r2 : Int)) := (HM.blk 0 rfl).cell 1
            have mtf1 : (wa).frozen? ⟨w.heap.size, 1, none⟩ = false := (HM.blk 0 rfl).frozen 1
            have mt2 : (wa).cell? ⟨w.heap.size, 2, none⟩ = some (.int .i64 (c2 : Int)) := (HM.blk 0 rfl).cell 2
            have mtf2 : (wa).frozen? ⟨w.heap.size, 2, none⟩ = false := (HM.blk 0 rfl).frozen 2
            have mt3 : (wa).cell? ⟨w.heap.size, 3, none⟩ = some (.int .i64 (h2 : Int)) := (HM.blk 0 rfl).cell 3
            have mtf3 : (wa).frozen? ⟨w.heap.size, 3, none⟩ = false := (HM.blk 0 rfl).frozen 3
            have mt4 : (wa).cell? ⟨w.heap.size, 4, none⟩ = some (.int .u64 (d2 : Int)) := (HM.blk 0 rfl).cell 4
            have mtf4 : (wa).frozen? ⟨w.heap.size, 4, none⟩ = false := (HM.blk 0 rfl).frozen 4
            have mt5 : (wa).cell? ⟨w.heap.size, 5, none⟩ = some (.int .i64 (bad : Int)) := (HM.blk 0 rfl).cell 5
            have mtf5 : (wa).frozen? ⟨w.heap.size, 5, none⟩ = false := (HM.blk 0 rfl).frozen 5
            have mt6 : (wa).cell? ⟨w.heap.size, 6, none⟩ = some (.int .i64 (k2 : Int)) := (HM.blk 0 rfl).cell 6
            have mtf6 : (wa).frozen? ⟨w.heap.size, 6, none⟩ = false := (HM.blk 0 rfl).frozen 6
            have mtlt : w.heap.size < (wa).heap.size := HM.lt 0 rfl
            have tk0 : (wa).cell? ⟨w.heap.size + 1 + 1, 0, none⟩ = some (.int .i64 (cls : Int)) := (HM.blk 2 rfl).cell 0
            have tkf0 : (wa).frozen? ⟨w.heap.size + 1 + 1, 0, none⟩ = false := (HM.blk 2 rfl).frozen 0
            have tk1 : (wa).cell? ⟨w.heap.size + 1 + 1, 1, none⟩ = some (.int .i64 (id : Int)) := (HM.blk 2 rfl).cell 1
            have tkf1 : (wa).frozen? ⟨w.heap.size + 1 + 1, 1, none⟩ = false := (HM.blk 2 rfl).frozen 1
            have tk2 : (wa).cell? ⟨w.heap.size + 1 + 1, 2, none⟩ = some (.int .i64 (am : Int)) := (HM.blk 2 rfl).cell 2
            have tkf2 : (wa).frozen? ⟨w.heap.size + 1 + 1, 2, none⟩ = false := (HM.blk 2 rfl).frozen 2
            have tk3 : (wa).cell? ⟨w.heap.size + 1 + 1, 3, none⟩ = some (.int .i64 (tag : Int)) := (HM.blk 2 rfl).cell 3
            have tkf3 : (wa).frozen? ⟨w.heap.size + 1 + 1, 3, none⟩ = false := (HM.blk 2 rfl).frozen 3
            have tklt : w.heap.size + 1 + 1 < (wa).heap.size := HM.lt 2 rfl
            have ne_mt_tk : w.heap.size ≠ w.heap.size + 1 + 1 := HM.ne 0 2 rfl rfl (by decide)
            have ne_tk_mt : w.heap.size + 1 + 1 ≠ w.heap.size := HM.ne 2 0 rfl rfl (by decide)
            clear hba hW0 hv0
            go_wp2
            go_ret
            exact ⟨rfl, HM.call (below_a2 _ _ _) |>.below⟩
      · have h0 : tfault cls id am tag ≠ 0 := by omega
        obtain ⟨f, hff⟩ : ∃ f, tfault cls id am tag = f := ⟨_, rfl⟩
        rw [hff] at h0 hf
        have g1 : (f == 5) = false := by simp; omega
        have g2 : (f == 0) = false := by simp; omega
        have g3 : (f == 12) = false := by simp; omega
        have hEq := fun W => meter_same me rev cr hh (b : Int) bad lock W
        have hK := fun W h => key_fault (.slice A l.length c) l me rev cr hh b bad lock cls id am tag f W h w4 hb w5 w6 hm ho (Lib.hid hff) h0
        clear hf h0 hff
        have HM := Mem.init w
        obtain ⟨W0, hW0⟩ : ∃ W0, (((w).alloc (.cells #[.int .i64 me, .int .i64 rev, .int .i64 cr, .int .i64 hh, .int .u64 (b : Int), .int .i64 bad, .int .i64 lock] 26)).alloc (.cells #[.slice A l.length c] 29)).alloc (.cells #[.int .i64 cls, .int .i64 id, .int .i64 am, .int .i64 tag] 31) = W0 := ⟨_, rfl⟩
        replace HM : Mem (w) [] _ [.blk (w.heap.size) 26 #[.int .i64 me, .int .i64 rev, .int .i64 cr, .int .i64 hh, .int .u64 (b : Int), .int .i64 bad, .int .i64 lock]] := Mem.alloc HM (w.heap.size) (by first | (simp; done) | (simp; omega)) #[.int .i64 me, .int .i64 rev, .int .i64 cr, .int .i64 hh, .int .u64 (b : Int), .int .i64 bad, .int .i64 lock] 26
        replace HM : Mem (w) [] _ [.blk (w.heap.size) 26 #[.int .i64 me, .int .i64 rev, .int .i64 cr, .int .i64 hh, .int .u64 (b : Int), .int .i64 bad, .int .i64 lock], .blk (w.heap.size + 1) 29 #[.slice A l.length c]] := Mem.alloc HM (w.heap.size + 1) (by first | (simp; done) | (simp; omega)) #[.slice A l.length c] 29
        replace HM : Mem (w) [] _ [.blk (w.heap.size) 26 #[.int .i64 me, .int .i64 rev, .int .i64 cr, .int .i64 hh, .int .u64 (b : Int), .int .i64 bad, .int .i64 lock], .blk (w.heap.size + 1) 29 #[.slice A l.length c], .blk (w.heap.size + 1 + 1) 31 #[.int .i64 cls, .int .i64 id, .int .i64 am, .int .i64 tag]] := Mem.alloc HM (w.heap.size + 1 + 1) (by first | (simp; done) | (simp; omega)) #[.int .i64 cls, .int .i64 id, .int .i64 am, .int .i64 tag] 31
        rw [hW0] at HM
        have mt0 : (W0).cell? ⟨w.heap.size, 0, none⟩ = some (.int .i64 me) := (HM.blk 0 rfl).cell 0
        have mtf0 : (W0).frozen? ⟨w.heap.size, 0, none⟩ = false := (HM.blk 0 rfl).frozen 0
        have mt1 : (W0).cell? ⟨w.heap.size, 1, none⟩ = some (.int .i64 rev) := (HM.blk 0 rfl).cell 1
        have mtf1 : (W0).frozen? ⟨w.heap.size, 1, none⟩ = false := (HM.blk 0 rfl).frozen 1
        have mt2 : (W0).cell? ⟨w.heap.size, 2, none⟩ = some (.int .i64 cr) := (HM.blk 0 rfl).cell 2
        have mtf2 : (W0).frozen? ⟨w.heap.size, 2, none⟩ = false := (HM.blk 0 rfl).frozen 2
        have mt3 : (W0).cell? ⟨w.heap.size, 3, none⟩ = some (.int .i64 hh) := (HM.blk 0 rfl).cell 3
        have mtf3 : (W0).frozen? ⟨w.heap.size, 3, none⟩ = false := (HM.blk 0 rfl).frozen 3
        have mt4 : (W0).cell? ⟨w.heap.size, 4, none⟩ = some (.int .u64 (b : Int)) := (HM.blk 0 rfl).cell 4
        have mtf4 : (W0).frozen? ⟨w.heap.size, 4, none⟩ = false := (HM.blk 0 rfl).frozen 4
        have mt5 : (W0).cell? ⟨w.heap.size, 5, none⟩ = some (.int .i64 bad) := (HM.blk 0 rfl).cell 5
        have mtf5 : (W0).frozen? ⟨w.heap.size, 5, none⟩ = false := (HM.blk 0 rfl).frozen 5
        have mt6 : (W0).cell? ⟨w.heap.size, 6, none⟩ = some (.int .i64 lock) := (HM.blk 0 rfl).cell 6
        have mtf6 : (W0).frozen? ⟨w.heap.size, 6, none⟩ = false := (HM.blk 0 rfl).frozen 6
        have mtlt : w.heap.size < (W0).heap.size := HM.lt 0 rfl
        have oc0 : (W0).cell? ⟨w.heap.size + 1, 0, none⟩ = some (.slice A l.length c) := (HM.blk 1 rfl).cell 0
        have ocf0 : (W0).frozen? ⟨w.heap.size + 1, 0, none⟩ = false := (HM.blk 1 rfl).frozen 0
        have oclt : w.heap.size + 1 < (W0).heap.size := HM.lt 1 rfl
        have tk0 : (W0).cell? ⟨w.heap.size + 1 + 1, 0, none⟩ = some (.int .i64 cls) := (HM.blk 2 rfl).cell 0
        have tkf0 : (W0).frozen? ⟨w.heap.size + 1 + 1, 0, none⟩ = false := (HM.blk 2 rfl).frozen 0
        have tk1 : (W0).cell? ⟨w.heap.size + 1 + 1, 1, none⟩ = some (.int .i64 id) := (HM.blk 2 rfl).cell 1
        have tkf1 : (W0).frozen? ⟨w.heap.size + 1 + 1, 1, none⟩ = false := (HM.blk 2 rfl).frozen 1
        have tk2 : (W0).cell? ⟨w.heap.size + 1 + 1, 2, none⟩ = some (.int .i64 am) := (HM.blk 2 rfl).cell 2
        have tkf2 : (W0).frozen? ⟨w.heap.size + 1 + 1, 2, none⟩ = false := (HM.blk 2 rfl).frozen 2
        have tk3 : (W0).cell? ⟨w.heap.size + 1 + 1, 3, none⟩ = some (.int .i64 tag) := (HM.blk 2 rfl).cell 3
        have tkf3 : (W0).frozen? ⟨w.heap.size + 1 + 1, 3, none⟩ = false := (HM.blk 2 rfl).frozen 3
        have tklt : w.heap.size + 1 + 1 < (W0).heap.size := HM.lt 2 rfl
        have ne_mt_oc : w.heap.size ≠ w.heap.size + 1 := HM.ne 0 1 rfl rfl (by decide)
        have ne_mt_tk : w.heap.size ≠ w.heap.size + 1 + 1 := HM.ne 0 2 rfl rfl (by decide)
        have ne_oc_mt : w.heap.size + 1 ≠ w.heap.size := HM.ne 1 0 rfl rfl (by decide)
        have ne_oc_tk : w.heap.size + 1 ≠ w.heap.size + 1 + 1 := HM.ne 1 2 rfl rfl (by decide)
        have ne_tk_mt : w.heap.size + 1 + 1 ≠ w.heap.size := HM.ne 2 0 rfl rfl (by decide)
        have ne_tk_oc : w.heap.size + 1 + 1 ≠ w.heap.size + 1 := HM.ne 2 1 rfl rfl (by decide)
        have hv0 := hv.below HM.below
        go_enter Try.func3, Try.ntmps3
        go_wp2_with fail
        refine (hK _ hv0).mono ?_
        rintro e1 wa ⟨rfl, hba⟩
        replace HM : Mem (w) [] (wa) [.blk (w.heap.size) 26 #[.int .i64 me, .int .i64 rev, .int .i64 cr, .int .i64 hh, .int .u64 (b : Int), .int .i64 bad, .int .i64 lock], .blk (w.heap.size + 1) 29 #[.slice A l.length c], .blk (w.heap.size + 1 + 1) 31 #[.int .i64 cls, .int .i64 id, .int .i64 am, .int .i64 tag]] := Mem.call HM hba
        clear mt0 mtf0 mt1 mtf1 mt2 mtf2 mt3 mtf3 mt4 mtf4 mt5 mtf5 mt6 mtf6 mtlt oc0 ocf0 oclt tk0 tkf0 tk1 tkf1 tk2 tkf2 tk3 tkf3 tklt ne_mt_oc ne_mt_tk ne_oc_mt ne_oc_tk ne_tk_mt ne_tk_oc
        have mt0 : (wa).cell? ⟨w.heap.size, 0, none⟩ = some (.int .i64 me) := (HM.blk 0 rfl).cell 0
        have mtf0 : (wa).frozen? ⟨w.heap.size, 0, none⟩ = false := (HM.blk 0 rfl).frozen 0
        have mt1 : (wa).cell? ⟨w.heap.size, 1, none⟩ = some (.int .i64 rev) := (HM.blk 0 rfl).cell 1
        have mtf1 : (wa).frozen? ⟨w.heap.size, 1, none⟩ = false := (HM.blk 0 rfl).frozen 1
        have mt2 : (wa).cell? ⟨w.heap.size, 2, none⟩ = some (.int .i64 cr) := (HM.blk 0 rfl).cell 2
        have mtf2 : (wa).frozen? ⟨w.heap.size, 2, none⟩ = false := (HM.blk 0 rfl).frozen 2
        have mt3 : (wa).cell? ⟨w.heap.size, 3, none⟩ = some (.int .i64 hh) := (HM.blk 0 rfl).cell 3
        have mtf3 : (wa).frozen? ⟨w.heap.size, 3, none⟩ = false := (HM.blk 0 rfl).frozen 3
        have mt4 : (wa).cell? ⟨w.heap.size, 4, none⟩ = some (.int .u64 (b : Int)) := (HM.blk 0 rfl).cell 4
        have mtf4 : (wa).frozen? ⟨w.heap.size, 4, none⟩ = false := (HM.blk 0 rfl).frozen 4
        have mt5 : (wa).cell? ⟨w.heap.size, 5, none⟩ = some (.int .i64 bad) := (HM.blk 0 rfl).cell 5
        have mtf5 : (wa).frozen? ⟨w.heap.size, 5, none⟩ = false := (HM.blk 0 rfl).frozen 5
        have mt6 : (wa).cell? ⟨w.heap.size, 6, none⟩ = some (.int .i64 lock) := (HM.blk 0 rfl).cell 6
        have mtf6 : (wa).frozen? ⟨w.heap.size, 6, none⟩ = false := (HM.blk 0 rfl).frozen 6
        have mtlt : w.heap.size < (wa).heap.size := HM.lt 0 rfl
        have tk0 : (wa).cell? ⟨w.heap.size + 1 + 1, 0, none⟩ = some (.int .i64 cls) := (HM.blk 2 rfl).cell 0
        have tkf0 : (wa).frozen? ⟨w.heap.size + 1 + 1, 0, none⟩ = false := (HM.blk 2 rfl).frozen 0
        have tk1 : (wa).cell? ⟨w.heap.size + 1 + 1, 1, none⟩ = some (.int .i64 id) := (HM.blk 2 rfl).cell 1
        have tkf1 : (wa).frozen? ⟨w.heap.size + 1 + 1, 1, none⟩ = false := (HM.blk 2 rfl).frozen 1
        have tk2 : (wa).cell? ⟨w.heap.size + 1 + 1, 2, none⟩ = some (.int .i64 am) := (HM.blk 2 rfl).cell 2
        have tkf2 : (wa).frozen? ⟨w.heap.size + 1 + 1, 2, none⟩ = false := (HM.blk 2 rfl).frozen 2
        have tk3 : (wa).cell? ⟨w.heap.size + 1 + 1, 3, none⟩ = some (.int .i64 tag) := (HM.blk 2 rfl).cell 3
        have tkf3 : (wa).frozen? ⟨w.heap.size + 1 + 1, 3, none⟩ = false := (HM.blk 2 rfl).frozen 3
        have tklt : w.heap.size + 1 + 1 < (wa).heap.size := HM.lt 2 rfl
        have ne_mt_tk : w.heap.size ≠ w.heap.size + 1 + 1 := HM.ne 0 2 rfl rfl (by decide)
        have ne_tk_mt : w.heap.size + 1 + 1 ≠ w.heap.size := HM.ne 2 0 rfl rfl (by decide)
        clear hba hW0 hv0
        go_wp2
        go_ret
        exact ⟨rfl, HM.call (below_a1 _ _) |>.below⟩
    · have hEq := fun W => meter_same 0 0 0 0 0 0 0 W
      have HM := Mem.init w
      obtain ⟨W0, hW0⟩ : ∃ W0, (((w).alloc (.cells #[.int .i64 me, .int .i64 rev, .int .i64 cr, .int .i64 hh, .int .u64 (b : Int), .int .i64 bad, .int .i64 lock] 26)).alloc (.cells #[.slice A l.length c] 29)).alloc (.cells #[.int .i64 cls, .int .i64 id, .int .i64 am, .int .i64 tag] 31) = W0 := ⟨_, rfl⟩
      replace HM : Mem (w) [] _ [.blk (w.heap.size) 26 #[.int .i64 me, .int .i64 rev, .int .i64 cr, .int .i64 hh, .int .u64 (b : Int), .int .i64 bad, .int .i64 lock]] := Mem.alloc HM (w.heap.size) (by first | (simp; done) | (simp; omega)) #[.int .i64 me, .int .i64 rev, .int .i64 cr, .int .i64 hh, .int .u64 (b : Int), .int .i64 bad, .int .i64 lock] 26
      replace HM : Mem (w) [] _ [.blk (w.heap.size) 26 #[.int .i64 me, .int .i64 rev, .int .i64 cr, .int .i64 hh, .int .u64 (b : Int), .int .i64 bad, .int .i64 lock], .blk (w.heap.size + 1) 29 #[.slice A l.length c]] := Mem.alloc HM (w.heap.size + 1) (by first | (simp; done) | (simp; omega)) #[.slice A l.length c] 29
      replace HM : Mem (w) [] _ [.blk (w.heap.size) 26 #[.int .i64 me, .int .i64 rev, .int .i64 cr, .int .i64 hh, .int .u64 (b : Int), .int .i64 bad, .int .i64 lock], .blk (w.heap.size + 1) 29 #[.slice A l.length c], .blk (w.heap.size + 1 + 1) 31 #[.int .i64 cls, .int .i64 id, .int .i64 am, .int .i64 tag]] := Mem.alloc HM (w.heap.size + 1 + 1) (by first | (simp; done) | (simp; omega)) #[.int .i64 cls, .int .i64 id, .int .i64 am, .int .i64 tag] 31
      rw [hW0] at HM
      have mt0 : (W0).cell? ⟨w.heap.size, 0, none⟩ = some (.int .i64 me) := (HM.blk 0 rfl).cell 0
      have mtf0 : (W0).frozen? ⟨w.heap.size, 0, none⟩ = false := (HM.blk 0 rfl).frozen 0
      have mt1 : (W0).cell? ⟨w.heap.size, 1, none⟩ = some (.int .i64 rev) := (HM.blk 0 rfl).cell 1
      have mtf1 : (W0).frozen? ⟨w.heap.size, 1, none⟩ = false := (HM.blk 0 rfl).frozen 1
      have mt2 : (W0).cell? ⟨w.heap.size, 2, none⟩ = some (.int .i64 cr) := (HM.blk 0 rfl).cell 2
      have mtf2 : (W0).frozen? ⟨w.heap.size, 2, none⟩ = false := (HM.blk 0 rfl).frozen 2
      have mt3 : (W0).cell? ⟨w.heap.size, 3, none⟩ = some (.int .i64 hh) := (HM.blk 0 rfl).cell 3
      have mtf3 : (W0).frozen? ⟨w.heap.size, 3, none⟩ = false := (HM.blk 0 rfl).frozen 3
      have mt4 : (W0).cell? ⟨w.heap.size, 4, none⟩ = some (.int .u64 (b : Int)) := (HM.blk 0 rfl).cell 4
      have mtf4 : (W0).frozen? ⟨w.heap.size, 4, none⟩ = false := (HM.blk 0 rfl).frozen 4
      have mt5 : (W0).cell? ⟨w.heap.size, 5, none⟩ = some (.int .i64 bad) := (HM.blk 0 rfl).cell 5
      have mtf5 : (W0).frozen? ⟨w.heap.size, 5, none⟩ = false := (HM.blk 0 rfl).frozen 5
      have mt6 : (W0).cell? ⟨w.heap.size, 6, none⟩ = some (.int .i64 lock) := (HM.blk 0 rfl).cell 6
      have mtf6 : (W0).frozen? ⟨w.heap.size, 6, none⟩ = false := (HM.blk 0 rfl).frozen 6
      have mtlt : w.heap.size < (W0).heap.size := HM.lt 0 rfl
      have oc0 : (W0).cell? ⟨w.heap.size + 1, 0, none⟩ = some (.slice A l.length c) := (HM.blk 1 rfl).cell 0
      have ocf0 : (W0).frozen? ⟨w.heap.size + 1, 0, none⟩ = false := (HM.blk 1 rfl).frozen 0
      have oclt : w.heap.size + 1 < (W0).heap.size := HM.lt 1 rfl
      have tk0 : (W0).cell? ⟨w.heap.size + 1 + 1, 0, none⟩ = some (.int .i64 cls) := (HM.blk 2 rfl).cell 0
      have tkf0 : (W0).frozen? ⟨w.heap.size + 1 + 1, 0, none⟩ = false := (HM.blk 2 rfl).frozen 0
      have tk1 : (W0).cell? ⟨w.heap.size + 1 + 1, 1, none⟩ = some (.int .i64 id) := (HM.blk 2 rfl).cell 1
      have tkf1 : (W0).frozen? ⟨w.heap.size + 1 + 1, 1, none⟩ = false := (HM.blk 2 rfl).frozen 1
      have tk2 : (W0).cell? ⟨w.heap.size + 1 + 1, 2, none⟩ = some (.int .i64 am) := (HM.blk 2 rfl).cell 2
      have tkf2 : (W0).frozen? ⟨w.heap.size + 1 + 1, 2, none⟩ = false := (HM.blk 2 rfl).frozen 2
      have tk3 : (W0).cell? ⟨w.heap.size + 1 + 1, 3, none⟩ = some (.int .i64 tag) := (HM.blk 2 rfl).cell 3
      have tkf3 : (W0).frozen? ⟨w.heap.size + 1 + 1, 3, none⟩ = false := (HM.blk 2 rfl).frozen 3
      have tklt : w.heap.size + 1 + 1 < (W0).heap.size := HM.lt 2 rfl
      have ne_mt_oc : w.heap.size ≠ w.heap.size + 1 := HM.ne 0 1 rfl rfl (by decide)
      have ne_mt_tk : w.heap.size ≠ w.heap.size + 1 + 1 := HM.ne 0 2 rfl rfl (by decide)
      have ne_oc_mt : w.heap.size + 1 ≠ w.heap.size := HM.ne 1 0 rfl rfl (by decide)
      have ne_oc_tk : w.heap.size + 1 ≠ w.heap.size + 1 + 1 := HM.ne 1 2 rfl rfl (by decide)
      have ne_tk_mt : w.heap.size + 1 + 1 ≠ w.heap.size := HM.ne 2 0 rfl rfl (by decide)
      have ne_tk_oc : w.heap.size + 1 + 1 ≠ w.heap.size + 1 := HM.ne 2 1 rfl rfl (by decide)
      have hv0 := hv.below HM.below
      go_enter Try.func3, Try.ntmps3
      go_wp2_with fail
      refine (key_state2 (.slice A l.length c) l me rev cr hh b bad lock cls id am tag _ hv0 w4 hb w5 w6 hm ho).mono ?_
      rintro e1 wa ⟨rfl, hba⟩
      replace HM : Mem (w) [] (wa) [.blk (w.heap.size) 26 #[.int .i64 me, .int .i64 rev, .int .i64 cr, .int .i64 hh, .int .u64 (b : Int), .int .i64 bad, .int .i64 lock], .blk (w.heap.size + 1) 29 #[.slice A l.length c], .blk (w.heap.size + 1 + 1) 31 #[.int .i64 cls, .int .i64 id, .int .i64 am, .int .i64 tag]] := Mem.call HM hba
      clear mt0 mtf0 mt1 mtf1 mt2 mtf2 mt3 mtf3 mt4 mtf4 mt5 mtf5 mt6 mtf6 mtlt oc0 ocf0 oclt tk0 tkf0 tk1 tkf1 tk2 tkf2 tk3 tkf3 tklt ne_mt_oc ne_mt_tk ne_oc_mt ne_oc_tk ne_tk_mt ne_tk_oc
      have mt0 : (wa).cell? ⟨w.heap.size, 0, none⟩ = some (.int .i64 me) := (HM.blk 0 rfl).cell 0
      have mtf0 : (wa).frozen? ⟨w.heap.size, 0, none⟩ = false := (HM.blk 0 rfl).frozen 0
      have mt1 : (wa).cell? ⟨w.heap.size, 1, none⟩ = some (.int .i64 rev) := (HM.blk 0 rfl).cell 1
      have mtf1 : (wa).frozen? ⟨w.heap.size, 1, none⟩ = false := (HM.blk 0 rfl).frozen 1
      have mt2 : (wa).cell? ⟨w.heap.size, 2, none⟩ = some (.int .i64 cr) := (HM.blk 0 rfl).cell 2
      have mtf2 : (wa).frozen? ⟨w.heap.size, 2, none⟩ = false := (HM.blk 0 rfl).frozen 2
      have mt3 : (wa).cell? ⟨w.heap.size, 3, none⟩ = some (.int .i64 hh) := (HM.blk 0 rfl).cell 3
      have mtf3 : (wa).frozen? ⟨w.heap.size, 3, none⟩ = false := (HM.blk 0 rfl).frozen 3
      have mt4 : (wa).cell? ⟨w.heap.size, 4, none⟩ = some (.int .u64 (b : Int)) := (HM.blk 0 rfl).cell 4
      have mtf4 : (wa).frozen? ⟨w.heap.size, 4, none⟩ = false := (HM.blk 0 rfl).frozen 4
      have mt5 : (wa).cell? ⟨w.heap.size, 5, none⟩ = some (.int .i64 bad) := (HM.blk 0 rfl).cell 5
      have mtf5 : (wa).frozen? ⟨w.heap.size, 5, none⟩ = false := (HM.blk 0 rfl).frozen 5
      have mt6 : (wa).cell? ⟨w.heap.size, 6, none⟩ = some (.int .i64 lock) := (HM.blk 0 rfl).cell 6
      have mtf6 : (wa).frozen? ⟨w.heap.size, 6, none⟩ = false := (HM.blk 0 rfl).frozen 6
      have mtlt : w.heap.size < (wa).heap.size := HM.lt 0 rfl
      have tk0 : (wa).cell? ⟨w.heap.size + 1 + 1, 0, none⟩ = some (.int .i64 cls) := (HM.blk 2 rfl).cell 0
      have tkf0 : (wa).frozen? ⟨w.heap.size + 1 + 1, 0, none⟩ = false := (HM.blk 2 rfl).frozen 0
      have tk1 : (wa).cell? ⟨w.heap.size + 1 + 1, 1, none⟩ = some (.int .i64 id) := (HM.blk 2 rfl).cell 1
      have tkf1 : (wa).frozen? ⟨w.heap.size + 1 + 1, 1, none⟩ = false := (HM.blk 2 rfl).frozen 1
      have tk2 : (wa).cell? ⟨w.heap.size + 1 + 1, 2, none⟩ = some (.int .i64 am) := (HM.blk 2 rfl).cell 2
      have tkf2 : (wa).frozen? ⟨w.heap.size + 1 + 1, 2, none⟩ = false := (HM.blk 2 rfl).frozen 2
      have tk3 : (wa).cell? ⟨w.heap.size + 1 + 1, 3, none⟩ = some (.int .i64 tag) := (HM.blk 2 rfl).cell 3
      have tkf3 : (wa).frozen? ⟨w.heap.size + 1 + 1, 3, none⟩ = false := (HM.blk 2 rfl).frozen 3
      have tklt : w.heap.size + 1 + 1 < (wa).heap.size := HM.lt 2 rfl
      have ne_mt_tk : w.heap.size ≠ w.heap.size + 1 + 1 := HM.ne 0 2 rfl rfl (by decide)
      have ne_tk_mt : w.heap.size + 1 + 1 ≠ w.heap.size := HM.ne 2 0 rfl rfl (by decide)
      clear hba hW0 hv0
      go_wp2
      go_ret
      exact ⟨rfl, HM.call (below_a1 _ _) |>.below⟩
end Go.Proofs.Ytjdbgpkadfnfiaa
