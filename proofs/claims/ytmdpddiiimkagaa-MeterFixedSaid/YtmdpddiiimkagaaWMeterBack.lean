/- The walk of the law MeterBack. -/
import Derived.Test.YtmdpddiiimkagaaMeterW
namespace Go.Proofs.Ytmdpddiiimkagaa
open Go.RowKit
theorem meter_eql (a b c d e f g a' b' c' d' e' f' g' : Int) (W : World) :
    (Op.equalIn 10000 67 (.agg #[.int .i64 a, .int .i64 b, .int .i64 c, .int .i64 d, .int .u64 e, .int .i64 f, .int .i64 g]) (.agg #[.int .i64 a', .int .i64 b', .int .i64 c', .int .i64 d', .int .u64 e', .int .i64 f', .int .i64 g'])).run Try.prog W = .ok (a == a' && (b == b' && (c == c' && (d == d' && (e == e' && (f == f' && g == g')))))) W := by
  have h := eq_is (P := Try.prog) (t := 67) [.int .i64 a, .int .i64 b, .int .i64 c, .int .i64 d, .int .u64 e, .int .i64 f, .int .i64 g] [.int .i64 a', .int .i64 b', .int .i64 c', .int .i64 d', .int .u64 e', .int .i64 f', .int .i64 g'] W (by kernel_rfl) (mkv_struct Try.underlying67)
  simpa [cellsEq, leafEq] using h
set_option maxRecDepth 100000 in
/-- A meter that came in. -/
theorem meter_fit {v : Value} {w : World} (h : Fit Try.prog w 67 v) : ∃ (me rev cr h' : Int) (b : Nat) (bad lock : Int), v = .agg #[.int .i64 me, .int .i64 rev, .int .i64 cr, .int .i64 h', .int .u64 b, .int .i64 bad, .int .i64 lock] ∧
    (Lit.int .i64 me).wf = true ∧ (Lit.int .i64 rev).wf = true ∧ (Lit.int .i64 cr).wf = true ∧ (Lit.int .i64 h').wf = true ∧ b < 2 ^ 64 ∧ (Lit.int .i64 bad).wf = true ∧ (Lit.int .i64 lock).wf = true := by
  obtain ⟨cs, rfl, hcf⟩ := h.struct Try.underlying67
  obtain ⟨ns, hl, rfl, hw⟩ := hcf.ints (ks := [.i64, .i64, .i64, .i64, .u64, .i64, .i64]) (by kernel_rfl)
  match ns, hl with
  | [a, b, c, d, e, f, g], _ =>
    have hb := bounds_u64 (hw 4 _ _ rfl rfl)
    obtain ⟨n, rfl⟩ : ∃ n : Nat, e = n := ⟨e.toNat, by omega⟩
    exact ⟨a, b, c, d, n, f, g, rfl, hw 0 _ _ rfl rfl, hw 1 _ _ rfl rfl, hw 2 _ _ rfl rfl, hw 3 _ _ rfl rfl, by omega, hw 5 _ _ rfl rfl, hw 6 _ _ rfl rfl⟩
set_option maxRecDepth 100000 in
set_option maxHeartbeats 2000000 in
theorem walk_meterBack (w : World) (a0 : Value) (w0 : Fit Try.prog w 67 a0) :
    Calls Try.prog 10 #[a0] w fun e w' => e = .returned (.bool true) ∧ Below w.heap.size w w' := by
  obtain ⟨me, rev, cr, h, b, bad, lock, rfl, w1, w2, w3, w4, hb, w5, w6⟩ := meter_fit w0
  clear w0
  cases hm : mmay me rev cr h b bad lock
  · have hW := fun W => mwords_bad me rev cr h b bad lock W w4 hb w5 w6 hm
    clear hm
    go_enter Try.func10, Try.ntmps10
    go_wp2_with fail
    refine (hW _).mono ?_
    rintro e wa ⟨rfl, hba⟩
    go_wp2
    go_ret
    exact ⟨rfl, (below_a1 _ _).step hba⟩
  · obtain ⟨⟨a1, a2, a3, a4, a5, a6⟩, ⟨b1, b2, b3, b4, b5⟩, H, rfl, hWm⟩ := mmay_bd hb hm
    have hH := hWm.le
    obtain ⟨me, rfl⟩ : ∃ n : Nat, me = n := ⟨me.toNat, by omega⟩
    obtain ⟨rev, rfl⟩ : ∃ n : Nat, rev = n := ⟨rev.toNat, by omega⟩
    obtain ⟨cr, rfl⟩ : ∃ n : Nat, cr = n := ⟨cr.toNat, by omega⟩
    obtain ⟨bad, rfl⟩ : ∃ n : Nat, bad = n := ⟨bad.toNat, by omega⟩
    obtain ⟨lock, rfl⟩ : ∃ n : Nat, lock = n := ⟨lock.toNat, by omega⟩
    have hW := fun W => mwords_ok me rev cr H b bad lock W hb hm
    have hR := fun v W hv => mread_ok v cr (lock * 16777216 + bad * 65536 + rev * 256 + me) H (b % 4294967296) (b / 4294967296) me rev b bad lock true W hv (by omega) (by omega) (by omega) (by omega) (by omega) (Lib.hid hm)
    have hE := fun W => meter_eql me rev cr H b bad lock me rev cr H b bad lock W
    simp only [beq_self_eq_true, Bool.and_self] at hE
    clear hm b5
    go_enter Try.func10, Try.ntmps10
    go_wp2_with fail
    refine (hW _).mono ?_
    rintro e wa ⟨v, rfl, hv, hba⟩
    have hsa := hba.size
    simp at hsa
    have hA := (Blk.new w 67 #[.int .i64 me, .int .i64 rev, .int .i64 cr, .int .i64 H, .int .u64 b, .int .i64 bad, .int .i64 lock]).below hba (by simp)
    go_wp2_with fail
    refine (hR v _ hv).mono ?_
    rintro e wb ⟨rfl, hbb⟩
    have hB := hA.below hbb hA.lt
    have bB := ((below_a1 w _).step hba).step hbb
    have nB := hB.lt
    clear hW hR hba hbb
    have r0 : wb.cell? ⟨w.heap.size, 0, none⟩ = some (.int .i64 me) := hB.cell 0
    have rf0 : wb.frozen? ⟨w.heap.size, 0, none⟩ = false := hB.frozen 0
    have r1 : wb.cell? ⟨w.heap.size, 1, none⟩ = some (.int .i64 rev) := hB.cell 1
    have rf1 : wb.frozen? ⟨w.heap.size, 1, none⟩ = false := hB.frozen 1
    have r2 : wb.cell? ⟨w.heap.size, 2, none⟩ = some (.int .i64 cr) := hB.cell 2
    have rf2 : wb.frozen? ⟨w.heap.size, 2, none⟩ = false := hB.frozen 2
    have r3 : wb.cell? ⟨w.heap.size, 3, none⟩ = some (.int .i64 H) := hB.cell 3
    have rf3 : wb.frozen? ⟨w.heap.size, 3, none⟩ = false := hB.frozen 3
    have r4 : wb.cell? ⟨w.heap.size, 4, none⟩ = some (.int .u64 b) := hB.cell 4
    have rf4 : wb.frozen? ⟨w.heap.size, 4, none⟩ = false := hB.frozen 4
    have r5 : wb.cell? ⟨w.heap.size, 5, none⟩ = some (.int .i64 bad) := hB.cell 5
    have rf5 : wb.frozen? ⟨w.heap.size, 5, none⟩ = false := hB.frozen 5
    have r6 : wb.cell? ⟨w.heap.size, 6, none⟩ = some (.int .i64 lock) := hB.cell 6
    have rf6 : wb.frozen? ⟨w.heap.size, 6, none⟩ = false := hB.frozen 6
    clear hA hB
    go_wp2
    go_ret
    exact ⟨rfl, bB.alloc (by omega) _⟩
end Go.Proofs.Ytmdpddiiimkagaa
