/- The walk of the law PutBits. -/
import Derived.Test.YtmdpddiiimkagaaBits
namespace Go.Proofs.Ytmdpddiiimkagaa
open Go.RowKit
theorem shl_one64 {t : Nat} (ht : t < 64) : IntKind.u64.wrap (2 ^ t) = ((2 ^ t : Nat) : Int) := by
  have h64 : (2 : Nat) ^ t < 2 ^ 64 := Nat.pow_lt_pow_right (by omega) ht
  rw [IntKind.wrap_u64, Int.natCast_pow]
  have : ((2 : Nat) ^ t : Int) < 18446744073709551616 := by
    have : (((2 : Nat) ^ t : Nat) : Int) < 18446744073709551616 := by omega
    rwa [Int.natCast_pow] at this
  exact Int.emod_eq_of_lt (by exact Int.le_of_lt (Int.pow_pos (by omega))) this
theorem bits_is {x0 x1 x2 lo m r : Nat} {k : Int} (w : World) (a0 : x0 < 4294967296) (a1 : x1 < 4294967296) (a2 : x2 < 4294967296) (h1 : 1 ≤ m) (h2 : m ≤ 64) (h3 : lo + m ≤ 96) (hk : Hid (k = (m : Int))) (hr : Hid (bitsN (val3 x0 x1 x2) lo m = r)) :
    Calls Try.prog 19 #[.agg #[.int .u32 x0, .int .u32 x1, .int .u32 x2], .int .i64 lo, .int .i64 k] w fun e w' => e = .returned (.tuple #[.int .u64 r, .int .i64 0]) ∧ Below w.heap.size w w' := by
  rw [hk.out, ← hr.out]; exact bits_ok x0 x1 x2 lo m w a0 a1 a2 h1 h2 h3
theorem put_is {x0 x1 x2 lo m v r : Nat} {k : Int} (w : World) (a0 : x0 < 4294967296) (a1 : x1 < 4294967296) (a2 : x2 < 4294967296) (h1 : 1 ≤ m) (h2 : m ≤ 64) (h3 : lo + m ≤ 96) (hv : v < 2 ^ m) (hk : Hid (k = (m : Int))) (hr : Hid (putN (val3 x0 x1 x2) lo m v = r)) :
    Calls Try.prog 20 #[.agg #[.int .u32 x0, .int .u32 x1, .int .u32 x2], .int .i64 lo, .int .i64 k, .int .u64 v] w (IsWide2 r w) := by
  rw [hk.out, ← hr.out]; exact put_ok x0 x1 x2 lo m v w a0 a1 a2 h1 h2 h3 hv
set_option maxRecDepth 100000 in
set_option maxHeartbeats 2000000 in
theorem walk_putBits (w : World) (a0 : Value) (w0 : Fit Try.prog w 35 a0) (a1 : Int) (w1 : (Lit.int .i64 a1).wf = true) (a2 : Int) (w2 : (Lit.int .i64 a2).wf = true) (a3 : Int) (w3 : (Lit.int .u64 a3).wf = true) :
    Calls Try.prog 4 #[a0, .int .i64 a1, .int .i64 a2, .int .u64 a3] w fun e w' => e = .returned (.bool true) ∧ Below w.heap.size w w' := by
  obtain ⟨x0, x1, x2, rfl, h0, h1, h2⟩ := wide_fit w0
  have hb3 := bounds_u64 w3
  obtain ⟨v, rfl⟩ : ∃ v : Nat, a3 = v := ⟨a3.toNat, by omega⟩
  have hv64 : v < 18446744073709551616 := by omega
  clear w0 w3 hb3
  obtain ⟨l, hl, hll⟩ := pk_nat a1 96 (by omega)
  obtain ⟨M, hM⟩ : ∃ M : Nat, min (64 : Int) (96 - (l : Int)) = (M : Int) := ⟨min 64 (96 - l), by omega⟩
  have hM1 : 1 ≤ M := by omega
  have hM2 : M ≤ 64 ∧ l + M ≤ 96 := by omega
  obtain ⟨q, hq, hql⟩ := pk_nat a2 M hM1
  obtain ⟨m, hm⟩ : ∃ m : Nat, 1 + (q : Int) = (m : Int) := ⟨1 + q, by omega⟩
  have hm1 : 1 ≤ m := by omega
  have hm2 : m ≤ 64 := by omega
  have hm3 : l + m ≤ 96 := by omega
  obtain ⟨u, hu⟩ : ∃ u : Nat, v % 2 ^ m = u := ⟨_, rfl⟩
  have hum : u < 2 ^ m := by rw [← hu]; exact Nat.mod_lt _ (Nat.two_pow_pos m)
  obtain ⟨N, hN⟩ : ∃ N, Hid (val3 x0 x1 x2 = N) := ⟨_, rfl⟩
  obtain ⟨o, ho⟩ : ∃ o, Hid (bitsN N l m = o) := ⟨_, rfl⟩
  have ho2 : Hid (bitsN (val3 x0 x1 x2) l m = o) := by rw [hN.out]; exact ho
  have hom : o < 2 ^ m := by rw [← ho.out]; exact bitsN_lt _ _ _
  obtain ⟨R, hR⟩ : ∃ R, Hid (putN N l m u = R) := ⟨_, rfl⟩
  have hR2 : Hid (putN (val3 x0 x1 x2) l m u = R) := by rw [hN.out]; exact hR
  have hE := fun W => wide_eql x0 x1 x2 x0 x1 x2 W
  simp only [beq_self_eq_true, Bool.and_self] at hE
  rcases (show m < 64 ∨ m = 64 by omega) with hm64 | hm64
  · obtain ⟨P, hP⟩ : ∃ P : Nat, 2 ^ m = P := ⟨_, rfl⟩
    have hPw := shl_one64 hm64
    rw [hP] at hPw hu
    have hP1 : 1 ≤ P := by rw [← hP]; exact Nat.two_pow_pos m
    have hPI : (v : Int) % (P : Int) = (u : Int) := by rw [← Int.natCast_emod, hu]
    have hP64 : P < 18446744073709551616 := by rw [← hP]; exact (show 2 ^ m < 2 ^ 64 from Nat.pow_lt_pow_right (by omega) hm64)
    have hP0 : ((P : Int) == 0) = false := by simp; omega
    clear hu hP
    go_enter Try.func4, Try.ntmps4
    go_wp2_with fail
    refine (picked_is _ hl w1 (by omega) (by omega)).mono ?_
    rintro e w' ⟨rfl, rfl⟩
    go_wp2_with fail
    refine (picked_is _ hq w2 (by omega) (by omega)).mono ?_
    rintro e w' ⟨rfl, rfl⟩
    go_wp2_with fail
    refine (bits_is _ h0 h1 h2 hm1 hm2 hm3 rfl ho2).mono ?_
    rintro e wa ⟨rfl, hba⟩
    have hA := (Blk.new w 35 #[.int .u32 x0, .int .u32 x1, .int .u32 x2]).below hba (by simp)
    have bA := (below_a1 _ _).step hba
    have nA := hA.lt
    clear hba
    have r0 : wa.cell? ⟨w.heap.size, 0, none⟩ = some (.int .u32 x0) := hA.cell 0
    have rf0 : wa.frozen? ⟨w.heap.size, 0, none⟩ = false := hA.frozen 0
    have r1 : wa.cell? ⟨w.heap.size, 1, none⟩ = some (.int .u32 x1) := hA.cell 1
    have rf1 : wa.frozen? ⟨w.heap.size, 1, none⟩ = false := hA.frozen 1
    have r2 : wa.cell? ⟨w.heap.size, 2, none⟩ = some (.int .u32 x2) := hA.cell 2
    have rf2 : wa.frozen? ⟨w.heap.size, 2, none⟩ = false := hA.frozen 2
    go_wp2_with fail
    refine (put_is _ h0 h1 h2 hm1 hm2 hm3 hum rfl hR2).mono ?_
    rintro e wb ⟨y0, y1, y2, rfl, k0, k1, k2, hRv, hbb⟩
    have hRo : Hid (bitsN (val3 y0 y1 y2) l m = u) := by show _ = _; rw [hRv, ← hR.out]; exact bits_put hum
    have hRb : Hid (putN (val3 y0 y1 y2) l m o = N) := by show _ = _; rw [hRv, ← hR.out, ← ho.out]; exact put_back hum
    have hB := hA.below hbb hA.lt
    have bB := bA.step hbb
    have nB := hB.lt
    clear r0 rf0 r1 rf1 r2 rf2 hRv
    have r0 : wb.cell? ⟨w.heap.size, 0, none⟩ = some (.int .u32 x0) := hB.cell 0
    have rf0 : wb.frozen? ⟨w.heap.size, 0, none⟩ = false := hB.frozen 0
    have r1 : wb.cell? ⟨w.heap.size, 1, none⟩ = some (.int .u32 x1) := hB.cell 1
    have rf1 : wb.frozen? ⟨w.heap.size, 1, none⟩ = false := hB.frozen 1
    have r2 : wb.cell? ⟨w.heap.size, 2, none⟩ = some (.int .u32 x2) := hB.cell 2
    have rf2 : wb.frozen? ⟨w.heap.size, 2, none⟩ = false := hB.frozen 2
    go_wp2_with fail
    refine (bits_is _ k0 k1 k2 hm1 hm2 hm3 rfl hRo).mono ?_
    rintro e wc ⟨rfl, hbc⟩
    have hsc := hbc.size
    simp at hsc
    have hC := (hB.alloc (.cells #[.int .u32 y0, .int .u32 y1, .int .u32 y2] 35)).below hbc (by simp; omega)
    have hC2 := (Blk.new wb 35 #[.int .u32 y0, .int .u32 y1, .int .u32 y2]).below hbc (by simp)
    have bC := (bB.alloc (by omega) (.cells #[.int .u32 y0, .int .u32 y1, .int .u32 y2] 35)).step hbc
    have nC := hC2.lt
    clear r0 rf0 r1 rf1 r2 rf2
    have r0 : wc.cell? ⟨w.heap.size, 0, none⟩ = some (.int .u32 x0) := hC.cell 0
    have rf0 : wc.frozen? ⟨w.heap.size, 0, none⟩ = false := hC.frozen 0
    have r1 : wc.cell? ⟨w.heap.size, 1, none⟩ = some (.int .u32 x1) := hC.cell 1
    have rf1 : wc.frozen? ⟨w.heap.size, 1, none⟩ = false := hC.frozen 1
    have r2 : wc.cell? ⟨w.heap.size, 2, none⟩ = some (.int .u32 x2) := hC.cell 2
    have rf2 : wc.frozen? ⟨w.heap.size, 2, none⟩ = false := hC.frozen 2
    have s0 : wc.cell? ⟨wb.heap.size, 0, none⟩ = some (.int .u32 y0) := hC2.cell 0
    have sf0 : wc.frozen? ⟨wb.heap.size, 0, none⟩ = false := hC2.frozen 0
    have s1 : wc.cell? ⟨wb.heap.size, 1, none⟩ = some (.int .u32 y1) := hC2.cell 1
    have sf1 : wc.frozen? ⟨wb.heap.size, 1, none⟩ = false := hC2.frozen 1
    have s2 : wc.cell? ⟨wb.heap.size, 2, none⟩ = some (.int .u32 y2) := hC2.cell 2
    have sf2 : wc.frozen? ⟨wb.heap.size, 2, none⟩ = false := hC2.frozen 2
    go_wp2_with fail
    refine (put_is _ k0 k1 k2 hm1 hm2 hm3 hom rfl hRb).mono ?_
    rintro e wd ⟨z0, z1, z2, rfl, j0, j1, j2, hz, hbd⟩
    have hzx := val3_inj j0 j1 j2 h0 h1 h2 (hz.trans hN.out.symm)
    obtain ⟨rfl, rfl, rfl⟩ := hzx
    have hD := hC.below hbd hC.lt
    have bD := bC.step hbd
    have nD := hD.lt
    clear r0 rf0 r1 rf1 r2 rf2 s0 sf0 s1 sf1 s2 sf2 hz hRo hRb
    have r0 : wd.cell? ⟨w.heap.size, 0, none⟩ = some (.int .u32 z0) := hD.cell 0
    have rf0 : wd.frozen? ⟨w.heap.size, 0, none⟩ = false := hD.frozen 0
    have r1 : wd.cell? ⟨w.heap.size, 1, none⟩ = some (.int .u32 z1) := hD.cell 1
    have rf1 : wd.frozen? ⟨w.heap.size, 1, none⟩ = false := hD.frozen 1
    have r2 : wd.cell? ⟨w.heap.size, 2, none⟩ = some (.int .u32 z2) := hD.cell 2
    have rf2 : wd.frozen? ⟨w.heap.size, 2, none⟩ = false := hD.frozen 2
    go_wp2
    go_ret
    exact ⟨rfl, bD.alloc (by omega) _⟩
  · obtain rfl : u = v := by rw [← hu, hm64]; exact Nat.mod_eq_of_lt (show v < 2 ^ 64 by omega)
    have hm65 : ¬ (m : Int) < 64 := by omega
    clear hu hm64
    go_enter Try.func4, Try.ntmps4
    go_wp2_with fail
    refine (picked_is _ hl w1 (by omega) (by omega)).mono ?_
    rintro e w' ⟨rfl, rfl⟩
    go_wp2_with fail
    refine (picked_is _ hq w2 (by omega) (by omega)).mono ?_
    rintro e w' ⟨rfl, rfl⟩
    go_wp2_with fail
    refine (bits_is _ h0 h1 h2 hm1 hm2 hm3 rfl ho2).mono ?_
    rintro e wa ⟨rfl, hba⟩
    have hA := (Blk.new w 35 #[.int .u32 x0, .int .u32 x1, .int .u32 x2]).below hba (by simp)
    have bA := (below_a1 _ _).step hba
    have nA := hA.lt
    clear hba
    have r0 : wa.cell? ⟨w.heap.size, 0, none⟩ = some (.int .u32 x0) := hA.cell 0
    have rf0 : wa.frozen? ⟨w.heap.size, 0, none⟩ = false := hA.frozen 0
    have r1 : wa.cell? ⟨w.heap.size, 1, none⟩ = some (.int .u32 x1) := hA.cell 1
    have rf1 : wa.frozen? ⟨w.heap.size, 1, none⟩ = false := hA.frozen 1
    have r2 : wa.cell? ⟨w.heap.size, 2, none⟩ = some (.int .u32 x2) := hA.cell 2
    have rf2 : wa.frozen? ⟨w.heap.size, 2, none⟩ = false := hA.frozen 2
    go_wp2_with fail
    refine (put_is _ h0 h1 h2 hm1 hm2 hm3 hum rfl hR2).mono ?_
    rintro e wb ⟨y0, y1, y2, rfl, k0, k1, k2, hRv, hbb⟩
    have hRo : Hid (bitsN (val3 y0 y1 y2) l m = u) := by show _ = _; rw [hRv, ← hR.out]; exact bits_put hum
    have hRb : Hid (putN (val3 y0 y1 y2) l m o = N) := by show _ = _; rw [hRv, ← hR.out, ← ho.out]; exact put_back hum
    have hB := hA.below hbb hA.lt
    have bB := bA.step hbb
    have nB := hB.lt
    clear r0 rf0 r1 rf1 r2 rf2 hRv
    have r0 : wb.cell? ⟨w.heap.size, 0, none⟩ = some (.int .u32 x0) := hB.cell 0
    have rf0 : wb.frozen? ⟨w.heap.size, 0, none⟩ = false := hB.frozen 0
    have r1 : wb.cell? ⟨w.heap.size, 1, none⟩ = some (.int .u32 x1) := hB.cell 1
    have rf1 : wb.frozen? ⟨w.heap.size, 1, none⟩ = false := hB.frozen 1
    have r2 : wb.cell? ⟨w.heap.size, 2, none⟩ = some (.int .u32 x2) := hB.cell 2
    have rf2 : wb.frozen? ⟨w.heap.size, 2, none⟩ = false := hB.frozen 2
    go_wp2_with fail
    refine (bits_is _ k0 k1 k2 hm1 hm2 hm3 rfl hRo).mono ?_
    rintro e wc ⟨rfl, hbc⟩
    have hsc := hbc.size
    simp at hsc
    have hC := (hB.alloc (.cells #[.int .u32 y0, .int .u32 y1, .int .u32 y2] 35)).below hbc (by simp; omega)
    have hC2 := (Blk.new wb 35 #[.int .u32 y0, .int .u32 y1, .int .u32 y2]).below hbc (by simp)
    have bC := (bB.alloc (by omega) (.cells #[.int .u32 y0, .int .u32 y1, .int .u32 y2] 35)).step hbc
    have nC := hC2.lt
    clear r0 rf0 r1 rf1 r2 rf2
    have r0 : wc.cell? ⟨w.heap.size, 0, none⟩ = some (.int .u32 x0) := hC.cell 0
    have rf0 : wc.frozen? ⟨w.heap.size, 0, none⟩ = false := hC.frozen 0
    have r1 : wc.cell? ⟨w.heap.size, 1, none⟩ = some (.int .u32 x1) := hC.cell 1
    have rf1 : wc.frozen? ⟨w.heap.size, 1, none⟩ = false := hC.frozen 1
    have r2 : wc.cell? ⟨w.heap.size, 2, none⟩ = some (.int .u32 x2) := hC.cell 2
    have rf2 : wc.frozen? ⟨w.heap.size, 2, none⟩ = false := hC.frozen 2
    have s0 : wc.cell? ⟨wb.heap.size, 0, none⟩ = some (.int .u32 y0) := hC2.cell 0
    have sf0 : wc.frozen? ⟨wb.heap.size, 0, none⟩ = false := hC2.frozen 0
    have s1 : wc.cell? ⟨wb.heap.size, 1, none⟩ = some (.int .u32 y1) := hC2.cell 1
    have sf1 : wc.frozen? ⟨wb.heap.size, 1, none⟩ = false := hC2.frozen 1
    have s2 : wc.cell? ⟨wb.heap.size, 2, none⟩ = some (.int .u32 y2) := hC2.cell 2
    have sf2 : wc.frozen? ⟨wb.heap.size, 2, none⟩ = false := hC2.frozen 2
    go_wp2_with fail
    refine (put_is _ k0 k1 k2 hm1 hm2 hm3 hom rfl hRb).mono ?_
    rintro e wd ⟨z0, z1, z2, rfl, j0, j1, j2, hz, hbd⟩
    have hzx := val3_inj j0 j1 j2 h0 h1 h2 (hz.trans hN.out.symm)
    obtain ⟨rfl, rfl, rfl⟩ := hzx
    have hD := hC.below hbd hC.lt
    have bD := bC.step hbd
    have nD := hD.lt
    clear r0 rf0 r1 rf1 r2 rf2 s0 sf0 s1 sf1 s2 sf2 hz hRo hRb
    have r0 : wd.cell? ⟨w.heap.size, 0, none⟩ = some (.int .u32 z0) := hD.cell 0
    have rf0 : wd.frozen? ⟨w.heap.size, 0, none⟩ = false := hD.frozen 0
    have r1 : wd.cell? ⟨w.heap.size, 1, none⟩ = some (.int .u32 z1) := hD.cell 1
    have rf1 : wd.frozen? ⟨w.heap.size, 1, none⟩ = false := hD.frozen 1
    have r2 : wd.cell? ⟨w.heap.size, 2, none⟩ = some (.int .u32 z2) := hD.cell 2
    have rf2 : wd.frozen? ⟨w.heap.size, 2, none⟩ = false := hD.frozen 2
    go_wp2
    go_ret
    exact ⟨rfl, bD.alloc (by omega) _⟩
end Go.Proofs.Ytmdpddiiimkagaa
