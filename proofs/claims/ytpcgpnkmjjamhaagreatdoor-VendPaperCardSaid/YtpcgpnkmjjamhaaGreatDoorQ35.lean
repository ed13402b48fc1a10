/- token: Words: a token's wide number. -/
import Derived.Test.YtpcgpnkmjjamhaaGreatDoorQ33
import Derived.Test.YtpcgpnkmjjamhaaGreatDoorQ34
import Derived.Test.YtpcgpnkmjjamhaaGreatDoorQ30
namespace Go.Proofs.YtpcgpnkmjjamhaaGreatDoor
open Go.RowKit
set_option linter.unusedVariables false
set_option maxRecDepth 100000
def tokN (cls id am tag : Nat) : Nat := tag + am * 65536 + id * 137438953472 + cls * 144115188075855872
theorem tokN_lt {cls id am tag : Nat} (h : TkOk cls id am tag) : tokN cls id am tag < 576460752303423488 := by
 have := h.am
 obtain ⟨h1, h2, h3, h4, h5⟩ := h
 unfold tokN; omega
theorem put_top {N lo m v : Nat} (h : N < 2 ^ lo) : putN N lo m v = N + 2 ^ lo * v := by
 unfold putN
 have h2 : N / 2 ^ (lo + m) = 0 := Nat.div_eq_of_lt (Nat.lt_of_lt_of_le h (Nat.pow_le_pow_right (by omega) (by omega)))
 rw [h2, Nat.mod_eq_of_lt h]; simp
theorem tokN_fields {cls id am tag : Nat} (h : TkOk cls id am tag) : bitsN (tokN cls id am tag) 0 16 = tag ∧ bitsN (tokN cls id am tag) 16 21 = am ∧ bitsN (tokN cls id am tag) 37 20 = id ∧ bitsN (tokN cls id am tag) 57 2 = cls ∧ bitsN (tokN cls id am tag) 59 32 = 0 := by
 have h1 := h.am
 obtain ⟨h2, h3, h4, h5, h6⟩ := h
 unfold bitsN tokN
 refine ⟨?_, ?_, ?_, ?_, ?_⟩ <;> omega
theorem tw_c {x c n : Nat} (h : x + c * 79228162514264337593543950336 = n * 97) (hn : n < 576460752303423488) : x = n * 97 := by omega
theorem tw_1 {n tag : Nat} (h : n = putN 0 0 16 tag) : n = tag := by rw [h, put_top (by decide)]; simp
theorem tw_2 {n V tag am : Nat} (h : n = putN V 16 21 am) (hV : V = tag) (ht : tag ≤ 65535) : n = tag + am * 65536 := by
 rw [h, put_top (by omega), hV]; omega
theorem tw_3 {n V tag am id : Nat} (h : n = putN V 37 20 id) (hV : V = tag + am * 65536) (ht : tag ≤ 65535) (ha : am ≤ 2097151) : n = tag + am * 65536 + id * 137438953472 := by
 rw [h, put_top (by omega), hV]; omega
theorem tw_4 {n V tag am id cls : Nat} (h : n = putN V 57 2 cls) (hV : V = tag + am * 65536 + id * 137438953472) (ht : tag ≤ 65535) (ha : am ≤ 2097151) (hi : id ≤ 1048575) : n = tokN cls id am tag := by
 rw [h, put_top (by omega), hV]; unfold tokN; omega
set_option maxHeartbeats 2000000 in
theorem twords_ok (cls id am tag : Nat) (w : World) (hk : TkOk cls id am tag) :
   Calls Tryz.prog 94 #[.agg #[.int .i64 ↑cls, .int .i64 ↑id, .int .i64 ↑am, .int .i64 ↑tag]] w (IsWide2 (tokN cls id am tag * 97) w) := by
 have hF := fun W => fault_is (Lib.hid (tfault_ok hk)) W
 have HT := Lib.hid (tokN_lt hk)
 have ham := hk.am
 obtain ⟨k1, k2, k3, k4, k5⟩ := hk
 have b1 : (cls : Int) ≤ 3 := by omega
 have b2 : (id : Int) ≤ 1048575 := by omega
 have b3 : (am : Int) ≤ 2097151 := by omega
 have b4 : (tag : Int) ≤ 65535 := by omega
 have i0 : ∀ W, (Instr.index 231 (.agg #[.int .i64 16, .int .i64 ↑tag, .int .i64 21, .int .i64 ↑am, .int .i64 20, .int .i64 ↑id, .int .i64 2, .int .i64 ↑cls]) (.int .i64 0)).run Tryz.prog W = .ok (.agg #[.int .i64 16, .int .i64 ↑tag]) W := fun _ => by kernel_rfl
 have i1 : ∀ W, (Instr.index 231 (.agg #[.int .i64 16, .int .i64 ↑tag, .int .i64 21, .int .i64 ↑am, .int .i64 20, .int .i64 ↑id, .int .i64 2, .int .i64 ↑cls]) (.int .i64 1)).run Tryz.prog W = .ok (.agg #[.int .i64 21, .int .i64 ↑am]) W := fun _ => by kernel_rfl
 have i2 : ∀ W, (Instr.index 231 (.agg #[.int .i64 16, .int .i64 ↑tag, .int .i64 21, .int .i64 ↑am, .int .i64 20, .int .i64 ↑id, .int .i64 2, .int .i64 ↑cls]) (.int .i64 2)).run Tryz.prog W = .ok (.agg #[.int .i64 20, .int .i64 ↑id]) W := fun _ => by kernel_rfl
 have i3 : ∀ W, (Instr.index 231 (.agg #[.int .i64 16, .int .i64 ↑tag, .int .i64 21, .int .i64 ↑am, .int .i64 20, .int .i64 ↑id, .int .i64 2, .int .i64 ↑cls]) (.int .i64 3)).run Tryz.prog W = .ok (.agg #[.int .i64 2, .int .i64 ↑cls]) W := fun _ => by kernel_rfl
 have K := Lib.hid (show cls ≤ 3 ∧ id ≤ 1048575 ∧ am ≤ 2097151 ∧ tag ≤ 65535 from ⟨k1, k3, ham, k5⟩)
 clear k1 k2 k3 k4 k5 ham
 have H := Mem.init w
 obtain ⟨W0, hW0⟩ : ∃ W0, ((w).alloc (.cells #[.int .i64 ↑cls, .int .i64 ↑id, .int .i64 ↑am, .int .i64 ↑tag] 54)).alloc (.cells #[.int .u32 0, .int .u32 0, .int .u32 0] 88) = W0 := ⟨_, rfl⟩
 replace H := Mem.alloc H (w.heap.size) (by first | (simp; done) | (simp; omega)) #[.int .i64 ↑cls, .int .i64 ↑id, .int .i64 ↑am, .int .i64 ↑tag] 54
 replace H := Mem.alloc H (w.heap.size + 1) (by first | (simp; done) | (simp; omega)) #[.int .u32 0, .int .u32 0, .int .u32 0] 88
 simp only [List.nil_append, List.cons_append] at H
 rw [hW0] at H
 obtain ⟨tklt, tk0, tkf0, tk1, tkf1, tk2, tkf2, tk3, tkf3⟩ := H.c4 0 rfl
 go_enter Tryz.func94, Tryz.ntmps94
 go_wp2_with fail
 refine (hF _).mono ?_
 rintro e wa ⟨rfl, hba⟩
 replace H := Mem.call H hba
 clear tklt tk0 tkf0 tk1 tkf1 tk2 tkf2 tk3 tkf3
 obtain ⟨tklt, tk0, tkf0, tk1, tkf1, tk2, tkf2, tk3, tkf3⟩ := H.c4 0 rfl
 obtain ⟨rslt, rs0, rsf0, rs1, rsf1, rs2, rsf2⟩ := H.c3 1 rfl
 have ne_tk_rs := H.ne 0 1 rfl rfl (by decide)
 have ne_rs_tk := H.ne 1 0 rfl rfl (by decide)
 clear hba hF hW0
 go_wp2
 obtain ⟨wb, hwb⟩ : ∃ wb, (wa).alloc (.cells #[.int .u32 0, .int .u32 0, .int .u32 0] 88) = wb := ⟨_, rfl⟩
 replace H := Mem.alloc H (wa.heap.size) (by first | (simp; done) | (simp; omega)) #[.int .u32 0, .int .u32 0, .int .u32 0] 88
 simp only [List.cons_append, List.nil_append] at H
 rw [hwb] at H ⊢
 clear hwb
 clear tklt tk0 tkf0 tk1 tkf1 tk2 tkf2 tk3 tkf3 rslt rs0 rsf0 rs1 rsf1 rs2 rsf2 ne_tk_rs ne_rs_tk
 obtain ⟨tklt, tk0, tkf0, tk1, tkf1, tk2, tkf2, tk3, tkf3⟩ := H.c4 0 rfl
 obtain ⟨rslt, rs0, rsf0, rs1, rsf1, rs2, rsf2⟩ := H.c3 1 rfl
 obtain ⟨wdlt, wd0, wdf0, wd1, wdf1, wd2, wdf2⟩ := H.c3 2 rfl
 have ne_tk_rs := H.ne 0 1 rfl rfl (by decide)
 have ne_tk_wd := H.ne 0 2 rfl rfl (by decide)
 have ne_rs_tk := H.ne 1 0 rfl rfl (by decide)
 have ne_rs_wd := H.ne 1 2 rfl rfl (by decide)
 have ne_wd_tk := H.ne 2 0 rfl rfl (by decide)
 have ne_wd_rs := H.ne 2 1 rfl rfl (by decide)
 refine wp_loop_rounds 5 ?_
 rw [rounds_succ]
 have hP := fun W => put_ok 0 0 0 0 16 tag W (by omega) (by omega) (by omega) (by omega) (by omega) (by omega) (by have := K.out; omega)
 go_wp2_with fail
 obtain ⟨wx0, hwx0⟩ : ∃ wx0, (wb).alloc (.cells #[.int .i64 16, .int .i64 ↑tag] 230) = wx0 := ⟨_, rfl⟩
 replace H := Mem.alloc H (wb.heap.size) (by first | (simp; done) | (simp; omega)) #[.int .i64 16, .int .i64 ↑tag] 230
 simp only [List.cons_append, List.nil_append] at H
 rw [hwx0] at H ⊢
 clear hwx0
 refine (hP _).mono ?_
 rintro e wc0 ⟨p00, p01, p02, rfl, l00, l01, l02, hv0, hb⟩
 replace H := Mem.call H hb
 clear tklt tk0 tkf0 tk1 tkf1 tk2 tkf2 tk3 tkf3 rslt rs0 rsf0 rs1 rsf1 rs2 rsf2 wdlt wd0 wdf0 wd1 wdf1 wd2 wdf2 ne_tk_rs ne_tk_wd ne_rs_tk ne_rs_wd ne_wd_tk ne_wd_rs
 obtain ⟨tklt, tk0, tkf0, tk1, tkf1, tk2, tkf2, tk3, tkf3⟩ := H.c4 0 rfl
 obtain ⟨rslt, rs0, rsf0, rs1, rsf1, rs2, rsf2⟩ := H.c3 1 rfl
 obtain ⟨wdlt, wd0, wdf0, wd1, wdf1, wd2, wdf2⟩ := H.c3 2 rfl
 obtain ⟨f0lt, f00, f0f0, f01, f0f1⟩ := H.c2 3 rfl
 have ne_tk_rs := H.ne 0 1 rfl rfl (by decide)
 have ne_tk_wd := H.ne 0 2 rfl rfl (by decide)
 have ne_tk_f0 := H.ne 0 3 rfl rfl (by decide)
 have ne_rs_tk := H.ne 1 0 rfl rfl (by decide)
 have ne_rs_wd := H.ne 1 2 rfl rfl (by decide)
 have ne_rs_f0 := H.ne 1 3 rfl rfl (by decide)
 have ne_wd_tk := H.ne 2 0 rfl rfl (by decide)
 have ne_wd_rs := H.ne 2 1 rfl rfl (by decide)
 have ne_wd_f0 := H.ne 2 3 rfl rfl (by decide)
 have ne_f0_tk := H.ne 3 0 rfl rfl (by decide)
 have ne_f0_rs := H.ne 3 1 rfl rfl (by decide)
 have ne_f0_wd := H.ne 3 2 rfl rfl (by decide)
 have V0 := Lib.hid (tw_1 (hv0.trans (by rfl)))
 clear hb hv0 hP i0
 go_wp2
 obtain ⟨wy0, hwy0⟩ : ∃ wy0, (((wc0).setCell ⟨wa.heap.size, 0, none⟩ (.int .u32 ↑p00)).setCell ⟨wa.heap.size, 1, none⟩ (.int .u32 ↑p01)).setCell ⟨wa.heap.size, 2, none⟩ (.int .u32 ↑p02) = wy0 := ⟨_, rfl⟩
 replace H := Mem.set 2 H rfl (0) (.int .u32 ↑p00)
 replace H := Mem.set 2 H rfl (1) (.int .u32 ↑p01)
 replace H := Mem.set 2 H rfl (2) (.int .u32 ↑p02)
 simp only [List.set_cons_zero, List.set_cons_succ, List.setIfInBounds_toArray] at H
 rw [hwy0] at H ⊢
 clear hwy0
 clear tklt tk0 tkf0 tk1 tkf1 tk2 tkf2 tk3 tkf3 rslt rs0 rsf0 rs1 rsf1 rs2 rsf2 wdlt wd0 wdf0 wd1 wdf1 wd2 wdf2 f0lt f00 f0f0 f01 f0f1 ne_tk_rs ne_tk_wd ne_tk_f0 ne_rs_tk ne_rs_wd ne_rs_f0 ne_wd_tk ne_wd_rs ne_wd_f0 ne_f0_tk ne_f0_rs ne_f0_wd
 obtain ⟨tklt, tk0, tkf0, tk1, tkf1, tk2, tkf2, tk3, tkf3⟩ := H.c4 0 rfl
 obtain ⟨rslt, rs0, rsf0, rs1, rsf1, rs2, rsf2⟩ := H.c3 1 rfl
 obtain ⟨wdlt, wd0, wdf0, wd1, wdf1, wd2, wdf2⟩ := H.c3 2 rfl
 have ne_tk_rs := H.ne 0 1 rfl rfl (by decide)
 have ne_tk_wd := H.ne 0 2 rfl rfl (by decide)
 have ne_rs_tk := H.ne 1 0 rfl rfl (by decide)
 have ne_rs_wd := H.ne 1 2 rfl rfl (by decide)
 have ne_wd_tk := H.ne 2 0 rfl rfl (by decide)
 have ne_wd_rs := H.ne 2 1 rfl rfl (by decide)
 rw [rounds_succ]
 have hP := fun W => put_ok p00 p01 p02 16 21 am W (by omega) (by omega) (by omega) (by omega) (by omega) (by omega) (by have := K.out; omega)
 go_wp2_with fail
 obtain ⟨wx1, hwx1⟩ : ∃ wx1, (wy0).alloc (.cells #[.int .i64 21, .int .i64 ↑am] 230) = wx1 := ⟨_, rfl⟩
 replace H := Mem.alloc H (wy0.heap.size) (by first | (simp; done) | (simp; omega)) #[.int .i64 21, .int .i64 ↑am] 230
 simp only [List.cons_append, List.nil_append] at H
 rw [hwx1] at H ⊢
 clear hwx1
 refine (hP _).mono ?_
 rintro e wc1 ⟨p10, p11, p12, rfl, l10, l11, l12, hv1, hb⟩
 replace H := Mem.call H hb
 clear tklt tk0 tkf0 tk1 tkf1 tk2 tkf2 tk3 tkf3 rslt rs0 rsf0 rs1 rsf1 rs2 rsf2 wdlt wd0 wdf0 wd1 wdf1 wd2 wdf2 ne_tk_rs ne_tk_wd ne_rs_tk ne_rs_wd ne_wd_tk ne_wd_rs
 obtain ⟨tklt, tk0, tkf0, tk1, tkf1, tk2, tkf2, tk3, tkf3⟩ := H.c4 0 rfl
 obtain ⟨rslt, rs0, rsf0, rs1, rsf1, rs2, rsf2⟩ := H.c3 1 rfl
 obtain ⟨wdlt, wd0, wdf0, wd1, wdf1, wd2, wdf2⟩ := H.c3 2 rfl
 obtain ⟨f1lt, f10, f1f0, f11, f1f1⟩ := H.c2 4 rfl
 have ne_tk_rs := H.ne 0 1 rfl rfl (by decide)
 have ne_tk_wd := H.ne 0 2 rfl rfl (by decide)
 have ne_tk_f1 := H.ne 0 4 rfl rfl (by decide)
 have ne_rs_tk := H.ne 1 0 rfl rfl (by decide)
 have ne_rs_wd := H.ne 1 2 rfl rfl (by decide)
 have ne_rs_f1 := H.ne 1 4 rfl rfl (by decide)
 have ne_wd_tk := H.ne 2 0 rfl rfl (by decide)
 have ne_wd_rs := H.ne 2 1 rfl rfl (by decide)
 have ne_wd_f1 := H.ne 2 4 rfl rfl (by decide)
 have ne_f1_tk := H.ne 4 0 rfl rfl (by decide)
 have ne_f1_rs := H.ne 4 1 rfl rfl (by decide)
 have ne_f1_wd := H.ne 4 2 rfl rfl (by decide)
 have V1 := Lib.hid (tw_2 hv1 V0.out K.out.2.2.2)
 clear hb hv1 hP i1
 go_wp2
 obtain ⟨wy1, hwy1⟩ : ∃ wy1, (((wc1).setCell ⟨wa.heap.size, 0, none⟩ (.int .u32 ↑p10)).setCell ⟨wa.heap.size, 1, none⟩ (.int .u32 ↑p11)).setCell ⟨wa.heap.size, 2, none⟩ (.int .u32 ↑p12) = wy1 := ⟨_, rfl⟩
 replace H := Mem.set 2 H rfl (0) (.int .u32 ↑p10)
 replace H := Mem.set 2 H rfl (1) (.int .u32 ↑p11)
 replace H := Mem.set 2 H rfl (2) (.int .u32 ↑p12)
 simp only [List.set_cons_zero, List.set_cons_succ, List.setIfInBounds_toArray] at H
 rw [hwy1] at H ⊢
 clear hwy1
 clear tklt tk0 tkf0 tk1 tkf1 tk2 tkf2 tk3 tkf3 rslt rs0 rsf0 rs1 rsf1 rs2 rsf2 wdlt wd0 wdf0 wd1 wdf1 wd2 wdf2 f1lt f10 f1f0 f11 f1f1 ne_tk_rs ne_tk_wd ne_tk_f1 ne_rs_tk ne_rs_wd ne_rs_f1 ne_wd_tk ne_wd_rs ne_wd_f1 ne_f1_tk ne_f1_rs ne_f1_wd
 obtain ⟨tklt, tk0, tkf0, tk1, tkf1, tk2, tkf2, tk3, tkf3⟩ := H.c4 0 rfl
 obtain ⟨rslt, rs0, rsf0, rs1, rsf1, rs2, rsf2⟩ := H.c3 1 rfl
 obtain ⟨wdlt, wd0, wdf0, wd1, wdf1, wd2, wdf2⟩ := H.c3 2 rfl
 have ne_tk_rs := H.ne 0 1 rfl rfl (by decide)
 have ne_tk_wd := H.ne 0 2 rfl rfl (by decide)
 have ne_rs_tk := H.ne 1 0 rfl rfl (by decide)
 have ne_rs_wd := H.ne 1 2 rfl rfl (by decide)
 have ne_wd_tk := H.ne 2 0 rfl rfl (by decide)
 have ne_wd_rs := H.ne 2 1 rfl rfl (by decide)
 rw [rounds_succ]
 have hP := fun W => put_ok p10 p11 p12 37 20 id W (by omega) (by omega) (by omega) (by omega) (by omega) (by omega) (by have := K.out; omega)
 go_wp2_with fail
 obtain ⟨wx2, hwx2⟩ : ∃ wx2, (wy1).alloc (.cells #[.int .i64 20, .int .i64 ↑id] 230) = wx2 := ⟨_, rfl⟩
 replace H := Mem.alloc H (wy1.heap.size) (by first | (simp; done) | (simp; omega)) #[.int .i64 20, .int .i64 ↑id] 230
 simp only [List.cons_append, List.nil_append] at H
 rw [hwx2] at H ⊢
 clear hwx2
 refine (hP _).mono ?_
 rintro e wc2 ⟨p20, p21, p22, rfl, l20, l21, l22, hv2, hb⟩
 replace H := Mem.call H hb
 clear tklt tk0 tkf0 tk1 tkf1 tk2 tkf2 tk3 tkf3 rslt rs0 rsf0 rs1 rsf1 rs2 rsf2 wdlt wd0 wdf0 wd1 wdf1 wd2 wdf2 ne_tk_rs ne_tk_wd ne_rs_tk ne_rs_wd ne_wd_tk ne_wd_rs
 obtain ⟨tklt, tk0, tkf0, tk1, tkf1, tk2, tkf2, tk3, tkf3⟩ := H.c4 0 rfl
 obtain ⟨rslt, rs0, rsf0, rs1, rsf1, rs2, rsf2⟩ := H.c3 1 rfl
 obtain ⟨wdlt, wd0, wdf0, wd1, wdf1, wd2, wdf2⟩ := H.c3 2 rfl
 obtain ⟨f2lt, f20, f2f0, f21, f2f1⟩ := H.c2 5 rfl
 have ne_tk_rs := H.ne 0 1 rfl rfl (by decide)
 have ne_tk_wd := H.ne 0 2 rfl rfl (by decide)
 have ne_tk_f2 := H.ne 0 5 rfl rfl (by decide)
 have ne_rs_tk := H.ne 1 0 rfl rfl (by decide)
 have ne_rs_wd := H.ne 1 2 rfl rfl (by decide)
 have ne_rs_f2 := H.ne 1 5 rfl rfl (by decide)
 have ne_wd_tk := H.ne 2 0 rfl rfl (by decide)
 have ne_wd_rs := H.ne 2 1 rfl rfl (by decide)
 have ne_wd_f2 := H.ne 2 5 rfl rfl (by decide)
 have ne_f2_tk := H.ne 5 0 rfl rfl (by decide)
 have ne_f2_rs := H.ne 5 1 rfl rfl (by decide)
 have ne_f2_wd := H.ne 5 2 rfl rfl (by decide)
 have V2 := Lib.hid (tw_3 hv2 V1.out K.out.2.2.2 K.out.2.2.1)
 clear hb hv2 hP i2
 go_wp2
 obtain ⟨wy2, hwy2⟩ : ∃ wy2, (((wc2).setCell ⟨wa.heap.size, 0, none⟩ (.int .u32 ↑p20)).setCell ⟨wa.heap.size, 1, none⟩ (.int .u32 ↑p21)).setCell ⟨wa.heap.size, 2, none⟩ (.int .u32 ↑p22) = wy2 := ⟨_, rfl⟩
 replace H := Mem.set 2 H rfl (0) (.int .u32 ↑p20)
 replace H := Mem.set 2 H rfl (1) (.int .u32 ↑p21)
 replace H := Mem.set 2 H rfl (2) (.int .u32 ↑p22)
 simp only [List.set_cons_zero, List.set_cons_succ, List.setIfInBounds_toArray] at H
 rw [hwy2] at H ⊢
 clear hwy2
 clear tklt tk0 tkf0 tk1 tkf1 tk2 tkf2 tk3 tkf3 rslt rs0 rsf0 rs1 rsf1 rs2 rsf2 wdlt wd0 wdf0 wd1 wdf1 wd2 wdf2 f2lt f20 f2f0 f21 f2f1 ne_tk_rs ne_tk_wd ne_tk_f2 ne_rs_tk ne_rs_wd ne_rs_f2 ne_wd_tk ne_wd_rs ne_wd_f2 ne_f2_tk ne_f2_rs ne_f2_wd
 obtain ⟨tklt, tk0, tkf0, tk1, tkf1, tk2, tkf2, tk3, tkf3⟩ := H.c4 0 rfl
 obtain ⟨rslt, rs0, rsf0, rs1, rsf1, rs2, rsf2⟩ := H.c3 1 rfl
 obtain ⟨wdlt, wd0, wdf0, wd1, wdf1, wd2, wdf2⟩ := H.c3 2 rfl
 have ne_tk_rs := H.ne 0 1 rfl rfl (by decide)
 have ne_tk_wd := H.ne 0 2 rfl rfl (by decide)
 have ne_rs_tk := H.ne 1 0 rfl rfl (by decide)
 have ne_rs_wd := H.ne 1 2 rfl rfl (by decide)
 have ne_wd_tk := H.ne 2 0 rfl rfl (by decide)
 have ne_wd_rs := H.ne 2 1 rfl rfl (by decide)
 rw [rounds_succ]
 have hP := fun W => put_ok p20 p21 p22 57 2 cls W (by omega) (by omega) (by omega) (by omega) (by omega) (by omega) (by have := K.out; omega)
 go_wp2_with fail
 obtain ⟨wx3, hwx3⟩ : ∃ wx3, (wy2).alloc (.cells #[.int .i64 2, .int .i64 ↑cls] 230) = wx3 := ⟨_, rfl⟩
 replace H := Mem.alloc H (wy2.heap.size) (by first | (simp; done) | (simp; omega)) #[.int .i64 2, .int .i64 ↑cls] 230
 simp only [List.cons_append, List.nil_append] at H
 rw [hwx3] at H ⊢
 clear hwx3
 refine (hP _).mono ?_
 rintro e wc3 ⟨p30, p31, p32, rfl, l30, l31, l32, hv3, hb⟩
 replace H := Mem.call H hb
 clear tklt tk0 tkf0 tk1 tkf1 tk2 tkf2 tk3 tkf3 rslt rs0 rsf0 rs1 rsf1 rs2 rsf2 wdlt wd0 wdf0 wd1 wdf1 wd2 wdf2 ne_tk_rs ne_tk_wd ne_rs_tk ne_rs_wd ne_wd_tk ne_wd_rs
 obtain ⟨tklt, tk0, tkf0, tk1, tkf1, tk2, tkf2, tk3, tkf3⟩ := H.c4 0 rfl
 obtain ⟨rslt, rs0, rsf0, rs1, rsf1, rs2, rsf2⟩ := H.c3 1 rfl
 obtain ⟨wdlt, wd0, wdf0, wd1, wdf1, wd2, wdf2⟩ := H.c3 2 rfl
 obtain ⟨f3lt, f30, f3f0, f31, f3f1⟩ := H.c2 6 rfl
 have ne_tk_rs := H.ne 0 1 rfl rfl (by decide)
 have ne_tk_wd := H.ne 0 2 rfl rfl (by decide)
 have ne_tk_f3 := H.ne 0 6 rfl rfl (by decide)
 have ne_rs_tk := H.ne 1 0 rfl rfl (by decide)
 have ne_rs_wd := H.ne 1 2 rfl rfl (by decide)
 have ne_rs_f3 := H.ne 1 6 rfl rfl (by decide)
 have ne_wd_tk := H.ne 2 0 rfl rfl (by decide)
 have ne_wd_rs := H.ne 2 1 rfl rfl (by decide)
 have ne_wd_f3 := H.ne 2 6 rfl rfl (by decide)
 have ne_f3_tk := H.ne 6 0 rfl rfl (by decide)
 have ne_f3_rs := H.ne 6 1 rfl rfl (by decide)
 have ne_f3_wd := H.ne 6 2 rfl rfl (by decide)
 have V3 := Lib.hid (tw_4 hv3 V2.out K.out.2.2.2 K.out.2.2.1 K.out.2.1)
 clear hb hv3 hP i3
 go_wp2
 obtain ⟨wy3, hwy3⟩ : ∃ wy3, (((wc3).setCell ⟨wa.heap.size, 0, none⟩ (.int .u32 ↑p30)).setCell ⟨wa.heap.size, 1, none⟩ (.int .u32 ↑p31)).setCell ⟨wa.heap.size, 2, none⟩ (.int .u32 ↑p32) = wy3 := ⟨_, rfl⟩
 replace H := Mem.set 2 H rfl (0) (.int .u32 ↑p30)
 replace H := Mem.set 2 H rfl (1) (.int .u32 ↑p31)
 replace H := Mem.set 2 H rfl (2) (.int .u32 ↑p32)
 simp only [List.set_cons_zero, List.set_cons_succ, List.setIfInBounds_toArray] at H
 rw [hwy3] at H ⊢
 clear hwy3
 clear tklt tk0 tkf0 tk1 tkf1 tk2 tkf2 tk3 tkf3 rslt rs0 rsf0 rs1 rsf1 rs2 rsf2 wdlt wd0 wdf0 wd1 wdf1 wd2 wdf2 f3lt f30 f3f0 f31 f3f1 ne_tk_rs ne_tk_wd ne_tk_f3 ne_rs_tk ne_rs_wd ne_rs_f3 ne_wd_tk ne_wd_rs ne_wd_f3 ne_f3_tk ne_f3_rs ne_f3_wd
 obtain ⟨tklt, tk0, tkf0, tk1, tkf1, tk2, tkf2, tk3, tkf3⟩ := H.c4 0 rfl
 obtain ⟨rslt, rs0, rsf0, rs1, rsf1, rs2, rsf2⟩ := H.c3 1 rfl
 obtain ⟨wdlt, wd0, wdf0, wd1, wdf1, wd2, wdf2⟩ := H.c3 2 rfl
 have ne_tk_rs := H.ne 0 1 rfl rfl (by decide)
 have ne_tk_wd := H.ne 0 2 rfl rfl (by decide)
 have ne_rs_tk := H.ne 1 0 rfl rfl (by decide)
 have ne_rs_wd := H.ne 1 2 rfl rfl (by decide)
 have ne_wd_tk := H.ne 2 0 rfl rfl (by decide)
 have ne_wd_rs := H.ne 2 1 rfl rfl (by decide)
 have hTi := fun W => times_is p30 p31 p32 97 W l30 l31 l32 (by omega)
 rw [V3.out] at hTi
 rw [rounds_succ]
 go_wp2_with fail
 refine (hTi _).mono ?_
 rintro e wz ⟨y0, y1, y2, c, m0, m1, m2, m3, hy, rfl, hbz⟩
 replace H := Mem.call H hbz
 clear tklt tk0 tkf0 tk1 tkf1 tk2 tkf2 tk3 tkf3 rslt rs0 rsf0 rs1 rsf1 rs2 rsf2 wdlt wd0 wdf0 wd1 wdf1 wd2 wdf2 ne_tk_rs ne_tk_wd ne_rs_tk ne_rs_wd ne_wd_tk ne_wd_rs
 obtain ⟨rslt, rs0, rsf0, rs1, rsf1, rs2, rsf2⟩ := H.c3 1 rfl
 obtain ⟨wdlt, wd0, wdf0, wd1, wdf1, wd2, wdf2⟩ := H.c3 2 rfl
 have ne_rs_wd := H.ne 1 2 rfl rfl (by decide)
 have ne_wd_rs := H.ne 2 1 rfl rfl (by decide)
 clear hbz hTi
 go_wp2
 obtain ⟨we, hwe⟩ : ∃ we, ((((((wz).setCell ⟨wa.heap.size, 0, none⟩ (.int .u32 ↑y0)).setCell ⟨wa.heap.size, 1, none⟩ (.int .u32 ↑y1)).setCell ⟨wa.heap.size, 2, none⟩ (.int .u32 ↑y2)).setCell ⟨w.heap.size + 1, 0, none⟩ (.int .u32 ↑y0)).setCell ⟨w.heap.size + 1, 1, none⟩ (.int .u32 ↑y1)).setCell ⟨w.heap.size + 1, 2, none⟩ (.int .u32 ↑y2) = we := ⟨_, rfl⟩
 replace H := Mem.set 2 H rfl (0) (.int .u32 ↑y0)
 replace H := Mem.set 2 H rfl (1) (.int .u32 ↑y1)
 replace H := Mem.set 2 H rfl (2) (.int .u32 ↑y2)
 replace H := Mem.set 1 H rfl (0) (.int .u32 ↑y0)
 replace H := Mem.set 1 H rfl (1) (.int .u32 ↑y1)
 replace H := Mem.set 1 H rfl (2) (.int .u32 ↑y2)
 simp only [List.set_cons_zero, List.set_cons_succ, List.setIfInBounds_toArray] at H
 rw [hwe] at H ⊢
 clear hwe
 clear rslt rs0 rsf0 rs1 rsf1 rs2 rsf2 wdlt wd0 wdf0 wd1 wdf1 wd2 wdf2 ne_rs_wd ne_wd_rs
 obtain ⟨rslt, rs0, rsf0, rs1, rsf1, rs2, rsf2⟩ := H.c3 1 rfl
 refine bodyPost_ret (v := .tuple #[.agg #[.int .u32 ↑y0, .int .u32 ↑y1, .int .u32 ↑y2], .int .i64 0]) (by simp [results, Tryz.results94, go_sem, rs0, rs1, rs2]; done) rfl ?_
 exact ⟨y0, y1, y2, rfl, m0, m1, m2, tw_c hy.out HT.out, H.below⟩
end Go.Proofs.YtpcgpnkmjjamhaaGreatDoor
