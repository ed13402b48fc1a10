/- token: Format. -/
import Derived.Test.YtpcgpnkmjjamhaaGreatDoorQ35
import Derived.Test.YtpcgpnkmjjamhaaGreatDoorQ37
namespace Go.Proofs.YtpcgpnkmjjamhaaGreatDoor
open Go.RowKit
set_option linter.unusedVariables false
set_option maxRecDepth 100000
def tokD (cls id am tag : Nat) : List Nat := pad 20 (tokN cls id am tag * 97)
theorem tok_lt20 {cls id am tag : Nat} (h : TkOk cls id am tag) : tokN cls id am tag * 97 < 10 ^ 20 := by
 have := tokN_lt h
 have e : (10 : Nat) ^ 20 = 100000000000000000000 := by decide
 rw [e]; omega
theorem tokD_len {cls id am tag : Nat} (h : TkOk cls id am tag) : (tokD cls id am tag).length = 20 := pad_len (tok_lt20 h) (by omega)
theorem rep_zero (m : Nat) : Lib.repeatL [48] m = (List.replicate m 0).map dg := by
 induction m with
 | zero => rfl
 | succ m ih => rw [Lib.repeatL, ih, List.replicate_succ, List.map_cons]; rfl
theorem pad_str {n k m : Nat} (h : k - (dec n).length = m) : (⟨(Lib.repeatL (⟨#[48]⟩ : ByteArray).data.toList m).toArray⟩ : ByteArray) ++ dstr (dec n) = dstr (pad k n) := by
 unfold pad
 rw [dstr_append, h]
 congr 1
 show (⟨(Lib.repeatL [48] m).toArray⟩ : ByteArray) = _
 rw [rep_zero]; rfl
set_option maxHeartbeats 1000000 in
theorem format_ok (cls id am tag : Nat) (w : World) (hk : TkOk cls id am tag) :
   Calls Tryz.prog 73 #[.agg #[.int .i64 ↑cls, .int .i64 ↑id, .int .i64 ↑am, .int .i64 ↑tag]] w fun e w' => e = .returned (.tuple #[.string (dstr (tokD cls id am tag)), .int .i64 0]) ∧ Below w.heap.size w w' := by
 have hW := fun W => twords_ok cls id am tag W hk
 have hl20 := dec_len _ 20 (tok_lt20 hk) (by omega)
 obtain ⟨D, hD⟩ : ∃ D, tokN cls id am tag * 97 = D := ⟨_, rfl⟩
 have hpd : tokD cls id am tag = pad 20 D := by unfold tokD; rw [hD]
 rw [hpd]
 rw [hD] at hW hl20
 obtain ⟨m, hm⟩ : ∃ m, 20 - (dec D).length = m := ⟨_, rfl⟩
 have hcat := Lib.hid (pad_str hm)
 have hmI : (20 : Int) - ((dec D).length : Int) = (m : Int) := by omega
 have hRp := fun W => Tryz.strings_Repeat ⟨#[48]⟩ m W (by omega) (by show 1 * m ≤ _; omega)
 obtain ⟨R, hR⟩ : ∃ R, (⟨(Lib.repeatL (⟨#[48]⟩ : ByteArray).data.toList m).toArray⟩ : ByteArray) = R := ⟨_, rfl⟩
 rw [hR] at hRp hcat
 have hRz : R.size = m := by
   rw [← hR]
   show (Lib.repeatL [48] m).toArray.size = m
   rw [List.size_toArray, Lib.repeatL_length]; simp
 have hm20 : (m : Int) ≤ 20 := by omega
 have hS := @ByteArray.size_append
 have hsz := dstr_size (dec D)
 obtain ⟨l, hl⟩ : ∃ l, dec D = l := ⟨_, rfl⟩
 rw [hl] at hcat hmI hsz hl20
 have hlI : (l.length : Int) ≤ 20 := by omega
 have Hl := Lib.hid hl
 clear hD hpd hm hR hl hk
 have H := Mem.init w
 obtain ⟨W0, hW0⟩ : ∃ W0, (w).alloc (.cells #[.int .i64 ↑cls, .int .i64 ↑id, .int .i64 ↑am, .int .i64 ↑tag] 54) = W0 := ⟨_, rfl⟩
 replace H := Mem.alloc H (w.heap.size) (by first | (simp; done) | (simp; omega)) #[.int .i64 ↑cls, .int .i64 ↑id, .int .i64 ↑am, .int .i64 ↑tag] 54
 simp only [List.nil_append] at H
 rw [hW0] at H
 obtain ⟨tklt, tk0, tkf0, tk1, tkf1, tk2, tkf2, tk3, tkf3⟩ := H.c4 0 rfl
 go_enter Tryz.func73, Tryz.ntmps73
 go_wp2_with fail
 refine (hW _).mono ?_
 rintro e wa ⟨y0, y1, y2, rfl, l0, l1, l2, hv, hba⟩
 replace H := Mem.call H hba
 have hSh := fun W => show_ok y0 y1 y2 W l0 l1 l2
 rw [hv, Hl.out] at hSh
 clear tklt tk0 tkf0 tk1 tkf1 tk2 tkf2 tk3 tkf3
 obtain ⟨tklt, tk0, tkf0, tk1, tkf1, tk2, tkf2, tk3, tkf3⟩ := H.c4 0 rfl
 clear hba hW hW0 hv l0 l1 l2
 go_wp2_with fail
 obtain ⟨wb, hwb⟩ : ∃ wb, (wa).alloc (.cells #[.int .u32 ↑y0, .int .u32 ↑y1, .int .u32 ↑y2] 88) = wb := ⟨_, rfl⟩
 replace H := Mem.alloc H (wa.heap.size) (by first | (simp; done) | (simp; omega)) #[.int .u32 ↑y0, .int .u32 ↑y1, .int .u32 ↑y2] 88
 simp only [List.cons_append, List.nil_append] at H
 rw [hwb] at H ⊢
 clear hwb
 refine (hSh _).mono ?_
 rintro e wc ⟨rfl, hbc⟩
 replace H := Mem.call H hbc
 clear tklt tk0 tkf0 tk1 tkf1 tk2 tkf2 tk3 tkf3
 obtain ⟨tklt, tk0, tkf0, tk1, tkf1, tk2, tkf2, tk3, tkf3⟩ := H.c4 0 rfl
 obtain ⟨wdlt, wd0, wdf0, wd1, wdf1, wd2, wdf2⟩ := H.c3 1 rfl
 have ne_tk_wd := H.ne 0 1 rfl rfl (by decide)
 have ne_wd_tk := H.ne 1 0 rfl rfl (by decide)
 clear hbc hSh
 go_wp2_with fail
 refine (hRp _).mono ?_
 rintro e wd ⟨rfl, hbd⟩
 replace H := Mem.call H hbd
 clear tklt tk0 tkf0 tk1 tkf1 tk2 tkf2 tk3 tkf3 wdlt wd0 wdf0 wd1 wdf1 wd2 wdf2 ne_tk_wd ne_wd_tk
 clear hbd hRp hmI
 go_wp2
 go_ret2
 refine ⟨?_, H.below⟩
 rw [← hcat.out]; rfl
end Go.Proofs.YtpcgpnkmjjamhaaGreatDoor
