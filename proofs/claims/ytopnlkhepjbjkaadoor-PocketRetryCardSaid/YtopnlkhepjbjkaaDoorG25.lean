/- token: Format. -/
import Derived.Test.YtopnlkhepjbjkaaDoorG22
import Derived.Test.YtopnlkhepjbjkaaDoorG24
namespace Go.Proofs.YtopnlkhepjbjkaaDoor
open Go.RowKit
set_option linter.unusedVariables false
/-- The twenty digits of a token. -/
def tokD (cls id am tag : Nat) : List Nat := pad 20 (tokN cls id am tag * 97)
theorem tok_lt20 {cls id am tag : Nat} (h : TkOk cls id am tag) : tokN cls id am tag * 97 < 10 ^ 20 := by
  have := tokN_lt h
  have e : (10 : Nat) ^ 20 = 100000000000000000000 := by decide
  rw [e]; omega
theorem tokD_len {cls id am tag : Nat} (h : TkOk cls id am tag) : (tokD cls id am tag).length = 20 := pad_len (tok_lt20 h) (by omega)
theorem tokD_le (cls id am tag : Nat) : ∀ d ∈ tokD cls id am tag, d ≤ 9 := pad_le _ _
theorem val_tokD (cls id am tag : Nat) : val10 (tokD cls id am tag) = tokN cls id am tag * 97 := val10_pad _ _
theorem tokD_inj {cls id am tag cls' id' am' tag' : Nat} (h : TkOk cls id am tag) (k : TkOk cls' id' am' tag') (e : tokD cls id am tag = tokD cls' id' am' tag') : cls = cls' ∧ id = id' ∧ am = am' ∧ tag = tag' := by
  have e2 := congrArg val10 e
  rw [val_tokD, val_tokD] at e2
  exact tokN_inj h k (by omega)
theorem rep_zero (m : Nat) : Lib.repeatL [48] m = (List.replicate m 0).map dg := by
  induction m with
  | zero => rfl
  | succ m ih => rw [Lib.repeatL, ih, List.replicate_succ, List.map_cons]; rfl
theorem pad_str {n k m : Nat} (h : k - (dec n).length = m) : (⟨(Lib.repeatL (⟨#[48]⟩ : ByteArray).data.toList m).toArray⟩ : ByteArray) ++ dstr (dec n) = dstr (pad k n) := by
  unfold pad
  rw [dstr_append, h]
  congr 1
  show (⟨(Lib.repeatL [48] m).toArray⟩ : ByteArray) = _
  rw [rep_zero]; rfl
set_option maxRecDepth 100000 in
set_option maxHeartbeats 1000000 in
theorem format_ok (cls id am tag : Nat) (w : World) (hk : TkOk cls id am tag) :
    Calls Tryd.prog 14 #[.agg #[.int .i64 (cls : Int), .int .i64 (id : Int), .int .i64 (am : Int), .int .i64 (tag : Int)]] w fun e w' => e = .returned (.tuple #[.string (dstr (tokD cls id am tag)), .int .i64 0]) ∧ Below w.heap.size w w' := by
  have hW := fun W => twords_ok cls id am tag W hk
  have hl20 := dec_len _ 20 (tok_lt20 hk) (by omega)
  obtain ⟨D, hD⟩ : ∃ D, tokN cls id am tag * 97 = D := ⟨_, rfl⟩
  have hpd : tokD cls id am tag = pad 20 D := by unfold tokD; rw [hD]
  rw [hpd]
  rw [hD] at hW hl20
  obtain ⟨m, hm⟩ : ∃ m, 20 - (dec D).length = m := ⟨_, rfl⟩
  have hcat := Lib.hid (pad_str hm)
  have hmI : (20 : Int) - ((dec D).length : Int) = (m : Int) := by omega
  have hRp := fun W => Tryd.strings_Repeat ⟨#[48]⟩ m W (by omega) (by show 1 * m ≤ _; omega)
  obtain ⟨R, hR⟩ : ∃ R, (⟨(Lib.repeatL (⟨#[48]⟩ : ByteArray).data.toList m).toArray⟩ : ByteArray) = R := ⟨_, rfl⟩
  rw [hR] at hRp hcat
  have hRz : R.size = m := by
    rw [← hR]
    show (Lib.repeatL [48] m).toArray.size = m
    rw [List.size_toArray, Lib.repeatL_length]; simp
  have hm20 : (m : Int) ≤ 20 := by omega
  have hS := @ByteArray.size_append
  have hsz := dstr_size (dec D)
  obtain ⟨l, hl⟩ : ∃ l, dec D = l := ⟨_, rfl⟩
  rw [hl] at hcat hmI hsz hl20
  have hlI : (l.length : Int) ≤ 20 := by omega
  have Hl := Lib.hid hl
  clear hD hpd hm hR hl hk
  have H := Mem.init w
  obtain ⟨W0, hW0⟩ : ∃ W0, (w).alloc (.cells #[.int .i64 (cls : Int), .int .i64 (id : Int), .int .i64 (am : Int), .int .i64 (tag : Int)] 48) = W0 := ⟨_, rfl⟩
  replace H : Mem (w) [] _ [.blk (w.heap.size) 48 #[.int .i64 (cls : Int), .int .i64 (id : Int), .int .i64 (am : Int), .int .i64 (tag : Int)]] := Mem.alloc H (w.heap.size) (by first | (simp; done) | (simp; omega)) #[.int .i64 (cls : Int), .int .i64 (id : Int), .int .i64 (am : Int), .int .i64 (tag : Int)] 48
  rw [hW0] at H
  have tk0 : (W0).cell? ⟨w.heap.size, 0, none⟩ = some (.int .i64 (cls : Int)) := (H.blk 0 rfl).cell 0
  have tkf0 : (W0).frozen? ⟨w.heap.size, 0, none⟩ = false := (H.blk 0 rfl).frozen 0
  have tk1 : (W0).cell? ⟨w.heap.size, 1, none⟩ = some (.int .i64 (id : Int)) := (H.blk 0 rfl).cell 1
  have tkf1 : (W0).frozen? ⟨w.heap.size, 1, none⟩ = false := (H.blk 0 rfl).frozen 1
  have tk2 : (W0).cell? ⟨w.heap.size, 2, none⟩ = some (.int .i64 (am : Int)) := (H.blk 0 rfl).cell 2
  have tkf2 : (W0).frozen? ⟨w.heap.size, 2, none⟩ = false := (H.blk 0 rfl).frozen 2
  have tk3 : (W0).cell? ⟨w.heap.size, 3, none⟩ = some (.int .i64 (tag : Int)) := (H.blk 0 rfl).cell 3
  have tkf3 : (W0).frozen? ⟨w.heap.size, 3, none⟩ = false := (H.blk 0 rfl).frozen 3
  have tklt : w.heap.size < (W0).heap.size := H.lt 0 rfl
  go_enter Tryd.func14, Tryd.ntmps14
  go_wp2_with fail
  refine (hW _).mono ?_
  rintro e wa ⟨y0, y1, y2, rfl, l0, l1, l2, hv, hba⟩
  replace H : Mem (w) [] (wa) [.blk (w.heap.size) 48 #[.int .i64 (cls : Int), .int .i64 (id : Int), .int .i64 (am : Int), .int .i64 (tag : Int)]] := Mem.call H hba
  have hSh := fun W => show_ok y0 y1 y2 W l0 l1 l2
  rw [hv, Hl.out] at hSh
  clear tk0 tkf0 tk1 tkf1 tk2 tkf2 tk3 tkf3 tklt
  have tk0 : (wa).cell? ⟨w.heap.size, 0, none⟩ = some (.int .i64 (cls : Int)) := (H.blk 0 rfl).cell 0
  have tkf0 : (wa).frozen? ⟨w.heap.size, 0, none⟩ = false := (H.blk 0 rfl).frozen 0
  have tk1 : (wa).cell? ⟨w.heap.size, 1, none⟩ = some (.int .i64 (id : Int)) := (H.blk 0 rfl).cell 1
  have tkf1 : (wa).frozen? ⟨w.heap.size, 1, none⟩ = false := (H.blk 0 rfl).frozen 1
  have tk2 : (wa).cell? ⟨w.heap.size, 2, none⟩ = some (.int .i64 (am : Int)) := (H.blk 0 rfl).cell 2
  have tkf2 : (wa).frozen? ⟨w.heap.size, 2, none⟩ = false := (H.blk 0 rfl).frozen 2
  have tk3 : (wa).cell? ⟨w.heap.size, 3, none⟩ = some (.int .i64 (tag : Int)) := (H.blk 0 rfl).cell 3
  have tkf3 : (wa).frozen? ⟨w.heap.size, 3, none⟩ = false := (H.blk 0 rfl).frozen 3
  have tklt : w.heap.size < (wa).heap.size := H.lt 0 rfl
  clear hba hW hW0 hv l0 l1 l2
  go_wp2_with fail
  obtain ⟨wb, hwb⟩ : ∃ wb, (wa).alloc (.cells #[.int .u32 (y0 : Int), .int .u32 (y1 : Int), .int .u32 (y2 : Int)] 78) = wb := ⟨_, rfl⟩
  replace H : Mem (w) [] _ [.blk (w.heap.size) 48 #[.int .i64 (cls : Int), .int .i64 (id : Int), .int .i64 (am : Int), .int .i64 (tag : Int)], .blk (wa.heap.size) 78 #[.int .u32 (y0 : Int), .int .u32 (y1 : Int), .int .u32 (y2 : Int)]] := Mem.alloc H (wa.heap.size) (by first | (simp; done) | (simp; omega)) #[.int .u32 (y0 : Int), .int .u32 (y1 : Int), .int .u32 (y2 : Int)] 78
  rw [hwb] at H ⊢
  clear hwb
  refine (hSh _).mono ?_
  rintro e wc ⟨rfl, hbc⟩
  replace H : Mem (w) [] (wc) [.blk (w.heap.size) 48 #[.int .i64 (cls : Int), .int .i64 (id : Int), .int .i64 (am : Int), .int .i64 (tag : Int)], .blk (wa.heap.size) 78 #[.int .u32 (y0 : Int), .int .u32 (y1 : Int), .int .u32 (y2 : Int)]] := Mem.call H hbc
  clear tk0 tkf0 tk1 tkf1 tk2 tkf2 tk3 tkf3 tklt
  have tk0 : (wc).cell? ⟨w.heap.size, 0, none⟩ = some (.int .i64 (cls : Int)) := (H.blk 0 rfl).cell 0
  have tkf0 : (wc).frozen? ⟨w.heap.size, 0, none⟩ = false := (H.blk 0 rfl).frozen 0
  have tk1 : (wc).cell? ⟨w.heap.size, 1, none⟩ = some (.int .i64 (id : Int)) := (H.blk 0 rfl).cell 1
  have tkf1 : (wc).frozen? ⟨w.heap.size, 1, none⟩ = false := (H.blk 0 rfl).frozen 1
  have tk2 : (wc).cell? ⟨w.heap.size, 2, none⟩ = some (.int .i64 (am : Int)) := (H.blk 0 rfl).cell 2
  have tkf2 : (wc).frozen? ⟨w.heap.size, 2, none⟩ = false := (H.blk 0 rfl).frozen 2
  have tk3 : (wc).cell? ⟨w.heap.size, 3, none⟩ = some (.int .i64 (tag : Int)) := (H.blk 0 rfl).cell 3
  have tkf3 : (wc).frozen? ⟨w.heap.size, 3, none⟩ = false := (H.blk 0 rfl).frozen 3
  have tklt : w.heap.size < (wc).heap.size := H.lt 0 rfl
  have wd0 : (wc).cell? ⟨wa.heap.size, 0, none⟩ = some (.int .u32 (y0 : Int)) := (H.blk 1 rfl).cell 0
  have wdf0 : (wc).frozen? ⟨wa.heap.size, 0, none⟩ = false := (H.blk 1 rfl).frozen 0
  have wd1 : (wc).cell? ⟨wa.heap.size, 1, none⟩ = some (.int .u32 (y1 : Int)) := (H.blk 1 rfl).cell 1
  have wdf1 : (wc).frozen? ⟨wa.heap.size, 1, none⟩ = false := (H.blk 1 rfl).frozen 1
  have wd2 : (wc).cell? ⟨wa.heap.size, 2, none⟩ = some (.int .u32 (y2 : Int)) := (H.blk 1 rfl).cell 2
  have wdf2 : (wc).frozen? ⟨wa.heap.size, 2, none⟩ = false := (H.blk 1 rfl).frozen 2
  have wdlt : wa.heap.size < (wc).heap.size := H.lt 1 rfl
  have ne_tk_wd : w.heap.size ≠ wa.heap.size := H.ne 0 1 rfl rfl (by decide)
  have ne_wd_tk : wa.heap.size ≠ w.heap.size := H.ne 1 0 rfl rfl (by decide)
  clear hbc hSh
  go_wp2_with fail
  refine (hRp _).mono ?_
  rintro e wd ⟨rfl, hbd⟩
  replace H : Mem (w) [] (wd) [.blk (w.heap.size) 48 #[.int .i64 (cls : Int), .int .i64 (id : Int), .int .i64 (am : Int), .int .i64 (tag : Int)], .blk (wa.heap.size) 78 #[.int .u32 (y0 : Int), .int .u32 (y1 : Int), .int .u32 (y2 : Int)]] := Mem.call H hbd
  clear tk0 tkf0 tk1 tkf1 tk2 tkf2 tk3 tkf3 tklt wd0 wdf0 wd1 wdf1 wd2 wdf2 wdlt ne_tk_wd ne_wd_tk
  clear hbd hRp hmI
  go_wp2
  go_ret2
  refine ⟨?_, H.below⟩
  rw [← hcat.out]; rfl
end Go.Proofs.YtopnlkhepjbjkaaDoor
