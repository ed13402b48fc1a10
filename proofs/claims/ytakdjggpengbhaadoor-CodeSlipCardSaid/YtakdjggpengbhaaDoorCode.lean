/- What a meter shows: readback.Code, readback.Read. -/
import Derived.Test.YtakdjggpengbhaaDoorNumbD
import Derived.Test.YtakdjggpengbhaaDoorNum
import Derived.Test.YtakdjggpengbhaaDoorItoa
import Derived.Test.YtakdjggpengbhaaDoorCheck
import Derived.Test.YtakdjggpengbhaaDoorMeterW
import Derived.Test.YtakdjggpengbhaaDoorNewM
import Derived.Test.YtakdjggpengbhaaDoorHeap
import Derived.Test.YtakdjggpengbhaaDoorShelf
import Derived.Lib.Repeat
import Derived.Lib.ParseIntB
namespace Go.Proofs.YtakdjggpengbhaaDoor
open Go.RowKit
set_option linter.unusedVariables false
/-- What is shown, as one number. -/
def codeV (me cr H : Nat) : Nat := ((cr * 1048576 + H) * 50 + me) * 97
theorem rest_num (l : List Nat) : rest97 l = val10 l % 97 := by
  have key : ∀ (l : List Nat) (n : Nat), l.foldl (fun n d => (n * 10 + d) % 97) (n % 97) = (l.foldl (fun n d => n * 10 + d) n) % 97 := by
    intro l
    induction l with
    | nil => intro n; rfl
    | cons d l ih =>
      intro n
      rw [List.foldl_cons, List.foldl_cons, ← ih (n * 10 + d)]
      congr 1
      omega
  exact key l 0
theorem code_rest (k me cr H : Nat) : rest97 (pad k (codeV me cr H)) = 0 := by
  rw [rest_num, val10_pad]
  unfold codeV
  omega
theorem code_lt {me cr H : Nat} (h1 : me < 50) (h2 : cr ≤ 99999999) (h3 : H ≤ 1048575) : codeV me cr H < 10 ^ 18 := by
  unfold codeV; omega
theorem swap_rest {l : List Nat} {i far : Nat} (hl : ∀ d ∈ l, d ≤ 9) (hf : far = 1 ∨ far = 2) (hi : i + far < l.length) (h : rest97 l = rest97 (swp l i far)) : swp l i far = l := by
  rcases hf with rfl | rfl
  · obtain ⟨p, x, y, q, h1, h2, _⟩ := swp_one hi
    have hx := hl x (by rw [h1]; simp)
    have hy := hl y (by rw [h1]; simp)
    rw [h2] at h ⊢
    conv at h => lhs; rw [h1]
    conv => rhs; rw [h1]
    rw [rest97_swap1 hx hy h]
  · obtain ⟨p, x, m, y, q, h1, h2, _⟩ := swp_two hi
    have hx := hl x (by rw [h1]; simp)
    have hy := hl y (by rw [h1]; simp)
    rw [h2] at h ⊢
    conv at h => lhs; rw [h1]
    conv => rhs; rw [h1]
    rw [rest97_swap2 hx hy h]
theorem zeros_str (c : Nat) : (⟨(Lib.repeatL (⟨#[48]⟩ : ByteArray).data.toList c).toArray⟩ : ByteArray) = dstr (List.replicate c 0) := by
  have : Lib.repeatL [(48 : UInt8)] c = (List.replicate c 0).map dg := by
    induction c with
    | zero => rfl
    | succ c ih => rw [Lib.repeatL, ih, List.replicate_succ, List.map_cons]; rfl
  show (⟨(Lib.repeatL [(48 : UInt8)] c).toArray⟩ : ByteArray) = _
  rw [this]; rfl
theorem new_meter_may {me rev cr H B bad : Nat} (h1 : me < 50) (h2 : rev ≤ 15) (h3 : cr ≤ 99999999) (h4 : bad < 5) (hW : WMay H B) : mmay me rev cr H B bad 0 = true := by
  unfold mmay
  rw [if_pos (by unfold may1; omega), if_pos (by unfold may2; omega)]
  exact wmayB_of hW
theorem high_may {h : Nat} (h0 : 0 < h) (h1 : h ≤ 1048575) : WMay h 1 := .inr ⟨h0, h1, by decide, Nat.one_lt_two_pow (by omega)⟩
set_option maxRecDepth 100000 in
set_option maxHeartbeats 2000000 in
theorem code_ok (me rev cr H b bad lock : Nat) (w : World) (h1 : me < 50) (h2 : cr ≤ 99999999) (h3 : H ≤ 1048575) (hb : b < 2 ^ 64) (hm : mmay me rev cr H b bad lock = true) (ht : TabOk w) :
    Calls Tryd.prog 15 #[.agg #[.int .i64 (me : Int), .int .i64 (rev : Int), .int .i64 (cr : Int), .int .i64 (H : Int), .int .u64 (b : Int), .int .i64 (bad : Int), .int .i64 (lock : Int)]] w fun e w' => e = .returned (.tuple #[.string (dstr (pad 18 (codeV me cr H))), .int .i64 0]) ∧ Below w.heap.size w w' := by
  have hW := fun W => mwords_ok me rev cr H b bad lock W hb hm
  have hlt := code_lt h1 h2 h3
  obtain ⟨u, hu⟩ : ∃ u, codeV me cr H = u := ⟨_, rfl⟩
  rw [hu] at hlt ⊢
  have hI := fun W h => itoa_ok u W (by omega) h
  have hsz := dec_len u 18 hlt (by omega)
  rw [← dstr_size] at hsz
  unfold pad
  obtain ⟨k, hk⟩ : ∃ k, 18 - (dec u).length = k := ⟨_, rfl⟩
  rw [hk, dstr_append, ← zeros_str]
  have hR := fun W => Tryd.strings_Repeat ⟨#[48]⟩ k W (by omega) (by show 1 * k ≤ _; omega)
  have hRs : (⟨(Lib.repeatL (⟨#[48]⟩ : ByteArray).data.toList k).toArray⟩ : ByteArray).size = k := by rw [zeros_str, dstr_size, List.length_replicate]
  rw [← dstr_size] at hk
  obtain ⟨S1, hS1⟩ : ∃ s, dstr (dec u) = s := ⟨_, rfl⟩
  obtain ⟨S2, hS2⟩ : ∃ s, (⟨(Lib.repeatL (⟨#[48]⟩ : ByteArray).data.toList k).toArray⟩ : ByteArray) = s := ⟨_, rfl⟩
  rw [hS1] at hI hsz hk ⊢
  rw [hS2] at hR hRs ⊢
  have huI : (u : Int) = (((cr : Int) * 1048576 + (H : Int)) * 50 + (me : Int)) * 97 := by unfold codeV at hu; omega
  rw [huI] at hI
  have hkI : (18 : Int) - (S1.size : Int) = (k : Int) := by omega
  have k1 : ¬ 9223372036854775807 < S2.size + S1.size := by omega
  have i1 : IntKind.i64.wrap ((cr : Int) * 1048576) = (cr : Int) * 1048576 := IntWalk.i64_in _ (by omega)
  have i2 : IntKind.i64.wrap ((cr : Int) * 1048576 + (H : Int)) = (cr : Int) * 1048576 + (H : Int) := IntWalk.i64_in _ (by omega)
  have i3 : IntKind.i64.wrap (((cr : Int) * 1048576 + (H : Int)) * 50) = ((cr : Int) * 1048576 + (H : Int)) * 50 := IntWalk.i64_in _ (by omega)
  have i4 : IntKind.i64.wrap (((cr : Int) * 1048576 + (H : Int)) * 50 + (me : Int)) = ((cr : Int) * 1048576 + (H : Int)) * 50 + (me : Int) := IntWalk.i64_in _ (by omega)
  have i5 : IntKind.i64.wrap ((((cr : Int) * 1048576 + (H : Int)) * 50 + (me : Int)) * 97) = (((cr : Int) * 1048576 + (H : Int)) * 50 + (me : Int)) * 97 := IntWalk.i64_in _ (by omega)
  clear hS1 hS2 huI hu hlt hk hm
  have HM := Mem.init w
  obtain ⟨W0, hW0⟩ : ∃ W0, (w).alloc (.cells #[.int .i64 (me : Int), .int .i64 (rev : Int), .int .i64 (cr : Int), .int .i64 (H : Int), .int .u64 (b : Int), .int .i64 (bad : Int), .int .i64 (lock : Int)] 36) = W0 := ⟨_, rfl⟩
  replace HM : Mem (w) [] _ [.blk (w.heap.size) 36 #[.int .i64 (me : Int), .int .i64 (rev : Int), .int .i64 (cr : Int), .int .i64 (H : Int), .int .u64 (b : Int), .int .i64 (bad : Int), .int .i64 (lock : Int)]] := Mem.alloc HM (w.heap.size) (by first | (simp; done) | (simp; omega)) #[.int .i64 (me : Int), .int .i64 (rev : Int), .int .i64 (cr : Int), .int .i64 (H : Int), .int .u64 (b : Int), .int .i64 (bad : Int), .int .i64 (lock : Int)] 36
  rw [hW0] at HM
  have mt0 : (W0).cell? ⟨w.heap.size, 0, none⟩ = some (.int .i64 (me : Int)) := (HM.blk 0 rfl).cell 0
  have mtf0 : (W0).frozen? ⟨w.heap.size, 0, none⟩ = false := (HM.blk 0 rfl).frozen 0
  have mt1 : (W0).cell? ⟨w.heap.size, 1, none⟩ = some (.int .i64 (rev : Int)) := (HM.blk 0 rfl).cell 1
  have mtf1 : (W0).frozen? ⟨w.heap.size, 1, none⟩ = false := (HM.blk 0 rfl).frozen 1
  have mt2 : (W0).cell? ⟨w.heap.size, 2, none⟩ = some (.int .i64 (cr : Int)) := (HM.blk 0 rfl).cell 2
  have mtf2 : (W0).frozen? ⟨w.heap.size, 2, none⟩ = false := (HM.blk 0 rfl).frozen 2
  have mt3 : (W0).cell? ⟨w.heap.size, 3, none⟩ = some (.int .i64 (H : Int)) := (HM.blk 0 rfl).cell 3
  have mtf3 : (W0).frozen? ⟨w.heap.size, 3, none⟩ = false := (HM.blk 0 rfl).frozen 3
  have mt4 : (W0).cell? ⟨w.heap.size, 4, none⟩ = some (.int .u64 (b : Int)) := (HM.blk 0 rfl).cell 4
  have mtf4 : (W0).frozen? ⟨w.heap.size, 4, none⟩ = false := (HM.blk 0 rfl).frozen 4
  have mt5 : (W0).cell? ⟨w.heap.size, 5, none⟩ = some (.int .i64 (bad : Int)) := (HM.blk 0 rfl).cell 5
  have mtf5 : (W0).frozen? ⟨w.heap.size, 5, none⟩ = false := (HM.blk 0 rfl).frozen 5
  have mt6 : (W0).cell? ⟨w.heap.size, 6, none⟩ = some (.int .i64 (lock : Int)) := (HM.blk 0 rfl).cell 6
  have mtf6 : (W0).frozen? ⟨w.heap.size, 6, none⟩ = false := (HM.blk 0 rfl).frozen 6
  have mtlt : w.heap.size < (W0).heap.size := HM.lt 0 rfl
  go_enter Tryd.func15, Tryd.ntmps15
  go_wp2_with fail
  refine (hW _).mono ?_
  rintro e wa ⟨v, rfl, hv, hba⟩
  have htw := (ht.below (below_a1 w (.cells #[.int .i64 (me : Int), .int .i64 (rev : Int), .int .i64 (cr : Int), .int .i64 (H : Int), .int .u64 (b : Int), .int .i64 (bad : Int), .int .i64 (lock : Int)] 36)))
  rw [hW0] at htw
  have hta := htw.below hba
  replace HM : Mem (w) [] (wa) [.blk (w.heap.size) 36 #[.int .i64 (me : Int), .int .i64 (rev : Int), .int .i64 (cr : Int), .int .i64 (H : Int), .int .u64 (b : Int), .int .i64 (bad : Int), .int .i64 (lock : Int)]] := Mem.call HM hba
  clear mt0 mtf0 mt1 mtf1 mt2 mtf2 mt3 mtf3 mt4 mtf4 mt5 mtf5 mt6 mtf6 mtlt
  have mt0 : (wa).cell? ⟨w.heap.size, 0, none⟩ = some (.int .i64 (me : Int)) := (HM.blk 0 rfl).cell 0
  have mtf0 : (wa).frozen? ⟨w.heap.size, 0, none⟩ = false := (HM.blk 0 rfl).frozen 0
  have mt1 : (wa).cell? ⟨w.heap.size, 1, none⟩ = some (.int .i64 (rev : Int)) := (HM.blk 0 rfl).cell 1
  have mtf1 : (wa).frozen? ⟨w.heap.size, 1, none⟩ = false := (HM.blk 0 rfl).frozen 1
  have mt2 : (wa).cell? ⟨w.heap.size, 2, none⟩ = some (.int .i64 (cr : Int)) := (HM.blk 0 rfl).cell 2
  have mtf2 : (wa).frozen? ⟨w.heap.size, 2, none⟩ = false := (HM.blk 0 rfl).frozen 2
  have mt3 : (wa).cell? ⟨w.heap.size, 3, none⟩ = some (.int .i64 (H : Int)) := (HM.blk 0 rfl).cell 3
  have mtf3 : (wa).frozen? ⟨w.heap.size, 3, none⟩ = false := (HM.blk 0 rfl).frozen 3
  have mt4 : (wa).cell? ⟨w.heap.size, 4, none⟩ = some (.int .u64 (b : Int)) := (HM.blk 0 rfl).cell 4
  have mtf4 : (wa).frozen? ⟨w.heap.size, 4, none⟩ = false := (HM.blk 0 rfl).frozen 4
  have mt5 : (wa).cell? ⟨w.heap.size, 5, none⟩ = some (.int .i64 (bad : Int)) := (HM.blk 0 rfl).cell 5
  have mtf5 : (wa).frozen? ⟨w.heap.size, 5, none⟩ = false := (HM.blk 0 rfl).frozen 5
  have mt6 : (wa).cell? ⟨w.heap.size, 6, none⟩ = some (.int .i64 (lock : Int)) := (HM.blk 0 rfl).cell 6
  have mtf6 : (wa).frozen? ⟨w.heap.size, 6, none⟩ = false := (HM.blk 0 rfl).frozen 6
  have mtlt : w.heap.size < (wa).heap.size := HM.lt 0 rfl
  clear hba hW hv hW0 htw ht
  go_wp2_with fail
  refine (hI _ hta).mono ?_
  rintro e wb ⟨rfl, hbb⟩
  replace HM : Mem (w) [] (wb) [.blk (w.heap.size) 36 #[.int .i64 (me : Int), .int .i64 (rev : Int), .int .i64 (cr : Int), .int .i64 (H : Int), .int .u64 (b : Int), .int .i64 (bad : Int), .int .i64 (lock : Int)]] := Mem.call HM hbb
  clear hbb hI hta
  go_wp2_with fail
  refine (hR _).mono ?_
  rintro e wd ⟨rfl, hbd⟩
  replace HM : Mem (w) [] (wd) [.blk (w.heap.size) 36 #[.int .i64 (me : Int), .int .i64 (rev : Int), .int .i64 (cr : Int), .int .i64 (H : Int), .int .u64 (b : Int), .int .i64 (bad : Int), .int .i64 (lock : Int)]] := Mem.call HM hbd
  clear hbd hR
  go_wp2
  go_ret2
  exact ⟨rfl, HM.below⟩
end Go.Proofs.YtakdjggpengbhaaDoor
