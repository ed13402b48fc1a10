/- cents.Show, cents.Read. -/
import Derived.Test.YthhbnmmhjfgpdaaDoorMoneyD
import Derived.Test.YthhbnmmhjfgpdaaDoorHeap
import Derived.Test.YthhbnmmhjfgpdaaDoorShelf
import Derived.Test.YthhbnmmhjfgpdaaDoorRows
import Derived.Deep.RegionHeld3
import Derived.Lib.AppendIntMem
namespace Go.Proofs.YthhbnmmhjfgpdaaDoor
open Go.RowKit
set_option linter.unusedVariables false
/-- The table of the powers of ten lies as it is laid, whatever the call makes. -/
def TabOk (w : World) : Prop := Lib.TabBelow Tryd.prog w.heap.size w "internal/strconv.uint64pow10" .u64 Lib.pow10Tab
theorem TabOk.below {w w' : World} (h : TabOk w) (hb : Below w.heap.size w w') : TabOk w' := fun w'' hb' => h w'' (hb.trans (hb'.mono hb.size))
theorem laid_tail {P : Program} {x : String × DataW Unit} {r : List (String × DataW Unit)} {w : World} (h : laidMet P (x :: r) w) : laidMet P r w := by
  obtain ⟨ps, ⟨g, t, cs, fuel, p, q, _, _, _, _, hq, rfl⟩, hn, hc⟩ := h
  exact ⟨q, hq, (List.nodup_append.1 hn).2.1, fun b off hm => hc b off (by simp [hm])⟩
theorem itoa_ok (u : Nat) (w : World) (hu : u ≤ 9223372036854775807) (ht : TabOk w) : Calls Tryd.prog 22 #[.int .i64 (u : Int)] w fun e w' => e = .returned (.string (dstr (dec u))) ∧ Below w.heap.size w w' := by
  refine (Tryd.strconv_Itoa (u : Int) (by omega) (by omega) w ht.here).mono ?_
  rintro e w' ⟨rfl, k, os, rfl⟩
  rw [itoa_str]
  exact ⟨rfl, Lib.below_grow _ w (Nat.le_refl _) k os⟩
theorem within_is (n lo hi : Int) (w : World) (h : lo ≤ n ∧ n ≤ hi) : Calls Tryd.prog 21 #[.int .i64 n, .int .i64 lo, .int .i64 hi] w fun e w' => e = .returned (.bool true) ∧ w = w' := by
  obtain ⟨h1, h2⟩ := h
  go_enter Tryd.func21, Tryd.ntmps21
  go_wp2
  go_ret
  exact ⟨rfl, rfl⟩
def RetShow (m : Int) (w : World) (e : Ending) (w' : World) : Prop := e = .returned (.tuple #[.string (shown m), .int .i64 0]) ∧ Below w.heap.size w w'
theorem dec_size (n k : Nat) (h : n < 10 ^ k) (h0 : 0 < k) : (dstr (dec n)).size ≤ k := by rw [dstr_size]; exact dec_len n k h h0
set_option maxRecDepth 100000 in
set_option maxHeartbeats 2000000 in
theorem show_pos (v : Nat) (w : World) (hv : v ≤ 1000000000000) (ht : TabOk w) : Calls Tryd.prog 16 #[.int .i64 (v : Int)] w (RetShow (v : Int) w) := by
  have hW := fun W => within_is (v : Int) (-1000000000000) 1000000000000 W ⟨by omega, by omega⟩
  have h3 := dec_three (v % 100) (by omega)
  have hI1 := fun W h => itoa_ok (100 + v % 100) W (by omega) h
  have hI2 := fun W h => itoa_ok (v / 100) W (by omega) h
  have hsz1 := dstr_size (dec (100 + v % 100))
  have hsz2 := dec_size (v / 100) 11 (by omega) (by omega)
  have hex : (dstr (dec (100 + v % 100))).extract 1 3 = dstr [v % 100 / 10, v % 10] := by
    rw [h3, dstr_extract]
    simp
  have hL3 : (dec (100 + v % 100)).length = 3 := by rw [h3]; rfl
  rw [hL3] at hsz1
  have hsh : shown (v : Int) = ⟨#[]⟩ ++ dstr (dec (v / 100)) ++ ⟨#[46]⟩ ++ dstr [v % 100 / 10, v % 10] := by
    unfold shown moneyS
    have : decide ((v : Int) < 0) = false := by simp
    rw [this]
    simp [cat_assoc]
  have e1 : ((100 : Int) + ((v : Int) % 100)) = ((100 + v % 100 : Nat) : Int) := by omega
  have e2 : ((v : Int) / 100) = ((v / 100 : Nat) : Int) := by omega
  rw [← e1] at hI1
  rw [← e2] at hI2
  obtain ⟨S1, hS1⟩ : ∃ s, dstr (dec (100 + v % 100)) = s := ⟨_, rfl⟩
  obtain ⟨S2, hS2⟩ : ∃ s, dstr (dec (v / 100)) = s := ⟨_, rfl⟩
  obtain ⟨S3, hS3⟩ : ∃ s, dstr [v % 100 / 10, v % 10] = s := ⟨_, rfl⟩
  have hsz3 : S3.size = 2 := by rw [← hS3, dstr_size]; rfl
  unfold RetShow
  rw [hsh]
  rw [hS1] at hI1 hsz1 hex
  rw [hS2] at hI2 hsz2 ⊢
  rw [hS3] at hex ⊢
  have hv0 : 0 ≤ (v : Int) := by omega
  have hv9 : (v : Int) ≤ 9223372036854775807 := by omega
  have i1 : IntKind.i64.wrap ((v : Int) / 100) = (v : Int) / 100 := IntWalk.i64_in _ (by omega)
  have k1 : ¬ 9223372036854775807 < S2.size := by omega
  have k2 : ¬ 9223372036854775807 < S2.size + 1 := by omega
  have k3 : ¬ 9223372036854775807 < S2.size + 1 + 2 := by omega
  clear h3 hL3 hsh e1 e2 hS1 hS2 hS3 hv
  have H := Mem.init w
  go_enter Tryd.func16, Tryd.ntmps16
  go_wp2_with fail
  refine (hW _).mono ?_
  rintro e w1 ⟨rfl, rfl⟩
  go_wp2_with fail
  refine (hI1 _ ht).mono ?_
  rintro e w2 ⟨rfl, hb2⟩
  have htd : TabOk w2.drew := (ht.below hb2).below (below_draws (Below.refl _ _) 1)
  have hb2d : Below w.heap.size w w2.drew := below_draws hb2 1
  have hI3 := hI2 w2.drew htd
  clear hI1 hI2 hW ht htd
  go_wp2_with fail
  go_region_held3 (fun _ => True) (exact trivial) ((go_at_call 22; (with_reducible refine hI3.mono ?_); rintro e w3 ⟨rfl, hb3⟩))
  go_wp2
  go_ret2
  exact ⟨rfl, hb2d.trans (hb3.mono hb2d.size)⟩
set_option maxRecDepth 100000 in
set_option maxHeartbeats 2000000 in
theorem show_neg (v : Nat) (w : World) (h1v : 1 ≤ v) (hv : v ≤ 1000000000000) (ht : TabOk w) : Calls Tryd.prog 16 #[.int .i64 (-(v : Int))] w (RetShow (-(v : Int)) w) := by
  have hW := fun W => within_is (-(v : Int)) (-1000000000000) 1000000000000 W ⟨by omega, by omega⟩
  have h3 := dec_three (v % 100) (by omega)
  have hI1 := fun W h => itoa_ok (100 + v % 100) W (by omega) h
  have hI2 := fun W h => itoa_ok (v / 100) W (by omega) h
  have hsz1 := dstr_size (dec (100 + v % 100))
  have hsz2 := dec_size (v / 100) 11 (by omega) (by omega)
  have hex : (dstr (dec (100 + v % 100))).extract 1 3 = dstr [v % 100 / 10, v % 10] := by
    rw [h3, dstr_extract]
    simp
  have hL3 : (dec (100 + v % 100)).length = 3 := by rw [h3]; rfl
  rw [hL3] at hsz1
  have hsh : shown (-(v : Int)) = ⟨#[45]⟩ ++ dstr (dec (v / 100)) ++ ⟨#[46]⟩ ++ dstr [v % 100 / 10, v % 10] := by
    unfold shown moneyS
    have : decide (-(v : Int) < 0) = true := by simp; omega
    rw [this]
    simp [cat_assoc]
  have e1 : ((100 : Int) + ((v : Int) % 100)) = ((100 + v % 100 : Nat) : Int) := by omega
  have e2 : ((v : Int) / 100) = ((v / 100 : Nat) : Int) := by omega
  rw [← e1] at hI1
  rw [← e2] at hI2
  obtain ⟨S1, hS1⟩ : ∃ s, dstr (dec (100 + v % 100)) = s := ⟨_, rfl⟩
  obtain ⟨S2, hS2⟩ : ∃ s, dstr (dec (v / 100)) = s := ⟨_, rfl⟩
  obtain ⟨S3, hS3⟩ : ∃ s, dstr [v % 100 / 10, v % 10] = s := ⟨_, rfl⟩
  have hsz3 : S3.size = 2 := by rw [← hS3, dstr_size]; rfl
  unfold RetShow
  rw [hsh]
  rw [hS1] at hI1 hsz1 hex
  rw [hS2] at hI2 hsz2 ⊢
  rw [hS3] at hex ⊢
  have hv0 : 0 ≤ (v : Int) := by omega
  have hn0 : -(v : Int) < 0 := by omega
  have hnn : - -(v : Int) = (v : Int) := by omega
  have hv9 : (v : Int) ≤ 9223372036854775807 := by omega
  have i1 : IntKind.i64.wrap ((v : Int) / 100) = (v : Int) / 100 := IntWalk.i64_in _ (by omega)
  have k1 : ¬ 9223372036854775807 < 1 + S2.size := by omega
  have k2 : ¬ 9223372036854775807 < 1 + S2.size + 1 := by omega
  have k3 : ¬ 9223372036854775807 < 1 + S2.size + 1 + 2 := by omega
  clear h3 hL3 hsh e1 e2 hS1 hS2 hS3 hv
  have H := Mem.init w
  go_enter Tryd.func16, Tryd.ntmps16
  go_wp2_with fail
  refine (hW _).mono ?_
  rintro e w1 ⟨rfl, rfl⟩
  go_wp2_with fail
  refine (hI1 _ ht).mono ?_
  rintro e w2 ⟨rfl, hb2⟩
  have htd : TabOk w2.drew := (ht.below hb2).below (below_draws (Below.refl _ _) 1)
  have hb2d : Below w.heap.size w w2.drew := below_draws hb2 1
  have hI3 := hI2 w2.drew htd
  clear hI1 hI2 hW ht htd
  go_wp2_with fail
  go_region_held3 (fun _ => True) (exact trivial) ((go_at_call 22; (with_reducible refine hI3.mono ?_); rintro e w3 ⟨rfl, hb3⟩))
  go_wp2
  go_ret2
  exact ⟨rfl, hb2d.trans (hb3.mono hb2d.size)⟩
theorem show_ok (m : Int) (w : World) (h0 : -1000000000000 ≤ m) (h1 : m ≤ 1000000000000) (ht : TabOk w) : Calls Tryd.prog 16 #[.int .i64 m] w (RetShow m w) := by
  by_cases hm : m < 0
  · obtain ⟨v, rfl⟩ : ∃ v : Nat, m = -(v : Int) := ⟨m.natAbs, by omega⟩
    exact show_neg v w (by omega) (by omega) ht
  · obtain ⟨v, rfl⟩ : ∃ v : Nat, m = (v : Int) := ⟨m.natAbs, by omega⟩
    exact show_pos v w (by omega) ht
end Go.Proofs.YthhbnmmhjfgpdaaDoor
