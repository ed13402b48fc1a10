/- The walk of the law DealAdds. -/
import Derived.Test.YtfcgpgfghidajaaDealt
namespace Go.Proofs.Ytfcgpgfghidajaa
open Go.RowKit
set_option linter.unusedVariables false
set_option maxRecDepth 100000 in
set_option maxHeartbeats 4000000 in
theorem walk_dealAdds (w : World) (a0 : Int) (w0 : (Lit.int .i64 a0).wf = true) (a1 : Value) (w1 : Fit Try.prog w 22 a1) :
    Calls Try.prog 3 #[.int .i64 a0, a1] w fun e w' => e = .returned (.bool true) ∧ Below w.heap.size w w' := by
  obtain ⟨zs, hv⟩ := is_fit w1
  obtain ⟨t, ht, ht1⟩ := pk_nat a0 1000000000001 (by omega)
  have ht2 : Hid (pk a0 1000000000001 = (t : Int)) := ht
  have hP := fun W => picked_is W ht2 w0 (by omega) (by omega)
  have ht3 : t ≤ 1000000000000 := by omega
  clear ht w1 ht1
  go_enter Try.func3, Try.ntmps3
  go_wp2_with fail
  refine (hP _).mono ?_
  rintro e w' ⟨rfl, rfl⟩
  go_wp2_with fail
  refine (dealt_ok _ zs _ hv).mono ?_
  rintro e wa ⟨l, b, c, rfl, hx, h1, h2, h0, how, hba⟩
  clear hP hv
  obtain ⟨hlt, hcell⟩ : b < wa.heap.size ∧ ∀ x, x < l.length → wa.cell? ⟨b, 0 + x, none⟩ = some (.int .i64 ((l.getD x 0 : Nat) : Int)) := by
    obtain ⟨b', off, e, hB, hc⟩ := (Rd.of_own how).2 (by omega)
    injection e with e
    injection e with e1 e2
    subst e1 e2
    exact ⟨hB, fun x hx => hc x _ (by rw [nis_get hx]; simp [hx])⟩
  go_wp2_with fail
  refine (deal_ok t l b 0 c _ ⟨ht3, hx, h1, h2, h0⟩ hlt hcell).mono ?_
  rintro e wb ⟨g, o, left, rfl, hD, hbb, hB⟩
  have HB := hba.step hbb
  have HD := Lib.hid hD
  have ho : ∀ x, x < l.length → wb.cell? ⟨g, x, none⟩ = some (.int .i64 ((outF t l.sum left l o x : Nat) : Int)) := fun x hx => (hB.cell x).trans (tab_get _ hx)
  have hw : ∀ x, x < l.length → wb.cell? ⟨b, x, none⟩ = some (.int .i64 ((l.getD x 0 : Nat) : Int)) := fun x hx => by
    have h := (hbb.cell (p := ⟨b, 0 + x, none⟩) hlt).trans (hcell x hx)
    rwa [Nat.zero_add] at h
  obtain ⟨f, hf⟩ : ∃ f, outF t l.sum left l o = f := ⟨_, rfl⟩
  have HF := Lib.hid hf
  have HX := Lib.hid hx
  rw [hf] at ho
  clear hcell hba hbb hB how hD hlt hf hx
  obtain ⟨n, hn⟩ : ∃ n, l.length = n := ⟨_, rfl⟩
  have HN := Lib.hid hn
  rw [hn] at ho hw h1 h2 ⊢
  clear hn
  have hsum : ((List.range n).map f).sum = t := by
    have h := HD.out.sum
    rwa [HN.out, HF.out] at h
  go_wp2_with fail
  go_loopw [9, 10] (fun s i wr => ∃ k m : Nat, k ≤ n ∧ i = .int .i64 (k : Int) ∧ s = .int .i64 (m : Int) ∧ Hid (((List.range k).map f).sum = m) ∧ m ≤ t ∧ wr = wb) (fun _ i _ => n - (intOf i).toNat)
  case atStart => exact ⟨0, 0, by omega, rfl, rfl, Lib.hid rfl, by omega, rfl⟩
  case round =>
    obtain ⟨k, m, hk, rfl, rfl, hm, hmt, rfl⟩ := hrel
    by_cases hlt : k < n
    · have hlt2 : (k : Int) < (n : Int) := by omega
      have hs : ((List.range (k + 1)).map f).sum = m + f k := by rw [List.range_succ, List.map_append, List.sum_append, hm.out]; simp
      have hle : ((List.range (k + 1)).map f).sum ≤ t := by
        rw [← hsum]
        have h := pre_le (List.range n) f (k + 1)
        rwa [List.take_range, Nat.min_eq_left (by omega)] at h
      have hc := ho k hlt
      have HS := Lib.hid hs
      rw [hs] at hle
      generalize f k = y at *
      clear hs ho hw
      go_wp2
      go_roundw
      case rel => exact ⟨k + 1, m + y, by omega, by go_num, by go_num, HS, hle, trivial⟩
      case measure => simp [intOf]; omega
    · obtain rfl : k = n := by omega
      obtain rfl : m = t := by rw [← hm.out, hsum]
      clear ho hw
      go_wp2
      go_ret
      exact ⟨rfl, HB⟩
end Go.Proofs.Ytfcgpgfghidajaa
