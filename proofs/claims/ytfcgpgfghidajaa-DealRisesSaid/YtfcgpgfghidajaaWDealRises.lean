/- The walk of the law DealRises. -/
import Derived.Test.YtfcgpgfghidajaaDealt
namespace Go.Proofs.Ytfcgpgfghidajaa
open Go.RowKit
set_option linter.unusedVariables false
set_option maxRecDepth 100000 in
set_option maxHeartbeats 4000000 in
theorem walk_dealRises (w : World) (a0 : Int) (w0 : (Lit.int .i64 a0).wf = true) (a1 : Value) (w1 : Fit Try.prog w 22 a1) :
    Calls Try.prog 5 #[.int .i64 a0, a1] w fun e w' => e = .returned (.bool true) ∧ Below w.heap.size w w' := by
  obtain ⟨zs, hv⟩ := is_fit w1
  obtain ⟨t, ht, ht1⟩ := pk_nat a0 1000000000001 (by omega)
  have ht2 : Hid (pk a0 1000000000001 = (t : Int)) := ht
  have hP := fun W => picked_is W ht2 w0 (by omega) (by omega)
  have ht3 : t ≤ 1000000000000 := by omega
  clear ht w1 ht1
  go_enter Try.func5, Try.ntmps5
  go_wp2_with fail
  refine (hP _).mono ?_
  rintro e w' ⟨rfl, rfl⟩
  go_wp2_with fail
  refine (dealt_ok _ zs _ hv).mono ?_
  rintro e wa ⟨l, b, c, rfl, hx, h1, h2, h0, how, hba⟩
  clear hP hv
  obtain ⟨hlt, hcell⟩ : b < wa.heap.size ∧ ∀ x, x < l.length → wa.cell? ⟨b, 0 + x, none⟩ = some (.int .i64 ((l.getD x 0 : Nat) : Int)) := by
    obtain ⟨b', off, e, hB, hc⟩ := (Rd.of_own how).2 (by omega)
    injection e with e
    injection e with e1 e2
    subst e1 e2
    exact ⟨hB, fun x hx => hc x _ (by rw [nis_get hx]; simp [hx])⟩
  go_wp2_with fail
  refine (deal_ok t l b 0 c _ ⟨ht3, hx, h1, h2, h0⟩ hlt hcell).mono ?_
  rintro e wb ⟨g, o, left, rfl, hD, hbb, hB⟩
  have HB := hba.step hbb
  have HD := Lib.hid hD
  have ho : ∀ x, x < l.length → wb.cell? ⟨g, x, none⟩ = some (.int .i64 ((outF t l.sum left l o x : Nat) : Int)) := fun x hx => (hB.cell x).trans (tab_get _ hx)
  have hw : ∀ x, x < l.length → wb.cell? ⟨b, x, none⟩ = some (.int .i64 ((l.getD x 0 : Nat) : Int)) := fun x hx => by
    have h := (hbb.cell (p := ⟨b, 0 + x, none⟩) hlt).trans (hcell x hx)
    rwa [Nat.zero_add] at h
  obtain ⟨f, hf⟩ : ∃ f, outF t l.sum left l o = f := ⟨_, rfl⟩
  have HF := Lib.hid hf
  have HX := Lib.hid hx
  rw [hf] at ho
  clear hcell hba hbb hB how hD hlt hf hx
  obtain ⟨n, hn⟩ : ∃ n, l.length = n := ⟨_, rfl⟩
  have HN := Lib.hid hn
  rw [hn] at ho hw h1 h2 ⊢
  clear hn
  have hris := fun i j hi hj => HD.out.rises (i := i) (j := j) hi hj
  rw [HF.out] at hris
  rw [HN.out] at hris
  go_wp2_with fail
  go_loopw [9, 10] (fun i _ wr => ∃ k : Nat, k ≤ n ∧ i = .int .i64 (k : Int) ∧ (∀ x, x < n → wr.cell? ⟨b, x, none⟩ = some (.int .i64 ((l.getD x 0 : Nat) : Int))) ∧ (∀ x, x < n → wr.cell? ⟨g, x, none⟩ = some (.int .i64 ((f x : Nat) : Int))) ∧ Below w.heap.size w wr) (fun i _ _ => n - (intOf i).toNat)
  case atStart => exact ⟨0, by omega, rfl, hw, ho, HB⟩
  case round =>
    clear hw ho HB
    obtain ⟨k, hk, rfl, hw, ho, HB⟩ := hrel
    by_cases hlt : k < n
    · have hlt2 : (k : Int) < (n : Int) := by omega
      go_wp2_with fail
      obtain ⟨wo, hwo⟩ : ∃ wo, wo = wr := ⟨_, rfl⟩
      subst hwo
      go_loopw [10] (fun i wr => ∃ j : Nat, j ≤ n ∧ i = .int .i64 (j : Int) ∧ (∀ x, x < n → wr.cell? ⟨b, x, none⟩ = some (.int .i64 ((l.getD x 0 : Nat) : Int))) ∧ (∀ x, x < n → wr.cell? ⟨g, x, none⟩ = some (.int .i64 ((f x : Nat) : Int))) ∧ Below w.heap.size w wr) (fun i _ => n - (intOf i).toNat)
      case atStart => exact ⟨0, by omega, rfl, hw, ho, HB⟩
      case round =>
        clear hw ho HB
        obtain ⟨j, hj, rfl, hw, ho, HB⟩ := hrel
        by_cases hlt3 : j < n
        · have hlt4 : (j : Int) < (n : Int) := by omega
          have c1 := hw k hlt
          have c2 := hw j hlt3
          have c3 := ho k hlt
          have c4 := ho j hlt3
          have hr := hris k j hlt hlt3
          have HW := Lib.hid hw
          have HO := Lib.hid ho
          clear hw ho hris
          generalize l.getD k 0 = x at c1 c2 c3 c4 hr
          generalize l.getD j 0 = y at c1 c2 c3 c4 hr
          generalize f k = u at c1 c2 c3 c4 hr
          generalize f j = v at c1 c2 c3 c4 hr
          by_cases g1 : y < x
          · have d1 : decide (y < x) = true := decide_eq_true g1
            have d2 : decide (u < v) = false := decide_eq_false (hr (.inl g1))
            clear hr g1
            go_wp2_with fail
            go_big_region
            go_wp2
            go_roundw
            case rel => exact ⟨j + 1, by omega, by go_num, HW.out, HO.out, Below.drew HB⟩
            case measure => simp [intOf]; omega
          · have d1 : decide (y < x) = false := decide_eq_false g1
            by_cases g2 : x = y
            · subst g2
              by_cases g3 : k < j
              · have d2 : decide (u < v) = false := decide_eq_false (hr (.inr ⟨rfl, g3⟩))
                have d3 : decide (k < j) = true := decide_eq_true g3
                clear hr g1 g3
                go_wp2_with fail
                go_big_region
                go_wp2
                go_roundw
                case rel => exact ⟨j + 1, by omega, by go_num, HW.out, HO.out, Below.drew HB⟩
                case measure => simp [intOf]; omega
              · have d3 : decide (k < j) = false := decide_eq_false g3
                clear hr g1 g3
                go_wp2_with fail
                go_big_region
                go_wp2
                go_roundw
                case rel => exact ⟨j + 1, by omega, by go_num, HW.out, HO.out, Below.drew HB⟩
                case measure => simp [intOf]; omega
            · have d2 : decide (x = y) = false := decide_eq_false g2
              have d4 : ((x : Int) == (y : Int)) = false := by simp; omega
              clear hr g1
              go_wp2_with fail
              go_big_region
              go_wp2
              go_roundw
              case rel => exact ⟨j + 1, by omega, by go_num, HW.out, HO.out, Below.drew HB⟩
              case measure => simp [intOf]; omega
        · obtain rfl : j = n := by omega
          have HW := Lib.hid hw
          have HO := Lib.hid ho
          clear hw ho hris
          go_wp2
          go_roundw
          case rel => exact ⟨k + 1, by omega, by go_num, HW.out, HO.out, HB⟩
          case measure => simp [intOf]; omega
    · obtain rfl : k = n := by omega
      clear hw ho hris
      go_wp2
      go_ret
      exact ⟨rfl, HB⟩
end Go.Proofs.Ytfcgpgfghidajaa
