/- The walk of the law NumberSlip. -/
import Derived.Test.YtakdjggpengbhaaDoorReg
import Derived.Test.YtakdjggpengbhaaDoorRows
import Derived.MakeChecks
namespace Go.Proofs.YtakdjggpengbhaaDoor
open Go.RowKit
set_option linter.unusedVariables false
theorem slip_bad {L : List Nat} (hd : ∀ d ∈ L, d ≤ 9) (hz : allD L 0 = 0) {i d : Nat} (hi : i < L.length) (hd9 : d ≤ 9) (hne : d ≠ L[i]) : ¬ allD (L.set i d) 0 = 0 := by
  obtain ⟨p, q, e1, e2⟩ := set_parts (d := d) hi
  intro h
  have h := h.trans hz.symm
  rw [e2] at h
  generalize L[i] = x at *
  rw [e1] at h hd
  exact hne (allD_slip hd hd9 h.symm).symm
theorem swap_zero {L : List Nat} (hd : ∀ d ∈ L, d ≤ 9) (hz : allD L 0 = 0) {i : Nat} (hi : i + 1 < L.length) (h : allD (swp L i 1) 0 = 0) : swp L i 1 = L := by
  obtain ⟨p, x, y, q, e1, e2, _⟩ := swp_one hi
  have h := h.trans hz.symm
  rw [e2] at h ⊢
  rw [e1] at h hd ⊢
  rw [allD_swap hd h.symm]
theorem tab_number {w : World} (hL : laidMetH Tryd.prog Rows.numberSlipRow.laid w) : TabOk w := by
  have h : laidMet Tryd.prog Rows.numberSlipRow.laid w := by
    rw [← MakeChecks.laidMetH_plain _ _ _ (by kernel_rfl)]; exact hL
  have h2 := laid_tail (laid_tail h)
  exact Lib.tabBelow_of_tabIs (Lib.tabIs_of_head (g := 5) (by kernel_rfl) (by kernel_rfl) Tryd.underlying197 Tryd.underlying32 (by kernel_rfl) (by kernel_rfl) h2)
set_option maxRecDepth 100000 in
set_option maxHeartbeats 2000000 in
theorem walk_numberSlip (w : World) (a0 : Int) (w0 : (Lit.int .i64 a0).wf = true) (a1 : Int) (w1 : (Lit.int .i64 a1).wf = true) (a2 : Int) (w2 : (Lit.int .i64 a2).wf = true) (a3 : Bool) (hL : laidMetH Tryd.prog Rows.numberSlipRow.laid w) :
    Calls Tryd.prog 3 #[.int .i64 a0, .int .i64 a1, .int .i64 a2, .bool a3] w fun e w' => e = .returned (.bool true) ∧ Below w.heap.size w w' := by
  have ht := tab_number hL
  obtain ⟨me, hme, m1⟩ := pk_nat a0 50 (by omega)
  have hN := number_ok me w (by omega) ht
  have hLe := numD_le me
  have hLl := numD_len (me := me) (by omega)
  have hLz := numD_zero me
  have hLv := numD_val (me := me) (by omega)
  obtain ⟨L, hLL⟩ : ∃ L, numD me = L := ⟨_, rfl⟩
  rw [hLL] at hN hLe hLl hLz hLv
  have hG := fun W => regmeter_good L me W hLe hLl hLz hLv (by omega)
  have hSl := fun W => slipped_ok L a1 a2 W (by omega) (by omega) hLe w1 w2
  have hSw := fun W => swapped_ok L a1 1 W (by omega) (by omega) (by omega) w1
  have hsz := dstr_size L
  have hbq := str_beq (dstr L) (dstr L)
  rw [hLl] at hsz
  have HL := Lib.hid hLl
  have HZ := Lib.hid hLz
  clear hLL hL ht hLl hLz hLv
  have H := Mem.init w
  go_enter Tryd.func3, Tryd.ntmps3
  go_wp2_with fail
  refine (picked_is _ hme w0 (by omega) (by omega)).mono ?_
  rintro e1 w9 ⟨rfl, rfl⟩
  go_wp2_with fail
  refine hN.mono ?_
  rintro e wa ⟨rfl, hba⟩
  replace H : Mem (w) [] (wa) [] := Mem.call H hba
  clear hN hba
  go_wp2_with fail
  refine (hG _).mono ?_
  rintro e wb ⟨rfl, hbb⟩
  replace H : Mem (w) [] (wb) [] := Mem.call H hbb
  clear hbb
  go_wp2_with fail
  refine (hSl _).mono ?_
  rintro e wc ⟨i, d, hi, hd9, hne, rfl, hbc⟩
  replace H : Mem (w) [] (wc) [] := Mem.call H hbc
  clear hbc hSl

  cases a3 with
  | false =>
    have hbad := slip_bad hLe HZ.out hi hd9 hne
    have hB := fun W => regmeter_bad (L.set i d) W (set_le hLe hd9) (by rw [List.length_set, HL.out]) hbad
    have hq : ((dstr (L.set i d)).toList == (dstr L).toList) = false := by
      rw [str_beq]
      simp only [decide_eq_false_iff_not]
      intro h
      rw [dstr_inj (set_le hLe hd9) hLe h] at hbad
      exact hbad HZ.out
    obtain ⟨T, hT⟩ : ∃ T, dstr (L.set i d) = T := ⟨_, rfl⟩
    rw [hT] at hB hq ⊢
    clear hT hbad hne hd9 hi hG hSw
    go_wp2_with fail
    refine (hB _).mono ?_
    rintro e wd ⟨rfl, hbd⟩
    replace H : Mem (w) [] (wd) [] := Mem.call H hbd
    clear hbd hB
    go_wp2_with fail
    refine (picked_is _ hme w0 (by omega) (by omega)).mono ?_
    rintro e1 w9 ⟨rfl, rfl⟩
    go_wp2
    go_ret
    exact ⟨rfl, H.below⟩
  | true =>
    skip
    clear hne hd9 hi
    go_wp2_with fail
    refine (hSw _).mono ?_
    rintro e wd ⟨i, hi, rfl, hbd⟩
    replace H : Mem (w) [] (wd) [] := Mem.call H hbd
    clear hbd hSw

    by_cases hz : allD (swp L i 1) 0 = 0
    · rw [swap_zero hLe HZ.out hi hz]
      have hq : ((dstr L).toList == (dstr L).toList) = true := by simp
      clear hz hi
      go_wp2_with fail
      refine (hG _).mono ?_
      rintro e we ⟨rfl, hbe⟩
      replace H : Mem (w) [] (we) [] := Mem.call H hbe
      clear hbe hG
      go_wp2_with fail
      refine (picked_is _ hme w0 (by omega) (by omega)).mono ?_
      rintro e1 w9 ⟨rfl, rfl⟩
      go_wp2
      go_ret
      exact ⟨rfl, H.below⟩
    · skip
      have hle : ∀ x ∈ swp L i 1, x ≤ 9 := fun x hx => hLe x (swp_mem hx)
      have hB := fun W => regmeter_bad (swp L i 1) W hle (by rw [swp_length (by omega) hi, HL.out]) hz
      have hq : ((dstr (swp L i 1)).toList == (dstr L).toList) = false := by
        rw [str_beq]
        simp only [decide_eq_false_iff_not]
        intro h
        rw [dstr_inj hle hLe h] at hz
        exact hz HZ.out
      obtain ⟨T, hT⟩ : ∃ T, dstr (swp L i 1) = T := ⟨_, rfl⟩
      rw [hT] at hB hq ⊢
      clear hT hz hi hG hle
      go_wp2_with fail
      refine (hB _).mono ?_
      rintro e we ⟨rfl, hbe⟩
      replace H : Mem (w) [] (we) [] := Mem.call H hbe
      clear hbe hB
      go_wp2_with fail
      refine (picked_is _ hme w0 (by omega) (by omega)).mono ?_
      rintro e1 w9 ⟨rfl, rfl⟩
      go_wp2
      go_ret
      exact ⟨rfl, H.below⟩
end Go.Proofs.YtakdjggpengbhaaDoor
