/- The walk of the law CodeSlip. -/
import Derived.Test.YtakdjggpengbhaaDoorWCodeBack
namespace Go.Proofs.YtakdjggpengbhaaDoor
open Go.RowKit
set_option linter.unusedVariables false
theorem tab_codeSlip {w : World} (hL : laidMetH Tryd.prog Rows.codeSlipRow.laid w) : TabOk w := by
  have h : laidMet Tryd.prog Rows.codeSlipRow.laid w := by
    rw [← MakeChecks.laidMetH_plain _ _ _ (by kernel_rfl)]; exact hL
  have h2 := laid_tail (laid_tail h)
  exact Lib.tabBelow_of_tabIs (Lib.tabIs_of_head (g := 5) (by kernel_rfl) (by kernel_rfl) Tryd.underlying197 Tryd.underlying32 (by kernel_rfl) (by kernel_rfl) h2)
/-- The other text is as the first one, or it is told. -/
def TwoTexts (w : World) (T S : ByteArray) : Prop := ∃ (c : Nat) (a0 a1 a2 : Int), (T = S ∧ c = 0 ∨ T ≠ S ∧ c = 8) ∧ ∀ W, Calls Tryd.prog 16 #[.string T] W fun e w' => e = .returned (.tuple #[.agg #[.int .i64 a0, .int .i64 a1, .int .i64 a2], .int .i64 (c : Int)]) ∧ Below W.heap.size W w'
set_option maxRecDepth 100000 in
set_option maxHeartbeats 4000000 in
theorem walk_codeSlip (w : World) (a0 : Value) (w0 : Fit Tryd.prog w 31 a0) (a1 : Int) (w1 : (Lit.int .i64 a1).wf = true) (a2 : Int) (w2 : (Lit.int .i64 a2).wf = true) (a3 : Int) (w3 : (Lit.int .i64 a3).wf = true) (hL : laidMetH Tryd.prog Rows.codeSlipRow.laid w) :
    Calls Tryd.prog 5 #[a0, .int .i64 a1, .int .i64 a2, .int .i64 a3] w fun e w' => e = .returned (.bool true) ∧ Below w.heap.size w w' := by
  have ht := tab_codeSlip hL
  clear hL
  obtain ⟨a, b, c, d, rfl, wa, wb, wc, wd⟩ := new_came w0
  obtain ⟨me, hme, hm1⟩ := pk_nat a 50 (by omega)
  obtain ⟨rev, hrev, hr1⟩ := pk_nat b 16 (by omega)
  obtain ⟨cr, hcr, hc1⟩ := pk_int c 100000000 (by omega)
  obtain ⟨bad, hbad, hb1⟩ := pk_nat d 5 (by omega)
  obtain ⟨far, hfar, hf1⟩ := pk_nat a3 3 (by omega)
  obtain ⟨cr, rfl⟩ : ∃ n : Nat, cr = (n : Int) := ⟨cr.toNat, by omega⟩
  have hN := fun W => newm_ok a b c d W me rev cr bad wa wb wc wd hme hrev hcr hbad
  unfold mtr at hN
  have hlt := code_lt (me := me) (cr := cr) (H := 0) (by omega) (by omega) (by omega)
  have hC := fun W ht => code_ok me rev cr 0 0 bad 0 W (by omega) (by omega) (by omega) (by decide) (new_meter_may (by omega) (by omega) (by omega) (by omega) (.inl ⟨rfl, rfl⟩)) ht
  simp only [Int.cast_ofNat_Int] at hC
  have hLe := pad_le 18 (codeV me cr 0)
  have hLl := pad_len hlt (by omega)
  have hLv := val10_pad 18 (codeV me cr 0)
  have hLz := code_rest 18 me cr 0
  obtain ⟨L, hLL⟩ : ∃ L, pad 18 (codeV me cr 0) = L := ⟨_, rfl⟩
  rw [hLL] at hC hLe hLl hLv hLz
  have hG := fun W => codeRead_good L me cr 0 W (by omega) (by omega) (by omega) hLe hLl hLv
  simp only [Int.cast_ofNat_Int] at hG
  have hTwo : ∀ T : List Nat, (∀ d ∈ T, d ≤ 9) → T.length = 18 → (rest97 T = 0 → T = L) → TwoTexts w (dstr T) (dstr L) := by
    intro T hT9 hTl hTz
    by_cases hz : rest97 T = 0
    · rw [hTz hz]
      exact ⟨0, _, _, _, .inl ⟨rfl, rfl⟩, hG⟩
    · refine ⟨8, _, _, _, .inr ⟨fun h => hz ?_, rfl⟩, fun W => codeRead_bad T W hT9 hTl hz⟩
      rw [dstr_inj hT9 hLe h]; exact hLz
  have hSl := fun W => slipped_ok L a1 a2 W (by omega) (by omega) hLe w1 w2
  have hSw := fun W h1 => swapped_ok L a1 far W h1 (by omega) (by omega) w1
  have hsz := dstr_size L
  rw [hLl] at hsz
  have HL := Lib.hid hLl
  have HZ := Lib.hid hLz
  have HLE := Lib.hid hLe
  clear hLL hLl hLz hLv hme hrev hcr hbad wa wb wc wd w0 hlt hG hLe
  have HM := Mem.init w
  obtain ⟨W0, hW0⟩ : ∃ W0, (w).alloc (.cells #[.int .i64 a, .int .i64 b, .int .i64 c, .int .i64 d] 31) = W0 := ⟨_, rfl⟩
  replace HM : Mem (w) [] _ [.blk (w.heap.size) 31 #[.int .i64 a, .int .i64 b, .int .i64 c, .int .i64 d]] := Mem.alloc HM (w.heap.size) (by first | (simp; done) | (simp; omega)) #[.int .i64 a, .int .i64 b, .int .i64 c, .int .i64 d] 31
  rw [hW0] at HM
  have nn0 : (W0).cell? ⟨w.heap.size, 0, none⟩ = some (.int .i64 a) := (HM.blk 0 rfl).cell 0
  have nnf0 : (W0).frozen? ⟨w.heap.size, 0, none⟩ = false := (HM.blk 0 rfl).frozen 0
  have nn1 : (W0).cell? ⟨w.heap.size, 1, none⟩ = some (.int .i64 b) := (HM.blk 0 rfl).cell 1
  have nnf1 : (W0).frozen? ⟨w.heap.size, 1, none⟩ = false := (HM.blk 0 rfl).frozen 1
  have nn2 : (W0).cell? ⟨w.heap.size, 2, none⟩ = some (.int .i64 c) := (HM.blk 0 rfl).cell 2
  have nnf2 : (W0).frozen? ⟨w.heap.size, 2, none⟩ = false := (HM.blk 0 rfl).frozen 2
  have nn3 : (W0).cell? ⟨w.heap.size, 3, none⟩ = some (.int .i64 d) := (HM.blk 0 rfl).cell 3
  have nnf3 : (W0).frozen? ⟨w.heap.size, 3, none⟩ = false := (HM.blk 0 rfl).frozen 3
  have nnlt : w.heap.size < (W0).heap.size := HM.lt 0 rfl
  go_enter Tryd.func5, Tryd.ntmps5
  go_wp2_with fail
  refine (hN _).mono ?_
  rintro e w4 ⟨rfl, hb4⟩
  replace HM : Mem (w) [] (w4) [.blk (w.heap.size) 31 #[.int .i64 a, .int .i64 b, .int .i64 c, .int .i64 d]] := Mem.call HM hb4
  have ht4 : TabOk w4 := ht.below HM.below
  clear hN hb4 hW0 ht
  go_wp2_with fail
  refine (hC _ ht4).mono ?_
  rintro e w5 ⟨rfl, hb5⟩
  replace HM : Mem (w) [] (w5) [.blk (w.heap.size) 31 #[.int .i64 a, .int .i64 b, .int .i64 c, .int .i64 d]] := Mem.call HM hb5
  clear hC hb5 ht4
  go_wp2_with fail
  refine (hSl _).mono ?_
  rintro e w6 ⟨i, dd, hi, hd9, hne, rfl, hb6⟩
  replace HM : Mem (w) [] (w6) [.blk (w.heap.size) 31 #[.int .i64 a, .int .i64 b, .int .i64 c, .int .i64 d]] := Mem.call HM hb6
  clear hSl hb6
  go_wp2_with fail
  refine (picked_is _ hfar w3 (by omega) (by omega)).mono ?_
  rintro e1 w9 ⟨rfl, rfl⟩
  clear hfar w3

  by_cases hp : 0 < far
  · have hpI : 0 < (far : Int) := by omega
    have hSwF := fun W => hSw W hp
    have hf3 : far = 1 ∨ far = 2 := by omega
    clear hSw hi hd9 hne hf1 hp
    go_wp2_with fail
    refine (hSwF _).mono ?_
    rintro e w7 ⟨j, hj, rfl, hb7⟩
    replace HM : Mem (w) [] (w7) [.blk (w.heap.size) 31 #[.int .i64 a, .int .i64 b, .int .i64 c, .int .i64 d]] := Mem.call HM hb7
    obtain ⟨cc, x0, x1, x2, hcc, hTr⟩ := hTwo (swp L j far) (fun x hx => HLE.out x (swp_mem hx)) (by rw [swp_length (by omega) hj, HL.out]) (fun hz => swap_rest HLE.out hf3 hj (by rw [hz]; exact HZ.out))
    obtain ⟨T, hT⟩ : ∃ T, dstr (swp L j far) = T := ⟨_, rfl⟩
    rw [hT] at hcc hTr ⊢
    have hq := str_beq T (dstr L)
    clear hb7 hSwF hTwo hT hj hf3
    go_wp2_with fail
    refine (hTr _).mono ?_
    rintro e w8 ⟨rfl, hb8⟩
    replace HM : Mem (w) [] (w8) [.blk (w.heap.size) 31 #[.int .i64 a, .int .i64 b, .int .i64 c, .int .i64 d]] := Mem.call HM hb8
    clear hTr hb8

    rcases hcc with ⟨h1, rfl⟩ | ⟨h1, rfl⟩
    · rw [decide_eq_true h1] at hq
      clear h1
      go_wp2
      obtain ⟨W7, hW7⟩ : ∃ W7, (w8).alloc (.cells #[.int .i64 x0, .int .i64 x1, .int .i64 x2] 40) = W7 := ⟨_, rfl⟩
      replace HM : Mem (w) [] _ [.blk (w.heap.size) 31 #[.int .i64 a, .int .i64 b, .int .i64 c, .int .i64 d], .blk (w8.heap.size) 40 #[.int .i64 x0, .int .i64 x1, .int .i64 x2]] := Mem.alloc HM (w8.heap.size) (by first | (simp; done) | (simp; omega)) #[.int .i64 x0, .int .i64 x1, .int .i64 x2] 40
      rw [hW7] at HM ⊢
      clear hW7
      go_ret
      exact ⟨rfl, HM.below⟩
    · skip
      rw [decide_eq_false h1] at hq
      clear h1
      go_wp2
      obtain ⟨W7, hW7⟩ : ∃ W7, (w8).alloc (.cells #[.int .i64 x0, .int .i64 x1, .int .i64 x2] 40) = W7 := ⟨_, rfl⟩
      replace HM : Mem (w) [] _ [.blk (w.heap.size) 31 #[.int .i64 a, .int .i64 b, .int .i64 c, .int .i64 d], .blk (w8.heap.size) 40 #[.int .i64 x0, .int .i64 x1, .int .i64 x2]] := Mem.alloc HM (w8.heap.size) (by first | (simp; done) | (simp; omega)) #[.int .i64 x0, .int .i64 x1, .int .i64 x2] 40
      rw [hW7] at HM ⊢
      clear hW7
      go_ret
      exact ⟨rfl, HM.below⟩
  · skip
    have hpI : ¬ 0 < (far : Int) := by omega
    have hz0 : (far : Int) = 0 := by omega
    obtain ⟨cc, x0, x1, x2, hcc, hTr⟩ := hTwo (L.set i dd) (set_le HLE.out hd9) (by rw [List.length_set, HL.out]) (fun hz => by
      obtain ⟨p, q, e1, e2⟩ := set_parts (d := dd) hi
      have hx9 := HLE.out L[i] (List.getElem_mem hi)
      have h := hz.trans HZ.out.symm
      rw [e2] at h
      generalize L[i] = x at *
      have h2 : rest97 (p ++ x :: q) = rest97 (p ++ dd :: q) := by rw [← e1]; exact h.symm
      exact absurd (rest97_slip hx9 hd9 h2).symm hne)
    obtain ⟨T, hT⟩ : ∃ T, dstr (L.set i dd) = T := ⟨_, rfl⟩
    rw [hT] at hcc hTr ⊢
    rw [hz0]
    have hq := str_beq T (dstr L)
    clear hTwo hT hi hd9 hne hSw hp hpI hz0 hf1
    go_wp2_with fail
    refine (hTr _).mono ?_
    rintro e w8 ⟨rfl, hb8⟩
    replace HM : Mem (w) [] (w8) [.blk (w.heap.size) 31 #[.int .i64 a, .int .i64 b, .int .i64 c, .int .i64 d]] := Mem.call HM hb8
    clear hTr hb8

    rcases hcc with ⟨h1, rfl⟩ | ⟨h1, rfl⟩
    · rw [decide_eq_true h1] at hq
      clear h1
      go_wp2
      obtain ⟨W7, hW7⟩ : ∃ W7, (w8).alloc (.cells #[.int .i64 x0, .int .i64 x1, .int .i64 x2] 40) = W7 := ⟨_, rfl⟩
      replace HM : Mem (w) [] _ [.blk (w.heap.size) 31 #[.int .i64 a, .int .i64 b, .int .i64 c, .int .i64 d], .blk (w8.heap.size) 40 #[.int .i64 x0, .int .i64 x1, .int .i64 x2]] := Mem.alloc HM (w8.heap.size) (by first | (simp; done) | (simp; omega)) #[.int .i64 x0, .int .i64 x1, .int .i64 x2] 40
      rw [hW7] at HM ⊢
      clear hW7
      go_ret
      exact ⟨rfl, HM.below⟩
    · skip
      rw [decide_eq_false h1] at hq
      clear h1
      go_wp2
      obtain ⟨W7, hW7⟩ : ∃ W7, (w8).alloc (.cells #[.int .i64 x0, .int .i64 x1, .int .i64 x2] 40) = W7 := ⟨_, rfl⟩
      replace HM : Mem (w) [] _ [.blk (w.heap.size) 31 #[.int .i64 a, .int .i64 b, .int .i64 c, .int .i64 d], .blk (w8.heap.size) 40 #[.int .i64 x0, .int .i64 x1, .int .i64 x2]] := Mem.alloc HM (w8.heap.size) (by first | (simp; done) | (simp; omega)) #[.int .i64 x0, .int .i64 x1, .int .i64 x2] 40
      rw [hW7] at HM ⊢
      clear hW7
      go_ret
      exact ⟨rfl, HM.below⟩
end Go.Proofs.YtakdjggpengbhaaDoor
