/- The walk of the law PocketForged. -/
import Derived.Test.YtopnlkhepjbjkaaDoorG32
import Derived.Test.YtopnlkhepjbjkaaDoorG33
import Derived.Test.YtopnlkhepjbjkaaDoorG2
import Derived.Test.YtopnlkhepjbjkaaDoorG3
namespace Go.Proofs.YtopnlkhepjbjkaaDoor
open Go.RowKit
set_option linter.unusedVariables false
set_option maxRecDepth 100000 in
set_option maxHeartbeats 8000000 in
theorem walk_pocketForged (w : World) (a0 : Int) (w0 : (Lit.int .i64 a0).wf = true) (a1 : Value) (w1 : Fit Tryd.prog w 22 a1) :
    Calls Tryd.prog 3 #[.int .i64 a0, a1] w fun e w' => e = .returned (.bool true) ∧ Below w.heap.size w w' := by
  obtain ⟨L, A, cc, rfl, hLm, hrd⟩ := texts_fit w1
  have hLl : L.length ≤ 9223372036854775807 := by unfold maxLen at hLm; omega
  obtain ⟨me, hme, m1⟩ := pk_nat a0 50 (by omega)
  have hMk := fun W => pmake_ok me W m1
  have hS0 := make_sl (mws me 0 0 0 0 0 0) 5 rfl
  obtain ⟨C0, hC0⟩ : ∃ C, (1 :: mws me 0 0 0 0 0 0) ++ (0 :: List.replicate 5 0) = C := ⟨_, rfl⟩
  rw [hC0] at hMk hS0
  clear w1 hC0 hLm
  go_enter Tryd.func3, Tryd.ntmps3
  go_wp2_with fail
  refine (picked_is _ hme w0 (by omega) (by omega)).mono ?_
  rintro e w9 ⟨rfl, rfl⟩
  go_wp2_with fail
  refine (hMk _).mono ?_
  rintro e wa ⟨cv, rfl, hcv, hba⟩
  clear hMk
  go_wp2_with fail
  go_loopw [5, 7] (fun y i wr => ∃ (k : Nat) (C : List Nat) (bad lock s : Nat) (x : Value), k ≤ L.length ∧ k ≤ 100 ∧ i = .int .i64 (k : Int) ∧ x = y ∧ IsWs wr x C ∧ IsSl C 5 (mws me 0 0 0 0 bad lock) s ∧ (bad < 5 ∧ lock ≤ 30 ∧ ¬ (0 < bad ∧ 0 < lock)) ∧ Below w.heap.size w wr) (fun _ i _ => 100 - (intOf i).toNat)
  case atStart => exact ⟨0, C0, 0, 0, 0, _, by omega, by omega, rfl, rfl, hcv, hS0, by omega, hba⟩
  case round =>
    obtain ⟨k, C, bad, lock, s, x, hk, hk100, rfl, rfl, hx, hS, hbl, hbr⟩ := hrel
    have hm : mmay ((me : Nat) : Int) ((0 : Nat) : Int) ((0 : Nat) : Int) ((0 : Nat) : Int) 0 ((bad : Nat) : Int) ((lock : Nat) : Int) = true := may_of m1 (by omega) (by omega) hbl.1 hbl.2.1 hbl.2.2 (.inl ⟨rfl, rfl⟩)
    by_cases hlt : k < L.length ∧ k < 100
    · obtain ⟨hlt, hlt100⟩ := hlt
      obtain ⟨bk, off, rfl, hB, hcell⟩ := hrd.at_ (by omega)
      have q1 : wr.cell? ⟨bk, off + k, none⟩ = some (.string L[k]) := (hbr.cell (p := ⟨bk, off + k, none⟩) hB).trans (hcell k _ (by rw [List.getElem?_map, List.getElem?_eq_getElem hlt]; rfl))
      have hBlt : bk < wr.heap.size := Nat.lt_of_lt_of_le hB hbr.size
      obtain ⟨S, hSS⟩ : ∃ S, L[k] = S := ⟨_, rfl⟩
      rw [hSS] at q1
      obtain ⟨c, i, a, t, E, hEt, hP⟩ := parse_any S
      have g1 : (k : Int) < (L.length : Int) := by omega
      have g2 : (k : Int) < 100 := by omega
      clear hcell hrd hSS
      by_cases hE : E = 0
      · subst hE
        have hk' := hEt rfl
        clear hEt
        rcases keyS_nil (me := me) (rev := 0) (cr := 0) (H := 0) (B := 0) (bad := bad) (lock := lock) (cls := c) (id := i) (am := a) (tag := t) with h | h | ⟨h, hne, hl0⟩
        · have hKy := fun W h1 => keyed_ok x (.slice none 0 0) C [] S me 0 0 0 0 bad lock s c i a t 0 0 0 0 bad lock 0 10 W h1 (isps_nil W) ook_nil hS (by decide) hm hk' hP (Lib.hid h) (by decide)
          rw [pkW_same] at hKy
          unfold RetKeyed at hKy
          simp only [Int.cast_ofNat_Int] at hKy
          clear hP h hk' hm
          go_wp2_with fail
          refine (hKy _ hx).mono ?_
          rintro e wb ⟨u, rfl, hu, hbb⟩
          obtain ⟨A2, c2, rfl, _, _, _, _⟩ := hu
          clear hKy
          go_wp2
          go_roundw
          case rel => exact ⟨k + 1, C, bad, lock, s, _, by omega, by omega, by go_num, rfl, hx.below hbb, hS, hbl, hbr.step hbb⟩
          case measure => (simp [intOf]; try omega)
        · have hKy := fun W h1 => keyed_ok x (.slice none 0 0) C [] S me 0 0 0 0 bad lock s c i a t 0 0 0 0 bad lock 0 0 W h1 (isps_nil W) ook_nil hS (by decide) hm hk' hP (Lib.hid h) (by decide)
          rw [pkW_same] at hKy
          unfold RetKeyed at hKy
          simp only [Int.cast_ofNat_Int] at hKy
          clear hP h hk' hm
          go_wp2_with fail
          refine (hKy _ hx).mono ?_
          rintro e wb ⟨u, rfl, hu, hbb⟩
          obtain ⟨A2, c2, rfl, _, _, _, _⟩ := hu
          clear hKy
          go_wp2
          go_roundw
          case rel => exact ⟨k + 1, C, bad, lock, s, _, by omega, by omega, by go_num, rfl, hx.below hbb, hS, hbl, hbr.step hbb⟩
          case measure => (simp [intOf]; try omega)
        · obtain ⟨d2, k2, hbs⟩ : ∃ d2 k2, badS 12 bad lock = (d2, k2) := ⟨_, _, rfl⟩
          have hbl2 := badS_ok hbl.1 hl0
          rw [hbs] at h hne hbl2
          dsimp only at h hne hbl2
          have hKy := fun W h1 => keyed_ok x (.slice none 0 0) C [] S me 0 0 0 0 bad lock s c i a t 0 0 0 0 d2 k2 0 12 W h1 (isps_nil W) ook_nil hS (by decide) hm hk' hP (Lib.hid h) (by decide)
          rw [pkW_diff (fun hh => hne ⟨hh.2.2.2.2.1.symm, hh.2.2.2.2.2.symm⟩)] at hKy
          unfold RetKeyed at hKy
          simp only [Int.cast_ofNat_Int] at hKy
          obtain ⟨hP1, hP2⟩ := slW_ok hS (mws_len me 0 0 0 0 d2 k2)
          have hS2 := sl_all hS (mws_len me 0 0 0 0 d2 k2)
          have hCl := hS.len
          obtain ⟨P, hPP⟩ : ∃ P, slW C 5 (mws me 0 0 0 0 d2 k2) s = P := ⟨_, rfl⟩
          rw [hPP] at hKy hP1 hP2 hS2
          have n0 : ((P.length : Int) == 0) = false := by rw [hP2]; decide
          have n1 : ¬ (P.length : Int) = 0 := by omega
          have hA := fun u W h3 h4 => apply_ok x u C P P.length W h3 h4 (by omega) (by omega) (by omega) hP1 (Nat.le_refl _)
          rw [List.take_length] at hA
          have HS2 := Lib.hid hS2
          have HB2 := Lib.hid hbl2
          clear hP h hk' hm hne hl0 hbs hbl2 hPP hP1 hP2 hS2 hCl hS hbl
          go_wp2_with fail
          refine (hKy _ hx).mono ?_
          rintro e wb ⟨u, rfl, hu, hbb⟩
          have hu0 := hu
          obtain ⟨A2, c2, rfl, _, _, _, _⟩ := hu
          clear hKy
          go_wp2_with fail
          refine (hA _ _ (hx.below hbb) hu0).mono ?_
          rintro e wd ⟨dv, rfl, hdv, hbd⟩
          clear hA
          go_wp2
          go_roundw
          case rel => exact ⟨k + 1, _, d2, k2, 1 - s, _, by omega, by omega, by go_num, rfl, hdv, HS2.out, HB2.out, hbr.step (hbb.step hbd)⟩
          case measure => (simp [intOf]; try omega)
      · have hKy := fun W h1 => keyed_err x (.slice none 0 0) C S me 0 0 0 0 bad lock s c i a t E W h1 hS (by decide) hm hE hP
        unfold RetKeyed at hKy
        simp only [Int.cast_ofNat_Int] at hKy
        clear hP hm hE hEt
        go_wp2_with fail
        refine (hKy _ hx).mono ?_
        rintro e wb ⟨u, rfl, hu, hbb⟩
        obtain ⟨A2, c2, rfl, _, _, _, _⟩ := hu
        clear hKy
        go_wp2
        go_roundw
        case rel => exact ⟨k + 1, C, bad, lock, s, _, by omega, by omega, by go_num, rfl, hx.below hbb, hS, hbl, hbr.step hbb⟩
        case measure => (simp [intOf]; try omega)
    · have hlt1 : ((k : Int) < (L.length : Int) ∧ ¬ (k : Int) < 100) ∨ ¬ (k : Int) < (L.length : Int) := by omega
      have hBt := fun W h => boot_ok x C me 0 0 0 0 bad lock s W h hS (by decide) hm
      simp only [Int.cast_ofNat_Int] at hBt
      have hWe := fun W => win_eql 0 0 0 0 W
      have K1 : (1 : Int) ≤ 50 := by omega
      have K2 : (50 : Int) ≤ 9223372036854775807 := by omega
      clear hrd hm hS hbl hlt m1 hLl hk hk100
      have HM := Mem.init wr

      rcases hlt1 with ⟨g1, g2⟩ | g1
      · skip
        go_wp2_with fail
        refine (hBt _ hx).mono ?_
        rintro e wb ⟨rfl, hbb⟩
        replace HM : Mem (wr) [] (wb) [] := Mem.call HM hbb
        clear hBt hbb g1 g2
        go_wp2_with fail
        obtain ⟨Wd, hWd⟩ : ∃ Wd, (wb).alloc (.cells #[.int .i64 (me : Int), .int .i64 0, .int .i64 0, .int .i64 0, .int .u64 0, .int .i64 (bad : Int), .int .i64 (lock : Int)] 39) = Wd := ⟨_, rfl⟩
        replace HM : Mem (wr) [] _ [.blk (wb.heap.size) 39 #[.int .i64 (me : Int), .int .i64 0, .int .i64 0, .int .i64 0, .int .u64 0, .int .i64 (bad : Int), .int .i64 (lock : Int)]] := Mem.alloc HM (wb.heap.size) (by first | (simp; done) | (simp; omega)) #[.int .i64 (me : Int), .int .i64 0, .int .i64 0, .int .i64 0, .int .u64 0, .int .i64 (bad : Int), .int .i64 (lock : Int)] 39
        rw [hWd] at HM ⊢
        clear hWd
        have nw0 : (Wd).cell? ⟨wb.heap.size, 0, none⟩ = some (.int .i64 (me : Int)) := (HM.blk 0 rfl).cell 0
        have nwf0 : (Wd).frozen? ⟨wb.heap.size, 0, none⟩ = false := (HM.blk 0 rfl).frozen 0
        have nw1 : (Wd).cell? ⟨wb.heap.size, 1, none⟩ = some (.int .i64 0) := (HM.blk 0 rfl).cell 1
        have nwf1 : (Wd).frozen? ⟨wb.heap.size, 1, none⟩ = false := (HM.blk 0 rfl).frozen 1
        have nw2 : (Wd).cell? ⟨wb.heap.size, 2, none⟩ = some (.int .i64 0) := (HM.blk 0 rfl).cell 2
        have nwf2 : (Wd).frozen? ⟨wb.heap.size, 2, none⟩ = false := (HM.blk 0 rfl).frozen 2
        have nw3 : (Wd).cell? ⟨wb.heap.size, 3, none⟩ = some (.int .i64 0) := (HM.blk 0 rfl).cell 3
        have nwf3 : (Wd).frozen? ⟨wb.heap.size, 3, none⟩ = false := (HM.blk 0 rfl).frozen 3
        have nw4 : (Wd).cell? ⟨wb.heap.size, 4, none⟩ = some (.int .u64 0) := (HM.blk 0 rfl).cell 4
        have nwf4 : (Wd).frozen? ⟨wb.heap.size, 4, none⟩ = false := (HM.blk 0 rfl).frozen 4
        have nw5 : (Wd).cell? ⟨wb.heap.size, 5, none⟩ = some (.int .i64 (bad : Int)) := (HM.blk 0 rfl).cell 5
        have nwf5 : (Wd).frozen? ⟨wb.heap.size, 5, none⟩ = false := (HM.blk 0 rfl).frozen 5
        have nw6 : (Wd).cell? ⟨wb.heap.size, 6, none⟩ = some (.int .i64 (lock : Int)) := (HM.blk 0 rfl).cell 6
        have nwf6 : (Wd).frozen? ⟨wb.heap.size, 6, none⟩ = false := (HM.blk 0 rfl).frozen 6
        have nwlt : wb.heap.size < (Wd).heap.size := HM.lt 0 rfl
        go_quiet ((go_at_call 8; exact Calls.quiet_of_same ((picked_is _ hme w0 K1 K2).mono fun _ _ h => ⟨h.1, h.2.symm⟩)))
        go_wp2
        go_ret
        exact ⟨rfl, below_draws (hbr.step HM.below) _⟩
      · skip
        go_wp2_with fail
        refine (hBt _ hx).mono ?_
        rintro e wb ⟨rfl, hbb⟩
        replace HM : Mem (wr) [] (wb) [] := Mem.call HM hbb
        clear hBt hbb g1
        go_wp2_with fail
        obtain ⟨Wd, hWd⟩ : ∃ Wd, (wb).alloc (.cells #[.int .i64 (me : Int), .int .i64 0, .int .i64 0, .int .i64 0, .int .u64 0, .int .i64 (bad : Int), .int .i64 (lock : Int)] 39) = Wd := ⟨_, rfl⟩
        replace HM : Mem (wr) [] _ [.blk (wb.heap.size) 39 #[.int .i64 (me : Int), .int .i64 0, .int .i64 0, .int .i64 0, .int .u64 0, .int .i64 (bad : Int), .int .i64 (lock : Int)]] := Mem.alloc HM (wb.heap.size) (by first | (simp; done) | (simp; omega)) #[.int .i64 (me : Int), .int .i64 0, .int .i64 0, .int .i64 0, .int .u64 0, .int .i64 (bad : Int), .int .i64 (lock : Int)] 39
        rw [hWd] at HM ⊢
        clear hWd
        have nw0 : (Wd).cell? ⟨wb.heap.size, 0, none⟩ = some (.int .i64 (me : Int)) := (HM.blk 0 rfl).cell 0
        have nwf0 : (Wd).frozen? ⟨wb.heap.size, 0, none⟩ = false := (HM.blk 0 rfl).frozen 0
        have nw1 : (Wd).cell? ⟨wb.heap.size, 1, none⟩ = some (.int .i64 0) := (HM.blk 0 rfl).cell 1
        have nwf1 : (Wd).frozen? ⟨wb.heap.size, 1, none⟩ = false := (HM.blk 0 rfl).frozen 1
        have nw2 : (Wd).cell? ⟨wb.heap.size, 2, none⟩ = some (.int .i64 0) := (HM.blk 0 rfl).cell 2
        have nwf2 : (Wd).frozen? ⟨wb.heap.size, 2, none⟩ = false := (HM.blk 0 rfl).frozen 2
        have nw3 : (Wd).cell? ⟨wb.heap.size, 3, none⟩ = some (.int .i64 0) := (HM.blk 0 rfl).cell 3
        have nwf3 : (Wd).frozen? ⟨wb.heap.size, 3, none⟩ = false := (HM.blk 0 rfl).frozen 3
        have nw4 : (Wd).cell? ⟨wb.heap.size, 4, none⟩ = some (.int .u64 0) := (HM.blk 0 rfl).cell 4
        have nwf4 : (Wd).frozen? ⟨wb.heap.size, 4, none⟩ = false := (HM.blk 0 rfl).frozen 4
        have nw5 : (Wd).cell? ⟨wb.heap.size, 5, none⟩ = some (.int .i64 (bad : Int)) := (HM.blk 0 rfl).cell 5
        have nwf5 : (Wd).frozen? ⟨wb.heap.size, 5, none⟩ = false := (HM.blk 0 rfl).frozen 5
        have nw6 : (Wd).cell? ⟨wb.heap.size, 6, none⟩ = some (.int .i64 (lock : Int)) := (HM.blk 0 rfl).cell 6
        have nwf6 : (Wd).frozen? ⟨wb.heap.size, 6, none⟩ = false := (HM.blk 0 rfl).frozen 6
        have nwlt : wb.heap.size < (Wd).heap.size := HM.lt 0 rfl
        go_quiet ((go_at_call 8; exact Calls.quiet_of_same ((picked_is _ hme w0 K1 K2).mono fun _ _ h => ⟨h.1, h.2.symm⟩)))
        go_wp2
        go_ret
        exact ⟨rfl, below_draws (hbr.step HM.below) _⟩
end Go.Proofs.YtopnlkhepjbjkaaDoor
