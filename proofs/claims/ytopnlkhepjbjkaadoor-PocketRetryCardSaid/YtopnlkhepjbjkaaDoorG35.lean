/- vendmeterkeep.pocketAt: a meter's words at which tokens were sold and keyed. -/
import Derived.Test.YtopnlkhepjbjkaaDoorG21
import Derived.Test.YtopnlkhepjbjkaaDoorG32
import Derived.Test.YtopnlkhepjbjkaaDoorG33
import Derived.Test.YtopnlkhepjbjkaaDoorG34
import Derived.Test.YtopnlkhepjbjkaaDoorG25
import Derived.Test.YtopnlkhepjbjkaaDoorG2
namespace Go.Proofs.YtopnlkhepjbjkaaDoor
open Go.RowKit
set_option linter.unusedVariables false
/-- The answer of pocketAt. -/
def RetPAt (me : Nat) (f : Nat → Nat → Int) (k : Nat) (w : World) (e : Ending) (w' : World) : Prop :=
  ∃ (v : Value) (C : List Nat) (l : List Pr) (A : Option Addr) (c rev cr H b bad lock s : Nat), e = .returned (.tuple #[v, .agg #[.slice A l.length c], .bool true]) ∧ IsWs w' v C ∧ IsSl C 5 (mws me rev cr H b bad lock) s ∧ b < 2 ^ 64 ∧ mmay me rev cr H b bad lock = true ∧ OOk l ∧ l.length ≤ k ∧ Path me (rawsL f k) rev cr H b bad lock l ∧ w'.ownsRow w.heap.size 116 4 (.slice A l.length c) l.length (prs l) ∧ Below w.heap.size w w'
set_option maxRecDepth 100000 in
set_option maxHeartbeats 8000000 in
theorem pocketAt_ok (me n : Nat) (f : Nat → Nat → Int) (v : Value) (w : World) (h : me < 50) (hv : IsRows w v [.i64, .i64, .i64, .i64] n f) : Calls Tryd.prog 12 #[.int .i64 (me : Int), v] w (RetPAt me f (min n 12) w) := by
  have hMk := fun W => pmake_ok me W h
  have hS0 := make_sl (mws me 0 0 0 0 0 0) 5 rfl
  obtain ⟨C0, hC0⟩ : ∃ C, (1 :: mws me 0 0 0 0 0 0) ++ (0 :: List.replicate 5 0) = C := ⟨_, rfl⟩
  rw [hC0] at hMk hS0
  have hm0 : mmay ((me : Nat) : Int) ((0 : Nat) : Int) ((0 : Nat) : Int) ((0 : Nat) : Int) 0 ((0 : Nat) : Int) ((0 : Nat) : Int) = true := may_of h (by omega) (by omega) (by omega) (by omega) (by omega) (.inl ⟨rfl, rfl⟩)
  obtain ⟨N, hN⟩ : ∃ N, min n 12 = N := ⟨_, rfl⟩
  rw [hN]
  obtain ⟨A, c, rfl, hc1, hc2, hwf, hcell⟩ := hv
  have hnl : n ≤ 9223372036854775807 := by unfold maxLen at hc2; omega
  have HN := Lib.hid hN
  clear hC0 hc1 hc2 hN
  have HM := Mem.init w
  go_enter Tryd.func12, Tryd.ntmps12
  go_wp2_with fail
  obtain ⟨W0, hW0⟩ : ∃ W0, ((w).alloc (.cells #[.slice none 0 0] 33)).alloc (.cells #[.slice none 0 0] 33) = W0 := ⟨_, rfl⟩
  replace HM : Mem (w) [] _ [.blk (w.heap.size) 33 #[.slice none 0 0]] := Mem.alloc HM (w.heap.size) (by first | (simp; done) | (simp; omega)) #[.slice none 0 0] 33
  replace HM : Mem (w) [] _ [.blk (w.heap.size) 33 #[.slice none 0 0], .blk (w.heap.size + 1) 33 #[.slice none 0 0]] := Mem.alloc HM (w.heap.size + 1) (by first | (simp; done) | (simp; omega)) #[.slice none 0 0] 33
  rw [hW0] at HM
  refine (hMk _).mono ?_
  rintro e wa ⟨cv, rfl, hcv, hba⟩
  rw [hW0] at hba
  replace HM : Mem (w) [] (wa) [.blk (w.heap.size) 33 #[.slice none 0 0], .blk (w.heap.size + 1) 33 #[.slice none 0 0]] := Mem.call HM hba
  clear hMk hba hW0
  go_wp2_with fail
  replace HM : Mem (w) [] (wa) [.blk (w.heap.size) 33 #[.slice none 0 0], .blk (w.heap.size + 1) 33 #[.slice none 0 0], .row (wa.heap.size) (116) (4) (.slice none 0 0) (0) ([])] := Mem.nilrow HM _ _ _
  go_loopw [8, 10] (fun y i wr => ∃ (k : Nat) (x : Value) (C : List Nat) (l : List Pr) (A : Option Addr) (c rev cr H b bad lock s bs0 : Nat), k ≤ n ∧ k ≤ 12 ∧ i = .int .i64 (k : Int) ∧ x = y ∧ IsWs wr x C ∧ IsSl C 5 (mws me rev cr H b bad lock) s ∧ Hid (b < 2 ^ 64) ∧ Hid (mmay me rev cr H b bad lock = true) ∧ OOk l ∧ Hid (l.length ≤ k) ∧ Hid (Path me (rawsL f k) rev cr H b bad lock l) ∧ Mem w [] wr [.blk (w.heap.size) 33 #[.slice none 0 0], .blk (w.heap.size + 1) 33 #[.slice A l.length c], .row bs0 116 4 (.slice A l.length c) l.length (prs l)]) (fun _ i _ => 12 - (intOf i).toNat)
  case atStart => exact ⟨0, _, C0, [], none, 0, 0, 0, 0, 0, 0, 0, 0, _, by omega, by omega, rfl, rfl, hcv, hS0, Lib.hid (by decide), Lib.hid hm0, ook_nil, Lib.hid (Nat.le_refl _), Lib.hid Path.nil, HM⟩
  case round =>
    obtain ⟨k, x, C, l, A', c', rev, cr, H, b, bad, lock, s, bs0, hk, hk12, rfl, rfl, hx, hS, hb, hm, hO, hl, hPth, HM⟩ := hrel
    have HM : Mem (w) [] (wr) [.blk (w.heap.size) 33 #[.slice none 0 0], .blk (w.heap.size + 1) 33 #[.slice A' l.length c'], .row (bs0) (116) (4) (.slice A' l.length c') (l.length) (prs l)] := HM

    by_cases hlt : k < n ∧ k < 12
    · obtain ⟨hlt, hlt12⟩ := hlt
      obtain ⟨bk, off, rfl, hB, hcl⟩ := hcell (by omega)
      have z0 : wr.cell? ⟨bk, off + k * 4, none⟩ = some (.int .i64 (f k 0)) := (HM.below.cell (p := ⟨bk, off + k * 4, none⟩) hB).trans (by have := hcl k hlt 0 _ rfl; simpa using this)
      have z1 : wr.cell? ⟨bk, off + k * 4 + 1, none⟩ = some (.int .i64 (f k 1)) := (HM.below.cell (p := ⟨bk, off + k * 4 + 1, none⟩) hB).trans (by have := hcl k hlt 1 _ rfl; simpa [Nat.add_assoc] using this)
      have z2 : wr.cell? ⟨bk, off + k * 4 + 2, none⟩ = some (.int .i64 (f k 2)) := (HM.below.cell (p := ⟨bk, off + k * 4 + 2, none⟩) hB).trans (by have := hcl k hlt 2 _ rfl; simpa [Nat.add_assoc] using this)
      have z3 : wr.cell? ⟨bk, off + k * 4 + 3, none⟩ = some (.int .i64 (f k 3)) := (HM.below.cell (p := ⟨bk, off + k * 4 + 3, none⟩) hB).trans (by have := hcl k hlt 3 _ rfl; simpa [Nat.add_assoc] using this)
      have y0 := hwf k hlt 0 _ rfl
      have y1 := hwf k hlt 1 _ rfl
      have y2 := hwf k hlt 2 _ rfl
      have y3 := hwf k hlt 3 _ rfl
      have hBr : bk < wr.heap.size := Nat.lt_of_lt_of_le hB HM.below.size
      have hrw := rawsL_succ f k
      obtain ⟨f0, e0⟩ : ∃ z, f k 0 = z := ⟨_, rfl⟩
      obtain ⟨f1, e1⟩ : ∃ z, f k 1 = z := ⟨_, rfl⟩
      obtain ⟨f2, e2⟩ : ∃ z, f k 2 = z := ⟨_, rfl⟩
      obtain ⟨f3, e3⟩ : ∃ z, f k 3 = z := ⟨_, rfl⟩
      rw [e0] at z0 y0 hrw
      rw [e1] at z1 y1 hrw
      rw [e2] at z2 y2 hrw
      rw [e3] at z3 y3 hrw
      have HR := Lib.hid hrw
      obtain ⟨cls, hcls, hc4⟩ := pk_nat f0 4 (by omega)
      have g1 : (k : Int) < (n : Int) := by omega
      have g2 : (k : Int) < 12 := by omega
      obtain ⟨b1, b2, b3, b4, b5, b6, b7⟩ := may_bounds hb.out hm.out
      have hBt := fun W h => boot_ok x C me rev cr H b bad lock s W h hS hb.out hm.out
      have hSd := fun W h => vsoldV_ok (.slice A' l.length c') l me rev (cr : Int) (H : Int) (b : Int) (bad : Int) (lock : Int) f0 f1 f2 f3 cls W h hO (by have := hl.out; omega) b1 b2 y0 y1 y2 y3 hcls
      clear hcell hwf hcl y0 y1 y2 y3 e0 e1 e2 e3 hrw b1 b2 b3 b4 b5 b6 b7 hc4 h
      go_wp2_with fail
      refine (hBt _ hx).mono ?_
      rintro e wb ⟨rfl, hbb⟩
      have z0 := (hbb.cell (p := ⟨bk, off + k * 4, none⟩) hBr).trans z0
      have z1 := (hbb.cell (p := ⟨bk, off + k * 4 + 1, none⟩) hBr).trans z1
      have z2 := (hbb.cell (p := ⟨bk, off + k * 4 + 2, none⟩) hBr).trans z2
      have z3 := (hbb.cell (p := ⟨bk, off + k * 4 + 3, none⟩) hBr).trans z3
      replace hx := hx.below hbb
      have hBr := Nat.lt_of_lt_of_le hBr hbb.size
      replace HM : Mem (w) [] (wb) [.blk (w.heap.size) 33 #[.slice none 0 0], .blk (w.heap.size + 1) 33 #[.slice A' l.length c'], .row (bs0) (116) (4) (.slice A' l.length c') (l.length) (prs l)] := Mem.call HM hbb
      clear hbb hBt
      go_wp2_with fail
      obtain ⟨Wd, hWd⟩ : ∃ Wd, (wb).alloc (.cells #[.int .i64 (me : Int), .int .i64 (rev : Int), .int .i64 (cr : Int), .int .i64 (H : Int), .int .u64 (b : Int), .int .i64 (bad : Int), .int .i64 (lock : Int)] 39) = Wd := ⟨_, rfl⟩
      replace HM : Mem (w) [] _ [.blk (w.heap.size) 33 #[.slice none 0 0], .blk (w.heap.size + 1) 33 #[.slice A' l.length c'], .row (bs0) (116) (4) (.slice A' l.length c') (l.length) (prs l), .blk (wb.heap.size) 39 #[.int .i64 (me : Int), .int .i64 (rev : Int), .int .i64 (cr : Int), .int .i64 (H : Int), .int .u64 (b : Int), .int .i64 (bad : Int), .int .i64 (lock : Int)]] := Mem.alloc HM (wb.heap.size) (by first | (simp; done) | (simp; omega)) #[.int .i64 (me : Int), .int .i64 (rev : Int), .int .i64 (cr : Int), .int .i64 (H : Int), .int .u64 (b : Int), .int .i64 (bad : Int), .int .i64 (lock : Int)] 39
      rw [hWd] at HM ⊢
      have hWd1 := below_a1 wb (.cells #[.int .i64 (me : Int), .int .i64 (rev : Int), .int .i64 (cr : Int), .int .i64 (H : Int), .int .u64 (b : Int), .int .i64 (bad : Int), .int .i64 (lock : Int)] 39)
      rw [hWd] at hWd1
      have z0 := (hWd1.cell (p := ⟨bk, off + k * 4, none⟩) hBr).trans z0
      have z1 := (hWd1.cell (p := ⟨bk, off + k * 4 + 1, none⟩) hBr).trans z1
      have z2 := (hWd1.cell (p := ⟨bk, off + k * 4 + 2, none⟩) hBr).trans z2
      have z3 := (hWd1.cell (p := ⟨bk, off + k * 4 + 3, none⟩) hBr).trans z3
      have hBr := Nat.lt_of_lt_of_le hBr hWd1.size
      replace hx := hx.below hWd1
      have ho := isps_own (l := l) rfl (ook_wf hO) (HM.own_ 2 rfl)
      clear hWd hWd1
      have oo0 : (Wd).cell? ⟨w.heap.size + 1, 0, none⟩ = some (.slice A' l.length c') := (HM.blk 1 rfl).cell 0
      have oof0 : (Wd).frozen? ⟨w.heap.size + 1, 0, none⟩ = false := (HM.blk 1 rfl).frozen 0
      have oolt : w.heap.size + 1 < (Wd).heap.size := HM.lt 1 rfl
      have mt0 : (Wd).cell? ⟨wb.heap.size, 0, none⟩ = some (.int .i64 (me : Int)) := (HM.blk 3 rfl).cell 0
      have mtf0 : (Wd).frozen? ⟨wb.heap.size, 0, none⟩ = false := (HM.blk 3 rfl).frozen 0
      have mt1 : (Wd).cell? ⟨wb.heap.size, 1, none⟩ = some (.int .i64 (rev : Int)) := (HM.blk 3 rfl).cell 1
      have mtf1 : (Wd).frozen? ⟨wb.heap.size, 1, none⟩ = false := (HM.blk 3 rfl).frozen 1
      have mt2 : (Wd).cell? ⟨wb.heap.size, 2, none⟩ = some (.int .i64 (cr : Int)) := (HM.blk 3 rfl).cell 2
      have mtf2 : (Wd).frozen? ⟨wb.heap.size, 2, none⟩ = false := (HM.blk 3 rfl).frozen 2
      have mt3 : (Wd).cell? ⟨wb.heap.size, 3, none⟩ = some (.int .i64 (H : Int)) := (HM.blk 3 rfl).cell 3
      have mtf3 : (Wd).frozen? ⟨wb.heap.size, 3, none⟩ = false := (HM.blk 3 rfl).frozen 3
      have mt4 : (Wd).cell? ⟨wb.heap.size, 4, none⟩ = some (.int .u64 (b : Int)) := (HM.blk 3 rfl).cell 4
      have mtf4 : (Wd).frozen? ⟨wb.heap.size, 4, none⟩ = false := (HM.blk 3 rfl).frozen 4
      have mt5 : (Wd).cell? ⟨wb.heap.size, 5, none⟩ = some (.int .i64 (bad : Int)) := (HM.blk 3 rfl).cell 5
      have mtf5 : (Wd).frozen? ⟨wb.heap.size, 5, none⟩ = false := (HM.blk 3 rfl).frozen 5
      have mt6 : (Wd).cell? ⟨wb.heap.size, 6, none⟩ = some (.int .i64 (lock : Int)) := (HM.blk 3 rfl).cell 6
      have mtf6 : (Wd).frozen? ⟨wb.heap.size, 6, none⟩ = false := (HM.blk 3 rfl).frozen 6
      have mtlt : wb.heap.size < (Wd).heap.size := HM.lt 3 rfl
      have ne_oo_mt : w.heap.size + 1 ≠ wb.heap.size := HM.ne 1 3 rfl rfl (by decide)
      have ne_mt_oo : wb.heap.size ≠ w.heap.size + 1 := HM.ne 3 1 rfl rfl (by decide)
      go_upto_region 11 with fail
      obtain ⟨LL, hLL⟩ : ∃ LL : List Chunk, [.blk (w.heap.size) 33 #[.slice none 0 0], .blk (w.heap.size + 1) 33 #[.slice A' l.length c'], .row (bs0) (116) (4) (.slice A' l.length c') (l.length) (prs l), .blk (wb.heap.size) 39 #[.int .i64 (me : Int), .int .i64 (rev : Int), .int .i64 (cr : Int), .int .i64 (H : Int), .int .u64 (b : Int), .int .i64 (bad : Int), .int .i64 (lock : Int)]] = LL := ⟨_, rfl⟩
      rw [hLL] at HM
      go_cut [13, 14, 15] from 31 to 95 (fun p0 p1 p2 wx => ∃ (no tk : Nat) (id am tag t2 : Nat) (l2 : List Pr) (A2 : Option Addr) (c2 : Nat) (base : Nat), p0 = .pointer (some ⟨no, 0, none⟩) ∧ p1 = .pointer (some ⟨tk, 0, none⟩) ∧ p2 = .bool true ∧ TkOk cls id am t2 ∧ Hid (issL l (me : Int) (rev : Int) (tbody cls id am : Nat) (tag : Int) = l2) ∧ Hid (issT l (me : Int) (rev : Int) (tbody cls id am : Nat) (tag : Int) = ((t2 : Nat) : Int)) ∧ OOk l2 ∧ Hid (madeV cls f1 f2 f3 = (((id : Nat) : Int), ((am : Nat) : Int), ((tag : Nat) : Int))) ∧ Mem (w) [] wx (LL ++ (.blk no 33 #[.slice A2 l2.length c2] :: .blk tk 48 #[.int .i64 (cls : Int), .int .i64 (id : Int), .int .i64 (am : Int), .int .i64 (t2 : Int)] :: [.row (base) (116) (4) (.slice A2 l2.length c2) (l2.length) (prs l2)])) ∧ Below Wd.heap.size Wd wx)
      case first =>
        have nz0a : Wd.heap.size ≠ w.heap.size + 1 := by have := oolt; omega
        have nz0b : Wd.heap.size + 1 ≠ w.heap.size + 1 := by have := oolt; omega
        have nz0c : w.heap.size + 1 ≠ Wd.heap.size := by have := oolt; omega
        have nz0d : w.heap.size + 1 ≠ Wd.heap.size + 1 := by have := oolt; omega
        have nz1a : Wd.heap.size ≠ wb.heap.size := by have := mtlt; omega
        have nz1b : Wd.heap.size + 1 ≠ wb.heap.size := by have := mtlt; omega
        have nz1c : wb.heap.size ≠ Wd.heap.size := by have := mtlt; omega
        have nz1d : wb.heap.size ≠ Wd.heap.size + 1 := by have := mtlt; omega
        have nz2a : Wd.heap.size ≠ bk := by have := hBr; omega
        have nz2b : Wd.heap.size + 1 ≠ bk := by have := hBr; omega
        have nz2c : bk ≠ Wd.heap.size := by have := hBr; omega
        have nz2d : bk ≠ Wd.heap.size + 1 := by have := hBr; omega
        have nz0e : Wd.heap.size ≠ w.heap.size := by have := oolt; omega
        have nz0f : w.heap.size ≠ Wd.heap.size := by have := oolt; omega
        have V0 : Mem Wd [] (Wd).drew [] := (Mem.init Wd).drew
        have B0 := V0.below
        have V1 : Mem Wd [] (Wd.alloc (.cells #[.slice none 0 0] 33)).drew [.blk (Wd.heap.size) 33 #[.slice none 0 0]] := ((Mem.init Wd).alloc _ rfl #[.slice none 0 0] 33).drew
        have B1 := V1.below
        have V1b0 := V1.blk 0 rfl
        have V2 : Mem Wd [] (Wd.alloc (.cells #[.int .i64 0, .int .i64 0, .int .i64 0, .int .i64 0] 48)).drew [.blk (Wd.heap.size) 48 #[.int .i64 0, .int .i64 0, .int .i64 0, .int .i64 0]] := ((Mem.init Wd).alloc _ rfl #[.int .i64 0, .int .i64 0, .int .i64 0, .int .i64 0] 48).drew
        have B2 := V2.below
        have V2b1 := V2.blk 0 rfl
        have V3 : Mem Wd [] ((Wd.alloc (.cells #[.slice none 0 0] 33)).alloc (.cells #[.int .i64 0, .int .i64 0, .int .i64 0, .int .i64 0] 48)).drew [.blk (Wd.heap.size) 33 #[.slice none 0 0], .blk (Wd.heap.size + 1) 48 #[.int .i64 0, .int .i64 0, .int .i64 0, .int .i64 0]] := (((Mem.init Wd).alloc _ rfl #[.slice none 0 0] 33).alloc (Wd.heap.size + 1) (by simp) #[.int .i64 0, .int .i64 0, .int .i64 0, .int .i64 0] 48).drew
        have B3 := V3.below
        have V3b0 := V3.blk 0 rfl
        have V3b1 := V3.blk 1 rfl
        have V4 : Mem Wd [] ((Wd.alloc (.cells #[.int .i64 0, .int .i64 0, .int .i64 0, .int .i64 0] 48)).alloc (.cells #[.slice none 0 0] 33)).drew [.blk (Wd.heap.size + 1) 33 #[.slice none 0 0], .blk (Wd.heap.size) 48 #[.int .i64 0, .int .i64 0, .int .i64 0, .int .i64 0]] := Mem.perm (List.Perm.swap _ _ _) (((Mem.init Wd).alloc _ rfl #[.int .i64 0, .int .i64 0, .int .i64 0, .int .i64 0] 48).alloc (Wd.heap.size + 1) (by simp) #[.slice none 0 0] 33).drew
        have B4 := V4.below
        have V4b0 := V4.blk 0 rfl
        have V4b1 := V4.blk 1 rfl
        go_region_held3 (fun w' => w'.cell? ⟨w.heap.size + 1, 0, none⟩ = some (.slice A' l.length c') ∧ w'.cell? ⟨wb.heap.size, 0, none⟩ = some (.int .i64 (me : Int)) ∧ w'.cell? ⟨wb.heap.size, 1, none⟩ = some (.int .i64 (rev : Int)) ∧ w'.cell? ⟨wb.heap.size, 2, none⟩ = some (.int .i64 (cr : Int)) ∧ w'.cell? ⟨wb.heap.size, 3, none⟩ = some (.int .i64 (H : Int)) ∧ w'.cell? ⟨wb.heap.size, 4, none⟩ = some (.int .u64 (b : Int)) ∧ w'.cell? ⟨wb.heap.size, 5, none⟩ = some (.int .i64 (bad : Int)) ∧ w'.cell? ⟨wb.heap.size, 6, none⟩ = some (.int .i64 (lock : Int)) ∧ w'.cell? ⟨bk, off + k * 4, none⟩ = some (.int .i64 f0) ∧ w'.cell? ⟨bk, off + k * 4 + 1, none⟩ = some (.int .i64 f1) ∧ w'.cell? ⟨bk, off + k * 4 + 2, none⟩ = some (.int .i64 f2) ∧ w'.cell? ⟨bk, off + k * 4 + 3, none⟩ = some (.int .i64 f3)) (first | with_reducible exact ⟨s0, s1, s2, s3, s4, s5, s6, s7, s8, s9, s10, s11⟩ | go_keep | fail) (first | (go_at_call 13; (with_reducible refine (hSd (Wd).drew (ho.below B0)).mono ?_); rintro e we ⟨id, am, tag, t2, l2, A2, c2, rfl, hk3, hiL, hiT, hO2, hown, hmv, hbe⟩; have hV := V0; obtain ⟨bse, hK⟩ : ∃ bse : Nat, Mem (Wd).drew [] we [.row (bse) (116) (4) (.slice A2 l2.length c2) (l2.length) (prs l2)] := ⟨_, Mem.row (Mem.init _) hbe hown (Nat.le_refl _)⟩; have hWe : Below Wd.heap.size Wd we := B0.trans (hbe.mono B0.size); have s0 := (hWe.cell (p := ⟨w.heap.size + 1, 0, none⟩) oolt).trans oo0; have s1 := (hWe.cell (p := ⟨wb.heap.size, 0, none⟩) mtlt).trans mt0; have s2 := (hWe.cell (p := ⟨wb.heap.size, 1, none⟩) mtlt).trans mt1; have s3 := (hWe.cell (p := ⟨wb.heap.size, 2, none⟩) mtlt).trans mt2; have s4 := (hWe.cell (p := ⟨wb.heap.size, 3, none⟩) mtlt).trans mt3; have s5 := (hWe.cell (p := ⟨wb.heap.size, 4, none⟩) mtlt).trans mt4; have s6 := (hWe.cell (p := ⟨wb.heap.size, 5, none⟩) mtlt).trans mt5; have s7 := (hWe.cell (p := ⟨wb.heap.size, 6, none⟩) mtlt).trans mt6; have s8 := (hWe.cell (p := ⟨bk, off + k * 4, none⟩) hBr).trans z0; have s9 := (hWe.cell (p := ⟨bk, off + k * 4 + 1, none⟩) hBr).trans z1; have s10 := (hWe.cell (p := ⟨bk, off + k * 4 + 2, none⟩) hBr).trans z2; have s11 := (hWe.cell (p := ⟨bk, off + k * 4 + 3, none⟩) hBr).trans z3; have sz := hWe.size; have ez0c : we.heap.size ≠ w.heap.size := (by have := oolt; omega); have ez0a : we.heap.size ≠ w.heap.size + 1 := (by have := oolt; omega); have ez0b : we.heap.size + 1 ≠ w.heap.size + 1 := (by have := oolt; omega); have ez1a : we.heap.size ≠ wb.heap.size := (by have := mtlt; omega); have ez1b : we.heap.size + 1 ≠ wb.heap.size := (by have := mtlt; omega); have ez2a : we.heap.size ≠ bk := (by have := hBr; omega); have ez2b : we.heap.size + 1 ≠ bk := (by have := hBr; omega)) | (go_at_call 13; (with_reducible refine (hSd (Wd.alloc (.cells #[.slice none 0 0] 33)).drew (ho.below B1)).mono ?_); rintro e we ⟨id, am, tag, t2, l2, A2, c2, rfl, hk3, hiL, hiT, hO2, hown, hmv, hbe⟩; have hV := V1; obtain ⟨bse, hK⟩ : ∃ bse : Nat, Mem (Wd.alloc (.cells #[.slice none 0 0] 33)).drew [] we [.row (bse) (116) (4) (.slice A2 l2.length c2) (l2.length) (prs l2)] := ⟨_, Mem.row (Mem.init _) hbe hown (Nat.le_refl _)⟩; have hWe : Below Wd.heap.size Wd we := B1.trans (hbe.mono B1.size); have s0 := (hWe.cell (p := ⟨w.heap.size + 1, 0, none⟩) oolt).trans oo0; have s1 := (hWe.cell (p := ⟨wb.heap.size, 0, none⟩) mtlt).trans mt0; have s2 := (hWe.cell (p := ⟨wb.heap.size, 1, none⟩) mtlt).trans mt1; have s3 := (hWe.cell (p := ⟨wb.heap.size, 2, none⟩) mtlt).trans mt2; have s4 := (hWe.cell (p := ⟨wb.heap.size, 3, none⟩) mtlt).trans mt3; have s5 := (hWe.cell (p := ⟨wb.heap.size, 4, none⟩) mtlt).trans mt4; have s6 := (hWe.cell (p := ⟨wb.heap.size, 5, none⟩) mtlt).trans mt5; have s7 := (hWe.cell (p := ⟨wb.heap.size, 6, none⟩) mtlt).trans mt6; have s8 := (hWe.cell (p := ⟨bk, off + k * 4, none⟩) hBr).trans z0; have s9 := (hWe.cell (p := ⟨bk, off + k * 4 + 1, none⟩) hBr).trans z1; have s10 := (hWe.cell (p := ⟨bk, off + k * 4 + 2, none⟩) hBr).trans z2; have s11 := (hWe.cell (p := ⟨bk, off + k * 4 + 3, none⟩) hBr).trans z3; have sz := hWe.size; have ez0c : we.heap.size ≠ w.heap.size := (by have := oolt; omega); have ez0a : we.heap.size ≠ w.heap.size + 1 := (by have := oolt; omega); have ez0b : we.heap.size + 1 ≠ w.heap.size + 1 := (by have := oolt; omega); have ez1a : we.heap.size ≠ wb.heap.size := (by have := mtlt; omega); have ez1b : we.heap.size + 1 ≠ wb.heap.size := (by have := mtlt; omega); have ez2a : we.heap.size ≠ bk := (by have := hBr; omega); have ez2b : we.heap.size + 1 ≠ bk := (by have := hBr; omega); have zb0 := Blk.below V1b0 hbe V1b0.lt; have zb0_0 := zb0.cell 0; have zb0f0 := zb0.frozen 0; have zb0lt : Wd.heap.size < we.heap.size := zb0.lt) | (go_at_call 13; (with_reducible refine (hSd (Wd.alloc (.cells #[.int .i64 0, .int .i64 0, .int .i64 0, .int .i64 0] 48)).drew (ho.below B2)).mono ?_); rintro e we ⟨id, am, tag, t2, l2, A2, c2, rfl, hk3, hiL, hiT, hO2, hown, hmv, hbe⟩; have hV := V2; obtain ⟨bse, hK⟩ : ∃ bse : Nat, Mem (Wd.alloc (.cells #[.int .i64 0, .int .i64 0, .int .i64 0, .int .i64 0] 48)).drew [] we [.row (bse) (116) (4) (.slice A2 l2.length c2) (l2.length) (prs l2)] := ⟨_, Mem.row (Mem.init _) hbe hown (Nat.le_refl _)⟩; have hWe : Below Wd.heap.size Wd we := B2.trans (hbe.mono B2.size); have s0 := (hWe.cell (p := ⟨w.heap.size + 1, 0, none⟩) oolt).trans oo0; have s1 := (hWe.cell (p := ⟨wb.heap.size, 0, none⟩) mtlt).trans mt0; have s2 := (hWe.cell (p := ⟨wb.heap.size, 1, none⟩) mtlt).trans mt1; have s3 := (hWe.cell (p := ⟨wb.heap.size, 2, none⟩) mtlt).trans mt2; have s4 := (hWe.cell (p := ⟨wb.heap.size, 3, none⟩) mtlt).trans mt3; have s5 := (hWe.cell (p := ⟨wb.heap.size, 4, none⟩) mtlt).trans mt4; have s6 := (hWe.cell (p := ⟨wb.heap.size, 5, none⟩) mtlt).trans mt5; have s7 := (hWe.cell (p := ⟨wb.heap.size, 6, none⟩) mtlt).trans mt6; have s8 := (hWe.cell (p := ⟨bk, off + k * 4, none⟩) hBr).trans z0; have s9 := (hWe.cell (p := ⟨bk, off + k * 4 + 1, none⟩) hBr).trans z1; have s10 := (hWe.cell (p := ⟨bk, off + k * 4 + 2, none⟩) hBr).trans z2; have s11 := (hWe.cell (p := ⟨bk, off + k * 4 + 3, none⟩) hBr).trans z3; have sz := hWe.size; have ez0c : we.heap.size ≠ w.heap.size := (by have := oolt; omega); have ez0a : we.heap.size ≠ w.heap.size + 1 := (by have := oolt; omega); have ez0b : we.heap.size + 1 ≠ w.heap.size + 1 := (by have := oolt; omega); have ez1a : we.heap.size ≠ wb.heap.size := (by have := mtlt; omega); have ez1b : we.heap.size + 1 ≠ wb.heap.size := (by have := mtlt; omega); have ez2a : we.heap.size ≠ bk := (by have := hBr; omega); have ez2b : we.heap.size + 1 ≠ bk := (by have := hBr; omega); have zb1 := Blk.below V2b1 hbe V2b1.lt; have zb1_0 := zb1.cell 0; have zb1f0 := zb1.frozen 0; have zb1_1 := zb1.cell 1; have zb1f1 := zb1.frozen 1; have zb1_2 := zb1.cell 2; have zb1f2 := zb1.frozen 2; have zb1_3 := zb1.cell 3; have zb1f3 := zb1.frozen 3; have zb1lt : Wd.heap.size < we.heap.size := zb1.lt) | (go_at_call 13; (with_reducible refine (hSd ((Wd.alloc (.cells #[.slice none 0 0] 33)).alloc (.cells #[.int .i64 0, .int .i64 0, .int .i64 0, .int .i64 0] 48)).drew (ho.below B3)).mono ?_); rintro e we ⟨id, am, tag, t2, l2, A2, c2, rfl, hk3, hiL, hiT, hO2, hown, hmv, hbe⟩; have hV := V3; obtain ⟨bse, hK⟩ : ∃ bse : Nat, Mem ((Wd.alloc (.cells #[.slice none 0 0] 33)).alloc (.cells #[.int .i64 0, .int .i64 0, .int .i64 0, .int .i64 0] 48)).drew [] we [.row (bse) (116) (4) (.slice A2 l2.length c2) (l2.length) (prs l2)] := ⟨_, Mem.row (Mem.init _) hbe hown (Nat.le_refl _)⟩; have hWe : Below Wd.heap.size Wd we := B3.trans (hbe.mono B3.size); have s0 := (hWe.cell (p := ⟨w.heap.size + 1, 0, none⟩) oolt).trans oo0; have s1 := (hWe.cell (p := ⟨wb.heap.size, 0, none⟩) mtlt).trans mt0; have s2 := (hWe.cell (p := ⟨wb.heap.size, 1, none⟩) mtlt).trans mt1; have s3 := (hWe.cell (p := ⟨wb.heap.size, 2, none⟩) mtlt).trans mt2; have s4 := (hWe.cell (p := ⟨wb.heap.size, 3, none⟩) mtlt).trans mt3; have s5 := (hWe.cell (p := ⟨wb.heap.size, 4, none⟩) mtlt).trans mt4; have s6 := (hWe.cell (p := ⟨wb.heap.size, 5, none⟩) mtlt).trans mt5; have s7 := (hWe.cell (p := ⟨wb.heap.size, 6, none⟩) mtlt).trans mt6; have s8 := (hWe.cell (p := ⟨bk, off + k * 4, none⟩) hBr).trans z0; have s9 := (hWe.cell (p := ⟨bk, off + k * 4 + 1, none⟩) hBr).trans z1; have s10 := (hWe.cell (p := ⟨bk, off + k * 4 + 2, none⟩) hBr).trans z2; have s11 := (hWe.cell (p := ⟨bk, off + k * 4 + 3, none⟩) hBr).trans z3; have sz := hWe.size; have ez0c : we.heap.size ≠ w.heap.size := (by have := oolt; omega); have ez0a : we.heap.size ≠ w.heap.size + 1 := (by have := oolt; omega); have ez0b : we.heap.size + 1 ≠ w.heap.size + 1 := (by have := oolt; omega); have ez1a : we.heap.size ≠ wb.heap.size := (by have := mtlt; omega); have ez1b : we.heap.size + 1 ≠ wb.heap.size := (by have := mtlt; omega); have ez2a : we.heap.size ≠ bk := (by have := hBr; omega); have ez2b : we.heap.size + 1 ≠ bk := (by have := hBr; omega); have zb0 := Blk.below V3b0 hbe V3b0.lt; have zb0_0 := zb0.cell 0; have zb0f0 := zb0.frozen 0; have zb0lt : Wd.heap.size < we.heap.size := zb0.lt; have zb1 := Blk.below V3b1 hbe V3b1.lt; have zb1_0 := zb1.cell 0; have zb1f0 := zb1.frozen 0; have zb1_1 := zb1.cell 1; have zb1f1 := zb1.frozen 1; have zb1_2 := zb1.cell 2; have zb1f2 := zb1.frozen 2; have zb1_3 := zb1.cell 3; have zb1f3 := zb1.frozen 3; have zb1lt : Wd.heap.size + 1 < we.heap.size := zb1.lt; have zn1 : Wd.heap.size ≠ Wd.heap.size + 1 := (by omega); have zn2 : Wd.heap.size + 1 ≠ Wd.heap.size := (by omega)) | (go_at_call 13; (with_reducible refine (hSd ((Wd.alloc (.cells #[.int .i64 0, .int .i64 0, .int .i64 0, .int .i64 0] 48)).alloc (.cells #[.slice none 0 0] 33)).drew (ho.below B4)).mono ?_); rintro e we ⟨id, am, tag, t2, l2, A2, c2, rfl, hk3, hiL, hiT, hO2, hown, hmv, hbe⟩; have hV := V4; obtain ⟨bse, hK⟩ : ∃ bse : Nat, Mem ((Wd.alloc (.cells #[.int .i64 0, .int .i64 0, .int .i64 0, .int .i64 0] 48)).alloc (.cells #[.slice none 0 0] 33)).drew [] we [.row (bse) (116) (4) (.slice A2 l2.length c2) (l2.length) (prs l2)] := ⟨_, Mem.row (Mem.init _) hbe hown (Nat.le_refl _)⟩; have hWe : Below Wd.heap.size Wd we := B4.trans (hbe.mono B4.size); have s0 := (hWe.cell (p := ⟨w.heap.size + 1, 0, none⟩) oolt).trans oo0; have s1 := (hWe.cell (p := ⟨wb.heap.size, 0, none⟩) mtlt).trans mt0; have s2 := (hWe.cell (p := ⟨wb.heap.size, 1, none⟩) mtlt).trans mt1; have s3 := (hWe.cell (p := ⟨wb.heap.size, 2, none⟩) mtlt).trans mt2; have s4 := (hWe.cell (p := ⟨wb.heap.size, 3, none⟩) mtlt).trans mt3; have s5 := (hWe.cell (p := ⟨wb.heap.size, 4, none⟩) mtlt).trans mt4; have s6 := (hWe.cell (p := ⟨wb.heap.size, 5, none⟩) mtlt).trans mt5; have s7 := (hWe.cell (p := ⟨wb.heap.size, 6, none⟩) mtlt).trans mt6; have s8 := (hWe.cell (p := ⟨bk, off + k * 4, none⟩) hBr).trans z0; have s9 := (hWe.cell (p := ⟨bk, off + k * 4 + 1, none⟩) hBr).trans z1; have s10 := (hWe.cell (p := ⟨bk, off + k * 4 + 2, none⟩) hBr).trans z2; have s11 := (hWe.cell (p := ⟨bk, off + k * 4 + 3, none⟩) hBr).trans z3; have sz := hWe.size; have ez0c : we.heap.size ≠ w.heap.size := (by have := oolt; omega); have ez0a : we.heap.size ≠ w.heap.size + 1 := (by have := oolt; omega); have ez0b : we.heap.size + 1 ≠ w.heap.size + 1 := (by have := oolt; omega); have ez1a : we.heap.size ≠ wb.heap.size := (by have := mtlt; omega); have ez1b : we.heap.size + 1 ≠ wb.heap.size := (by have := mtlt; omega); have ez2a : we.heap.size ≠ bk := (by have := hBr; omega); have ez2b : we.heap.size + 1 ≠ bk := (by have := hBr; omega); have zb0 := Blk.below V4b0 hbe V4b0.lt; have zb0_0 := zb0.cell 0; have zb0f0 := zb0.frozen 0; have zb0lt : Wd.heap.size + 1 < we.heap.size := zb0.lt; have zb1 := Blk.below V4b1 hbe V4b1.lt; have zb1_0 := zb1.cell 0; have zb1f0 := zb1.frozen 0; have zb1_1 := zb1.cell 1; have zb1f1 := zb1.frozen 1; have zb1_2 := zb1.cell 2; have zb1f2 := zb1.frozen 2; have zb1_3 := zb1.cell 3; have zb1f3 := zb1.frozen 3; have zb1lt : Wd.heap.size < we.heap.size := zb1.lt; have zn1 : Wd.heap.size + 1 ≠ Wd.heap.size := (by omega); have zn2 : Wd.heap.size ≠ Wd.heap.size + 1 := (by omega)))
        all_goals
          go_wp2_with fail
          go_meet
          refine ⟨_, _, id, am, tag, t2, l2, A2, c2, bse, rfl, rfl, rfl, hk3, Lib.hid hiL, Lib.hid hiT, hO2, Lib.hid hmv, ?_⟩
          first
          | with_reducible exact ⟨cr2_a HM hV hK, (cr2_a (Mem.init Wd) hV hK).below⟩
          | with_reducible exact ⟨cr2_b HM hV hK, (cr2_b (Mem.init Wd) hV hK).below⟩
          | (have h := cr2_c (c1 := #[.slice A2 l2.length c2]) (c2 := #[.int .i64 (cls : Int), .int .i64 (id : Int), .int .i64 (am : Int), .int .i64 (t2 : Int)]) (t1 := 33) (t2 := 48) HM hV hK [(0, .slice A2 l2.length c2)] rfl
             have h2 := (cr2_c (c1 := #[.slice A2 l2.length c2]) (c2 := #[.int .i64 (cls : Int), .int .i64 (id : Int), .int .i64 (am : Int), .int .i64 (t2 : Int)]) (t1 := 33) (t2 := 48) (Mem.init Wd) hV hK [(0, .slice A2 l2.length c2)] rfl).below
             simp only [sets, List.foldl_cons, List.foldl_nil] at h h2
             with_reducible exact ⟨h, h2⟩)
          | (have h := cr2_d (c1 := #[.slice A2 l2.length c2]) (c2 := #[.int .i64 (cls : Int), .int .i64 (id : Int), .int .i64 (am : Int), .int .i64 (t2 : Int)]) (t1 := 33) (t2 := 48) HM hV hK [(0, .int .i64 (cls : Int)), (1, .int .i64 (id : Int)), (2, .int .i64 (am : Int)), (3, .int .i64 (t2 : Int))] rfl
             have h2 := (cr2_d (c1 := #[.slice A2 l2.length c2]) (c2 := #[.int .i64 (cls : Int), .int .i64 (id : Int), .int .i64 (am : Int), .int .i64 (t2 : Int)]) (t1 := 33) (t2 := 48) (Mem.init Wd) hV hK [(0, .int .i64 (cls : Int)), (1, .int .i64 (id : Int)), (2, .int .i64 (am : Int)), (3, .int .i64 (t2 : Int))] rfl).below
             simp only [sets, List.foldl_cons, List.foldl_nil] at h h2
             with_reducible exact ⟨h, h2⟩)
          | (have h := cr2_e (c1 := #[.slice A2 l2.length c2]) (c2 := #[.int .i64 (cls : Int), .int .i64 (id : Int), .int .i64 (am : Int), .int .i64 (t2 : Int)]) (t1 := 33) (t2 := 48) HM hV hK [(0, .slice A2 l2.length c2)] [(0, .int .i64 (cls : Int)), (1, .int .i64 (id : Int)), (2, .int .i64 (am : Int)), (3, .int .i64 (t2 : Int))] rfl rfl
             have h2 := (cr2_e (c1 := #[.slice A2 l2.length c2]) (c2 := #[.int .i64 (cls : Int), .int .i64 (id : Int), .int .i64 (am : Int), .int .i64 (t2 : Int)]) (t1 := 33) (t2 := 48) (Mem.init Wd) hV hK [(0, .slice A2 l2.length c2)] [(0, .int .i64 (cls : Int)), (1, .int .i64 (id : Int)), (2, .int .i64 (am : Int)), (3, .int .i64 (t2 : Int))] rfl rfl).below
             simp only [sets, List.foldl_cons, List.foldl_nil] at h h2
             with_reducible exact ⟨h, h2⟩)
          | (have h := cr2_f (c1 := #[.slice A2 l2.length c2]) (c2 := #[.int .i64 (cls : Int), .int .i64 (id : Int), .int .i64 (am : Int), .int .i64 (t2 : Int)]) (t1 := 33) (t2 := 48) HM hV hK [(0, .slice A2 l2.length c2)] [(0, .int .i64 (cls : Int)), (1, .int .i64 (id : Int)), (2, .int .i64 (am : Int)), (3, .int .i64 (t2 : Int))] rfl rfl
             have h2 := (cr2_f (c1 := #[.slice A2 l2.length c2]) (c2 := #[.int .i64 (cls : Int), .int .i64 (id : Int), .int .i64 (am : Int), .int .i64 (t2 : Int)]) (t1 := 33) (t2 := 48) (Mem.init Wd) hV hK [(0, .slice A2 l2.length c2)] [(0, .int .i64 (cls : Int)), (1, .int .i64 (id : Int)), (2, .int .i64 (am : Int)), (3, .int .i64 (t2 : Int))] rfl rfl).below
             simp only [sets, List.foldl_cons, List.foldl_nil] at h h2
             with_reducible exact ⟨h, h2⟩)
      case rest =>
        obtain ⟨no, tk, id, am, tag, t2, l2, A2, c2, base, rfl, rfl, rfl, hk3, hiL, hiT, hO2, hmv, HM, hCR⟩ := hcut
        subst hLL
        replace HM : Mem (w) [] (wc) [.blk (w.heap.size) 33 #[.slice none 0 0], .blk (w.heap.size + 1) 33 #[.slice A' l.length c'], .row (bs0) (116) (4) (.slice A' l.length c') (l.length) (prs l), .blk (wb.heap.size) 39 #[.int .i64 (me : Int), .int .i64 (rev : Int), .int .i64 (cr : Int), .int .i64 (H : Int), .int .u64 (b : Int), .int .i64 (bad : Int), .int .i64 (lock : Int)], .blk (no) 33 #[.slice A2 l2.length c2], .blk (tk) 48 #[.int .i64 (cls : Int), .int .i64 (id : Int), .int .i64 (am : Int), .int .i64 (t2 : Int)], .row (base) (116) (4) (.slice A2 l2.length c2) (l2.length) (prs l2)] := HM
        clear oo0 oof0 oolt mt0 mtf0 mt1 mtf1 mt2 mtf2 mt3 mtf3 mt4 mtf4 mt5 mtf5 mt6 mtf6 mtlt ne_oo_mt ne_mt_oo
        have oo0 : (wc).cell? ⟨w.heap.size + 1, 0, none⟩ = some (.slice A' l.length c') := (HM.blk 1 rfl).cell 0
        have oof0 : (wc).frozen? ⟨w.heap.size + 1, 0, none⟩ = false := (HM.blk 1 rfl).frozen 0
        have oolt : w.heap.size + 1 < (wc).heap.size := HM.lt 1 rfl
        have no0 : (wc).cell? ⟨no, 0, none⟩ = some (.slice A2 l2.length c2) := (HM.blk 4 rfl).cell 0
        have nof0 : (wc).frozen? ⟨no, 0, none⟩ = false := (HM.blk 4 rfl).frozen 0
        have nolt : no < (wc).heap.size := HM.lt 4 rfl
        have tk0 : (wc).cell? ⟨tk, 0, none⟩ = some (.int .i64 (cls : Int)) := (HM.blk 5 rfl).cell 0
        have tkf0 : (wc).frozen? ⟨tk, 0, none⟩ = false := (HM.blk 5 rfl).frozen 0
        have tk1 : (wc).cell? ⟨tk, 1, none⟩ = some (.int .i64 (id : Int)) := (HM.blk 5 rfl).cell 1
        have tkf1 : (wc).frozen? ⟨tk, 1, none⟩ = false := (HM.blk 5 rfl).frozen 1
        have tk2 : (wc).cell? ⟨tk, 2, none⟩ = some (.int .i64 (am : Int)) := (HM.blk 5 rfl).cell 2
        have tkf2 : (wc).frozen? ⟨tk, 2, none⟩ = false := (HM.blk 5 rfl).frozen 2
        have tk3 : (wc).cell? ⟨tk, 3, none⟩ = some (.int .i64 (t2 : Int)) := (HM.blk 5 rfl).cell 3
        have tkf3 : (wc).frozen? ⟨tk, 3, none⟩ = false := (HM.blk 5 rfl).frozen 3
        have tklt : tk < (wc).heap.size := HM.lt 5 rfl
        have ne_oo_no : w.heap.size + 1 ≠ no := HM.ne 1 4 rfl rfl (by decide)
        have ne_oo_tk : w.heap.size + 1 ≠ tk := HM.ne 1 5 rfl rfl (by decide)
        have ne_no_oo : no ≠ w.heap.size + 1 := HM.ne 4 1 rfl rfl (by decide)
        have ne_no_tk : no ≠ tk := HM.ne 4 5 rfl rfl (by decide)
        have ne_tk_oo : tk ≠ w.heap.size + 1 := HM.ne 5 1 rfl rfl (by decide)
        have ne_tk_no : tk ≠ no := HM.ne 5 4 rfl rfl (by decide)
        obtain ⟨r2, cr2, h2, b2, d2, k2, ad, E, hK, hE⟩ := keyS_eq (l := l2) (me := me) (rev := rev) (cr := cr) (H := H) (B := b) (bad := bad) (lock := lock) (cls := cls) (id := id) (am := am) (tag := t2)
        obtain ⟨hm2, hb2⟩ := keyS_may hb.out hm.out hk3 hK
        have hPth2 := Path.step hPth.out hk3 hcls.out hmv.out hiL.out hiT.out hK
        rw [← HR.out] at hPth2
        have hl2 : l2.length ≤ k + 1 := by have := (issL_len l (me : Int) (rev : Int) (tbody cls id am : Nat) (tag : Int)).2; rw [hiL.out] at this; have := hl.out; omega
        have hF := fun W => format_ok cls id am t2 W hk3
        have hP := parse_tok cls id am t2 hk3 (tokD cls id am t2) rfl (tokD_len hk3)
        obtain ⟨S, hSS⟩ : ∃ S, dstr (tokD cls id am t2) = S := ⟨_, rfl⟩
        rw [hSS] at hF hP
        have hKy := fun W h1 h2' => keyed_ok x (.slice A2 l2.length c2) C l2 S me rev cr H b bad lock s cls id am t2 r2 cr2 h2 b2 d2 k2 ad E W h1 h2' hO2 hS hb.out hm.out hk3 hP (Lib.hid hK) hE
        unfold RetKeyed at hKy
        have HP2 := Lib.hid hPth2
        have HL2 := Lib.hid hl2
        have HM2 := Lib.hid hm2
        have HB2 := Lib.hid hb2
        clear hSd ho z0 z1 z2 z3 hPth2 hl2 hm2 hb2 hP hK hE hSS hiL hiT hmv hcls HR
        go_wp2_with fail
        refine (hF _).mono ?_
        rintro e wf ⟨rfl, hbf⟩

        replace hx := (hx.below hCR).below hbf
        have hCl : 0 < C.length := by have := hS.len; omega
        replace HM : Mem (w) [] (wf) [.blk (w.heap.size) 33 #[.slice none 0 0], .blk (w.heap.size + 1) 33 #[.slice A' l.length c'], .row (bs0) (116) (4) (.slice A' l.length c') (l.length) (prs l), .blk (wb.heap.size) 39 #[.int .i64 (me : Int), .int .i64 (rev : Int), .int .i64 (cr : Int), .int .i64 (H : Int), .int .u64 (b : Int), .int .i64 (bad : Int), .int .i64 (lock : Int)], .blk (no) 33 #[.slice A2 l2.length c2], .blk (tk) 48 #[.int .i64 (cls : Int), .int .i64 (id : Int), .int .i64 (am : Int), .int .i64 (t2 : Int)], .row (base) (116) (4) (.slice A2 l2.length c2) (l2.length) (prs l2)] := Mem.call HM hbf
        clear oo0 oof0 oolt no0 nof0 nolt tk0 tkf0 tk1 tkf1 tk2 tkf2 tk3 tkf3 tklt ne_oo_no ne_oo_tk ne_no_oo ne_no_tk ne_tk_oo ne_tk_no
        have oo0 : (wf).cell? ⟨w.heap.size + 1, 0, none⟩ = some (.slice A' l.length c') := (HM.blk 1 rfl).cell 0
        have oof0 : (wf).frozen? ⟨w.heap.size + 1, 0, none⟩ = false := (HM.blk 1 rfl).frozen 0
        have oolt : w.heap.size + 1 < (wf).heap.size := HM.lt 1 rfl
        have no0 : (wf).cell? ⟨no, 0, none⟩ = some (.slice A2 l2.length c2) := (HM.blk 4 rfl).cell 0
        have nof0 : (wf).frozen? ⟨no, 0, none⟩ = false := (HM.blk 4 rfl).frozen 0
        have nolt : no < (wf).heap.size := HM.lt 4 rfl
        have ne_oo_no : w.heap.size + 1 ≠ no := HM.ne 1 4 rfl rfl (by decide)
        have ne_no_oo : no ≠ w.heap.size + 1 := HM.ne 4 1 rfl rfl (by decide)
        clear hF hbf hCR
        have hoo := HM.blk 1 rfl
        by_cases hq : rev = r2 ∧ cr = cr2 ∧ H = h2 ∧ b = b2 ∧ bad = d2 ∧ lock = k2
        · obtain ⟨rfl, rfl, rfl, rfl, rfl, rfl⟩ := hq
          rw [pkW_same] at hKy
          go_wp2_with fail

          obtain ⟨Wf, hWf⟩ : ∃ Wf, (wf).setCell ⟨w.heap.size + 1, 0, none⟩ (.slice A2 l2.length c2) = Wf := ⟨_, rfl⟩
          replace HM : Mem (w) [] _ [.blk (w.heap.size) 33 #[.slice none 0 0], .blk (w.heap.size + 1) 33 #[.slice A2 l2.length c2], .row (bs0) (116) (4) (.slice A' l.length c') (l.length) (prs l), .blk (wb.heap.size) 39 #[.int .i64 (me : Int), .int .i64 (rev : Int), .int .i64 (cr : Int), .int .i64 (H : Int), .int .u64 (b : Int), .int .i64 (bad : Int), .int .i64 (lock : Int)], .blk (no) 33 #[.slice A2 l2.length c2], .blk (tk) 48 #[.int .i64 (cls : Int), .int .i64 (id : Int), .int .i64 (am : Int), .int .i64 (t2 : Int)], .row (base) (116) (4) (.slice A2 l2.length c2) (l2.length) (prs l2)] := Mem.set 1 HM rfl 0 (.slice A2 l2.length c2)
          rw [hWf] at HM ⊢
          have hxf : IsWs Wf x C := by rw [← hWf]; exact isws_set hx hoo hCl (by intro i u hu z e; subst e; rcases i with _ | i <;> simp at hu) 0 _
          have ho2 := isps_own (l := l2) rfl (ook_wf hO2) (HM.own_ 6 rfl)
          refine (hKy _ hxf ho2).mono ?_
          rintro e wk ⟨u, rfl, hu, hbk⟩
          replace hxf := hxf.below hbk
          obtain ⟨A3, c3, rfl, _, _, _, _⟩ := hu
          replace HM : Mem (w) [] (wk) [.blk (w.heap.size) 33 #[.slice none 0 0], .blk (w.heap.size + 1) 33 #[.slice A2 l2.length c2], .row (bs0) (116) (4) (.slice A' l.length c') (l.length) (prs l), .blk (wb.heap.size) 39 #[.int .i64 (me : Int), .int .i64 (rev : Int), .int .i64 (cr : Int), .int .i64 (H : Int), .int .u64 (b : Int), .int .i64 (bad : Int), .int .i64 (lock : Int)], .blk (no) 33 #[.slice A2 l2.length c2], .blk (tk) 48 #[.int .i64 (cls : Int), .int .i64 (id : Int), .int .i64 (am : Int), .int .i64 (t2 : Int)], .row (base) (116) (4) (.slice A2 l2.length c2) (l2.length) (prs l2)] := Mem.call HM hbk
          clear hKy hbk hWf hoo hx
          go_wp2
          go_roundw
          case rel => exact ⟨k + 1, x, C, l2, A2, c2, rev, cr, H, b, bad, lock, s, _, by omega, by omega, by go_num, rfl, hxf, hS, hb, hm, hO2, HL2, HP2, Mem.drop_ 2 (Mem.drop_ 2 (Mem.drop_ 2 (Mem.drop_ 2 HM)))⟩
          case measure => (simp [intOf]; try omega)
        · rw [pkW_diff hq] at hKy
          obtain ⟨hP1, hP2⟩ := slW_ok hS (mws_len me r2 cr2 h2 b2 d2 k2)
          have hS2 := sl_all hS (mws_len me r2 cr2 h2 b2 d2 k2)
          have hCn := hS.len
          obtain ⟨P, hPP⟩ : ∃ P, slW C 5 (mws me r2 cr2 h2 b2 d2 k2) s = P := ⟨_, rfl⟩
          rw [hPP] at hKy hP1 hP2 hS2
          have n0 : ((P.length : Int) == 0) = false := by rw [hP2]; decide
          have n1 : ¬ (P.length : Int) = 0 := by omega
          have hA := fun u W h3 h4 => apply_ok x u C P P.length W h3 h4 (by omega) (by omega) (by omega) hP1 (Nat.le_refl _)
          rw [List.take_length] at hA
          have HS2 := Lib.hid hS2
          clear hPP hP1 hP2 hS2 hCn hS hq
          go_wp2_with fail
          skip
          obtain ⟨Wf, hWf⟩ : ∃ Wf, (wf).setCell ⟨w.heap.size + 1, 0, none⟩ (.slice A2 l2.length c2) = Wf := ⟨_, rfl⟩
          replace HM : Mem (w) [] _ [.blk (w.heap.size) 33 #[.slice none 0 0], .blk (w.heap.size + 1) 33 #[.slice A2 l2.length c2], .row (bs0) (116) (4) (.slice A' l.length c') (l.length) (prs l), .blk (wb.heap.size) 39 #[.int .i64 (me : Int), .int .i64 (rev : Int), .int .i64 (cr : Int), .int .i64 (H : Int), .int .u64 (b : Int), .int .i64 (bad : Int), .int .i64 (lock : Int)], .blk (no) 33 #[.slice A2 l2.length c2], .blk (tk) 48 #[.int .i64 (cls : Int), .int .i64 (id : Int), .int .i64 (am : Int), .int .i64 (t2 : Int)], .row (base) (116) (4) (.slice A2 l2.length c2) (l2.length) (prs l2)] := Mem.set 1 HM rfl 0 (.slice A2 l2.length c2)
          rw [hWf] at HM ⊢
          have hxf : IsWs Wf x C := by rw [← hWf]; exact isws_set hx hoo hCl (by intro i u hu z e; subst e; rcases i with _ | i <;> simp at hu) 0 _
          have ho2 := isps_own (l := l2) rfl (ook_wf hO2) (HM.own_ 6 rfl)
          refine (hKy _ hxf ho2).mono ?_
          rintro e wk ⟨u, rfl, hu, hbk⟩
          replace hxf := hxf.below hbk
          have hu0 := hu
          obtain ⟨A3, c3, rfl, _, _, _, _⟩ := hu
          replace HM : Mem (w) [] (wk) [.blk (w.heap.size) 33 #[.slice none 0 0], .blk (w.heap.size + 1) 33 #[.slice A2 l2.length c2], .row (bs0) (116) (4) (.slice A' l.length c') (l.length) (prs l), .blk (wb.heap.size) 39 #[.int .i64 (me : Int), .int .i64 (rev : Int), .int .i64 (cr : Int), .int .i64 (H : Int), .int .u64 (b : Int), .int .i64 (bad : Int), .int .i64 (lock : Int)], .blk (no) 33 #[.slice A2 l2.length c2], .blk (tk) 48 #[.int .i64 (cls : Int), .int .i64 (id : Int), .int .i64 (am : Int), .int .i64 (t2 : Int)], .row (base) (116) (4) (.slice A2 l2.length c2) (l2.length) (prs l2)] := Mem.call HM hbk
          clear hKy hbk hWf hoo hx
          go_wp2_with fail
          refine (hA _ _ hxf hu0).mono ?_
          rintro e wq ⟨dv, rfl, hdv, hbq⟩
          replace HM : Mem (w) [] (wq) [.blk (w.heap.size) 33 #[.slice none 0 0], .blk (w.heap.size + 1) 33 #[.slice A2 l2.length c2], .row (bs0) (116) (4) (.slice A' l.length c') (l.length) (prs l), .blk (wb.heap.size) 39 #[.int .i64 (me : Int), .int .i64 (rev : Int), .int .i64 (cr : Int), .int .i64 (H : Int), .int .u64 (b : Int), .int .i64 (bad : Int), .int .i64 (lock : Int)], .blk (no) 33 #[.slice A2 l2.length c2], .blk (tk) 48 #[.int .i64 (cls : Int), .int .i64 (id : Int), .int .i64 (am : Int), .int .i64 (t2 : Int)], .row (base) (116) (4) (.slice A2 l2.length c2) (l2.length) (prs l2)] := Mem.call HM hbq
          clear hA hbq
          go_wp2
          go_roundw
          case rel => exact ⟨k + 1, _, _, l2, A2, c2, r2, cr2, h2, b2, d2, k2, 1 - s, _, by omega, by omega, by go_num, rfl, hdv, HS2.out, HB2, HM2, hO2, HL2, HP2, Mem.drop_ 2 (Mem.drop_ 2 (Mem.drop_ 2 (Mem.drop_ 2 HM)))⟩
          case measure => (simp [intOf]; try omega)
    · skip
      have hkN : k = N := by have := HN.out; omega
      subst hkN
      have hlt1 : ((k : Int) < (n : Int) ∧ ¬ (k : Int) < 12) ∨ ¬ (k : Int) < (n : Int) := by omega
      have hb0 := hb.out
      have hm0 := hm.out
      have hl0 := hl.out
      have hP0 := hPth.out
      have HI := Lib.hid (show b < 2 ^ 64 ∧ mmay me rev cr H b bad lock = true ∧ OOk l ∧ l.length ≤ k ∧ Path me (rawsL f k) rev cr H b bad lock l from ⟨hb0, hm0, hO, hl0, hP0⟩)
      clear hcell hwf hb0 hm0 hl0 hP0 hlt hO hk12 hk h
      have oo0 : (wr).cell? ⟨w.heap.size + 1, 0, none⟩ = some (.slice A' l.length c') := (HM.blk 1 rfl).cell 0
      have oof0 : (wr).frozen? ⟨w.heap.size + 1, 0, none⟩ = false := (HM.blk 1 rfl).frozen 0
      have oolt : w.heap.size + 1 < (wr).heap.size := HM.lt 1 rfl
      have rr0 : (wr).cell? ⟨w.heap.size, 0, none⟩ = some (.slice none 0 0) := (HM.blk 0 rfl).cell 0
      have rrf0 : (wr).frozen? ⟨w.heap.size, 0, none⟩ = false := (HM.blk 0 rfl).frozen 0
      have rrlt : w.heap.size < (wr).heap.size := HM.lt 0 rfl
      have ne_oo_rr : w.heap.size + 1 ≠ w.heap.size := HM.ne 1 0 rfl rfl (by decide)
      have ne_rr_oo : w.heap.size ≠ w.heap.size + 1 := HM.ne 0 1 rfl rfl (by decide)
      rcases hlt1 with ⟨g1, g2⟩ | g1
      · go_wp2_with fail
        go_region

        have hrr := HM.blk 0 rfl
        have hCl : 0 < C.length := by have := hS.len; omega
        obtain ⟨We, hWe⟩ : ∃ We, ((wr).setCell ⟨w.heap.size, 0, none⟩ (.slice A' l.length c')).drew = We := ⟨_, rfl⟩
        replace HM : Mem (w) [] _ [.blk (w.heap.size) 33 #[.slice A' l.length c'], .blk (w.heap.size + 1) 33 #[.slice A' l.length c'], .row (bs0) (116) (4) (.slice A' l.length c') (l.length) (prs l)] := Mem.set 0 HM rfl 0 (.slice A' l.length c')
        replace HM := HM.drew
        rw [hWe] at HM ⊢
        clear oo0 oof0 oolt rr0 rrf0 rrlt ne_oo_rr ne_rr_oo
        have rr0 : (We).cell? ⟨w.heap.size, 0, none⟩ = some (.slice A' l.length c') := (HM.blk 0 rfl).cell 0
        have rrf0 : (We).frozen? ⟨w.heap.size, 0, none⟩ = false := (HM.blk 0 rfl).frozen 0
        have rrlt : w.heap.size < (We).heap.size := HM.lt 0 rfl
        go_wp2
        refine bodyPost_ret (v := .tuple #[x, .agg #[.slice A' l.length c'], .bool true]) (by simp [results, Tryd.results12, go_sem, rr0]; done) rfl ?_
        obtain ⟨i1, i2, i3, i4, i5⟩ := HI.out
        have hxe : IsWs We x C := by rw [← hWe]; exact isws_set hx hrr hCl (by intro i u hu z e; subst e; rcases i with _ | i <;> simp at hu) 0 _
        exact ⟨x, C, l, A', c', rev, cr, H, b, bad, lock, s, rfl, hxe, hS, i1, i2, i3, i4, i5, HM.ownb 2 rfl, HM.below⟩
      · skip
        go_wp2_with fail
        go_region
        have hrr := HM.blk 0 rfl
        have hCl : 0 < C.length := by have := hS.len; omega
        obtain ⟨We, hWe⟩ : ∃ We, ((wr).setCell ⟨w.heap.size, 0, none⟩ (.slice A' l.length c')).drew = We := ⟨_, rfl⟩
        replace HM : Mem (w) [] _ [.blk (w.heap.size) 33 #[.slice A' l.length c'], .blk (w.heap.size + 1) 33 #[.slice A' l.length c'], .row (bs0) (116) (4) (.slice A' l.length c') (l.length) (prs l)] := Mem.set 0 HM rfl 0 (.slice A' l.length c')
        replace HM := HM.drew
        rw [hWe] at HM ⊢
        clear oo0 oof0 oolt rr0 rrf0 rrlt ne_oo_rr ne_rr_oo
        have rr0 : (We).cell? ⟨w.heap.size, 0, none⟩ = some (.slice A' l.length c') := (HM.blk 0 rfl).cell 0
        have rrf0 : (We).frozen? ⟨w.heap.size, 0, none⟩ = false := (HM.blk 0 rfl).frozen 0
        have rrlt : w.heap.size < (We).heap.size := HM.lt 0 rfl
        go_wp2
        refine bodyPost_ret (v := .tuple #[x, .agg #[.slice A' l.length c'], .bool true]) (by simp [results, Tryd.results12, go_sem, rr0]; done) rfl ?_
        obtain ⟨i1, i2, i3, i4, i5⟩ := HI.out
        have hxe : IsWs We x C := by rw [← hWe]; exact isws_set hx hrr hCl (by intro i u hu z e; subst e; rcases i with _ | i <;> simp at hu) 0 _
        exact ⟨x, C, l, A', c', rev, cr, H, b, bad, lock, s, rfl, hxe, hS, i1, i2, i3, i4, i5, HM.ownb 2 rfl, HM.below⟩
end Go.Proofs.YtopnlkhepjbjkaaDoor
