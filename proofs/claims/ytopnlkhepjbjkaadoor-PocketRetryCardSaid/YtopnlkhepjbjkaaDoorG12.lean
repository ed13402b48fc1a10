/- slot: Fresh, Load, Store. -/
import Derived.Test.YtopnlkhepjbjkaaDoorG2
import Derived.Test.YtopnlkhepjbjkaaDoorG11
namespace Go.Proofs.YtopnlkhepjbjkaaDoor
open Go.RowKit
set_option linter.unusedVariables false
theorem size_ok (n m : Nat) (w : World) (h1 : 1 ≤ n) (h2 : n ≤ 64) (hm : Hid (m = 2 * (n + 1))) : Calls Tryd.prog 46 #[.int .i64 m, .int .i64 n] w fun e w' => e = .returned (.bool true) ∧ w = w' := by
  have e : ((m : Int) == 2 * ((n : Int) + 1)) = true := by rw [beq_iff_eq, hm.out]; omega
  go_enter Tryd.func46, Tryd.ntmps46
  go_wp2
  go_ret
  exact ⟨ret_true (by simp), rfl⟩
theorem mark0_ok (b off len c n m : Nat) (w : World) (hc : w.cell? ⟨b, off, none⟩ = some (.int .u32 m)) (hb : b < w.heap.size) (hlen : 0 < len) (hn : n ≤ 64) :
    Calls Tryd.prog 76 #[.agg #[.slice (some ⟨b, off, none⟩) len c, .int .i64 n], .int .i64 0] w fun e w' => e = .returned (.int .u32 (slMk m)) ∧ Below w.heap.size w w' := by
  have hlen' : (0 : Int) < (len : Int) := by omega
  by_cases h3 : 3 < m
  · have HM := Lib.hid (show slMk m = 0 by unfold slMk; rw [if_pos h3])
    go_enter Tryd.func76, Tryd.ntmps76
    go_wp2
    go_ret
    exact ⟨by rw [HM.out]; rfl, below_a1 _ _⟩
  · have HM := Lib.hid (show slMk m = m by unfold slMk; rw [if_neg h3])
    go_enter Tryd.func76, Tryd.ntmps76
    go_wp2
    go_ret
    exact ⟨by rw [HM.out]; rfl, below_a1 _ _⟩
theorem mark1_ok (b off len c n m : Nat) (w : World) (hc : w.cell? ⟨b, off + (n + 1), none⟩ = some (.int .u32 m)) (hb : b < w.heap.size) (hlen : n + 1 < len) (hn : n ≤ 64) :
    Calls Tryd.prog 76 #[.agg #[.slice (some ⟨b, off, none⟩) len c, .int .i64 n], .int .i64 1] w fun e w' => e = .returned (.int .u32 (slMk m)) ∧ Below w.heap.size w w' := by
  have hlen' : (n : Int) + 1 < (len : Int) := by omega
  by_cases h3 : 3 < m
  · have HM := Lib.hid (show slMk m = 0 by unfold slMk; rw [if_pos h3])
    go_enter Tryd.func76, Tryd.ntmps76
    go_wp2
    go_ret
    exact ⟨by rw [HM.out]; rfl, below_a1 _ _⟩
  · have HM := Lib.hid (show slMk m = m by unfold slMk; rw [if_neg h3])
    go_enter Tryd.func76, Tryd.ntmps76
    go_wp2
    go_ret
    exact ⟨by rw [HM.out]; rfl, below_a1 _ _⟩
theorem next_ok (m : Nat) (w : World) (hm : m ≤ 3) : Calls Tryd.prog 75 #[.int .u32 m] w fun e w' => e = .returned (.int .u32 (slNx m)) ∧ w = w' := by
  go_enter Tryd.func75, Tryd.ntmps75
  go_wp2
  go_ret
  exact ⟨by unfold slNx; rfl, rfl⟩
set_option maxHeartbeats 1000000 in
theorem newer_ok (b off len c n m0 m1 s : Nat) (w : World) (hc0 : w.cell? ⟨b, off, none⟩ = some (.int .u32 m0)) (hc1 : w.cell? ⟨b, off + (n + 1), none⟩ = some (.int .u32 m1)) (hb : b < w.heap.size) (hlen : n + 1 < len) (hn : n ≤ 64)
    (hs : Hid (slNew (slMk m0) (slMk m1) = s)) (hs2 : s < 2) :
    Calls Tryd.prog 47 #[.agg #[.slice (some ⟨b, off, none⟩) len c, .int .i64 n]] w fun e w' => e = .returned (.int .i64 s) ∧ Below w.heap.size w w' := by
  have hM0 : ∀ W, Below w.heap.size w W → _ := fun W hW => mark0_ok b off len c n m0 W ((hW.cell (p := ⟨b, off, none⟩) hb).trans hc0) (Nat.lt_of_lt_of_le hb hW.size) (by omega) hn
  have hM1 : ∀ W, Below w.heap.size w W → _ := fun W hW => mark1_ok b off len c n m1 W ((hW.cell (p := ⟨b, off + (n + 1), none⟩) hb).trans hc1) (Nat.lt_of_lt_of_le hb hW.size) hlen hn
  have ha := slMk_le m0
  have hbb := slMk_le m1
  generalize slMk m0 = x at *
  generalize slMk m1 = y at *
  have hb0 := fun o => below_a1 w o
  have n1 : w.heap.size < (w.alloc (.cells #[.slice (some ⟨b, off, none⟩) len c, .int .i64 n] 105)).heap.size := by simp
  have B0 : Blk (w.alloc (.cells #[.slice (some ⟨b, off, none⟩) len c, .int .i64 n] 105)).drew w.heap.size 105 #[.slice (some ⟨b, off, none⟩) len c, .int .i64 n] := Blk.new _ _ _
  have c0 := B0.cell 0
  have c1 := B0.cell 1
  clear hc0 hc1 B0
  go_enter Tryd.func47, Tryd.ntmps47
  go_wp2_with fail
  go_region_held3 (fun w' => w'.cell? ⟨w.heap.size, 0, none⟩ = some (.slice (some ⟨b, off, none⟩) len c) ∧ w'.cell? ⟨w.heap.size, 1, none⟩ = some (.int .i64 n)) (first | go_keep | exact ⟨(hb2.cell (p := ⟨w.heap.size, 0, none⟩) n2).trans k0, (hb2.cell (p := ⟨w.heap.size, 1, none⟩) n2).trans k1⟩ | exact ⟨k0, k1⟩ | fail) (first | (go_at_call 76; (with_reducible refine (hM0 _ (Below.drew (hb0 _))).mono ?_); rintro e w1 ⟨rfl, hb1⟩; have bb1 := (Below.drew (hb0 _)).step hb1; have n2 := Nat.lt_of_lt_of_le n1 hb1.size; have k0 := (hb1.cell (p := ⟨w.heap.size, 0, none⟩) n1).trans c0; have k1 := (hb1.cell (p := ⟨w.heap.size, 1, none⟩) n1).trans c1) | (go_at_call 76; (with_reducible refine (hM1 _ bb1).mono ?_); rintro e w2 ⟨rfl, hb2⟩; have bb2 := bb1.step hb2) | fail)
  all_goals
    clear hM0 hM1
    have hN := fun W => next_ok y W hbb
    have hS := hs.out
    unfold slNew at hS
    by_cases hx : x = 0
    · have e1 : ((x : Int) == 0) = true := beq_iff_eq.2 (by omega)
      have e2 : ((y : Int) == 0) = false := beq_eq_false_iff_ne.2 (fun h => by
        rw [if_pos ⟨hx, by omega⟩] at hS; omega)
      have HS : Hid ((1 : Int) = (s : Int)) := by
        show _ = _
        have : ¬ (x = 0 ∧ y = 0) := fun h => by simp [h.2] at e2
        rw [if_neg this, if_pos hx] at hS; omega
      clear hx hS
      go_wp2
      go_ret
      exact ⟨by rw [← HS.out]; rfl, bb2⟩
    · have e1 : ((x : Int) == 0) = false := beq_eq_false_iff_ne.2 (by omega)
      rw [if_neg (fun h => hx h.1), if_neg hx] at hS
      by_cases hy : y = 0
      · have e2 : ((y : Int) == 0) = true := beq_iff_eq.2 (by omega)
        have HS : Hid ((0 : Int) = (s : Int)) := by
          show _ = _
          rw [if_pos (.inl hy)] at hS; omega
        clear hx hy hS
        go_wp2
        go_ret
        exact ⟨by rw [← HS.out]; rfl, bb2⟩
      · have e2 : ((y : Int) == 0) = false := beq_eq_false_iff_ne.2 (by omega)
        by_cases hxy : x = y
        · have e3 : ((x : Int) == (y : Int)) = true := beq_iff_eq.2 (by omega)
          have HS : Hid ((0 : Int) = (s : Int)) := by
            show _ = _
            rw [if_pos (.inr (.inl hxy))] at hS; omega
          clear hx hy hS hxy
          go_wp2
          go_ret
          exact ⟨by rw [← HS.out]; rfl, bb2⟩
        · have e3 : ((x : Int) == (y : Int)) = false := beq_eq_false_iff_ne.2 (by omega)
          by_cases hnx : slNx y = x
          · have e4 : ((slNx y : Nat) == (x : Int)) = true := beq_iff_eq.2 (by omega)
            have HS : Hid ((0 : Int) = (s : Int)) := by
              show _ = _
              rw [if_pos (.inr (.inr hnx))] at hS; omega
            clear hx hy hS hxy hnx
            go_wp2_with fail
            refine (hN _).mono ?_
            rintro e w3 ⟨rfl, rfl⟩
            go_wp2
            go_ret
            exact ⟨by rw [← HS.out]; rfl, bb2⟩
          · have e4 : ((slNx y : Nat) == (x : Int)) = false := beq_eq_false_iff_ne.2 (by omega)
            have HS : Hid ((1 : Int) = (s : Int)) := by
              show _ = _
              rw [if_neg (by omega)] at hS; omega
            clear hx hy hS hxy hnx
            go_wp2_with fail
            refine (hN _).mono ?_
            rintro e w3 ⟨rfl, rfl⟩
            go_wp2
            go_ret
            exact ⟨by rw [← HS.out]; rfl, bb2⟩
set_option maxRecDepth 100000 in
set_option maxHeartbeats 1000000 in
theorem store_ok (v u : Value) (C rec old : List Nat) (n s : Nat) (w : World) (hv : IsWs w v C) (hu : IsWs w u rec) (hsl : IsSl C n old s) (hr : rec.length = n) (h1 : 1 ≤ n) (h2 : n ≤ 64) :
    Calls Tryd.prog 44 #[v, u] w (RetWrOk (slW C n rec s) w) := by
  have hln := hsl.len
  obtain ⟨m0, m1, c0, c1, hs, hs2⟩ := hsl.marks
  have hlt : ∀ p ∈ slW C n rec s, p.2 < 4294967296 := halfW_lt (by obtain ⟨_, _, _, _, _, h, _⟩ := hu; exact h) (by have := slNx_le (slMk (C.getD (s * (n + 1)) 0)); omega)
  obtain ⟨A, cp, rfl, hc1, hc2, hx, hrd⟩ := hv
  obtain ⟨B, cq, rfl, hd1, hd2, hy, hrd2⟩ := hu
  obtain ⟨b, off, rfl, hb, hcell⟩ := hrd.at_ (by omega)
  obtain ⟨b2, o2, rfl, hb2, hcell2⟩ := hrd2.at_ (by omega)
  have q0 : w.cell? ⟨b, off, none⟩ = some (.int .u32 m0) := by
    obtain ⟨hp1, hp2⟩ := List.getElem?_eq_some_iff.1 c0
    have := hcell 0 _ (ws_get hp1)
    rw [hp2] at this
    exact this
  have q1 : w.cell? ⟨b, off + (n + 1), none⟩ = some (.int .u32 m1) := by
    obtain ⟨hp1, hp2⟩ := List.getElem?_eq_some_iff.1 c1
    have := hcell (n + 1) _ (ws_get hp1)
    rw [hp2] at this
    exact this
  have hslW : slW C n rec s = halfW ((1 - s) * (n + 1)) rec (slNx (slMk (if s = 0 then m0 else m1))) := by
    unfold slW
    congr 3
    rcases (show s = 0 ∨ s = 1 by omega) with rfl | rfl
    · rw [List.getD_eq_getElem?_getD, show 0 * (n + 1) = 0 by omega, c0]; rfl
    · rw [List.getD_eq_getElem?_getD, show 1 * (n + 1) = n + 1 by omega, c1]; rfl
  obtain ⟨N, hN⟩ : ∃ N, C.length = N := ⟨_, rfl⟩
  rw [hN] at hln
  rw [hN]
  have hNw := fun W k0 k1 kb => newer_ok b off N cp n m0 m1 s W k0 k1 kb (by omega) h2 hs hs2
  have hsz := fun W => size_ok n N W h1 h2 hln
  have HW := Lib.hid hslW
  have HL := Lib.hid hlt
  have hNn : n + 1 < N := by omega
  rw [hr]
  have HR := Lib.hid hr
  clear hln hslW hlt hcell hrd hrd2 c0 c1 hN hc1 hc2 hd2 hr
  rcases (show s = 0 ∨ s = 1 by omega) with rfl | rfl
  · have hNw0 : ∀ W, Below w.heap.size w W → Calls Tryd.prog 47 #[.agg #[.slice (some ⟨b, off, none⟩) N cp, .int .i64 n]] W fun e w' => e = .returned (.int .i64 0) ∧ Below W.heap.size W w' := fun W hW => hNw W ((hW.cell (p := ⟨b, off, none⟩) hb).trans q0) ((hW.cell (p := ⟨b, off + (n + 1), none⟩) hb).trans q1) (Nat.lt_of_lt_of_le hb hW.size)
    have hMk : ∀ W, Below w.heap.size w W → _ := fun W hW => mark0_ok b off N cp n m0 W ((hW.cell (p := ⟨b, off, none⟩) hb).trans q0) (Nat.lt_of_lt_of_le hb hW.size) (by omega) h2
    have hm3 := slMk_le m0
    rw [if_pos rfl] at HW
    clear hNw q0 q1
    generalize slMk m0 = mk at *
    have hNx := fun W => next_ok mk W hm3
    have hx3 := slNx_le mk
    generalize slNx mk = nx at *
    obtain ⟨q, hq⟩ : ∃ q : Nat, (n : Int) + 1 = (q : Int) := ⟨n + 1, by omega⟩
    have HQ : Hid (q = (1 - 0) * (n + 1)) := by show _ = _; omega
    rw [← HQ.out] at HW
    have hq64 : q ≤ 65 := by omega
    obtain ⟨f, hfd⟩ : ∃ f : Nat → Nat × Nat, f = fun i => (q + 1 + i, rec.getD i 0) := ⟨_, rfl⟩
    have hfk : ∀ k (h : k < rec.length), f k = (q + 1 + k, rec[k]) := fun k h => by rw [hfd]; simp [h]
    have HW2 : Hid (halfW q rec nx = (q, 0) :: ((List.range rec.length).map f ++ [(q, nx)])) := by rw [hfd]; rfl
    clear hfd
    go_enter Tryd.func44, Tryd.ntmps44
    go_wp2_with fail
    refine (hsz _).mono ?_
    rintro e w' ⟨rfl, rfl⟩
    go_wp2_with fail
    refine (hNw0 _ (below_a1 _ _)).mono ?_
    rintro e wN ⟨rfl, hbN⟩
    have bN := (below_a1 _ _).step hbN
    have hgN : w.heap.size < wN.heap.size := by have := hbN.size; simp at this; omega
    have p0 : wN.cell? ⟨w.heap.size, 0, none⟩ = some (.slice (some ⟨b, off, none⟩) N cp) := (hbN.cell (p := ⟨w.heap.size, 0, none⟩) (by simp)).trans (by go_simp)
    have p1 : wN.cell? ⟨w.heap.size, 1, none⟩ = some (.int .i64 n) := (hbN.cell (p := ⟨w.heap.size, 1, none⟩) (by simp)).trans (by go_simp)
    clear hbN hsz hNw0
    go_wp2_with fail
    go_loopw [37, 10] (fun i v wr => ∃ (k : Nat) (A' : Option Addr) (c' : Nat), k ≤ n ∧ i = .int .i64 k ∧ v = .slice A' (k + 1) c' ∧ wr.ownsRow wN.heap.size 69 2 (.slice A' (k + 1) c') (k + 1) (wrs ((q, 0) :: (List.range k).map f)) ∧ Below wN.heap.size wN wr) (fun i _ _ => n - (intOf i).toNat)
    case atStart => exact ⟨0, _, 1, by omega, rfl, rfl, World.ownsRow_lit wN _ 1 (Nat.le_refl _) (by unfold maxLen; omega) rfl, below_a1 _ _⟩
    case round =>
      obtain ⟨k, A', c', hk, rfl, rfl, hown, hbr⟩ := hrel
      have hbs := hbr.size
      have bR := bN.trans (hbr.mono bN.size)
      by_cases hlt : k < n
      · have hkr : k < rec.length := by rw [HR.out]; exact hlt
        have q1 : wr.cell? ⟨b2, o2 + k, none⟩ = some (.int .u32 rec[k]) := (bR.cell (p := ⟨b2, o2 + k, none⟩) hb2).trans (hcell2 k _ (ws_get hkr))
        have HF := Lib.hid (hfk k hkr)
        clear hcell2 hfk
        generalize rec[k] = x at *
        obtain ⟨z, hz⟩ : ∃ z : Nat, (q : Int) + 1 + (k : Int) = (z : Int) := ⟨q + 1 + k, by omega⟩
        have HZ := Lib.hid (show q + 1 + k = z by omega)
        have hone : ∀ u ∈ [Value.int .i64 (z : Int), .int .u32 (x : Int)], u.oneCell' = true := one2 _ _ rfl rfl
        have HE : Hid (wrs ((q, 0) :: (List.range (k + 1)).map f) = wrs ((q, 0) :: (List.range k).map f) ++ [.int .i64 z, .int .u32 x]) := by
          show _ = _
          rw [List.range_succ, List.map_append, ← List.cons_append, wrs_append]
          show _ ++ wrs [f k] = _
          rw [HF.out, HZ.out]; rfl
        go_wp2_with (at_builtin; refine wpList_push el_wr rfl (.tmp 42) (.tmp 49) rfl wr wN.heap.size _ (k + 1) _ [.int .i64 z, .int .u32 x] rfl hown rfl rfl hone (by omega) (by unfold maxLen; omega) hbs ?_; intro A1 c1 w1 hown' hb' _)
        go_roundw
        case rel => exact ⟨k + 1, A1, c1, by omega, by go_num, rfl, by rw [HE.out]; exact hown', hbr.trans hb'⟩
        case measure => (simp [intOf]; try omega)
      · obtain rfl : k = n := by omega
        clear hcell2 hfk
        have p0 := (hbr.cell (p := ⟨w.heap.size, 0, none⟩) hgN).trans p0
        have p1 := (hbr.cell (p := ⟨w.heap.size, 1, none⟩) hgN).trans p1
        go_wp2_with fail
        refine (hMk _ bR).mono ?_
        rintro e wa ⟨rfl, hba⟩
        go_wp2_with fail
        refine (hNx _).mono ?_
        rintro e w' ⟨rfl, rfl⟩
        have hownA := own_below hown hba
        have hsa := Nat.le_trans hbs hba.size
        have hone2 : ∀ u ∈ [Value.int .i64 (q : Int), .int .u32 (nx : Int)], u.oneCell' = true := one2 _ _ rfl rfl
        go_wp2_with (at_builtin; refine wpList_push el_wr rfl (.tmp 52) (.tmp 59) rfl wa wN.heap.size _ (k + 1) _ [.int .i64 (q : Int), .int .u32 nx] rfl hownA rfl rfl hone2 (by omega) (by unfold maxLen; omega) hsa ?_; intro A2 c2 w2 hown2 hb2 _)
        go_ret2
        have hx2 : slW C k rec 0 = ((q, 0) :: (List.range k).map f) ++ [(q, nx)] := by rw [HW.out, HW2.out, HR.out, List.cons_append]
        have hl2 : (slW C k rec 0).length = k + 1 + 1 := by rw [hx2]; simp
        refine ⟨_, rfl, ?_, (bR.step hba).trans (hb2.mono bN.size)⟩
        have hown3 : w2.ownsRow wN.heap.size 69 2 (.slice A2 (k + 1 + 1) c2) (k + 1 + 1) (wrs (slW C k rec 0)) := by
          rw [hx2, wrs_append]; exact hown2
        exact iswr_own hl2 HL.out hown3
  · have hNw0 : ∀ W, Below w.heap.size w W → Calls Tryd.prog 47 #[.agg #[.slice (some ⟨b, off, none⟩) N cp, .int .i64 n]] W fun e w' => e = .returned (.int .i64 1) ∧ Below W.heap.size W w' := fun W hW => hNw W ((hW.cell (p := ⟨b, off, none⟩) hb).trans q0) ((hW.cell (p := ⟨b, off + (n + 1), none⟩) hb).trans q1) (Nat.lt_of_lt_of_le hb hW.size)
    have hMk : ∀ W, Below w.heap.size w W → _ := fun W hW => mark1_ok b off N cp n m1 W ((hW.cell (p := ⟨b, off + (n + 1), none⟩) hb).trans q1) (Nat.lt_of_lt_of_le hb hW.size) hNn h2
    have hm3 := slMk_le m1
    rw [if_neg (by omega)] at HW
    clear hNw q0 q1
    generalize slMk m1 = mk at *
    have hNx := fun W => next_ok mk W hm3
    have hx3 := slNx_le mk
    generalize slNx mk = nx at *
    have HQ : Hid (0 = (1 - 1) * (n + 1)) := by show _ = _; omega
    rw [← HQ.out] at HW
    have hq64 : 0 ≤ 65 := by omega
    obtain ⟨f, hfd⟩ : ∃ f : Nat → Nat × Nat, f = fun i => (0 + 1 + i, rec.getD i 0) := ⟨_, rfl⟩
    have hfk : ∀ k (h : k < rec.length), f k = (0 + 1 + k, rec[k]) := fun k h => by rw [hfd]; simp [h]
    have HW2 : Hid (halfW 0 rec nx = (0, 0) :: ((List.range rec.length).map f ++ [(0, nx)])) := by rw [hfd]; rfl
    clear hfd
    go_enter Tryd.func44, Tryd.ntmps44
    go_wp2_with fail
    refine (hsz _).mono ?_
    rintro e w' ⟨rfl, rfl⟩
    go_wp2_with fail
    refine (hNw0 _ (below_a1 _ _)).mono ?_
    rintro e wN ⟨rfl, hbN⟩
    have bN := (below_a1 _ _).step hbN
    have hgN : w.heap.size < wN.heap.size := by have := hbN.size; simp at this; omega
    have p0 : wN.cell? ⟨w.heap.size, 0, none⟩ = some (.slice (some ⟨b, off, none⟩) N cp) := (hbN.cell (p := ⟨w.heap.size, 0, none⟩) (by simp)).trans (by go_simp)
    have p1 : wN.cell? ⟨w.heap.size, 1, none⟩ = some (.int .i64 n) := (hbN.cell (p := ⟨w.heap.size, 1, none⟩) (by simp)).trans (by go_simp)
    clear hbN hsz hNw0
    go_wp2_with fail
    go_loopw [37, 10] (fun i v wr => ∃ (k : Nat) (A' : Option Addr) (c' : Nat), k ≤ n ∧ i = .int .i64 k ∧ v = .slice A' (k + 1) c' ∧ wr.ownsRow wN.heap.size 69 2 (.slice A' (k + 1) c') (k + 1) (wrs ((0, 0) :: (List.range k).map f)) ∧ Below wN.heap.size wN wr) (fun i _ _ => n - (intOf i).toNat)
    case atStart => exact ⟨0, _, 1, by omega, rfl, rfl, World.ownsRow_lit wN _ 1 (Nat.le_refl _) (by unfold maxLen; omega) rfl, below_a1 _ _⟩
    case round =>
      obtain ⟨k, A', c', hk, rfl, rfl, hown, hbr⟩ := hrel
      have hbs := hbr.size
      have bR := bN.trans (hbr.mono bN.size)
      by_cases hlt : k < n
      · have hkr : k < rec.length := by rw [HR.out]; exact hlt
        have q1 : wr.cell? ⟨b2, o2 + k, none⟩ = some (.int .u32 rec[k]) := (bR.cell (p := ⟨b2, o2 + k, none⟩) hb2).trans (hcell2 k _ (ws_get hkr))
        have HF := Lib.hid (hfk k hkr)
        clear hcell2 hfk
        generalize rec[k] = x at *
        obtain ⟨z, hz⟩ : ∃ z : Nat, (1 : Int) + (k : Int) = (z : Int) := ⟨0 + 1 + k, by omega⟩
        have HZ := Lib.hid (show 0 + 1 + k = z by omega)
        have hone : ∀ u ∈ [Value.int .i64 (z : Int), .int .u32 (x : Int)], u.oneCell' = true := one2 _ _ rfl rfl
        have HE : Hid (wrs ((0, 0) :: (List.range (k + 1)).map f) = wrs ((0, 0) :: (List.range k).map f) ++ [.int .i64 z, .int .u32 x]) := by
          show _ = _
          rw [List.range_succ, List.map_append, ← List.cons_append, wrs_append]
          show _ ++ wrs [f k] = _
          rw [HF.out, HZ.out]; rfl
        go_wp2_with (at_builtin; refine wpList_push el_wr rfl (.tmp 42) (.tmp 49) rfl wr wN.heap.size _ (k + 1) _ [.int .i64 z, .int .u32 x] rfl hown rfl rfl hone (by omega) (by unfold maxLen; omega) hbs ?_; intro A1 c1 w1 hown' hb' _)
        go_roundw
        case rel => exact ⟨k + 1, A1, c1, by omega, by go_num, rfl, by rw [HE.out]; exact hown', hbr.trans hb'⟩
        case measure => (simp [intOf]; try omega)
      · obtain rfl : k = n := by omega
        clear hcell2 hfk
        have p0 := (hbr.cell (p := ⟨w.heap.size, 0, none⟩) hgN).trans p0
        have p1 := (hbr.cell (p := ⟨w.heap.size, 1, none⟩) hgN).trans p1
        go_wp2_with fail
        refine (hMk _ bR).mono ?_
        rintro e wa ⟨rfl, hba⟩
        go_wp2_with fail
        refine (hNx _).mono ?_
        rintro e w' ⟨rfl, rfl⟩
        have hownA := own_below hown hba
        have hsa := Nat.le_trans hbs hba.size
        have hone2 : ∀ u ∈ [Value.int .i64 (0 : Int), .int .u32 (nx : Int)], u.oneCell' = true := one2 _ _ rfl rfl
        go_wp2_with (at_builtin; refine wpList_push el_wr rfl (.tmp 52) (.tmp 59) rfl wa wN.heap.size _ (k + 1) _ [.int .i64 (0 : Int), .int .u32 nx] rfl hownA rfl rfl hone2 (by omega) (by unfold maxLen; omega) hsa ?_; intro A2 c2 w2 hown2 hb2 _)
        go_ret2
        have hx2 : slW C k rec 1 = ((0, 0) :: (List.range k).map f) ++ [(0, nx)] := by rw [HW.out, HW2.out, HR.out, List.cons_append]
        have hl2 : (slW C k rec 1).length = k + 1 + 1 := by rw [hx2]; simp
        refine ⟨_, rfl, ?_, (bR.step hba).trans (hb2.mono bN.size)⟩
        have hown3 : w2.ownsRow wN.heap.size 69 2 (.slice A2 (k + 1 + 1) c2) (k + 1 + 1) (wrs (slW C k rec 1)) := by
          rw [hx2, wrs_append]; exact hown2
        exact iswr_own hl2 HL.out hown3
set_option maxRecDepth 100000 in
set_option maxHeartbeats 1000000 in
theorem load_ok (v : Value) (C r : List Nat) (n s : Nat) (w : World) (hv : IsWs w v C) (hsl : IsSl C n r s) (h1 : 1 ≤ n) (h2 : n ≤ 64) :
    Calls Tryd.prog 25 #[v, .int .i64 n] w (RetWsOk r w) := by
  have hln := hsl.len
  have hrl := hsl.rlen
  have hrec := hsl.rec_
  obtain ⟨m0, m1, c0, c1, hs, hs2⟩ := hsl.marks
  obtain ⟨A, cp, rfl, hc1, hc2, hx, hrd⟩ := hv
  obtain ⟨b, off, rfl, hb, hcell⟩ := hrd.at_ (by omega)
  have hrx : ∀ x ∈ r, x < 4294967296 := fun x h => hx x (by
    rw [← hrec] at h
    exact List.mem_of_mem_drop (List.mem_of_mem_take h))
  have hrc : ∀ j u, (ws r)[j]? = some u → w.cell? ⟨b, off + (s * (n + 1) + 1) + j, none⟩ = some u := fun j u hu => by
    have hj := (List.getElem?_eq_some_iff.1 hu).1
    rw [ws_length, hrl] at hj
    rw [Nat.add_assoc]
    refine hcell _ _ ?_
    have e : r[j]? = C[s * (n + 1) + 1 + j]? := by
      rw [← hrec, List.getElem?_take, if_pos hj, List.getElem?_drop]
    unfold ws at hu ⊢
    rw [List.getElem?_map] at hu ⊢
    rw [← e]
    exact hu
  have q0 : w.cell? ⟨b, off, none⟩ = some (.int .u32 m0) := by
    obtain ⟨hp1, hp2⟩ := List.getElem?_eq_some_iff.1 c0
    have := hcell 0 _ (ws_get hp1)
    rw [hp2] at this
    exact this
  have q1 : w.cell? ⟨b, off + (n + 1), none⟩ = some (.int .u32 m1) := by
    obtain ⟨hp1, hp2⟩ := List.getElem?_eq_some_iff.1 c1
    have := hcell (n + 1) _ (ws_get hp1)
    rw [hp2] at this
    exact this
  obtain ⟨N, hN⟩ : ∃ N, C.length = N := ⟨_, rfl⟩
  rw [hN] at hln
  rw [hN] at hc1 ⊢
  have hNw := fun W k0 k1 kb => newer_ok b off N cp n m0 m1 s W k0 k1 kb (by omega) h2 hs hs2
  have hsz := fun W => size_ok n N W h1 h2 hln
  have hNn : n + 1 + n < N := by omega
  have hone : ∀ u ∈ ws r, u.oneCell' = true := by intro u hu; simp [ws] at hu; obtain ⟨x, _, rfl⟩ := hu; rfl
  have hby : (0 + n) * 4 ≤ 140737488355328 := by omega
  have hmx : 0 + n ≤ maxLen := by unfold maxLen; omega
  have hcp : cp ≤ 9223372036854775807 := by unfold maxLen at hc2; omega
  clear hln hcell hrd c0 c1 hN hc2 hrec
  rcases (show s = 0 ∨ s = 1 by omega) with rfl | rfl
  · have hNw0 : ∀ W, Below w.heap.size w W → Calls Tryd.prog 47 #[.agg #[.slice (some ⟨b, off, none⟩) N cp, .int .i64 n]] W fun e w' => e = .returned (.int .i64 0) ∧ Below W.heap.size W w' := fun W hW => hNw W ((hW.cell (p := ⟨b, off, none⟩) hb).trans q0) ((hW.cell (p := ⟨b, off + (n + 1), none⟩) hb).trans q1) (Nat.lt_of_lt_of_le hb hW.size)
    rw [show 0 * (n + 1) + 1 = 1 by omega] at hrc
    clear hNw q0 q1
    go_enter Tryd.func25, Tryd.ntmps25
    go_wp2_with fail
    refine (hsz _).mono ?_
    rintro e w' ⟨rfl, rfl⟩
    go_wp2_with fail
    refine (hNw0 _ (below_a1 _ _)).mono ?_
    rintro e wN ⟨rfl, hbN⟩
    have bN := (below_a1 _ _).step hbN
    have hgN : w.heap.size ≤ wN.heap.size := bN.size
    have eM : (1 + n - 1) = n := by omega
    have hRd : Rd wN w.heap.size 1 (some ⟨b, off + 1, none⟩) (1 + n - 1) (ws r) := ⟨by rw [eM]; rw [ws_length, Nat.mul_one]; exact hrl, fun _ => ⟨b, off + 1, rfl, hb, fun j u hu => (bN.cell (p := ⟨b, off + 1 + j, none⟩) hb).trans (hrc j u hu)⟩⟩
    have HM := Lib.hid (show 0 + (1 + n - 1) = n by omega)
    have hby : (0 + (1 + n - 1)) * 4 ≤ 140737488355328 := by omega
    have hmx : 0 + (1 + n - 1) ≤ maxLen := by unfold maxLen; omega
    clear eM
    clear hbN hsz hNw0 hrc
    go_wp2_with (at_builtin; go_loud (refine wpList_pushN el_u32 rfl (.const (.slice none 0 0)) (.tmp 31) rfl wN wN.heap.size _ 0 [] rfl (World.ownsRow_nil _ _ _ _) _ _ (1 + n - 1) _ (ws r) rfl hRd hone hby hmx wN (Below.refl _ _) (Nat.le_refl _) ?_); intro A1 c1 w1 hown1 hb1)
    go_ret2
    rw [HM.out, List.nil_append] at hown1
    exact ⟨_, rfl, by first | exact isws_own hrl hrx hown1 | (show IsWs w1 (.slice A1 (1 + n - 1) c1) r; rw [show (1 + n - 1) = n by omega]; exact isws_own hrl hrx hown1), bN.step hb1⟩
  · have hNw0 : ∀ W, Below w.heap.size w W → Calls Tryd.prog 47 #[.agg #[.slice (some ⟨b, off, none⟩) N cp, .int .i64 n]] W fun e w' => e = .returned (.int .i64 1) ∧ Below W.heap.size W w' := fun W hW => hNw W ((hW.cell (p := ⟨b, off, none⟩) hb).trans q0) ((hW.cell (p := ⟨b, off + (n + 1), none⟩) hb).trans q1) (Nat.lt_of_lt_of_le hb hW.size)
    rw [show 1 * (n + 1) + 1 = (n + 1 + 1) by omega] at hrc
    clear hNw q0 q1
    go_enter Tryd.func25, Tryd.ntmps25
    go_wp2_with fail
    refine (hsz _).mono ?_
    rintro e w' ⟨rfl, rfl⟩
    go_wp2_with fail
    refine (hNw0 _ (below_a1 _ _)).mono ?_
    rintro e wN ⟨rfl, hbN⟩
    have bN := (below_a1 _ _).step hbN
    have hgN : w.heap.size ≤ wN.heap.size := bN.size
    have eM : (n + 1 + 1 + n - (n + 1 + 1)) = n := by omega
    have hRd : Rd wN w.heap.size 1 (some ⟨b, off + (n + 1 + 1), none⟩) (n + 1 + 1 + n - (n + 1 + 1)) (ws r) := ⟨by rw [eM]; rw [ws_length, Nat.mul_one]; exact hrl, fun _ => ⟨b, off + (n + 1 + 1), rfl, hb, fun j u hu => (bN.cell (p := ⟨b, off + (n + 1 + 1) + j, none⟩) hb).trans (hrc j u hu)⟩⟩
    have HM := Lib.hid (show 0 + (n + 1 + 1 + n - (n + 1 + 1)) = n by omega)
    have hby : (0 + (n + 1 + 1 + n - (n + 1 + 1))) * 4 ≤ 140737488355328 := by omega
    have hmx : 0 + (n + 1 + 1 + n - (n + 1 + 1)) ≤ maxLen := by unfold maxLen; omega
    clear eM
    clear hbN hsz hNw0 hrc
    go_wp2_with (at_builtin; go_loud (refine wpList_pushN el_u32 rfl (.const (.slice none 0 0)) (.tmp 31) rfl wN wN.heap.size _ 0 [] rfl (World.ownsRow_nil _ _ _ _) _ _ (n + 1 + 1 + n - (n + 1 + 1)) _ (ws r) rfl hRd hone hby hmx wN (Below.refl _ _) (Nat.le_refl _) ?_); intro A1 c1 w1 hown1 hb1)
    go_ret2
    rw [HM.out, List.nil_append] at hown1
    exact ⟨_, rfl, by first | exact isws_own hrl hrx hown1 | (show IsWs w1 (.slice A1 (n + 1 + 1 + n - (n + 1 + 1)) c1) r; rw [show (n + 1 + 1 + n - (n + 1 + 1)) = n by omega]; exact isws_own hrl hrx hown1), bN.step hb1⟩
/-- Fresh slots. -/
theorem fresh_ok (n : Nat) (w : World) (h1 : 1 ≤ n) (h2 : n ≤ 64) : Calls Tryd.prog 19 #[.int .i64 n] w (RetWsOk (1 :: List.replicate (2 * n + 1) 0) w) := by
  obtain ⟨N, hN⟩ : ∃ N : Nat, (2 : Int) * ((n : Int) + 1) = (N : Int) := ⟨2 * (n + 1), by omega⟩
  have hmk0 := run_make_n (P := Tryd.prog) Tryd.underlying23 u32_info N (by omega) (by omega)
  have eN : N = 2 * n + 1 + 1 := by omega
  obtain ⟨L, hL⟩ : ∃ L : List Value, List.replicate (2 * n + 1) (Value.int .u32 0) = L := ⟨_, rfl⟩
  have hmk : ∀ w : World, (Instr.makeSlice 23 (.int .i64 N) (.int .i64 N)).run Tryd.prog w = .ok (.slice (some ⟨w.heap.size, 0, none⟩) N N) (w.alloc (.cells (Value.int .u32 0 :: L).toArray 67)) := fun w => by
    rw [hmk0 w, ← hL]
    congr 4
    rw [eN, List.replicate_succ]
  have HN := Lib.hid eN
  have HL := Lib.hid hL
  have hN0 : (0 : Int) < (N : Int) := by omega
  clear eN hL hmk0
  go_enter Tryd.func19, Tryd.ntmps19
  go_wp2
  go_ret2
  have e2 : (1 :: List.replicate (2 * n + 1) 0 : List Nat).length = N := by rw [List.length_cons, List.length_replicate, HN.out]
  have h := isws_blk (w := w.alloc (.cells (ws (1 :: List.replicate (2 * n + 1) 0)).toArray 67)) (g := w.heap.size) (t := 67) (xs := 1 :: List.replicate (2 * n + 1) 0) (by unfold maxLen; simp; omega) (by
    intro x hx
    rcases List.mem_cons.1 hx with rfl | hx
    · omega
    · have := (List.mem_replicate.1 hx).2; omega) (Blk.new _ _ _)
  have e3 : ws (1 :: List.replicate (2 * n + 1) 0) = Value.int .u32 1 :: L := by rw [← HL.out]; unfold ws; rw [List.map_cons, List.map_replicate]; rfl
  rw [e3, e2] at h
  refine ⟨_, rfl, ?_, ?_⟩
  · simpa using h
  · exact below_a1 _ _
end Go.Proofs.YtopnlkhepjbjkaaDoor
