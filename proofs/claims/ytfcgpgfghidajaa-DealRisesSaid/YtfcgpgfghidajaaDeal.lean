/- cents.Deal. -/
import Derived.Test.YtfcgpgfghidajaaSortS
import Derived.Test.YtfcgpgfghidajaaDealE
import Derived.Test.YtfcgpgfghidajaaOwn
import Derived.Laws.EntriesVeiled
namespace Go.Proofs.Ytfcgpgfghidajaa
open Go.RowKit Go.Sort
set_option linter.unusedVariables false
theorem cwithin_yes (n lo hi : Int) (w : World) (h1 : lo ≤ n) (h2 : n ≤ hi) :
    Calls Try.prog 9 #[.int .i64 n, .int .i64 lo, .int .i64 hi] w fun e w' => e = .returned (.bool true) ∧ w = w' := by
  go_enter Try.func9, Try.ntmps9
  go_wp2
  go_ret
  exact ⟨rfl, rfl⟩
/-- What is dealt by: a total, weights that may be. -/
structure DealIn (t : Nat) (l : List Nat) : Prop where
  ht : t ≤ 1000000000000
  hw : ∀ x ∈ l, x ≤ 1000000
  h1 : 1 ≤ l.length
  h2 : l.length ≤ 50
  h0 : 0 < l.sum
set_option maxRecDepth 100000 in
theorem deal_arith {t x m L A B : Nat} (ht : t ≤ 1000000000000) (hx : x ≤ 1000000) (hm : 0 < m) (h1 : A + L = t) (h2 : B = A + t * x / m) (h3 : B ≤ t) : ∃ p q L2 : Nat, t * x / m = q ∧ (t : Int) * (x : Int) = (p : Int) ∧ IntKind.i64.wrap ((t : Int) * (x : Int)) = (p : Int) ∧ IntKind.i64.wrap (Int.tdiv (p : Int) (m : Int)) = (q : Int) ∧ (p : Int) / (m : Int) = (q : Int) ∧ ((m : Int) == 0) = false ∧ ¬ (m : Int) = 0 ∧ (L : Int) - (q : Int) = (L2 : Int) ∧ wrap64 (q : Int) = (q : Int) ∧ wrap64 (L2 : Int) = (L2 : Int) ∧ B + L2 = t := by
  obtain ⟨p, hp⟩ : ∃ p, t * x = p := ⟨_, rfl⟩
  obtain ⟨q, hq⟩ : ∃ q, p / m = q := ⟨_, rfl⟩
  have hpb : p ≤ 1000000000000 * 1000000 := by rw [← hp]; exact Nat.mul_le_mul ht hx
  have hpb : p ≤ 1000000000000000000 := hpb
  have hqp : q ≤ p := by rw [← hq]; exact Nat.div_le_self _ _
  have hm' : (t : Int) * (x : Int) = (p : Int) := by rw [← hp]; exact (Int.natCast_mul t x).symm
  rw [hp, hq] at h2
  have w : ∀ n : Nat, n ≤ 1000000000000000000 → wrap64 (n : Int) = (n : Int) := fun n hn => IntWalk.wrap64_in _ ⟨by omega, by omega⟩
  have hq' : Int.tdiv (p : Int) (m : Int) = (q : Int) := by rw [show Int.tdiv (p : Int) (m : Int) = ((p / m : Nat) : Int) from rfl, hq]
  refine ⟨p, q, L - q, by rw [hp, hq], hm', by rw [hm', IntWalk.i64_left]; exact w p hpb, by rw [hq', IntWalk.i64_left]; exact w q (Nat.le_trans hqp hpb), ?_, ?_, by omega, by omega, w q (Nat.le_trans hqp hpb), w _ (by omega), by omega⟩
  · rw [← hq]; exact (show ((p / m : Nat) : Int) = (p : Int) / (m : Int) from rfl).symm
  · simp; omega
theorem left_step {A B q L t : Nat} (h1 : A + L = t) (h2 : B = A + q) (h3 : B ≤ t) : ∃ L2, L = L2 + q ∧ B + L2 = t := ⟨L - q, by omega, by omega⟩
/-- What Deal answers. -/
def RetDeal (t : Nat) (l : List Nat) (w : World) (e : Ending) (w' : World) : Prop :=
  ∃ (g : Nat) (o : List Nat) (left : Nat), e = .returned (.tuple #[.slice (some ⟨g, 0, none⟩) l.length l.length, .int .i64 0]) ∧ Dealt t l o left ∧ Below w.heap.size w w' ∧ Blk w' g 3 (tab l.length (outF t l.sum left l o))
set_option maxRecDepth 100000 in
set_option maxHeartbeats 4000000 in
theorem deal_ok (t : Nat) (l : List Nat) (b off c : Nat) (w : World) (K : DealIn t l) (hb : b < w.heap.size) (hW : ∀ x, x < l.length → w.cell? ⟨b, off + x, none⟩ = some (.int .i64 ((l.getD x 0 : Nat) : Int))) :
    Calls Try.prog 8 #[.int .i64 (t : Int), .slice (some ⟨b, off, none⟩) l.length c] w (RetDeal t l w) := by
  have hmk : ∀ (W : World), (Instr.makeSlice 22 (.int .i64 (l.length : Int)) (.int .i64 (l.length : Int))).run Try.prog W = .ok (.slice (some ⟨W.heap.size, 0, none⟩) l.length l.length) (W.alloc (.cells (tab l.length fun _ => 0) 3)) := fun W => by
    have h := run_make_z (P := Try.prog) Try.underlying22 int_info rfl l.length (by have := K.h2; omega) (by have := K.h2; omega) W
    rwa [tab_zero] at h
  obtain ⟨n, hn⟩ : ∃ n, l.length = n := ⟨_, rfl⟩
  have hn1 : 1 ≤ n := by rw [← hn]; exact K.h1
  have hn2 : n ≤ 50 := by rw [← hn]; exact K.h2
  have ht := K.ht
  have HK := Lib.hid K
  have HW := Lib.hid hW
  clear K hW
  rw [hn] at hmk
  have HN := Lib.hid hn
  unfold RetDeal
  rw [hn]
  clear hn
  have H := Mem.init w
  go_enter Try.func8, Try.ntmps8
  go_wp2_with (go_at_call 9; refine (cwithin_yes _ _ _ _ (by omega) (by omega)).mono ?_; rintro e w' ⟨rfl, rfl⟩)
  obtain ⟨W0, hW0⟩ : ∃ W0, (((w).alloc (.cells #[.int .i64 (t : Int)] 3)).alloc (.cells #[.slice (some ⟨b, off, none⟩) n c] 22)).alloc (.cells #[.int .i64 0] 3) = W0 := ⟨_, rfl⟩
  replace H := Mem.alloc H (w.heap.size) (by first | (simp; done) | (simp; omega)) #[.int .i64 (t : Int)] 3
  replace H := Mem.alloc H (w.heap.size + 1) (by first | (simp; done) | (simp; omega)) #[.slice (some ⟨b, off, none⟩) n c] 22
  replace H := Mem.alloc H (w.heap.size + 1 + 1) (by first | (simp; done) | (simp; omega)) #[.int .i64 0] 3
  simp only [List.nil_append, List.cons_append] at H
  rw [hW0] at H ⊢
  clear hW0
  go_loopw [7, 27] (fun bad i wr => ∃ (k m : Nat), k ≤ n ∧ i = .int .i64 (k : Int) ∧ bad = .bool false ∧ Hid ((l.take k).sum = m) ∧ m ≤ 50000000 ∧ Mem (w) [] (wr) [.blk (w.heap.size) 3 #[.int .i64 (t : Int)], .blk (w.heap.size + 1) 22 #[.slice (some ⟨b, off, none⟩) n c], .blk (w.heap.size + 1 + 1) 3 #[.int .i64 (m : Int)]]) (fun _ i _ => n - (intOf i).toNat)
  case atStart => exact ⟨0, 0, by omega, rfl, rfl, Lib.hid rfl, by omega, H⟩
  case round =>
    obtain ⟨k, m, hk, rfl, rfl, hm, hm5, HM⟩ := hrel
    clear H

    replace H : Mem (w) [] (wr) [.blk (w.heap.size) 3 #[.int .i64 (t : Int)], .blk (w.heap.size + 1) 22 #[.slice (some ⟨b, off, none⟩) n c], .blk (w.heap.size + 1 + 1) 3 #[.int .i64 (m : Int)]] := HM
    clear HM
    obtain ⟨ttlt, tt0, ttf0⟩ := H.c1 0 rfl
    obtain ⟨wtlt, wt0, wtf0⟩ := H.c1 1 rfl
    obtain ⟨allt, al0, alf0⟩ := H.c1 2 rfl
    have ne_tt_wt := H.ne 0 1 rfl rfl (by decide)
    have ne_tt_al := H.ne 0 2 rfl rfl (by decide)
    have ne_wt_tt := H.ne 1 0 rfl rfl (by decide)
    have ne_wt_al := H.ne 1 2 rfl rfl (by decide)
    have ne_al_tt := H.ne 2 0 rfl rfl (by decide)
    have ne_al_wt := H.ne 2 1 rfl rfl (by decide)

    by_cases hlt : k < n
    · have hlt2 : (k : Int) < (n : Int) := by omega
      have hB := H.below
      have hck := (hB.cell (p := ⟨b, off + k, none⟩) hb).trans (HW.out k (by rw [HN.out]; exact hlt))
      have hx := getD_le (k := k) HK.out.hw
      have hs := take_succ_sum (l := l) (k := k) (by rw [HN.out]; exact hlt)
      rw [hm.out] at hs
      have hsb := take_sum_le l (k + 1)
      have hs2 := sum_bound HK.out.hw
      rw [HN.out] at hs2
      rw [hs] at hsb
      obtain ⟨x, hxx⟩ : ∃ x, l.getD k 0 = x := ⟨_, rfl⟩
      rw [hxx] at hck hx hs hsb
      have HS := Lib.hid hs
      have hmx : m + x ≤ 50000000 := by omega
      clear hs hsb hs2 hxx
      go_wp2_with (go_at_call 9; refine (cwithin_yes _ _ _ _ (by omega) (by omega)).mono ?_; rintro e w' ⟨rfl, rfl⟩)
      have e1 : (m : Int) + (x : Int) = ((m + x : Nat) : Int) := (Int.natCast_add m x).symm
      rw [e1]
      obtain ⟨wn, hwn⟩ : ∃ wn, (wr).setCell ⟨w.heap.size + 1 + 1, 0, none⟩ (.int .i64 ((m + x : Nat) : Int)) = wn := ⟨_, rfl⟩
      replace H := Mem.set 2 H rfl (0) (.int .i64 ((m + x : Nat) : Int))
      simp only [List.set_cons_zero, List.set_cons_succ, List.setIfInBounds_toArray] at H
      rw [hwn] at H ⊢
      clear hwn
      go_roundw
      case rel => exact ⟨k + 1, m + x, by omega, by go_num, rfl, HS, hmx, H⟩
      case measure => simp [intOf]; omega
    · skip
      obtain rfl : k = n := by omega
      have hall : l.sum = m := by
        have h := hm.out
        rwa [← HN.out, List.take_length] at h
      have hm0 : 0 < m := by have := HK.out.h0; omega
      have hz0 : decide ((m : Int) = 0) = false := by simp; omega
      have HA := Lib.hid hall
      clear hm hall hlt
      go_wp2_with fail
      clear ttlt tt0 ttf0 wtlt wt0 wtf0 allt al0 alf0 ne_tt_wt ne_tt_al ne_wt_tt ne_wt_al ne_al_tt ne_al_wt
      obtain ⟨w1, hw1⟩ : ∃ w1, w1 = wr := ⟨_, rfl⟩
      subst hw1
      have H2 := (H.alloc _ rfl (tab k fun _ => 0) 3).alloc (w1.heap.size + 1) (by simp) (tab k fun _ => 0) 3
      obtain ⟨W2, hW2⟩ : ∃ W2, (w1.alloc (.cells (tab k fun _ => 0) 3)).alloc (.cells (tab k fun _ => 0) 3) = W2 := ⟨_, rfl⟩
      rw [hW2] at H2 ⊢
      simp only [List.cons_append, List.nil_append] at H2
      clear hW2 H
      obtain ⟨g1, hg1⟩ : ∃ g, w1.heap.size = g := ⟨_, rfl⟩
      rw [hg1] at H2 ⊢
      clear hg1
      go_loopw [12, 55] (fun left i w3 => ∃ (k2 L : Nat), k2 ≤ k ∧ i = .int .i64 (k2 : Int) ∧ left = .int .i64 (L : Int) ∧ Hid (((l.take k2).map (shr t m)).sum + L = t) ∧
        Mem w [] w3 [.blk w.heap.size 3 #[.int .i64 (t : Int)], .blk (w.heap.size + 1) 22 #[.slice (some ⟨b, off, none⟩) k c], .blk (w.heap.size + 1 + 1) 3 #[.int .i64 (m : Int)], .blk g1 3 (tab k fun j => if j < k2 then shr t m (l.getD j 0) else 0), .blk (g1 + 1) 3 (tab k fun j => if j < k2 then j else 0)]) (fun _ i _ => k - (intOf i).toNat)
      case atStart => exact ⟨0, t, by omega, rfl, rfl, Lib.hid (by simp), by simpa using H2⟩
      case round =>
        obtain ⟨k2, L, hk2, rfl, rfl, hL, HM⟩ := hrel
        clear H2
        have H : Mem (w) [] (wr) [.blk (w.heap.size) 3 #[.int .i64 (t : Int)], .blk (w.heap.size + 1) 22 #[.slice (some ⟨b, off, none⟩) k c], .blk (w.heap.size + 1 + 1) 3 #[.int .i64 (m : Int)], .blk (g1) 3 (tab k fun j => if j < k2 then shr t m (l.getD j 0) else 0), .blk ((g1+1)) 3 (tab k fun j => if j < k2 then j else 0)] := HM
        clear HM
        obtain ⟨ttlt, tt0, ttf0⟩ := H.c1 0 rfl
        obtain ⟨wtlt, wt0, wtf0⟩ := H.c1 1 rfl
        obtain ⟨allt, al0, alf0⟩ := H.c1 2 rfl
        have ne_tt_wt := H.ne 0 1 rfl rfl (by decide)
        have ne_tt_al := H.ne 0 2 rfl rfl (by decide)
        have ne_wt_tt := H.ne 1 0 rfl rfl (by decide)
        have ne_wt_al := H.ne 1 2 rfl rfl (by decide)
        have ne_al_tt := H.ne 2 0 rfl rfl (by decide)
        have ne_al_wt := H.ne 2 1 rfl rfl (by decide)

        by_cases hlt : k2 < k
        · have hlt2 : (k2 : Int) < (k : Int) := by omega
          have hB := H.below
          have hck := (hB.cell (p := ⟨b, off + k2, none⟩) hb).trans (HW.out k2 (by rw [HN.out]; exact hlt))
          have hx := getD_le (k := k2) HK.out.hw
          have hs := pre_succ (l := l) (k := k2) (shr t m) (by rw [HN.out]; exact hlt)
          have hsb := pre_shr (t := t) HK.out.h0 (k2 + 1)
          rw [HA.out] at hsb
          obtain ⟨x, hxx⟩ : ∃ x, l.getD k2 0 = x := ⟨_, rfl⟩
          rw [hxx] at hck hx hs
          obtain ⟨p, q, L2, hq, hm', z1, z2, z5, z3, z4, z6, y1, y2, hL3⟩ := deal_arith ht hx hm0 hL.out hs hsb
          have HS := Lib.hid hL3
          have HQ := Lib.hid (show shr t m (l.getD k2 0) = q by rw [hxx]; exact hq)
          have co := ((H.blk 3 rfl).cell k2).trans (tab_get _ hlt)
          have cof := (H.blk 3 rfl).frozen k2
          have cd := ((H.blk 4 rfl).cell k2).trans (tab_get _ hlt)
          have cdf := (H.blk 4 rfl).frozen k2
          have olt := H.lt 3 rfl
          have dlt := H.lt 4 rfl
          have n1 := H.ne 3 0 rfl rfl (by decide)
          have n2 := H.ne 3 1 rfl rfl (by decide)
          have n3 := H.ne 3 2 rfl rfl (by decide)
          have n4 := H.ne 4 0 rfl rfl (by decide)
          have n5 := H.ne 4 1 rfl rfl (by decide)
          have n6 := H.ne 4 2 rfl rfl (by decide)
          have n7 : g1 ≠ g1 + 1 := by omega
          have n8 : g1 + 1 ≠ g1 := by omega
          have n9 := hB.size
          have n10 : b ≠ g1 := fun e => by have := H.ge 3 rfl; omega
          have n11 : b ≠ g1 + 1 := fun e => by have := H.ge 4 rfl; omega
          clear hs hsb hxx hq hm' hL3 hx
          go_wp2_with fail
          try simp only [y2]
          have HM := (H.set 3 rfl k2 (.int .i64 (q : Int))).set 4 rfl k2 (.int .i64 (k2 : Int))
          simp only [List.set_cons_succ, List.set_cons_zero] at HM
          rw [tab_set _ hlt, tab_set _ hlt] at HM
          go_roundw
          case rel =>
            refine ⟨k2 + 1, L2, by omega, by go_num, rfl, HS, ?_⟩
            rw [tab_congr (f := fun j => if j < k2 + 1 then shr t m (l.getD j 0) else 0) (g := fun j => if j = k2 then q else if j < k2 then shr t m (l.getD j 0) else 0) (fun j hj => ?_), tab_congr (f := fun j => if j < k2 + 1 then j else 0) (g := fun j => if j = k2 then k2 else if j < k2 then j else 0) (fun j hj => ?_)]
            · exact HM
            · by_cases e : j = k2
              · subst e; simp
              · by_cases e2 : j < k2
                · simp [e, e2, show j < k2 + 1 by omega]
                · simp [e, e2, show ¬ j < k2 + 1 by omega]
            · by_cases e : j = k2
              · subst e; rw [if_pos (Nat.lt_succ_self _), if_pos rfl]; exact HQ.out
              · by_cases e2 : j < k2
                · simp [e, e2, show j < k2 + 1 by omega]
                · simp [e, e2, show ¬ j < k2 + 1 by omega]
          case measure => simp [intOf]; omega
        · skip
          obtain rfl : k2 = k := by omega
          have HM := H
          rw [tab_congr (f := fun j => if j < k2 then shr t m (l.getD j 0) else 0) (g := fun j => shr t m (l.getD j 0)) (fun j hj => by simp [hj]), tab_congr (f := fun j => if j < k2 then j else 0) (g := fun j => j) (fun j hj => by simp [hj])] at HM
          clear H
          have H : Mem (w) [] (wr) [.blk (w.heap.size) 3 #[.int .i64 (t : Int)], .blk (w.heap.size + 1) 22 #[.slice (some ⟨b, off, none⟩) k2 c], .blk (w.heap.size + 1 + 1) 3 #[.int .i64 (m : Int)], .blk (g1) 3 (tab k2 fun j => shr t m (l.getD j 0)), .blk ((g1+1)) 3 (tab k2 fun j => j)] := HM
          clear HM
          have hLs : (l.map (shr t m)).sum + L = t := by
            have h := hL.out
            rwa [← HN.out, List.take_length] at h
          have HL := Lib.hid hLs
          clear hL hLs
          go_wp2_with fail
          obtain ⟨w4, hw4⟩ : ∃ w4, (wr).alloc (.cells #[.func (.func 10) #[] #[.pointer (some ⟨w.heap.size, 0, none⟩), .pointer (some ⟨w.heap.size + 1, 0, none⟩), .pointer (some ⟨w.heap.size + 1 + 1, 0, none⟩)]] 30) = w4 := ⟨_, rfl⟩
          replace H := Mem.alloc H (wr.heap.size) (by first | (simp; done) | (simp; omega)) #[.func (.func 10) #[] #[.pointer (some ⟨w.heap.size, 0, none⟩), .pointer (some ⟨w.heap.size + 1, 0, none⟩), .pointer (some ⟨w.heap.size + 1 + 1, 0, none⟩)]] 30
          simp only [List.cons_append, List.nil_append] at H
          rw [hw4] at H ⊢
          clear hw4
          obtain ⟨g4, hg4⟩ : ∃ g, wr.heap.size = g := ⟨_, rfl⟩
          rw [hg4] at H ⊢
          have hlk := HN.out
          have hC : CutAt t m l w.heap.size (w.heap.size + 1) (w.heap.size + 1 + 1) g4 b off c w4 := ⟨(H.blk 0 rfl).cell 0, by rw [hlk]; exact (H.blk 1 rfl).cell 0, (H.blk 2 rfl).cell 0, (H.blk 5 rfl).cell 0, fun x hx => (H.below.cell (p := ⟨b, off + x, none⟩) hb).trans (HW.out x hx)⟩
          have hKI : CutIn t m l := ⟨ht, fun x hx => getD_le HK.out.hw, hm0, hm5⟩
          have q0 := H.lt 0 rfl
          have q1 := H.lt 1 rfl
          have q2 := H.lt 2 rfl
          have q5 := H.lt 5 rfl
          have r0 := H.ne 4 0 rfl rfl (by decide)
          have r1 := H.ne 4 1 rfl rfl (by decide)
          have r2 := H.ne 4 2 rfl rfl (by decide)
          have r5 := H.ne 4 5 rfl rfl (by decide)
          have r6 := H.ge 4 rfl
          have r7 := H.below.size
          have hS := sort_ok t m l w.heap.size (w.heap.size + 1) (w.heap.size + 1 + 1) g4 b off c (g1 + 1) w4 hC hKI (fun j hj => by rcases hj with rfl | rfl | rfl | rfl | rfl <;> omega) (by omega) (by omega) (by rw [hlk]; exact H.blk 4 rfl)
          rw [hlk] at hS
          clear q0 q1 q2 q5 r0 r1 r2 r5 r6 r7 hC hKI hlk hg4
          refine hS.mono ?_
          rintro e w5 ⟨rfl, hg, o, ho, hbo⟩
          have H5 := H.mod 4 rfl hg (by rw [HN.out] at hbo; exact hbo)
          simp only [List.set_cons_succ, List.set_cons_zero] at H5
          have hoL := dealt_of (t := t) (l := l) (o := o) HK.out.h0 (by rw [HA.out]; exact ho)
          have hLL : t - (l.map (shr t l.sum)).sum = L := by rw [HA.out]; have := HL.out; omega
          rw [hLL] at hoL
          have hLk := hoL.le
          rw [HN.out] at hLk
          have HD := Lib.hid hoL
          have HO := Lib.hid (show Ord (keyF t m l) k2 o by rw [← HN.out]; exact ho)
          clear hS hg hbo hoL hLL ho H
          have H : Mem (w) [] (w5) [.blk (w.heap.size) 3 #[.int .i64 (t : Int)], .blk (w.heap.size + 1) 22 #[.slice (some ⟨b, off, none⟩) k2 c], .blk (w.heap.size + 1 + 1) 3 #[.int .i64 (m : Int)], .blk (g1) 3 (tab k2 fun j => shr t m (l.getD j 0)), .blk ((g1+1)) 3 (tab k2 fun i => o.getD i 0), .blk (g4) 30 #[.func (.func 10) #[] #[.pointer (some ⟨w.heap.size, 0, none⟩), .pointer (some ⟨w.heap.size + 1, 0, none⟩), .pointer (some ⟨w.heap.size + 1 + 1, 0, none⟩)]]] := H5
          clear H5
          go_wp2_with fail
          clear ttlt tt0 ttf0 wtlt wt0 wtf0 allt al0 alf0 ne_tt_wt ne_tt_al ne_wt_tt ne_wt_al ne_al_tt ne_al_wt
          rw [tab_congr (f := fun j => shr t m (l.getD j 0)) (g := outF t m 0 l o) (fun j hj => (outF_zero _ _ _ _ _).symm)] at H
          go_loopw [87] (fun i w6 => ∃ j : Nat, j ≤ L ∧ i = .int .i64 (j : Int) ∧ Mem w [] w6 [.blk g1 3 (tab k2 (outF t m j l o)), .blk (g1 + 1) 3 (tab k2 fun i => o.getD i 0)]) (fun i _ => L - (intOf i).toNat)
          case atStart => exact ⟨0, by omega, rfl, (((H.drop_ 5).drop_ 0).drop_ 0).drop_ 0⟩
          case round =>
            obtain ⟨j, hj, rfl, H2⟩ := hrel
            by_cases hlt : j < L
            · have hlt2 : (j : Int) < (L : Int) := by omega
              have hz := HO.out.lt (show j < k2 by omega)
              have hat := outF_at (t := t) (all := m) (l := l) HO.out (show j < k2 by omega)
              have hst := outF_step (t := t) (all := m) (l := l) HO.out (show j < k2 by omega)
              have cd := ((H2.blk 1 rfl).cell j).trans (tab_get _ (show j < k2 by omega))
              obtain ⟨z, hzz⟩ : ∃ z, o.getD j 0 = z := ⟨_, rfl⟩
              rw [hzz] at hz hat hst cd
              have co := ((H2.blk 0 rfl).cell z).trans (tab_get _ hz)
              have cof := (H2.blk 0 rfl).frozen z
              obtain ⟨v, hv⟩ : ∃ v, shr t m (l.getD z 0) = v := ⟨_, rfl⟩
              have hvb : v ≤ t * 1000000 := by rw [← hv]; exact shr_le (getD_le HK.out.hw)
              rw [hat, hv] at co
              rw [hv] at hst
              have y1 : wrap64 ((v : Int) + 1) = ((v + 1 : Nat) : Int) := IntWalk.wrap64_in _ ⟨by omega, by omega⟩
              have y2 : IntKind.i64.wrap ((v : Int) + 1) = ((v + 1 : Nat) : Int) := by rw [IntWalk.i64_left]; exact y1
              have hzk : (z : Int) < (k2 : Int) := by omega
              have olt := H2.lt 0 rfl
              have dlt := H2.lt 1 rfl
              have HS := Lib.hid hst
              clear hat hst hv hvb hzz
              go_wp2_with fail
              rw [← Int.natCast_succ v]
              have HM := H2.set 0 rfl z (.int .i64 ((v + 1 : Nat) : Int))
              simp only [List.set_cons_zero] at HM
              rw [tab_set _ hz] at HM
              go_roundw
              case rel =>
                refine ⟨j + 1, by omega, by go_num, ?_⟩
                rw [tab_congr (f := outF t m (j + 1) l o) (fun y hy => (HS.out y).symm)]
                exact HM
              case measure => simp [intOf]; omega
            · obtain rfl : j = L := by omega
              go_wp2
              go_ret2
              exact ⟨g1, o, j, rfl, HD.out, H2.below, by rw [HA.out]; exact H2.blk 0 rfl⟩
end Go.Proofs.Ytfcgpgfghidajaa
