/- The walk of the law DebtFirst. -/
import Derived.Test.YtadaanphoehlmaaRecov
import Derived.Test.YtadaanphoehlmaaFirst
namespace Go.Proofs.Ytadaanphoehlmaa
open Go.RowKit
theorem share_of (x y : Int) (h1 : 0 ≤ x) (h2 : x ≤ 100000000) (h3 : 0 ≤ y) (h4 : y ≤ 10000) : ∃ S : Nat, Hid (x * y / 10000 = (S : Int)) ∧ S ≤ 100000000 := by
  have h5 : 0 ≤ x * y := Int.mul_nonneg h1 h3
  have h6 : x * y ≤ 100000000 * 10000 := Int.mul_le_mul h2 h4 h3 (by omega)
  exact ⟨(x * y / 10000).toNat, by show _ = _; omega, by omega⟩
theorem nz_le (l : List (Nat × Nat)) : (nz l).length ≤ l.length := List.length_filter_le _ _
theorem nz_ok {l : List (Nat × Nat)} (h : DOk l) : DOk (nz l) := ⟨Nat.le_trans (nz_le l) h.1, fun p hp => h.2 p (List.mem_filter.1 hp).1⟩
set_option maxRecDepth 100000 in
set_option maxHeartbeats 2000000 in
theorem walk_debtFirst (w : World) (a0 : Value) (w0 : Fit Try.prog w 53 a0) (a1 : Int) (w1 : (Lit.int .i64 a1).wf = true) (a2 : Int) (w2 : (Lit.int .i64 a2).wf = true) :
    Calls Try.prog 13 #[a0, .int .i64 a1, .int .i64 a2] w fun e w' => e = .returned (.bool true) ∧ Below w.heap.size w w' := by
  obtain ⟨n, f, hv⟩ := w0.rows (ks := [.i64, .i64]) Try.underlying53 (by kernel_rfl) (by simp) (by kernel_rfl)
  clear w0
  obtain ⟨x', hx, hx1, hx2⟩ := pk_int a1 100000001 (by omega)
  obtain ⟨y', hy, hy1, hy2⟩ := pk_int a2 10001 (by omega)
  obtain ⟨x, rfl⟩ : ∃ x : Nat, x' = x := ⟨x'.toNat, by omega⟩
  obtain ⟨y, rfl⟩ : ∃ y : Nat, y' = y := ⟨y'.toNat, by omega⟩
  obtain ⟨S, hS, hS2⟩ := share_of x y (by omega) (by omega) (by omega) (by omega)
  go_enter Try.func13, Try.ntmps13
  go_wp2_with fail
  refine (owing_ok a0 n f 1000000000 w hv (by omega)).mono ?_
  rintro e wa ⟨l, A, c, rfl, h8, hp, hds, hba⟩
  have hok : DOk l := ⟨h8, hp⟩
  obtain ⟨paid, out, hro⟩ : ∃ paid out, Hid (recov S l = (paid, out)) := ⟨_, _, rfl⟩
  obtain ⟨i1, i2, i3, i4⟩ := recov_inv S l hp
  have hall := paid_all S l
  rw [hro.out] at i1 i2 i3 i4 hall
  dsimp only at i1 i2 i3 i4 hall
  obtain ⟨g, P, hg, hP, hPp, hnil, hat⟩ := first_law hall
  clear hall i2
  go_wp2_with fail
  refine (picked_is _ hx w1 (by omega) (by omega)).mono ?_
  rintro e w' ⟨rfl, rfl⟩
  go_wp2_with fail
  refine (picked_is _ hy w2 (by omega) (by omega)).mono ?_
  rintro e w' ⟨rfl, rfl⟩
  go_wp2_with fail
  refine (recover_is _ l x y S paid out wa hds hok (by omega) (by omega) hS hS2 hro).mono ?_
  rintro e wb ⟨B, d, rfl, hout, hbb⟩
  have hds2 := hds.below hbb
  clear hds hro hS hx hy
  go_wp2
  go_loopw [11, 12] (fun v i wr => ∃ (k m : Nat) (A' : Option Addr) (c' : Nat), k ≤ l.length ∧ m ≤ k ∧ i = .int .i64 k ∧ Hid ((nz (l.take k)).length = m) ∧ v = .slice A' m c' ∧ wr.ownsRow wb.heap.size 60 2 (.slice A' m c') m (drs (nz (l.take k))) ∧ Below wb.heap.size wb wr) (fun _ i _ => l.length - (intOf i).toNat)
  case atStart => exact ⟨0, 0, none, 0, by omega, by omega, rfl, rfl, rfl, World.ownsRow_nil _ _ _ _, Below.refl _ _⟩
  case round =>
    obtain ⟨k, m, A', c', hk, hmk, rfl, hm, rfl, hown, hbr⟩ := hrel
    by_cases hlt : k < l.length
    · obtain ⟨b, off, rfl, hB, q1, q2⟩ := hds2.at_ hlt
      have q1 := (hbr.cell (p := ⟨b, off + k * 2, none⟩) hB).trans q1
      have q2 := (hbr.cell (p := ⟨b, off + k * 2 + 1, none⟩) hB).trans q2
      have HT := Lib.hid (take_snoc hlt)
      have hbs := hbr.size
      clear hat hP hg hnil i4 hp hok i3
      generalize l[k] = p at *
      obtain ⟨u, z⟩ := p
      dsimp only at q1 q2
      by_cases hu : u = 0
      · have HN : Hid (nz (l.take (k + 1)) = nz (l.take k)) := by show _ = _; rw [HT.out, nz_snoc0 hu]
        have hu1 : ¬ (0 : Int) < (u : Int) := by omega
        go_wp2
        go_roundw
        case rel => exact ⟨k + 1, m, A', c', by omega, by omega, by go_num, by show _ = _; rw [HN.out]; exact hm.out, rfl, by rw [HN.out]; exact hown, hbr⟩
        case measure => simp [intOf]; omega
      · have HN : Hid (nz (l.take (k + 1)) = nz (l.take k) ++ [(u, z)]) := by show _ = _; rw [HT.out, nz_snoc1 (by dsimp only; omega)]
        have hu1 : decide (0 < u) = true := by simp; omega
        have hone : ∀ e ∈ [Value.int .i64 u, .int .i64 z], e.oneCell' = true := fun e he => by simp at he; rcases he with rfl | rfl <;> rfl
        go_wp2_with (at_builtin; refine wpList_push el_d rfl (.tmp 44) (.tmp 49) rfl wr wb.heap.size _ m _ [.int .i64 u, .int .i64 z] rfl hown rfl rfl hone (by omega) (by unfold maxLen; omega) hbs ?_; intro A1 c1 w1 hown1 hb1 _)
        go_roundw
        case rel => exact ⟨k + 1, m + 1, A1, c1, by omega, by omega, by go_num, by show _ = _; rw [HN.out, List.length_append, hm.out]; rfl, rfl, by rw [HN.out, drs_append]; exact hown1, hbr.trans hb1⟩
        case measure => simp [intOf]; omega
    · obtain rfl : k = l.length := by omega
      have hok2 := nz_ok hok
      rw [List.take_length] at hm hown
      have hm1 := hm.out
      have hleft := isds_own hm1 hown
      have hout2 := hout.below hbr
      have hbl := (hba.step hbb).step hbr
      have hsum := fsum_le hok2
      have hstep := fun (i : Nat) (h : i < (nz l).length) => fsum_take (l := nz l) h
      have hlp := hok2.2
      generalize nz l = N at *
      subst hm1
      clear hown hbr hds2 hbb hba hok2 hok hm hp
      have hgi : (N.length : Int) - (out.length : Int) = (g : Int) := by omega
      have hi0 : ¬ (g : Int) < 0 := by omega
      have ho8 : out.length ≤ 8 := by omega
      go_wp2
      go_loop [14, 15] (fun s i => ∃ k m : Nat, k ≤ g ∧ i = .int .i64 k ∧ s = .int .i64 m ∧ Hid (dsum (N.take k) = m) ∧ m ≤ 8000000000) (fun _ i => g - (intOf i).toNat)
      case atStart => exact ⟨0, 0, by omega, rfl, rfl, rfl, by omega⟩
      case round =>
        obtain ⟨k, m, hk, rfl, rfl, hm, hm8⟩ := hrel
        by_cases hlt : k < g
        · have hlN : k < N.length := by omega
          obtain ⟨b, off, rfl, hB, q1, q2⟩ := hleft.at_ hlN
          have HS := Lib.hid (hstep k hlN)
          have hd1 := hsum (k + 1)
          rw [HS.out, hm.out] at hd1
          clear hsum hstep hat q2 hlp
          generalize N[k] = p at *
          obtain ⟨u, z⟩ := p
          dsimp only at *
          go_wp2
          go_round
          case rel => exact ⟨k + 1, m + u, by omega, by go_num, by go_num, by show _ = _; rw [HS.out, hm.out], by omega⟩
          case measure => simp [intOf]; omega
        · obtain rfl : k = g := by omega
          obtain rfl : m = P := hm.out.symm.trans hP
          clear hP hsum hstep hm
          go_wp2
          go_loopw [16] (fun i wx => ∃ k : Nat, k ≤ out.length ∧ i = .int .i64 k ∧ Below wr.heap.size wr wx) (fun i _ => out.length - (intOf i).toNat)
          case atStart => exact ⟨0, by omega, rfl, Below.refl _ _⟩
          case round =>
            obtain ⟨i, hi, rfl, hbi⟩ := hrel
            have hbis := hbi.size
            by_cases hlt2 : i < out.length
            · have hki : k + i < N.length := by omega
              obtain ⟨u, z, hN, hz0, hz1⟩ := hat i hlt2
              have hNe : N[k + i] = (u, z) := by
                rw [List.getElem?_eq_getElem hki] at hN
                exact Option.some.inj hN
              obtain ⟨b, off, rfl, hB, q1, q2⟩ := hleft.at_ hki
              obtain ⟨b2, off2, rfl, hB2, q3, q4⟩ := hout2.at_ hlt2
              rw [hNe] at q1 q2
              have q1 := (hbi.cell (p := ⟨b, off + (k + i) * 2, none⟩) hB).trans q1
              have q2 := (hbi.cell (p := ⟨b, off + (k + i) * 2 + 1, none⟩) hB).trans q2
              have q3 := (hbi.cell (p := ⟨b2, off2 + i * 2, none⟩) hB2).trans q3
              have q4 := (hbi.cell (p := ⟨b2, off2 + i * 2 + 1, none⟩) hB2).trans q4
              have hpo := i4 _ (List.getElem_mem hlt2)
              have hup := hlp _ (List.getElem_mem hki)
              rw [hNe] at hup
              dsimp only at q1 q2 hup
              have hb1 : b < wr.heap.size := by omega
              have hb2 : b2 < wr.heap.size := by omega
              have hb3 : wr.heap.size ≠ b := by omega
              have hb4 : wr.heap.size ≠ b2 := by omega
              clear hat hnil hlp i4 hN hNe hleft hout2
              generalize out[i] = o at *
              obtain ⟨o1, o2⟩ := o
              dsimp only at q3 q4 hpo
              have g2 : decide ((o1 : Int) < 1) = false := by simp; omega
              have hsumi : ((k : Int) + (i : Int)).toNat = k + i := by omega
              have hsuml : (k : Int) + (i : Int) < (N.length : Int) := by omega
              by_cases hi0' : i = 0
              · obtain ⟨ho, hlo⟩ := hz0 hi0'
                have ho1 : o1 = u - (paid - m) := congrArg Prod.fst ho
                have ho2 : o2 = z := congrArg Prod.snd ho
                subst ho2
                have g3 : ((i : Int) == 0) = true := by simp; omega
                have g4 : (u : Int) - ((paid : Int) - (m : Int)) = (o1 : Int) := by omega
                have hpd : paid ≤ 100000000 := by omega
                have hpd2 : 0 ≤ (paid : Int) - (m : Int) := by omega
                clear hz0 hz1 ho ho1 hi0' hg hgi hlo hPp i1
                go_wp2_with fail
                go_big_quiet (fail)
                go_wp2
                go_roundw
                case rel => exact ⟨i + 1, by omega, by go_num, below_draws (hbi.alloc hbis _) _⟩
                case measure => simp [intOf]; omega
              · have ho := hz1 hi0'
                cases ho
                have g3 : ((i : Int) == 0) = false := by simp; omega
                clear hz0 hz1 hi0' hg hgi hPp i1
                go_wp2_with fail
                go_big_quiet (fail)
                go_wp2
                go_roundw
                case rel => exact ⟨i + 1, by omega, by go_num, below_draws (hbi.alloc hbis _) _⟩
                case measure => simp [intOf]; omega
            · obtain rfl : i = out.length := by omega
              by_cases ho0 : out.length = 0
              · have hpm := hnil (List.eq_nil_of_length_eq_zero ho0)
                subst hpm
                have g5 : decide (0 < out.length) = false := decide_eq_false (by omega)
                clear hat hnil hlp i4 hg hgi ho0
                go_wp2
                go_ret
                exact ⟨ret_true (by simp), hbl.step hbi⟩
              · have g5 : decide (0 < out.length) = true := decide_eq_true (by omega)
                clear hat hnil hlp i4 hg hgi ho0
                go_wp2
                go_ret
                exact ⟨ret_true (by simp), hbl.step hbi⟩
end Go.Proofs.Ytadaanphoehlmaa
