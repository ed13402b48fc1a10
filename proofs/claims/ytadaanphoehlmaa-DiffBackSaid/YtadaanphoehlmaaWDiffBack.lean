/- The walk of the law DiffBack. -/
import Derived.Test.YtadaanphoehlmaaDiff
namespace Go.Proofs.Ytadaanphoehlmaa
open Go.RowKit
set_option maxHeartbeats 1000000 in
theorem walk_diffBack (w : World) (a0 : Value) (w0 : Fit Try.prog w 41 a0) (a1 : Value) (w1 : Fit Try.prog w 41 a1) :
    Calls Try.prog 12 #[a0, a1] w fun e w' => e = .returned (.bool true) ∧ Below w.heap.size w w' := by
  obtain ⟨x0, hx0⟩ := ws_fit w0
  obtain ⟨y0, hy0⟩ := ws_fit w1
  clear w0 w1
  go_enter Try.func12, Try.ntmps12
  go_wp2_with fail
  refine (some_ok a0 x0 200 w hx0 (by omega)).mono ?_
  rintro e wa ⟨v, rfl, hv, hba⟩
  have hn1 := someN_pos x0 200
  have hn2 := someN_le x0 200 (by omega)
  generalize someN x0 200 = xs at *
  have hv0 := hv
  obtain ⟨X, xc, rfl, _, _, hxl, hxr⟩ := hv
  go_wp2_with fail
  refine (some_own a1 y0 xs.length wa (hy0.below hba) (by omega)).mono ?_
  rintro e wb ⟨B, c, rfl, hyl, hown, hbb⟩
  have hm2 := someN_le y0 xs.length (by omega)
  generalize someN y0 xs.length = ys at *
  go_wp2_with fail
  go_loopw [6] (fun v wr => ∃ (zs : List Nat) (A' : Option Addr) (c' m : Nat), m ≤ xs.length ∧ Hid (zs.length = m) ∧ (∀ x ∈ zs, x < 4294967296) ∧ v = .slice A' m c' ∧ wr.ownsRow wa.heap.size 35 1 (.slice A' m c') m (ws zs) ∧ Below wa.heap.size wa wr) (fun v _ => match v with | .slice _ m _ => xs.length - m | _ => 0)
  case atStart => exact ⟨ys, B, c, ys.length, hm2, rfl, hyl, rfl, hown, hbb⟩
  case round =>
    obtain ⟨zs, A', c', m, hm, hzs, hzl, rfl, hz, hbr⟩ := hrel
    by_cases hlt : m < xs.length
    · obtain ⟨b, off, rfl, hB, hc⟩ := hxr.at_ (by omega)
      have q := (hbr.cell (p := ⟨b, off + m, none⟩) hB).trans (hc m _ (ws_get hlt))
      have hxm := hxl _ (List.getElem_mem hlt)
      clear hc hxr
      generalize xs[m] = x at *
      go_wp2_with (at_builtin; refine wpList_push el_u32 rfl (.tmp 24) (.tmp 30) rfl wr wa.heap.size _ m _ [.int .u32 x] rfl hz rfl rfl (fun u hu => by simp at hu; subst hu; rfl) (by omega) (by unfold maxLen; omega) hbr.size ?_; intro A1 c1 w1 hown1 hb1 _)
      go_roundw
      case rel => exact ⟨zs ++ [x], A1, c1, m + 1, by omega, by show _ = _; simp [hzs.out], fun u hu => by
        rcases List.mem_append.1 hu with h | h
        · exact hzl u h
        · simp at h; omega, rfl, by rw [ws_append]; exact hown1, hbr.trans hb1⟩
      case measure => dsimp only; omega
    · obtain rfl : m = xs.length := by omega
      have hws := isws_own hzs.out hzl hz
      have hv1 := hv0.below hbr
      have hle : zs.length = xs.length := hzs.out
      clear hz hzl
      have HZ := Lib.hid hle
      go_wp2_with fail
      refine (diff_is _ _ xs zs wr hv1 hws hle.symm (by omega) (by omega)).mono ?_
      rintro e wc ⟨l, Dl, dc, rfl, hd, hbc, hlen, hmem, hris, HA⟩
      clear hle
      have hd0 := hd
      obtain ⟨Dl, dc', hdv, _, _, hdl, hdr⟩ := hd
      cases hdv
      have hv2 := hv1.below hbc
      have hws2 := hws.below hbc
      have hxr2 : ∀ k, k < xs.length → ∃ b off, X = some ⟨b, off, none⟩ ∧ b < wc.heap.size ∧ wc.cell? ⟨b, off + k, none⟩ = some (.int .u32 (xs.getD k 0 : Nat)) := by
        intro k hk
        obtain ⟨b, off, e, hB, hc⟩ := (hxr.below hbr).at_ (by omega)
        have hB' : b < wr.heap.size := by have := hbr.size; omega
        refine ⟨b, off, e, by have := hbc.size; omega, ?_⟩
        have := (hbc.cell (p := ⟨b, off + k, none⟩) hB').trans (hc k _ (ws_get hk))
        simpa [hk] using this
      have hbl := (hba.step hbr).step hbc
      clear hxr hv1 hbr hbc hba hv0
      go_wp2
      go_loopw [9, 10] (fun i _ wr => ∃ k : Nat, k ≤ l.length ∧ i = .int .i64 k ∧ Below wc.heap.size wc wr) (fun i _ _ => l.length - (intOf i).toNat)
      case atStart => exact ⟨0, by omega, rfl, Below.refl _ _⟩
      case round =>
        obtain ⟨k, hk, rfl, hbk⟩ := hrel
        by_cases hlt : k < l.length
        · obtain ⟨b, off, rfl, hB, hc⟩ := hdr.at_ (by omega)
          have q1 := (hbk.cell (p := ⟨b, off + k * 2, none⟩) hB).trans (hc _ _ (wrs_get hlt).1)
          have q2 := (hbk.cell (p := ⟨b, off + k * 2 + 1, none⟩) hB).trans (hc (k * 2 + 1) _ (wrs_get hlt).2)
          obtain ⟨hpa, hpx, _⟩ := hmem _ (List.getElem_mem hlt)
          obtain ⟨bx, ox, rfl, hBx, hx⟩ := hxr2 _ hpa
          have q3 := (hbk.cell (p := ⟨bx, ox + l[k].1, none⟩) hBx).trans hx
          have hbs := hbk.size
          have hbn : b < wr.heap.size := by omega
          have hbn2 : bx < wr.heap.size := by omega
          have hnb : wr.heap.size ≠ b := by omega
          have hnb2 : wr.heap.size ≠ bx := by omega
          by_cases hk0 : k = 0
          · have hg0 : decide (0 < k) = false := by simp; omega
            clear hc hx hmem hris hxr2 hdr hdl hxl HA hk0
            generalize l[k] = p at *
            obtain ⟨a, x⟩ := p
            dsimp only at *
            have hA1 : decide ((a : Int) < 0) = false := by simp
            have hA2 : decide (xs.length ≤ a) = false := by simp; omega
            generalize xs.getD a 0 = y at *
            have hA3 : ((y : Int) == (x : Int)) = false := by simp; omega
            go_wp2_with fail
            go_big_quiet (fail)
            go_wp2
            go_roundw
            case rel => exact ⟨k + 1, by omega, by go_num, below_draws (hbk.alloc hbs _) _⟩
            case measure => simp [intOf]; omega
          · obtain ⟨j, hjk⟩ : ∃ j, k = j + 1 := ⟨k - 1, by omega⟩
            have hpr : l[j].1 < l[k].1 := by subst hjk; exact hris j hlt
            have q4 := (hbk.cell (p := ⟨b, off + j * 2, none⟩) hB).trans (hc _ _ (wrs_get (i := j) (by omega)).1)
            clear hc hx hmem hris hxr2 hdr hdl hxl HA hk0
            generalize l[k] = p at *
            generalize l[j].1 = o at *
            obtain ⟨a, x⟩ := p
            dsimp only at *
            have hA1 : decide ((a : Int) < 0) = false := by simp
            have hA2 : decide (xs.length ≤ a) = false := by simp; omega
            have hA4 : decide (a ≤ o) = false := by simp; omega
            generalize xs.getD a 0 = y at *
            have hA3 : ((y : Int) == (x : Int)) = false := by simp; omega
            have hg0 : decide (0 < k) = true := by simp; omega
            have hj1 : (k : Int) - 1 = (j : Int) := by omega
            have hj2 : (j : Int) < (l.length : Int) := by omega
            clear hjk
            go_wp2_with fail
            go_big_quiet (fail)
            go_wp2
            go_roundw
            case rel => exact ⟨k + 1, by omega, by go_num, below_draws (hbk.alloc hbs _) _⟩
            case measure => simp [intOf]; omega
        · obtain rfl : k = l.length := by omega
          have hz1 := hws2.below hbk
          go_wp2_with fail
          refine (apply_ok _ _ xs l l.length wr (hv2.below hbk) (hd0.below hbk) (by omega) (by omega) (by omega) (fun p hp => (hmem p hp).1) (Nat.le_refl _)).mono ?_
          rintro e wd ⟨vc, rfl, hvc, hbd⟩
          rw [List.take_length, HA.out] at hvc
          clear hmem hris hxr2 hdr hdl hxl
          go_wp2_with fail
          refine (same_ok _ _ zs zs wd (hz1.below hbd) hvc).mono ?_
          rintro e we ⟨rfl, hbe⟩
          go_wp2
          go_ret
          exact ⟨ret_true (by simp), ((hbl.step hbk).step hbd).step hbe⟩
end Go.Proofs.Ytadaanphoehlmaa
