/- slices.stableCmpFunc at a slice of ints. -/
import Derived.Test.YtfcgpgfghidajaaSymM
import Derived.Test.YtfcgpgfghidajaaStabE
import Derived.Test.YtfcgpgfghidajaaShelf
namespace Go.Proofs.Ytfcgpgfghidajaa
open Go.RowKit Go.Sort
set_option linter.unusedVariables false
theorem cfK_lt (key : Nat → Nat) (x y : Nat) (h : y < x) : ltOf (cfK key) x y = flt key x y := by
  unfold ltOf cfK flt
  congr 1
  exact propext ⟨fun _ => by omega, fun _ => by omega⟩
set_option maxRecDepth 100000 in
set_option maxHeartbeats 4000000 in
theorem stable_ok (f : Nat → Nat) (key : Nat → Nat) (g : Nat) (cb : Array Value) (blk off cap n : Nat) (d0 d : Array Nat) (w0 w : World) (eg : ∀ args w, (callFunc g args).run Try.prog w = .ok (.enter g args) w) (hcmp : CmpLays1 Try.prog g cb (encN f) (cfK key) blk off d0.size w0) (R : Row1 (encN f) w0 blk off d0) (hs : d0.size = d.size) (S : SW (encN f) w0 blk off d w) (hn : n = d.size) (hsz : n < 1152921504606846976) (hid : ∀ i, i < n → d[i]! = i) :
    Calls Try.prog 13 #[.slice (some ⟨blk, off, none⟩) n cap, .int .i64 (n : Int), .func (.func g) #[] cb] w fun e w' => e = .returned (.tuple #[]) ∧ ∃ d', PermIn 0 n d d' ∧ Srt key 0 n d' ∧ SW (encN f) w0 blk off d' w' := by
  have hIns := fun (a b : Nat) (dk : Array Nat) (W : World) (hk : d0.size = dk.size) (S : SW (encN f) w0 blk off dk W) h1 h2 => Try.insertionSortCmpFunc_s (encN f) (cfK key) g cb blk off cap a b d0 dk w0 W eg hcmp R hk S h1 h2 (by omega)
  have hSym := symM_below f key g cb blk off cap n d0 w0 eg hcmp R (by omega) (by omega) (n + 1)
  have S0 := Lib.hid S
  have HD := Lib.hid hid
  clear S hcmp hid
  have HI := Lib.hid hIns
  have HS := Lib.hid hSym
  have hs2 : d0.size = n := by omega
  have HN := Lib.hid hn
  clear hIns hSym hs hn
  go_enter Try.func13, Try.ntmps13
  go_wp2
  go_loopw [7, 8] (fun v u wr => ∃ (k A B : Nat) (dk : Array Nat), v = .int .i64 (A : Int) ∧ u = .int .i64 (B : Int) ∧ A = k * 20 ∧ B = (k + 1) * 20 ∧ A ≤ n ∧ dk.size = n ∧ Hid (SW (encN f) w0 blk off dk wr) ∧ Hid (Blks key n 20 k dk) ∧ Hid (PermIn 0 n d dk)) (fun v _ _ => n - (intOf v).toNat)
  case atStart => exact ⟨0, 0, 20, d, rfl, rfl, rfl, rfl, by omega, HN.out.symm, S0, Lib.hid ⟨fun j hj => by omega, fun i h1 h2 => HD.out i h2⟩, Lib.hid (permIn_refl _ _ _)⟩
  case round =>
    clear S0 HD
    obtain ⟨k, A, B, dk, rfl, rfl, hA, hB, hAn, hsk, S1, HB, HP⟩ := hrel
    by_cases hbn : B ≤ n
    · have hbz : (B : Int) ≤ (n : Int) := by omega
      have hid := fun i h1 h2 => HB.out.2 i (by omega : k * 20 ≤ i) (h2 : i < n)
      have hC := HI.out A B dk wr (by omega) S1.out (by omega) (by omega)
      have hP := ins_id key (ltOf (cfK key)) (cfK_lt key) (a := A) (b := B) (d := dk) (by omega) (by omega) (fun i h1 h2 => hid i (by omega) (by omega))
      have zz : IntKind.i64.wrap ((B : Int) + 20) = ((B + 20 : Nat) : Int) := by rw [IntKind.wrap_i64]; omega
      have HP2 := Lib.hid hP
      have HA := Lib.hid (And.intro hA hB)
      rw [hsk] at hC
      clear hid hP hA hB
      go_wp2_with fail
      refine hC.mono ?_
      rintro ee w' ⟨rfl, S2⟩
      have S3 := Lib.hid S2
      clear S2 hC S1
      go_wp2
      go_roundw
      case rel =>
        obtain ⟨hA, hB⟩ := HA.out
        subst hA hB
        exact ⟨k + 1, (k + 1) * 20, (k + 1) * 20 + 20, _, rfl, by go_num, rfl, by omega, hbn, by rw [HP2.out.1.1]; exact hsk, S3, Lib.hid (HB.out.step hbn hsk.symm HP2.out.1 HP2.out.2), Lib.hid (permIn_trans _ _ _ _ _ HP.out (permIn_mono _ _ _ _ 0 n (by omega) (by omega) (by omega) HP2.out.1))⟩
      case measure =>
        obtain ⟨hA, hB⟩ := HA.out
        simp [intOf]; omega
    · have hbz : ¬ (B : Int) ≤ (n : Int) := by omega
      have hC := HI.out A n dk wr (by omega) S1.out (by omega) (by omega)
      have hP := ins_id key (ltOf (cfK key)) (cfK_lt key) (a := A) (b := n) (d := dk) (by omega) (by omega) (fun i h1 h2 => HB.out.2 i (by omega) (by omega))
      subst hA
      have hR := Lib.hid (HB.out.last hAn (by omega) hsk.symm hP.1 hP.2)
      have hPP := Lib.hid (permIn_trans _ _ _ _ _ HP.out (permIn_mono _ _ _ _ 0 n (by omega) (by omega) (by omega) hP.1))
      have hs1 : Hid _ := Lib.hid (hP.1.1.trans hsk)
      generalize insertionSort (ltOf (cfK key)) dk (k * 20) n = d1 at hC hR hPP hs1
      rw [hsk] at hC
      clear hP HB HP hB
      go_wp2_with fail
      refine hC.mono ?_
      rintro ee w' ⟨rfl, S2⟩
      have S3 := Lib.hid S2
      have hs1 : d1.size = n := hs1.out
      clear S2 hC S1
      go_wp2
      go_loopw [6] (fun v wr => ∃ (bs : Nat) (dk : Array Nat), v = .int .i64 (bs : Int) ∧ 20 ≤ bs ∧ bs ≤ 2 * n + 20 ∧ dk.size = n ∧ Hid (SW (encN f) w0 blk off dk wr) ∧ Hid (Runs key n bs dk) ∧ Hid (PermIn 0 n d dk)) (fun v _ => n - (intOf v).toNat)
      case atStart => exact ⟨20, d1, rfl, by omega, by omega, hs1, S3, hR, hPP⟩
      case round =>
        clear S3 hR hPP hs1
        obtain ⟨bs, dk, rfl, g1, g2, hsk, S1, HR, HP⟩ := hrel
        by_cases hbn : bs < n
        · have hbz : (bs : Int) < (n : Int) := by omega
          obtain ⟨c, hc⟩ : ∃ c, 2 * bs = c := ⟨_, rfl⟩
          have zc : IntKind.i64.wrap (2 * (bs : Int)) = (c : Int) := by rw [IntKind.wrap_i64]; omega
          have zc2 : IntKind.i64.wrap ((bs : Int) * 2) = (c : Int) := by rw [IntKind.wrap_i64]; omega
          have HCc := Lib.hid hc
          clear hc
          go_wp2
          go_loopw [7, 8] (fun v u wr => ∃ (q A B : Nat) (dk : Array Nat), v = .int .i64 (A : Int) ∧ u = .int .i64 (B : Int) ∧ Hid (A = q * (2 * bs) ∧ B = A + 2 * bs) ∧ A ≤ n ∧ dk.size = n ∧ Hid (SW (encN f) w0 blk off dk wr) ∧ Hid (Half key n bs q dk) ∧ Hid (PermIn 0 n d dk)) (fun v _ _ => n - (intOf v).toNat)
          case atStart =>
            have hc := HCc.out
            exact ⟨0, 0, c, dk, rfl, rfl, Lib.hid ⟨by omega, by omega⟩, by omega, hsk, S1, Lib.hid HR.out.half, HP⟩
          case round =>
            clear S1 HR HP
            obtain ⟨q, A, B, dk, rfl, rfl, HA, hAn, hsk, S1, HH, HP⟩ := hrel
            obtain ⟨hA, hB⟩ := HA.out
            have hc := HCc.out
            obtain ⟨m, hm⟩ : ∃ m, A + bs = m := ⟨_, rfl⟩
            have zm : IntKind.i64.wrap ((A : Int) + (bs : Int)) = (m : Int) := by rw [IntKind.wrap_i64]; omega
            by_cases hBn : B ≤ n
            · have hBz : (B : Int) ≤ (n : Int) := by omega
              have zB : IntKind.i64.wrap ((B : Int) + (c : Int)) = ((B + c : Nat) : Int) := by rw [IntKind.wrap_i64]; omega
              have r := HH.out.two
              rw [← hA, Nat.min_eq_left (by omega), Nat.min_eq_left (by omega), ← hB, hm] at r
              have hC := HS.out A m B dk wr (by omega) hsk S1.out (by omega) (by omega) (by omega) r.1.srt r.2.srt (r.1.low r.2)
              have HR2 := Lib.hid r
              have HM := Lib.hid hm
              clear r hA hB hc hm
              go_wp2_with fail
              refine hC.mono ?_
              rintro ee w' ⟨rfl, d2, hp, hst, S2⟩
              have HZ := Lib.hid (And.intro hp (And.intro hst S2))
              clear S2 hp hst hC S1
              go_wp2
              go_roundw
              case rel =>
                obtain ⟨hA, hB⟩ := HA.out
                have hc := HCc.out
                have hm := HM.out
                have hrun := HR2.out.1.merged (by omega) HR2.out.2 (by omega) (by omega) HZ.out.1 HZ.out.2.1
                have hP2 := HZ.out.1
                have e4 := (dbl q bs).2.2.2
                refine ⟨q + 1, B, B + c, d2, rfl, by go_num, Lib.hid ⟨by omega, by omega⟩, hBn, by rw [hP2.1]; exact hsk, Lib.hid HZ.out.2.2, ?_, Lib.hid (permIn_trans _ _ _ _ _ HP.out (permIn_mono _ _ _ _ 0 n (by omega) (by omega) (by omega) hP2))⟩
                rw [hB, hA] at hP2 hrun
                exact Lib.hid (HH.out.step hP2 hrun)
              case measure =>
                obtain ⟨hA, hB⟩ := HA.out
                simp [intOf]; omega
            · have hBz : ¬ (B : Int) ≤ (n : Int) := by omega
              obtain ⟨wo, hwo⟩ : ∃ wo, wo = wr := ⟨_, rfl⟩
              subst hwo
              have r := HH.out.two
              rw [← hA, ← hB, hm, Nat.min_eq_right (a := B) (by omega)] at r
              by_cases hmn : m < n
              · have hmz : (m : Int) < (n : Int) := by omega
                rw [Nat.min_eq_left (by omega)] at r
                have hC := HS.out A m n dk wo (by omega) hsk S1.out (by omega) (by omega) (by omega) r.1.srt r.2.srt (r.1.low r.2)
                have HR2 := Lib.hid r
                have HM := Lib.hid hm
                clear r hA hB hc hm
                go_wp2_with fail
                refine hC.mono ?_
                rintro ee w' ⟨rfl, d2, hp, hst, S2⟩
                have HZ := Lib.hid (And.intro hp (And.intro hst S2))
                clear S2 hp hst hC S1
                go_wp2
                go_roundw
                case rel =>
                  obtain ⟨hA, hB⟩ := HA.out
                  have hc := HCc.out
                  have hm := HM.out
                  have hrun := HR2.out.1.merged (by omega) HR2.out.2 (by omega) (by omega) HZ.out.1 HZ.out.2.1
                  have hP2 := HZ.out.1
                  refine ⟨c, d2, rfl, by omega, by omega, by rw [hP2.1]; exact hsk, Lib.hid HZ.out.2.2, ?_, Lib.hid (permIn_trans _ _ _ _ _ HP.out (permIn_mono _ _ _ _ 0 n (by omega) (by omega) (by omega) hP2))⟩
                  rw [hA] at hP2 hrun
                  rw [← hc]
                  exact Lib.hid (HH.out.last (by omega) (by omega) hP2 hrun)
                case measure =>
                  have hc := HCc.out
                  simp [intOf]; omega
              · have hmz : ¬ (m : Int) < (n : Int) := by omega
                rw [Nat.min_eq_right (by omega)] at r
                have HR2 := Lib.hid r
                clear r hA hB hc hm
                go_wp2
                go_roundw
                case rel =>
                  obtain ⟨hA, hB⟩ := HA.out
                  have hc := HCc.out
                  have hrun := HR2.out.1
                  refine ⟨c, dk, rfl, by omega, by omega, hsk, S1, ?_, HP⟩
                  rw [hA] at hrun
                  rw [← hc]
                  exact Lib.hid (HH.out.last (by omega) (by omega) (permIn_refl _ _ _) hrun)
                case measure =>
                  have hc := HCc.out
                  simp [intOf]; omega
        · have hbz : ¬ (bs : Int) < (n : Int) := by omega
          go_wp2
          go_end0
          exact ⟨rfl, dk, HP.out, HR.out.all (by omega), S1.out⟩
end Go.Proofs.Ytfcgpgfghidajaa
