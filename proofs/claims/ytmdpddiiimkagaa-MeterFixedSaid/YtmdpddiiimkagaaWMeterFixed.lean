/- The walk of the law MeterFixed. -/
import Derived.Test.YtmdpddiiimkagaaWMeterBack
import Derived.Test.YtmdpddiiimkagaaFitS
namespace Go.Proofs.Ytmdpddiiimkagaa
open Go.RowKit
theorem mws_back {x0 x1 x2 x3 x4 b : Nat} (h1 : x1 < 4294967296) (h3 : x3 < 4294967296) (hb : x3 + x4 * 4294967296 = b) : mws (x1 % 256) (x1 / 256 % 256) x0 x2 b (x1 / 65536 % 256) (x1 / 16777216 % 256) = [x0, x1, x2, x3, x4] := by
  unfold mws
  have e1 : x1 / 16777216 % 256 * 16777216 + x1 / 65536 % 256 * 65536 + x1 / 256 % 256 * 256 + x1 % 256 = x1 := by omega
  have e2 : b % 4294967296 = x3 := by omega
  have e3 : b / 4294967296 = x4 := by omega
  rw [e1, e2, e3]
set_option maxRecDepth 100000 in
set_option maxHeartbeats 2000000 in
theorem walk_meterFixed (w : World) (a0 : Value) (w0 : FitS Try.prog w 68 a0) :
    Calls Try.prog 11 #[a0] w fun e w' => e = .returned (.bool true) ∧ Below w.heap.size w w' := by
  obtain ⟨xs, hv⟩ := ws_fit w0.fit
  have hv0 := hv
  obtain ⟨A, c, rfl, hc1, hc2, hx, hr⟩ := hv
  have hre := w0.reach Try.underlying68
  rw [show Try.prog.bytesOf 33 = 4 by kernel_rfl] at hre
  have hlen : xs.length ≤ 35184372087808 := by omega
  have hS := fun W h => some_ok (.slice A xs.length c) xs xs.length W h hlen
  have hE := fun W => meter_eql 0 0 0 0 0 0 0 0 0 0 0 0 0 0 W
  simp only [beq_self_eq_true, Bool.and_self] at hE
  clear w0 hre hr hc1 hc2
  by_cases h5 : xs.length = 5
  · match xs, h5 with
    | [x0, x1, x2, x3, x4], _ =>
      have y1 := hx x1 (by simp)
      have y3 := hx x3 (by simp)
      have hsn : someN [x0, x1, x2, x3, x4] [x0, x1, x2, x3, x4].length = [x0, x1, x2, x3, x4] := rfl
      rw [hsn] at hS
      obtain ⟨b, hb⟩ : ∃ b, x3 + x4 * 4294967296 = b := ⟨_, rfl⟩
      have y4 := hx x4 (by simp)
      have hb64 : b < 2 ^ 64 := by omega
      have hback := mws_back (x0 := x0) (x2 := x2) y1 y3 hb
      obtain ⟨r, hm⟩ : ∃ r, mmay ((x1 % 256 : Nat) : Int) ((x1 / 256 % 256 : Nat) : Int) x0 x2 b ((x1 / 65536 % 256 : Nat) : Int) ((x1 / 16777216 % 256 : Nat) : Int) = r := ⟨_, rfl⟩
      have hR := fun v W hv => mread_ok v x0 x1 x2 x3 x4 _ _ b _ _ r W hv rfl rfl rfl rfl hb (Lib.hid hm)
      cases r
      · clear hm hback hb
        go_enter Try.func11, Try.ntmps11
        go_wp2_with fail
        refine (hS _ hv0).mono ?_
        rintro e wa ⟨v, rfl, hv, hba⟩
        go_wp2_with fail
        refine (hR v _ hv).mono ?_
        rintro e wb ⟨rfl, hbb⟩
        go_wp2
        go_ret
        exact ⟨rfl, (hba.step hbb).alloc (by have := (hba.step hbb).size; omega) _⟩
      · have hW := fun W => mwords_ok _ _ _ _ b _ _ W hb64 hm
        rw [hback] at hW
        clear hm hback hb
        generalize x1 % 256 = me at *
        generalize x1 / 256 % 256 = rev at *
        generalize x1 / 65536 % 256 = bad at *
        generalize x1 / 16777216 % 256 = lock at *
        go_enter Try.func11, Try.ntmps11
        go_wp2_with fail
        refine (hS _ hv0).mono ?_
        rintro e wa ⟨v, rfl, hv, hba⟩
        go_wp2_with fail
        refine (hR v _ hv).mono ?_
        rintro e wb ⟨rfl, hbb⟩
        go_wp2_with fail
        refine (hW _).mono ?_
        rintro e wc ⟨u, rfl, hu, hbc⟩
        have bB := hba.step hbb
        have bC := (bB.alloc (by have := bB.size; omega) (.cells #[.int .i64 me, .int .i64 rev, .int .i64 x0, .int .i64 x2, .int .u64 b, .int .i64 bad, .int .i64 lock] 67)).trans (hbc.mono (by have := bB.size; simp; omega))
        go_wp2_with fail
        refine (same_ok u _ _ _ _ hu (hv0.below bC)).mono ?_
        rintro e wd ⟨rfl, hbd⟩
        go_wp2
        go_ret
        exact ⟨ret_true (by simp), bC.step hbd⟩
  · obtain ⟨n, hn⟩ : ∃ n, (someN xs xs.length).length = n := ⟨_, rfl⟩
    have hn5 : n ≠ 5 := by
      rw [← hn]
      unfold someN
      rw [List.take_length]
      split
      · simp
      · exact h5
    have hR := fun A' c' W => mread_size A' n c' W hn5
    clear hn5
    go_enter Try.func11, Try.ntmps11
    go_wp2_with fail
    refine (hS _ hv0).mono ?_
    rintro e wa ⟨v, rfl, hv, hba⟩
    obtain ⟨B, d, rfl, _, _, _, _⟩ := hv
    rw [hn]
    go_wp2_with fail
    refine (hR B d _).mono ?_
    rintro e wb ⟨rfl, hbb⟩
    go_wp2
    go_ret
    exact ⟨rfl, (hba.step hbb).alloc (by have := (hba.step hbb).size; omega) _⟩
end Go.Proofs.Ytmdpddiiimkagaa
