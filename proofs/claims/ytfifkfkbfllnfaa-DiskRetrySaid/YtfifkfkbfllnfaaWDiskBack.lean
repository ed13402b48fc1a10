/- The walk of the law DiskBack. -/
import Derived.Test.YtfifkfkbfllnfaaReplay
namespace Go.Proofs.Ytfifkfkbfllnfaa
open Go.RowKit
theorem recsOf_le (R : List (List Nat)) : (recsOf R).length ≤ 12 ∧ (enc (recsOf R)).length ≤ 252 := by
  have h0 : ∀ r ∈ recsOf R, r.length ≤ 20 := fun q hq => by
    obtain ⟨x, _, rfl⟩ := List.mem_map.1 hq
    exact someN_le x 20 (by omega)
  have h2 : (recsOf R).length ≤ 12 := by
    unfold recsOf
    rw [List.length_map, List.length_take]
    omega
  have key : ∀ l : List (List Nat), (∀ r ∈ l, r.length ≤ 20) → (enc l).length ≤ 21 * l.length := by
    intro l
    induction l with
    | nil => intro _; simp [enc]
    | cons r l ih =>
      intro h
      have h1 := ih fun q hq => h q (List.mem_cons_of_mem _ hq)
      have h2 := h r List.mem_cons_self
      rw [show r :: l = [r] ++ l from rfl, enc_append, enc_one, List.length_append, List.length_cons, List.length_append]
      simp only [List.length_cons, List.length_nil]
      omega
  have := key _ h0
  omega
set_option maxRecDepth 100000 in
set_option maxHeartbeats 2000000 in
theorem walk_diskBack (w : World) (a0 : Value) (w0 : Fit Try.prog w 49 a0) (a1 : Int) (w1 : (Lit.int .i64 a1).wf = true) :
    Calls Try.prog 6 #[a0, .int .i64 a1] w fun e w' => e = .returned (.bool true) ∧ Below w.heap.size w w' := by
  obtain ⟨R, hR⟩ := recs_fit w0
  clear w0
  obtain ⟨n, hn, hn30⟩ := pk_nat a1 30 (by omega)
  obtain ⟨m, hm⟩ : ∃ m : Nat, (1 : Int) + (n : Int) = (m : Int) := ⟨1 + n, by omega⟩
  have hT := fun W h => tape_ok a0 R m W h (by omega) (by omega)
  obtain ⟨hl1, hl2⟩ := recsOf_le R
  generalize recsOf R = L at *
  have hm2 : 1 ≤ m ∧ m ≤ 30 := by omega
  go_enter Try.func6, Try.ntmps6
  go_wp2_with fail
  refine (picked_is _ hn w1 (by omega) (by omega)).mono ?_
  rintro e w' ⟨rfl, rfl⟩
  go_wp2_with fail
  refine (hT _ hR).mono ?_
  rintro e wt ⟨cv, C, A, c, vs, rfl, hxc, hC, hCl, hown, hro, hbt⟩
  go_wp2_with fail
  refine (replay_ok cv C L wt hxc hC (by omega) (by omega)).mono ?_
  rintro e wr ⟨A2, c2, vs2, rfl, hown2, hro2, hb2⟩
  have hI := isrr_own rfl (own_below hown hb2) (hro.map fun v xs h => h.below hb2).is
  have hI2 := isrr_own rfl hown2 hro2.is
  have hat := fun k hk => hI.at_ (k := k) hk
  have hS := fun W h1 h2 => sameR_ok (.slice A2 L.length c2) (.slice A L.length c) L W h1 h2
  have hb := hbt.step hb2
  clear hT hm hown hro hown2 hro2 hxc hC hCl
  obtain ⟨N, hN⟩ : ∃ N, L.length = N := ⟨_, rfl⟩
  obtain ⟨Z, hZ⟩ : ∃ Z, (enc L).length = Z := ⟨_, rfl⟩
  rw [hN] at hl1 hI hI2 hS ⊢
  rw [hZ] at hl2 ⊢
  have HN := Lib.hid hN
  have HZ := Lib.hid hZ
  clear hN hZ
  go_wp2_with fail
  go_loop [11, 12] (fun s i => ∃ (k z : Nat), k ≤ N ∧ i = .int .i64 k ∧ s = .int .i64 z ∧ Hid ((enc (L.take k)).length = z) ∧ z ≤ 252) (fun _ i => N - (intOf i).toNat)
  case atStart => exact ⟨0, 0, by omega, rfl, rfl, rfl, by omega⟩
  case round =>
    obtain ⟨k, z, hk, rfl, rfl, HK, hz⟩ := hrel
    by_cases hlt : k < N
    · have hkL : k < L.length := by rw [HN.out]; exact hlt
      obtain ⟨b, off, u, rfl, hB, q1, hu⟩ := hat k hkL
      have HK2 : Hid ((enc (L.take (k + 1))).length = z + (L[k].length + 1)) := by
        show _ = _
        rw [enc_take_succ hkL, List.length_append, HK.out]; simp
      have hle : z + (L[k].length + 1) ≤ 252 := by
        have h1 := enc_take_le hkL
        rw [HK.out, HZ.out] at h1
        omega
      generalize L[k] = r at *
      obtain ⟨A3, c3, rfl, _, _, _, _⟩ := hu
      clear hat hS
      go_wp2
      go_round
      case rel => exact ⟨k + 1, z + (r.length + 1), by omega, by go_num, by go_num, HK2, hle⟩
      case measure => (simp [intOf]; try omega)
    · obtain rfl : k = N := by omega
      have e1 : ((Z : Int) == (z : Int)) = true := by
        have h := HK.out
        rw [← HN.out, List.take_length, HZ.out] at h
        rw [h]; simp
      clear hat
      go_wp2_with fail
      refine (hS _ hI2 hI).mono ?_
      rintro e w' ⟨rfl, q, rfl⟩
      go_wp2
      go_ret
      exact ⟨rfl, below_draws hb q⟩
end Go.Proofs.Ytfifkfkbfllnfaa
