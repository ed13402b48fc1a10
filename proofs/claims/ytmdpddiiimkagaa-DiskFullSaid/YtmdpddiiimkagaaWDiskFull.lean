/- The walk of the law DiskFull. -/
import Derived.Test.YtmdpddiiimkagaaTape
namespace Go.Proofs.Ytmdpddiiimkagaa
open Go.RowKit
set_option maxHeartbeats 1000000 in
theorem blank_bad (w : World) : Calls Try.prog 45 #[.int .i64 0] w fun e w' => e = .returned (.tuple #[.slice none 0 0, .int .i64 1]) ∧ w = w' := by
  go_enter Try.func45, Try.ntmps45
  go_wp2
  go_ret2
  exact ⟨rfl, rfl⟩
set_option maxRecDepth 100000 in
set_option maxHeartbeats 2000000 in
/-- No record and no word more: there is no tape. -/
theorem tape_nil (v : Value) (w : World) (hv : IsRr w v []) :
    Calls Try.prog 32 #[v, .int .i64 0] w fun e w' => e = .returned (.tuple #[.slice none 0 0, .slice none 0 0, .bool false]) ∧ w = w' := by
  obtain ⟨A, cp, vs0, rfl, hc1, hc2, _, _⟩ := hv
  clear hc1 hc2
  have hB := fun W => blank_bad W
  go_enter Try.func32, Try.ntmps32
  go_wp2_with fail
  go_loopw [7, 8, 9] (fun v s i wr => v = .slice none 0 0 ∧ s = .int .i64 0 ∧ i = .int .i64 0 ∧ wr = w) (fun _ _ i _ => 0)
  case atStart => exact ⟨rfl, rfl, rfl, rfl⟩
  case round =>
    obtain ⟨rfl, rfl, rfl, rfl⟩ := hrel
    go_wp2_with fail
    refine (hB _).mono ?_
    rintro e wa ⟨rfl, rfl⟩
    go_wp2
    go_ret3
    exact ⟨rfl, rfl⟩
theorem enc_len_le : ∀ l : List (List Nat), (∀ r ∈ l, r.length ≤ 20) → (enc l).length ≤ 21 * l.length
  | [], _ => by simp [enc]
  | r :: l, h => by
    have h1 := enc_len_le l fun q hq => h q (List.mem_cons_of_mem _ hq)
    have h2 := h r List.mem_cons_self
    rw [show r :: l = [r] ++ l from rfl, enc_append, enc_one, List.length_append, List.length_cons, List.length_append]
    simp only [List.length_cons, List.length_nil]
    omega
theorem recsOf_enc (R : List (List Nat)) : (enc (recsOf R)).length ≤ 252 := by
  have h1 := enc_len_le (recsOf R) fun q hq => by
    obtain ⟨x, _, rfl⟩ := List.mem_map.1 hq
    exact someN_le x 20 (by omega)
  have h2 : (recsOf R).length ≤ 12 := by
    unfold recsOf
    rw [List.length_map, List.length_take]
    omega
  omega
set_option maxRecDepth 100000 in
set_option maxHeartbeats 2000000 in
theorem walk_diskFull (w : World) (a0 : Value) (w0 : Fit Try.prog w 77 a0) (a1 : Value) (w1 : Fit Try.prog w 68 a1) (a2 : Int) (w2 : (Lit.int .i64 a2).wf = true) :
    Calls Try.prog 12 #[a0, a1, .int .i64 a2] w fun e w' => e = .returned (.bool true) ∧ Below w.heap.size w w' := by
  obtain ⟨R, hR⟩ := recs_fit w0
  obtain ⟨xs, hxs⟩ := ws_fit w1
  clear w0 w1
  obtain ⟨n, hn, hn24⟩ := pk_nat a2 24 (by omega)
  have hS := fun W h => some_ok a1 xs 20 W h (by omega)
  have hpos := someN_pos xs 20
  have hle := someN_le xs 20 (by omega)
  generalize someN xs 20 = r at *
  by_cases h0 : R = [] ∧ n = 0
  · obtain ⟨rfl, rfl⟩ := h0
    have hT := fun W h => tape_nil a0 W h
    go_enter Try.func12, Try.ntmps12
    go_wp2_with fail
    refine (picked_is _ hn w2 (by omega) (by omega)).mono ?_
    rintro e w' ⟨rfl, rfl⟩
    go_wp2_with fail
    refine (hT _ hR).mono ?_
    rintro e w' ⟨rfl, rfl⟩
    go_wp2_with fail
    refine (hS _ hxs).mono ?_
    rintro e wa ⟨v, rfl, hv, hba⟩
    go_wp2
    go_ret
    exact ⟨rfl, hba⟩
  · have hR1 : 1 ≤ n + R.length := by
      rcases Nat.eq_zero_or_pos n with h | h
      · have : R ≠ [] := fun e => h0 ⟨e, h⟩
        have := List.length_pos_iff.2 this
        omega
      · omega
    have hT := fun W h => tape_ok a0 R n W h (by omega) hR1
    have hL1 : (recsOf R).length = 0 → n ≠ 0 := by
      intro h e
      unfold recsOf at h
      rw [List.length_map, List.length_take] at h
      omega
    have hL12 : (recsOf R).length ≤ 12 := by
      unfold recsOf
      rw [List.length_map, List.length_take]
      omega
    have hLe : (enc (recsOf R)).length ≤ 252 := recsOf_enc R
    generalize recsOf R = L at *
    clear h0 hR1
    by_cases hf : r.length + 1 > n
    · have hD := fun v u C W (hC : IsTape C L) (hCl : C.length = n + (enc L).length) h1 h2 => dappend_full v u C r L W h1 h2 hC (by rw [hCl]; have := enc_len_ge L; omega) (by omega) hpos (by omega) (by omega)
      clear hLe
      go_enter Try.func12, Try.ntmps12
      go_wp2_with fail
      refine (picked_is _ hn w2 (by omega) (by omega)).mono ?_
      rintro e w' ⟨rfl, rfl⟩
      go_wp2_with fail
      refine (hT _ hR).mono ?_
      rintro e wt ⟨cv, C, A, c, vs, rfl, hxc, hC, hCl, _, _, hbt⟩
      go_wp2_with fail
      refine (hS _ (hxs.below hbt)).mono ?_
      rintro e wa ⟨v, rfl, hv, hba⟩
      have hv0 := hv
      obtain ⟨B, d, rfl, _, _, _, _⟩ := hv
      have hD2 := fun u W => hD cv u C W hC hCl
      clear hC hCl
      have bA := hbt.trans (hba.mono hbt.size)
      have hxc2 := hxc.below hba
      have i1 : (r.length : Int) + 1 > (n : Int) := by omega
      generalize L.length = k at *
      have G : (k : Int) = 0 ∧ ¬ (n : Int) = 0 ∨ ¬ (k : Int) = 0 := by
        rcases Nat.eq_zero_or_pos k with h | h
        · exact .inl ⟨by omega, by have := hL1 h; omega⟩
        · exact .inr (by omega)
      rcases G with ⟨g1, g2⟩ | g1
      all_goals
        go_wp2_with fail
        refine (hD2 _ _ hxc2 hv0).mono ?_
        rintro e wb ⟨rfl, rfl⟩
        go_wp2
        go_ret
        exact ⟨rfl, bA⟩
    · have hD := fun v u C W (hC : IsTape C L) (hCl : C.length = n + (enc L).length) h1 h2 => dappend_ok v u C r L W h1 h2 hC (by omega) hpos (by omega) (by omega)
      clear hLe
      go_enter Try.func12, Try.ntmps12
      go_wp2_with fail
      refine (picked_is _ hn w2 (by omega) (by omega)).mono ?_
      rintro e w' ⟨rfl, rfl⟩
      go_wp2_with fail
      refine (hT _ hR).mono ?_
      rintro e wt ⟨cv, C, A, c, vs, rfl, hxc, hC, hCl, _, _, hbt⟩
      go_wp2_with fail
      refine (hS _ (hxs.below hbt)).mono ?_
      rintro e wa ⟨v, rfl, hv, hba⟩
      have hv0 := hv
      obtain ⟨B, d, rfl, _, _, _, _⟩ := hv
      have hD2 := fun u W => hD cv u C W hC hCl
      have hpl := putW_len C.length (enc L).length r
      generalize putW C.length (enc L).length r = P at *
      clear hC hCl hD
      have bA := hbt.trans (hba.mono hbt.size)
      have hxc2 := hxc.below hba
      have i1 : ¬ (r.length : Int) + 1 > (n : Int) := by omega
      have hba2 := hba.size
      have hbt2 := hbt.size
      generalize L.length = k at *
      have G : (k : Int) = 0 ∧ ¬ (n : Int) = 0 ∨ ¬ (k : Int) = 0 := by
        rcases Nat.eq_zero_or_pos k with h | h
        · exact .inl ⟨by omega, by have := hL1 h; omega⟩
        · exact .inr (by omega)
      rcases G with ⟨g1, g2⟩ | g1
      all_goals
        go_wp2_with fail
        refine (hD2 _ _ hxc2 hv0).mono ?_
        rintro e wb ⟨u, rfl, hu, hbb⟩
        obtain ⟨E, f, rfl, _⟩ := hu
        go_wp2
        go_ret
        exact ⟨ret_true (by simp; omega), bA.trans (hbb.mono (by omega))⟩
end Go.Proofs.Ytmdpddiiimkagaa
