/- The walk of the law RestSwaps. -/
import Derived.Test.YtadaanphoehlmaaCheck
import Derived.Test.YtadaanphoehlmaaNum
namespace Go.Proofs.Ytadaanphoehlmaa
open Go.RowKit
theorem swap_rest {ds : List Nat} {i far : Nat} (hd : ∀ x ∈ ds, x ≤ 9) (hf : far = 1 ∨ far = 2) (h : i + far < ds.length) :
    ((rest97 ds : Int) == (rest97 (swp ds i far) : Int)) = decide (dstr ds = dstr (swp ds i far)) := by
  rw [Bool.eq_iff_iff]
  simp only [beq_iff_eq, decide_eq_true_eq]
  constructor
  · intro h1
    have h1 : rest97 ds = rest97 (swp ds i far) := by omega
    rcases hf with rfl | rfl
    · obtain ⟨p, x, y, q, e1, e2, _⟩ := swp_one h
      rw [e2] at h1 ⊢
      rw [e1] at h1 hd ⊢
      rw [rest97_swap1 (hd x (by simp)) (hd y (by simp)) h1]
    · obtain ⟨p, x, m, y, q, e1, e2, _⟩ := swp_two h
      rw [e2] at h1 ⊢
      rw [e1] at h1 hd ⊢
      rw [rest97_swap2 (hd x (by simp)) (hd y (by simp)) h1]
  · intro h1
    rw [← dstr_inj hd (fun x hx => hd x (swp_mem hx)) h1]
theorem c012 : ({ data := #[48, 49, 50] } : ByteArray) = dstr [0, 1, 2] := by apply str_ext; rw [dstr_toList]; rfl
set_option maxHeartbeats 400000 in
theorem walk_restSwaps (w : World) (a0 : Value) (w0 : Fit Try.prog w 29 a0) (a1 : Int) (w1 : (Lit.int .i64 a1).wf = true) (a2 : Int) (w2 : (Lit.int .i64 a2).wf = true) :
    Calls Try.prog 6 #[a0, .int .i64 a1, .int .i64 a2] w fun e w' => e = .returned (.bool true) ∧ Below w.heap.size w w' := by
  obtain ⟨r, hr, hr0, hr1⟩ := pk_int a2 2 (by omega)
  obtain ⟨far, rfl⟩ : ∃ far : Nat, r = (far : Int) - 1 := ⟨(r + 1).toNat, by omega⟩
  go_enter Try.func6, Try.ntmps6
  go_wp2_with fail
  refine (numerals_fit w0 200 (by omega) (by omega)).mono ?_
  rintro e w' ⟨ds, h0, h1, hd, rfl, hb⟩
  go_wp2_with fail
  refine (picked_is _ hr w2 (by omega) (by omega)).mono ?_
  rintro e w' ⟨rfl, rfl⟩
  have hsz := dstr_size ds
  have e1 : (1 : Int) + ((far : Int) - 1) = (far : Int) := by omega
  have hfar : far = 1 ∨ far = 2 := by omega
  by_cases hlen : ds.length ≤ far
  · go_wp2_with fail
    rw [c012]
    have hd' : ∀ x ∈ [0, 1, 2], x ≤ 9 := by decide
    have k0 : 0 < [0, 1, 2].length := by decide
    have k1 : [0, 1, 2].length ≤ 200 := by decide
    have k2 : far < [0, 1, 2].length := by simp; omega
    generalize [0, 1, 2] = es at *
    go_wp2_with fail
    refine (swapped_ok es a1 far _ (by omega) k2 (by omega) w1).mono ?_
    rintro e wa ⟨i, hi, rfl, hb2⟩
    go_wp2_with fail
    refine (rest_ok es _ hd' k0 k1).mono ?_
    rintro e wb ⟨rfl, hb3⟩
    go_wp2_with fail
    refine (rest_ok (swp es i far) _ (fun x hx => hd' x (swp_mem hx)) (by rw [swp_length (by omega) hi]; exact k0) (by rw [swp_length (by omega) hi]; exact k1)).mono ?_
    rintro e wc ⟨rfl, hb4⟩
    have hq := Lib.hid (swap_rest hd' hfar hi)
    go_wp2
    go_ret
    refine ⟨ret_true ?_, (((hb.step hb2).step hb3).step hb4)⟩
    rw [hq.out, str_beq]
    simp
  · have k2 : far < ds.length := by omega
    have hd' := hd
    have k0 := h0
    have k1 := h1
    generalize hes : ds = es at *
    go_wp2_with fail
    refine (swapped_ok es a1 far _ (by omega) k2 (by omega) w1).mono ?_
    rintro e wa ⟨i, hi, rfl, hb2⟩
    go_wp2_with fail
    refine (rest_ok es _ hd' k0 k1).mono ?_
    rintro e wb ⟨rfl, hb3⟩
    go_wp2_with fail
    refine (rest_ok (swp es i far) _ (fun x hx => hd' x (swp_mem hx)) (by rw [swp_length (by omega) hi]; exact k0) (by rw [swp_length (by omega) hi]; exact k1)).mono ?_
    rintro e wc ⟨rfl, hb4⟩
    have hq := Lib.hid (swap_rest hd' hfar hi)
    go_wp2
    go_ret
    refine ⟨ret_true ?_, (((hb.step hb2).step hb3).step hb4)⟩
    rw [hq.out, str_beq]
    simp
end Go.Proofs.Ytadaanphoehlmaa
