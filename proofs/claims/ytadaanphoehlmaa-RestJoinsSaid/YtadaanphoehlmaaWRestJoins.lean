/- The walk of the law RestJoins. -/
import Derived.Test.YtadaanphoehlmaaCheck
import Derived.Test.YtadaanphoehlmaaNum
namespace Go.Proofs.Ytadaanphoehlmaa
open Go.RowKit
set_option maxHeartbeats 400000 in
theorem walk_restJoins (w : World) (a0 : Value) (w0 : Fit Try.prog w 29 a0) (a1 : Value) (w1 : Fit Try.prog w 29 a1) :
    Calls Try.prog 7 #[a0, a1] w fun e w' => e = .returned (.bool true) ∧ Below w.heap.size w w' := by
  go_enter Try.func7, Try.ntmps7
  go_wp2_with fail
  refine (numerals_fit w0 100 (by omega) (by omega)).mono ?_
  rintro e wa ⟨ds, h0, h1, hd, rfl, hb⟩
  go_wp2_with fail
  refine (numerals_raw ((raw_fit w1).below hb) 100 (by omega) (by omega)).mono ?_
  rintro e wb ⟨ts, k0, k1, hk, rfl, hb2⟩
  go_wp2_with fail
  refine (rest_ok ds _ hd h0 (by omega)).mono ?_
  rintro e wc ⟨rfl, hb3⟩
  go_wp2_with fail
  refine (rest_ok ts _ hk k0 (by omega)).mono ?_
  rintro e wd ⟨rfl, hb4⟩
  have hsz := dstr_size ds
  have hsz2 := dstr_size ts
  go_wp2_with fail
  rw [← dstr_append]
  refine (rest_ok (ds ++ ts) _ (fun x hx => (List.mem_append.1 hx).elim (hd x) (hk x)) (by simp; omega) (by simp; omega)).mono ?_
  rintro e we ⟨rfl, hb5⟩
  have h0' : 1 ≤ ds.length := by omega
  go_wp2_with fail
  rw [dstr_extract]
  refine (rest_ok _ _ (fun x hx => hd x (List.mem_of_mem_take (by simpa using hx))) (by simp; omega) (by simp; omega)).mono ?_
  rintro e wf ⟨rfl, hb6⟩
  have hbt := dstr_byte hd 0 (by omega)
  obtain ⟨x, xs, rfl⟩ : ∃ x xs, ds = x :: xs := by cases ds with | nil => simp at h0 | cons x xs => exact ⟨x, xs, rfl⟩
  have hx9 := hd x (by simp)
  have e1 : rest97 (List.take (1 - 0) (List.drop 0 (x :: xs))) = x := by simp [rest97]; omega
  rw [e1]
  clear e1
  simp only [List.getElem_cons_zero] at hbt
  have hl0 := rest97_lt (x :: xs)
  have hl1 := rest97_lt ts
  have hj := Lib.hid (rest97_append (x :: xs) _ ts rfl)
  generalize rest97 (x :: xs) = a at *
  generalize rest97 ts = b at *
  generalize rest97 (x :: xs ++ ts) = c at *
  go_wp2_with fail
  go_loop [7, 15] (fun u i => ∃ k : Nat, k ≤ ts.length ∧ i = .int .i64 k ∧ u = .int .i64 (p10 k a)) (fun _ i => ts.length - (intOf i).toNat)
  case atStart => exact ⟨0, by omega, rfl, rfl⟩
  case round =>
    obtain ⟨k, hk, rfl, rfl⟩ := hrel
    have hp := p10_lt (k := k) hl0
    have HS := Lib.hid (show p10 (k + 1) a = p10 k a * 10 % 97 from rfl)
    by_cases hlt : k < ts.length
    · generalize p10 k a = q at *
      go_wp2
      go_round
      case rel => exact ⟨k + 1, by omega, by go_num, by rw [HS.out]; go_num⟩
      case measure => simp [intOf]; omega
    · obtain rfl : k = ts.length := by omega
      generalize p10 ts.length a = q at *
      go_wp2
      go_ret
      exact ⟨ret_true (by rw [hj.out]; simp), ((((hb.step hb2).step hb3).step hb4).step hb5).step hb6⟩
end Go.Proofs.Ytadaanphoehlmaa
