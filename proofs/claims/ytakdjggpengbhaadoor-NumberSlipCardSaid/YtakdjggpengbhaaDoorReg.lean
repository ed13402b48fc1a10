/- A meter's number with its check digit: receipt.Number, receipt.Meter. -/
import Derived.Test.YtakdjggpengbhaaDoorNumbD
import Derived.Test.YtakdjggpengbhaaDoorItoa
import Derived.Test.YtakdjggpengbhaaDoorSeal
import Derived.Test.YtakdjggpengbhaaDoorHeap
import Derived.Test.YtakdjggpengbhaaDoorShelf
namespace Go.Proofs.YtakdjggpengbhaaDoor
open Go.RowKit
set_option linter.unusedVariables false
/-- The digits of a meter's number. -/
def numD (me : Nat) : List Nat := pad 10 me ++ [invD (allD (pad 10 me) 1)]
theorem allD_le {l : List Nat} (hl : ∀ d ∈ l, d ≤ 9) (f : Nat) : allD l f ≤ 9 := allK_le hl f l.length
theorem numD_le (me : Nat) : ∀ d ∈ numD me, d ≤ 9 := fun d hd => by
  rcases List.mem_append.1 hd with h | h
  · exact pad_le _ _ d h
  · have := invD_le _ (allD_le (pad_le 10 me) 1)
    simp at h; omega
theorem numD_len {me : Nat} (h : me < 50) : (numD me).length = 11 := by
  unfold numD
  rw [List.length_append, pad_len (by omega) (by omega)]; rfl
theorem numD_zero (me : Nat) : allD (numD me) 0 = 0 := by
  have h9 := allD_le (pad_le 10 me) 1
  unfold numD
  rw [allD_snoc (pad_le _ _) (invD_le _ h9)]
  exact (mulD_inv _ (by omega)).2.1
theorem numD_val {me : Nat} (h : me < 50) : val10 ((numD me).take 10) = me := by
  unfold numD
  rw [List.take_left' (pad_len (by omega) (by omega)), val10_pad]
set_option maxRecDepth 100000 in
set_option maxHeartbeats 2000000 in
theorem number_ok (me : Nat) (w : World) (h : me < 50) (ht : TabOk w) : Calls Tryd.prog 9 #[.int .i64 (me : Int)] w fun e w' => e = .returned (.tuple #[.string (dstr (numD me)), .int .i64 0]) ∧ Below w.heap.size w w' := by
  have hI1 := fun W h => itoa_ok (10000000000 + me) W (by omega) h
  have hdl : dec (10000000000 + me) = 1 :: pad 10 me := dec_lead (k := 10) (n := me) (by omega) (by omega)
  rw [hdl] at hI1
  have hpl := pad_len (k := 10) (n := me) (by omega) (by omega)
  have hsz1 := dstr_size (1 :: pad 10 me)
  have hsz2 := dstr_size (pad 10 me)
  rw [List.length_cons, hpl] at hsz1
  rw [hpl] at hsz2
  have hex : (dstr (1 :: pad 10 me)).extract 1 11 = dstr (pad 10 me) := by
    rw [dstr_extract]
    exact congrArg dstr (List.take_of_length_le (l := pad 10 me) (by omega))
  have hD := fun W => digit_of_ok (pad 10 me) W (pad_le _ _) (by omega) (by omega)
  have hd9 := invD_le _ (allD_le (pad_le 10 me) 1)
  unfold numD
  obtain ⟨d, hd⟩ : ∃ d, invD (allD (pad 10 me) 1) = d := ⟨_, rfl⟩
  rw [hd] at hD hd9 ⊢
  have hI2 := fun W h => itoa_ok d W (by omega) h
  rw [dec_small (by omega)] at hI2
  rw [dstr_append]
  have e1 : ((10000000000 : Int) + (me : Int)) = ((10000000000 + me : Nat) : Int) := by omega
  rw [← e1] at hI1
  have hsz3 : (dstr [d]).size = 1 := by rw [dstr_size]; rfl
  obtain ⟨S1, hS1⟩ : ∃ s, dstr (1 :: pad 10 me) = s := ⟨_, rfl⟩
  obtain ⟨S2, hS2⟩ : ∃ s, dstr (pad 10 me) = s := ⟨_, rfl⟩
  obtain ⟨S3, hS3⟩ : ∃ s, dstr [d] = s := ⟨_, rfl⟩
  rw [hS1] at hI1 hsz1 hex
  rw [hS2] at hex hsz2 hD ⊢
  rw [hS3] at hI2 hsz3 ⊢
  have k1 : ¬ 9223372036854775807 < S2.size + 1 := by omega
  have hm0 : 0 ≤ (me : Int) := by omega
  have hm1 : (me : Int) < 50 := by omega
  clear hdl hpl hd e1 hS1 hS2 hS3
  have H := Mem.init w
  go_enter Tryd.func9, Tryd.ntmps9
  go_wp2_with fail
  refine (hI1 _ ht).mono ?_
  rintro e w2 ⟨rfl, hb2⟩
  replace H : Mem (w) [] (w2) [] := Mem.call H hb2
  have ht2 := ht.below hb2
  clear hI1 ht hb2
  go_wp2_with fail
  refine (hD _).mono ?_
  rintro e w3 ⟨rfl, hb3⟩
  replace H : Mem (w) [] (w3) [] := Mem.call H hb3
  have ht3 := ht2.below hb3
  clear hD hb3 ht2
  go_wp2_with fail
  refine (hI2 _ ht3).mono ?_
  rintro e w4 ⟨rfl, hb4⟩
  replace H : Mem (w) [] (w4) [] := Mem.call H hb4
  clear hI2 hb4 ht3
  go_wp2
  go_ret2
  exact ⟨rfl, H.below⟩
set_option maxRecDepth 100000 in
set_option maxHeartbeats 2000000 in
theorem regmeter_bad (l : List Nat) (w : World) (hl : ∀ d ∈ l, d ≤ 9) (h11 : l.length = 11) (hz : ¬ allD l 0 = 0) : Calls Tryd.prog 11 #[.string (dstr l)] w fun e w' => e = .returned (.tuple #[.int .i64 0, .int .i64 8]) ∧ Below w.heap.size w w' := by
  have hR := fun W => rest_ok l W hl (by omega) (by omega)
  have hG := fun W => good_ok l W hl (by omega) (by omega)
  rw [show decide (allD l 0 = 0) = false by simpa using hz] at hG
  have hsz := dstr_size l
  rw [h11] at hsz
  obtain ⟨S, hS⟩ : ∃ s, dstr l = s := ⟨_, rfl⟩
  rw [hS] at hR hG hsz ⊢
  clear hS hz h11 hl
  have H := Mem.init w
  go_enter Tryd.func11, Tryd.ntmps11
  go_wp2_with fail
  refine (hR _).mono ?_
  rintro e w2 ⟨rfl, hb2⟩
  replace H : Mem (w) [] (w2) [] := Mem.call H hb2
  go_wp2_with fail
  refine (hG _).mono ?_
  rintro e w3 ⟨rfl, hb3⟩
  replace H : Mem (w) [] (w3) [] := Mem.call H hb3
  go_wp2
  go_ret2
  exact ⟨rfl, H.below⟩
set_option maxRecDepth 100000 in
set_option maxHeartbeats 2000000 in
theorem regmeter_good (l : List Nat) (me : Nat) (w : World) (hl : ∀ d ∈ l, d ≤ 9) (h11 : l.length = 11) (hz : allD l 0 = 0) (hv : val10 (l.take 10) = me) (hme : me < 50) : Calls Tryd.prog 11 #[.string (dstr l)] w fun e w' => e = .returned (.tuple #[.int .i64 (me : Int), .int .i64 0]) ∧ Below w.heap.size w w' := by
  have hR := fun W => rest_ok l W hl (by omega) (by omega)
  have hG := fun W => good_ok l W hl (by omega) (by omega)
  rw [show decide (allD l 0 = 0) = true by simpa using hz] at hG
  have hsz := dstr_size l
  rw [h11] at hsz
  have hsz2 : (dstr (l.take 10)).size ≤ 18 := by rw [dstr_size, List.length_take]; omega
  have hA := fun W => Tryd.strconv_Atoi (dstr (l.take 10)) (me : Int) hsz2 (by rw [atoi_dig (fun d hd => hl d (List.mem_of_mem_take hd)) (by rw [List.length_take]; omega), hv]) W
  have hex : (dstr l).extract 0 10 = dstr (l.take 10) := by rw [dstr_extract]; rfl
  rw [← hex] at hA
  obtain ⟨S, hS⟩ : ∃ s, dstr l = s := ⟨_, rfl⟩
  rw [hS] at hR hG hsz hA ⊢
  have hm1 : (me : Int) < 50 := by omega
  clear hS hz h11 hl hex hv hsz2
  have H := Mem.init w
  go_enter Tryd.func11, Tryd.ntmps11
  go_wp2_with fail
  refine (hR _).mono ?_
  rintro e w2 ⟨rfl, hb2⟩
  replace H : Mem (w) [] (w2) [] := Mem.call H hb2
  go_wp2_with fail
  refine (hG _).mono ?_
  rintro e w3 ⟨rfl, hb3⟩
  replace H : Mem (w) [] (w3) [] := Mem.call H hb3
  go_wp2_with fail
  refine (hA _).mono ?_
  rintro e w4 ⟨rfl, t, hw4⟩
  have hb4 : Below w3.heap.size w3 w4 := by rw [hw4]; exact Lib.bytesWorld_below _ _ _
  replace H : Mem (w) [] (w4) [] := Mem.call H hb4
  clear hw4
  go_wp2
  go_ret2
  exact ⟨rfl, H.below⟩
end Go.Proofs.YtakdjggpengbhaaDoor
