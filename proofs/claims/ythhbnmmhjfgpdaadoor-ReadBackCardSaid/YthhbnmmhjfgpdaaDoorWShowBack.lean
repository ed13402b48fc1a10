/- The walk of the law ShowBack. -/
import Derived.Test.YthhbnmmhjfgpdaaDoorMoneyL
import Derived.MakeChecks
namespace Go.Proofs.YthhbnmmhjfgpdaaDoor
open Go.RowKit
set_option linter.unusedVariables false
theorem tab_laid {w : World} (hL : laidMetH Tryd.prog Rows.showBackRow.laid w) : TabOk w := by
  have h : laidMet Tryd.prog Rows.showBackRow.laid w := by
    rw [← MakeChecks.laidMetH_plain _ _ _ (by kernel_rfl)]; exact hL
  have h2 := laid_tail (laid_tail h)
  exact Lib.tabBelow_of_tabIs (Lib.tabIs_of_head (g := 3) (by kernel_rfl) (by kernel_rfl) Tryd.underlying83 Tryd.underlying70 (by kernel_rfl) (by kernel_rfl) h2)
theorem money_size (m : Int) (h0 : -1000000000000 ≤ m) (h1 : m ≤ 1000000000000) : (shown m).size ≤ 20 := by
  unfold shown moneyS
  rw [ByteArray.size_append, ByteArray.size_append, ByteArray.size_append, dstr_size, dstr_size]
  have := dec_len (m.natAbs / 100) 11 (by omega) (by omega)
  have h2 : (if decide (m < 0) = true then (⟨#[45]⟩ : ByteArray) else ⟨#[]⟩).size ≤ 1 := by split <;> decide
  have h3 : (⟨#[46]⟩ : ByteArray).size = 1 := rfl
  simp only [List.length_cons, List.length_nil]
  omega
set_option maxRecDepth 100000 in
set_option maxHeartbeats 1000000 in
theorem walk_showBack (w : World) (a0 : Int) (w0 : (Lit.int .i64 a0).wf = true) (hL : laidMetH Tryd.prog Rows.showBackRow.laid w) :
    Calls Tryd.prog 7 #[.int .i64 a0] w fun e w' => e = .returned (.bool true) ∧ Below w.heap.size w w' := by
  have ht := tab_laid hL
  obtain ⟨p, hp, p0, p1⟩ := pk_int a0 2000000000001 (by omega)
  obtain ⟨m, hm⟩ : ∃ m, p - 1000000000000 = m := ⟨_, rfl⟩
  have m0 : -1000000000000 ≤ m := by omega
  have m1 : m ≤ 1000000000000 := by omega
  have hS := show_ok m w m0 m1 ht
  obtain ⟨hcan, hsg⟩ := canon_shown m m0 m1
  have hR := fun W => read_good _ _ _ _ hcan (money_size m m0 m1) W
  rw [hsg] at hR
  obtain ⟨S, hSS⟩ : ∃ s, shown m = s := ⟨_, rfl⟩
  have hR2 : ∀ W, Calls Tryd.prog 17 #[.string S] W (RetRead m 0 W) := fun W => by rw [← hSS]; exact hR W
  unfold RetShow at hS
  unfold RetRead at hR2
  rw [hSS] at hS
  have hp2 : p ≤ 9223372036854775807 := by omega
  have HM := Lib.hid hm
  have HE : m = p - 1000000000000 := hm.symm
  clear hR hsg hcan hSS hL ht m0 m1 hm
  have H := Mem.init w
  go_enter Tryd.func7, Tryd.ntmps7
  go_wp2_with fail
  refine (picked_is _ hp w0 (by omega) (by omega)).mono ?_
  rintro e w1 ⟨rfl, rfl⟩
  subst HE
  go_wp2_with fail
  refine hS.mono ?_
  rintro e w2 ⟨rfl, hb2⟩
  replace H : Mem (w) [] (w2) [] := Mem.call H hb2
  go_wp2_with fail
  refine (hR2 _).mono ?_
  rintro e w3 ⟨rfl, hb3⟩
  replace H : Mem (w) [] (w3) [] := Mem.call H hb3
  go_wp2
  go_ret
  exact ⟨rfl, H.below⟩
end Go.Proofs.YthhbnmmhjfgpdaaDoor
