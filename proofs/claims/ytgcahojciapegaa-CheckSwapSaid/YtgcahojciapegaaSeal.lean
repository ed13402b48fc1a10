/- 'sealed': digits with their check digit behind. -/
import Derived.Test.YtgcahojciapegaaPent
import Derived.Test.YtgcahojciapegaaNum
namespace Go.Proofs.Ytgcahojciapegaa
open Go.RowKit
theorem one_str' {x : Nat} (h : x ≤ 9) : strOfNums [48 + (x : Int)] = dstr [x] := by
  have := one_str (x := (x : Int)) (by omega) (by omega)
  rwa [Int.toNat_natCast] at this
/-- A text of digits whose motion is none. -/
def IsSeal (w : World) (e : Ending) (w' : World) : Prop :=
  ∃ ds : List Nat, 1 < ds.length ∧ ds.length ≤ 200 ∧ (∀ d ∈ ds, d ≤ 9) ∧ allD ds 0 = 0 ∧ e = .returned (.tuple #[.string (dstr ds), .bool true]) ∧ Below w.heap.size w w'
set_option maxHeartbeats 400000 in
theorem sealed_ok {v : Value} {w : World} (h : IsRaw w v) : Calls Try.prog 26 #[v] w (IsSeal w) := by
  go_enter Try.func26, Try.ntmps26
  go_wp2_with fail
  refine (numerals_raw h 199 (by omega) (by omega)).mono ?_
  rintro e wa ⟨ds, h0, h1, hd, rfl, hb⟩
  go_wp2_with fail
  refine (digit_of_ok ds _ hd h0 (by omega)).mono ?_
  rintro e wb ⟨rfl, hb2⟩
  have hi : invD (allD ds 1) ≤ 9 := invD_le _ (allK_le hd 1 ds.length)
  have hz : allD (ds ++ [invD (allD ds 1)]) 0 = 0 := by
    rw [allD_snoc hd hi]; exact (mulD_inv _ (by have := allK_le hd 1 ds.length; unfold allD; omega)).2.1
  have HZ := Lib.hid hz
  clear hz
  generalize invD (allD ds 1) = x at *
  have hsz := dstr_size ds
  have hS := strOfNums_size
  have hcv := conv_one0 (dst := 9) Try.underlying61 Try.underlying5 Try.underlying9 wb
  have hp : pk (x : Int) 10 = (x : Int) := by unfold pk; rw [if_neg (by omega)]; omega
  go_wp2_with fail
  refine (picked_is (r := (x : Int)) _ hp (WalkArith.wf_i64 (by omega)) (by omega) (by omega)).mono ?_
  rintro e w' ⟨rfl, rfl⟩
  clear hp
  go_wp2
  go_ret2
  exact ⟨ds ++ [x], by simp; omega, by simp; omega, fun d hd' => (List.mem_append.1 hd').elim (hd d) (fun h => by simp at h; omega), HZ.out, by rw [dstr_append, ← one_str' (by omega)]; rfl, (hb.step hb2).alloc (by have := hb.size; have := hb2.size; omega) _⟩
end Go.Proofs.Ytgcahojciapegaa
