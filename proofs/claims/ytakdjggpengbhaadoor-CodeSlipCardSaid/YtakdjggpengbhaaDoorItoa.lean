/- strconv.Itoa where the table of the powers of ten lies as it is laid. -/
import Derived.Test.YtakdjggpengbhaaDoorDecD
import Derived.Test.YtakdjggpengbhaaDoorStr
import Derived.Test.YtakdjggpengbhaaDoorShelf
import Derived.Test.YtakdjggpengbhaaDoorHeap
import Derived.Lib.AppendIntMem
import Derived.Lib.ItoaNum
import Derived.MakeChecks
namespace Go.Proofs.YtakdjggpengbhaaDoor
open Go.RowKit
set_option linter.unusedVariables false
theorem decDigits_dec (u : Nat) : Lib.decDigits u = (dec u).map dg := by
  induction u using Nat.strongRecOn with
  | _ u ih =>
    by_cases h : u < 10
    · rw [Lib.decDigits, dif_pos h, dec_small h]; rfl
    · rw [Lib.decDigits, dif_neg h, dec_big h, ih (u / 10) (by omega), List.map_append]; rfl
theorem itoa_str (u : Nat) : (⟨(Lib.itoa (u : Int)).toArray⟩ : ByteArray) = dstr (dec u) := by
  have e : Lib.itoa (u : Int) = Lib.decDigits u := by unfold Lib.itoa; rw [if_neg (by omega)]; simp
  rw [e, decDigits_dec]; rfl
/-- The table of the powers of ten lies as it is laid, whatever the call makes. -/
def TabOk (w : World) : Prop := Lib.TabBelow Tryd.prog w.heap.size w "internal/strconv.uint64pow10" .u64 Lib.pow10Tab
theorem TabOk.below {w w' : World} (h : TabOk w) (hb : Below w.heap.size w w') : TabOk w' := fun w'' hb' => h w'' (hb.trans (hb'.mono hb.size))
theorem laid_tail {P : Program} {x : String × DataW Unit} {r : List (String × DataW Unit)} {w : World} (h : laidMet P (x :: r) w) : laidMet P r w := by
  obtain ⟨ps, ⟨g, t, cs, fuel, p, q, _, _, _, _, hq, rfl⟩, hn, hc⟩ := h
  exact ⟨q, hq, (List.nodup_append.1 hn).2.1, fun b off hm => hc b off (by simp [hm])⟩
theorem itoa_ok (u : Nat) (w : World) (hu : u ≤ 9223372036854775807) (ht : TabOk w) : Calls Tryd.prog 22 #[.int .i64 (u : Int)] w fun e w' => e = .returned (.string (dstr (dec u))) ∧ Below w.heap.size w w' := by
  refine (Tryd.strconv_Itoa (u : Int) (by omega) (by omega) w ht.here).mono ?_
  rintro e w' ⟨rfl, k, os, rfl⟩
  rw [itoa_str]
  exact ⟨rfl, Lib.below_grow _ w (Nat.le_refl _) k os⟩
end Go.Proofs.YtakdjggpengbhaaDoor
