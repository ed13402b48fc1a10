/- The walk of the law ReadBack. -/
import Derived.Test.YthhbnmmhjfgpdaaDoorWShowBack
namespace Go.Proofs.YthhbnmmhjfgpdaaDoor
open Go.RowKit
set_option linter.unusedVariables false
set_option maxRecDepth 100000 in
set_option maxHeartbeats 1000000 in
theorem walk_readBack (w : World) (a0 : ByteArray) (w0 : a0.size ≤ maxLen) (hL : laidMetH Tryd.prog Rows.readBackRow.laid w) :
    Calls Tryd.prog 8 #[.string a0] w fun e w' => e = .returned (.bool true) ∧ Below w.heap.size w w' := by
  have ht := tab_laid hL
  have hR := read_any a0 w (by unfold maxLen at w0; omega)
  unfold RetAny at hR
  clear hL w0
  have H := Mem.init w
  go_enter Tryd.func8, Tryd.ntmps8
  go_wp2_with fail
  refine hR.mono ?_
  rintro e w1 ⟨n, E, rfl, h, hb1⟩
  replace H : Mem (w) [] (w1) [] := Mem.call H hb1
  clear hR
  rcases h with ⟨hE, rfl⟩ | ⟨rfl, n0, n1, hs⟩
  · have hE1 : (E != 0) = true := by simpa using hE
    clear hE
    go_wp2
    go_ret
    exact ⟨rfl, H.below⟩
  · have hS := show_ok n w1 n0 n1 (ht.below hb1)
    unfold RetShow at hS
    rw [← hs] at hS
    clear ht hs hb1 n0 n1
    go_wp2_with fail
    refine hS.mono ?_
    rintro e w2 ⟨rfl, hb2⟩
    replace H : Mem (w) [] (w2) [] := Mem.call H hb2
    go_wp2
    go_ret
    exact ⟨rfl, H.below⟩
end Go.Proofs.YthhbnmmhjfgpdaaDoor
