/- Several stores into one block. -/
import Derived.Test.YthhbnmmhjfgpdaaOwn
namespace Go.Proofs.Ythhbnmmhjfgpdaa
open Go.RowKit
set_option linter.unusedVariables false
/-- Stores into the block b, one behind the other. -/
def sets (w : World) (b : Nat) (ps : List (Nat × Value)) : World := ps.foldl (fun W p => W.setCell ⟨b, p.1, none⟩ p.2) w
theorem own_sets {base b : Nat} {e : TypeId} {size : Nat} {v : Value} {n : Nat} {xs : List Value} (hb : b < base) : ∀ (ps : List (Nat × Value)) {w : World}, w.ownsRow base e size v n xs → (sets w b ps).ownsRow base e size v n xs
  | [], _, h => h
  | p :: ps, w, h => own_sets hb ps (own_far (p := ⟨b, p.1, none⟩) h hb p.2)
theorem below_sets {B b : Nat} {w0 : World} (hb : B ≤ b) : ∀ (ps : List (Nat × Value)) {w : World}, Below B w0 w → Below B w0 (sets w b ps)
  | [], _, h => h
  | p :: ps, w, h => below_sets hb ps (h.setCell (p := ⟨b, p.1, none⟩) hb p.2)
theorem Blk.sets {g : Nat} {t : TypeId} : ∀ (ps : List (Nat × Value)) {w : World} {cs : Array Value}, Blk w g t cs → Blk (sets w g ps) g t (ps.foldl (fun cs p => cs.setIfInBounds p.1 p.2) cs)
  | [], _, _, h => h
  | p :: ps, w, cs, h => Blk.sets ps (h.set_ p.1 p.2)
theorem Blk.sets_far {g b : Nat} {t : TypeId} {cs : Array Value} (hb : g ≠ b) : ∀ (ps : List (Nat × Value)) {w : World}, Blk w g t cs → Blk (Proofs.Ythhbnmmhjfgpdaa.sets w b ps) g t cs
  | [], _, h => h
  | p :: ps, w, h => Blk.sets_far hb ps (h.far (p := ⟨b, p.1, none⟩) hb p.2)
theorem size_sets {b : Nat} : ∀ (ps : List (Nat × Value)) (w : World), (Proofs.Ythhbnmmhjfgpdaa.sets w b ps).heap.size = w.heap.size
  | [], _ => rfl
  | p :: ps, w => (size_sets ps _).trans (by simp)
end Go.Proofs.Ythhbnmmhjfgpdaa
