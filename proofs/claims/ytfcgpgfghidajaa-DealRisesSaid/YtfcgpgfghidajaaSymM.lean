/- slices.symMergeCmpFunc at a slice of ints. -/
import Derived.Test.YtfcgpgfghidajaaSymM2
import Derived.Test.YtfcgpgfghidajaaSymM3
namespace Go.Proofs.Ytfcgpgfghidajaa
open Go.RowKit Go.Sort
set_option linter.unusedVariables false
theorem symM_below (f : Nat → Nat) (key : Nat → Nat) (g : Nat) (cb : Array Value) (blk off cap size : Nat) (d0 : Array Nat) (w0 : World) (eg : ∀ args w, (callFunc g args).run Try.prog w = .ok (.enter g args) w) (hcmp : CmpLays1 Try.prog g cb (encN f) (cfK key) blk off d0.size w0) (R : Row1 (encN f) w0 blk off d0) (hs : d0.size = size) (hsz : size < 4611686018427387904) (n : Nat) :
    SymBelow f key g cb blk off cap n size w0 := by
  induction n with
  | zero => intro a m b d w h; omega
  | succ n ih =>
    intro a m b d w h hd S ham hmb hb hL hR hlow
    subst hd
    by_cases h1 : m = a + 1
    · subst h1
      exact symM_one f key g cb blk off cap a b d0 d w0 w eg hcmp R hs S hmb hb hsz hR hlow
    · by_cases h2 : b = m + 1
      · subst h2
        exact symM_two f key g cb blk off cap a m d0 d w0 w eg hcmp R hs S (by omega) hb hsz hL hlow
      · refine symM_gen f key g cb blk off cap a m b d0 d w0 w eg hcmp R hs S (by omega) (by omega) hb hsz hL hR hlow ?_
        intro a' m' b' d' w' h' hd' S' k1 k2 k3 k4 k5 k6
        exact ih a' m' b' d' w' (by omega) hd' S' k1 k2 k3 k4 k5 k6
end Go.Proofs.Ytfcgpgfghidajaa
