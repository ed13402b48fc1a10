/- cents.Deal's closures: what is cut off a share; the comparison. -/
import Derived.Test.YtfcgpgfghidajaaStable
import Derived.Test.YtfcgpgfghidajaaDealL
import Derived.Deep.Quiet
import Derived.Deep.QuietTactic
import Derived.BigQuiet
namespace Go.Proofs.Ytfcgpgfghidajaa
open Go.RowKit Go.Sort
set_option linter.unusedVariables false
set_option maxRecDepth 100000 in
set_option maxHeartbeats 4000000 in
theorem cut_ok (t x v n all c g1 g2 g3 b off : Nat) (W : World) (c1 : W.cell? ⟨g1, 0, none⟩ = some (.int .i64 (t : Int))) (c2 : W.cell? ⟨g2, 0, none⟩ = some (.slice (some ⟨b, off, none⟩) n c)) (c3 : W.cell? ⟨g3, 0, none⟩ = some (.int .i64 (all : Int))) (c4 : W.cell? ⟨b, off + x, none⟩ = some (.int .i64 (v : Int)))
    (hx : x < n) (ht : t ≤ 1000000000000) (hv : v ≤ 1000000) (h0 : 0 < all) (ha : all ≤ 50000000) :
    Calls Try.prog 10 #[.int .i64 (x : Int), .pointer (some ⟨g1, 0, none⟩), .pointer (some ⟨g2, 0, none⟩), .pointer (some ⟨g3, 0, none⟩)] W fun e w' => e = .returned (.int .i64 ((t * v % all : Nat) : Int)) ∧ ∃ q, w' = W.drewN q := by
  have hxz : (x : Int) < (n : Int) := by omega
  obtain ⟨p, hp⟩ : ∃ p, t * v = p := ⟨_, rfl⟩
  have hpb : p ≤ 1000000000000 * 1000000 := by rw [← hp]; exact Nat.mul_le_mul ht hv
  have hm : (t : Int) * (v : Int) = (p : Int) := by rw [← hp]; exact (Int.natCast_mul t v).symm
  have z1 : IntKind.i64.wrap ((t : Int) * (v : Int)) = (p : Int) := by rw [hm, IntKind.wrap_i64]; omega
  obtain ⟨r, hr⟩ : ∃ r, p % all = r := ⟨_, rfl⟩
  have hrl : r < all := by rw [← hr]; exact Nat.mod_lt _ h0
  have z2 : IntKind.i64.wrap (Int.tmod (p : Int) (all : Int)) = (r : Int) := by
    rw [show Int.tmod (p : Int) (all : Int) = ((p % all : Nat) : Int) from rfl, hr, IntKind.wrap_i64]; omega
  have z5 : (p : Int) % (all : Int) = (r : Int) := by rw [← hr]; exact (show ((p % all : Nat) : Int) = (p : Int) % (all : Int) from rfl).symm
  have z3 : ((all : Int) == 0) = false := by simp; omega
  have z4 : ¬ (all : Int) = 0 := by omega
  rw [hp, hr]
  clear hp hpb hm hr hrl ht hv ha
  go_enter Try.func10, Try.ntmps10
  go_wp2_with fail
  go_big_region
  go_wp2
  go_ret
  refine ⟨?_, 1, rfl⟩
  show Ending.returned (.int .i64 ((p : Int) % (all : Int))) = _
  rw [z5]
/-- The blocks that the comparison reads; the places are kept within l. -/
structure CutAt (t all : Nat) (l : List Nat) (g1 g2 g3 g4 b off c : Nat) (W : World) : Prop where
  c1 : W.cell? ⟨g1, 0, none⟩ = some (.int .i64 (t : Int))
  c2 : W.cell? ⟨g2, 0, none⟩ = some (.slice (some ⟨b, off, none⟩) l.length c)
  c3 : W.cell? ⟨g3, 0, none⟩ = some (.int .i64 (all : Int))
  c4 : W.cell? ⟨g4, 0, none⟩ = some (.func (.func 10) #[] #[.pointer (some ⟨g1, 0, none⟩), .pointer (some ⟨g2, 0, none⟩), .pointer (some ⟨g3, 0, none⟩)])
  ws : ∀ x, x < l.length → W.cell? ⟨b, off + x, none⟩ = some (.int .i64 ((l.getD x 0 : Nat) : Int))
structure CutIn (t all : Nat) (l : List Nat) : Prop where
  ht : t ≤ 1000000000000
  hv : ∀ x, x < l.length → l.getD x 0 ≤ 1000000
  h0 : 0 < all
  ha : all ≤ 50000000
set_option maxRecDepth 100000 in
set_option maxHeartbeats 4000000 in
theorem cmp_ok (t all : Nat) (l : List Nat) (g1 g2 g3 g4 b off c x y : Nat) (W : World) (H : CutAt t all l g1 g2 g3 g4 b off c W) (K : CutIn t all l) (hx : x < l.length) (hy : y < l.length) :
    Calls Try.prog 12 #[.int .i64 (x : Int), .int .i64 (y : Int), .pointer (some ⟨g4, 0, none⟩)] W fun e w' => e = .returned (.int .i64 ((keyF t all l y : Nat) - (keyF t all l x : Nat) : Int)) ∧ ∃ q, w' = W.drewN q := by
  have c4 := H.c4
  have hC := fun (i : Nat) (hi : i < l.length) (n : Nat) => cut_ok t i (l.getD i 0) l.length all c g1 g2 g3 b off (W.drewN n) H.c1 H.c2 H.c3 (H.ws i hi) hi K.ht (K.hv i hi) K.h0 K.ha
  have hCx := hC x hx
  have hCy := hC y hy
  have e1 : t * l.getD x 0 % all = keyF t all l x := rfl
  have e2 : t * l.getD y 0 % all = keyF t all l y := rfl
  have b1 : keyF t all l x < all := Nat.mod_lt _ K.h0
  have b2 : keyF t all l y < all := Nat.mod_lt _ K.h0
  have ha := K.ha
  rw [e1] at hCx
  rw [e2] at hCy
  generalize keyF t all l x = kx at hCx b1 e1 ⊢
  generalize keyF t all l y = ky at hCy b2 e2 ⊢
  have z1 : IntKind.i64.wrap ((ky : Int) - (kx : Int)) = (ky : Int) - (kx : Int) := by rw [IntKind.wrap_i64]; omega
  have eg : ∀ args w, (callFunc 10 args).run Try.prog w = .ok (.enter 10 args) w := enters_of Try.func10 (by kernel_rfl) rfl
  clear e1 e2 hC b1 b2 ha H K
  go_enter Try.func12, Try.ntmps12
  go_wp2_with fail
  go_quiet ((first | (go_at_fn 10; first | with_reducible exact Calls.quiet_of (hCx _) | with_reducible exact Calls.quiet_of (hCy _))))
  go_wp2
  go_ret
  exact ⟨rfl, nq, rfl⟩
end Go.Proofs.Ytfcgpgfghidajaa
