/- What the laws of tokens have in common. -/
import Derived.Test.YtlkigihghpcglaaMade
import Derived.Test.YtlkigihghpcglaaNum
import Derived.Test.YtlkigihghpcglaaParse
import Derived.Test.YtlkigihghpcglaaEq
namespace Go.Proofs.Ytlkigihghpcglaa
open Go.RowKit
set_option linter.unusedVariables false
set_option maxRecDepth 100000 in
theorem raw_open {v : Value} {w : World} (h : Fit Try.prog w 23 v) : ∃ a b c d : Int, v = .agg #[.int .i64 a, .int .i64 b, .int .i64 c, .int .i64 d] ∧ (Lit.int .i64 a).wf = true ∧ (Lit.int .i64 b).wf = true ∧ (Lit.int .i64 c).wf = true ∧ (Lit.int .i64 d).wf = true := by
  obtain ⟨cs, rfl, hcf⟩ := h.struct Try.underlying23
  obtain ⟨ns, hl, rfl, hw⟩ := hcf.ints (ks := [.i64, .i64, .i64, .i64]) (by kernel_rfl)
  match ns, hl with
  | [a, b, c, d], _ => exact ⟨a, b, c, d, rfl, hw 0 _ _ rfl rfl, hw 1 _ _ rfl rfl, hw 2 _ _ rfl rfl, hw 3 _ _ rfl rfl⟩
theorem tok_eqm (a b c d a' b' c' d' : Int) (W : World) :
    (Op.equalIn 10000 24 (.agg #[.int .i64 a, .int .i64 b, .int .i64 c, .int .i64 d]) (.agg #[.int .i64 a', .int .i64 b', .int .i64 c', .int .i64 d'])).run Try.prog W = .ok (a == a' && (b == b' && (c == c' && d == d'))) W := by
  have h := eq_is (P := Try.prog) (t := 24) [.int .i64 a, .int .i64 b, .int .i64 c, .int .i64 d] [.int .i64 a', .int .i64 b', .int .i64 c', .int .i64 d'] W (by kernel_rfl) (mkv_struct Try.underlying24)
  simpa [cellsEq, leafEq] using h
theorem dec4 (a b c d a' b' c' d' : Nat) : ((a : Int) == (a' : Int) && ((b : Int) == (b' : Int) && ((c : Int) == (c' : Int) && (d : Int) == (d' : Int)))) = decide (a = a' ∧ b = b' ∧ c = c' ∧ d = d') := by
  rw [Bool.eq_iff_iff]
  simp only [Bool.and_eq_true, beq_iff_eq, decide_eq_true_eq, Int.natCast_inj]
theorem tok_eqN (a b c d a' b' c' d' : Nat) (W : World) :
    (Op.equalIn 10000 24 (.agg #[.int .i64 (a : Int), .int .i64 (b : Int), .int .i64 (c : Int), .int .i64 (d : Int)]) (.agg #[.int .i64 (a' : Int), .int .i64 (b' : Int), .int .i64 (c' : Int), .int .i64 (d' : Int)])).run Try.prog W = .ok (decide (a = a' ∧ b = b' ∧ c = c' ∧ d = d')) W := by
  rw [tok_eqm, dec4]
theorem tok_same (a b c d : Int) (W : World) :
    (Op.equalIn 10000 24 (.agg #[.int .i64 a, .int .i64 b, .int .i64 c, .int .i64 d]) (.agg #[.int .i64 a, .int .i64 b, .int .i64 c, .int .i64 d])).run Try.prog W = .ok true W := by
  rw [tok_eqm]; simp
/-- A token's digits are by 97. -/
theorem tokD_rest (cls id am tag : Nat) : rest97 (tokD cls id am tag) = 0 := by
  rw [rest_val, val_tokD]; omega
theorem rest_ne {l l' : List Nat} (h : rest97 l = 0) (hn : ¬ rest97 l = rest97 l') : val10 l' % 97 ≠ 0 := by
  rw [← rest_val]; omega
/-- A pair that is doubled wrongly. -/
theorem rest97_twin {p q : List Nat} {x y : Nat} (hx : x ≤ 9) (hy : y ≤ 9) (h : rest97 (p ++ x :: x :: q) = rest97 (p ++ y :: y :: q)) : x = y := by
  have h1 : rest97 (((p ++ [x]) ++ [x]) ++ q) = rest97 (((p ++ [y]) ++ [y]) ++ q) := by simpa using h
  have h2 := rest97_tail h1
  simp only [rest97_snoc] at h2
  omega
theorem twin_str {l : List Nat} {i x d : Nat} (h20 : l.length = 20) (h1 : i + 1 < l.length) (hx : l[i]'(by omega) = x) (hy : l[i + 1] = x) :
    ∃ p q, l = p ++ x :: x :: q ∧ (dstr (l.set i d)).extract 0 (i + 1) ++ (dstr (l.set i d)).extract i (i + 1) ++ (dstr (l.set i d)).extract (i + 2) 20 = dstr (p ++ d :: d :: q) := by
  have e1 : l.drop i = x :: x :: l.drop (i + 2) := by rw [List.drop_eq_getElem_cons (by omega), List.drop_eq_getElem_cons (by omega), hx, hy]
  have e0 : l = l.take i ++ x :: x :: l.drop (i + 2) := by rw [← e1, List.take_append_drop]
  have hp : (l.take i).length = i := by simp; omega
  have hq : (l.drop (i + 2)).length = 20 - (i + 2) := by simp [h20]
  generalize l.take i = p at *
  generalize l.drop (i + 2) = q at *
  subst hp
  have es : l.set p.length d = p ++ d :: x :: q := by rw [e0]; simp
  refine ⟨p, q, e0, ?_⟩
  rw [es, dstr_extract, dstr_extract, dstr_extract, ← dstr_append, ← dstr_append]
  congr 1
  have a1 : ((p ++ d :: x :: q).drop 0).take (p.length + 1 - 0) = p ++ [d] := by
    rw [List.drop_zero, Nat.sub_zero, show p.length + 1 = (p ++ [d]).length by simp, show p ++ d :: x :: q = (p ++ [d]) ++ x :: q by simp, List.take_left]
  have a2 : ((p ++ d :: x :: q).drop p.length).take (p.length + 1 - p.length) = [d] := by simp
  have a3 : ((p ++ d :: x :: q).drop (p.length + 2)).take (20 - (p.length + 2)) = q := by
    rw [show p.length + 2 = (p ++ [d, x]).length by simp, show p ++ d :: x :: q = (p ++ [d, x]) ++ q by simp, List.drop_left]
    exact List.take_of_length_le (by simp; omega)
  rw [a1, a2, a3]; simp
theorem madeV_eq {x : Int × Int × Int} {a b c a' b' c' : Nat} (h : x = ((a : Int), (b : Int), (c : Int))) (h' : x = ((a' : Int), (b' : Int), (c' : Int))) : a = a' ∧ b = b' ∧ c = c' := by
  have h := h.symm.trans h'
  simp only [Prod.mk.injEq, Int.natCast_inj] at h
  exact h
/-- What 'made' answers is told by the raw numbers; seen from an earlier world. -/
theorem made_fix {a b c d : Int} {cls id am tag : Nat} (W0 W : World) (hB : Below W0.heap.size W0 W) (va : (Lit.int .i64 a).wf = true) (vb : (Lit.int .i64 b).wf = true) (vc : (Lit.int .i64 c).wf = true) (vd : (Lit.int .i64 d).wf = true) (hc : Hid (pk a 4 = (cls : Int))) (hv : Hid (madeV cls b c d = ((id : Int), (am : Int), (tag : Int)))) :
    Calls Try.prog 4 #[.agg #[.int .i64 a, .int .i64 b, .int .i64 c, .int .i64 d]] W fun e w' => e = .returned (.agg #[.int .i64 (cls : Int), .int .i64 (id : Int), .int .i64 (am : Int), .int .i64 (tag : Int)]) ∧ Below W0.heap.size W0 w' :=
  (made_is a b c d cls W va vb vc vd hc).mono fun _ _ ⟨id2, am2, tag2, he, _, hv2, hb⟩ => by
    obtain ⟨rfl, rfl, rfl⟩ := madeV_eq hv.out hv2.out
    exact ⟨he, hB.trans (hb.mono hB.size)⟩
/-- Two digits that change places, and the rest stays: they were alike. -/
theorem swp_same {l : List Nat} {i far : Nat} (hl : ∀ d ∈ l, d ≤ 9) (hf : far = 1 ∨ far = 2) (hi : i + far < l.length) (h : rest97 l = rest97 (swp l i far)) : swp l i far = l := by
  rcases hf with rfl | rfl
  · obtain ⟨p, x, y, q, h1, h2, _⟩ := swp_one hi
    have hx := hl x (by rw [h1]; simp)
    have hy := hl y (by rw [h1]; simp)
    rw [h2] at h ⊢
    conv at h => lhs; rw [h1]
    conv => rhs; rw [h1]
    rw [rest97_swap1 hx hy h]
  · obtain ⟨p, x, m, y, q, h1, h2, _⟩ := swp_two hi
    have hx := hl x (by rw [h1]; simp)
    have hy := hl y (by rw [h1]; simp)
    rw [h2] at h ⊢
    conv at h => lhs; rw [h1]
    conv => rhs; rw [h1]
    rw [rest97_swap2 hx hy h]
end Go.Proofs.Ytlkigihghpcglaa
