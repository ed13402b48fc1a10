/- The walk of the law DebtSteps. -/
import Derived.Test.YtmdpddiiimkagaaAge
import Derived.Test.YtmdpddiiimkagaaSameD
namespace Go.Proofs.Ytmdpddiiimkagaa
open Go.RowKit
theorem age_is (v : Value) (l o : List (Nat × Nat)) (m : Int) (k : Nat) (w : World) (hv : IsDs w v l) (hl : DOk l) (hm : k ≤ 2400) (he : Hid (m = k)) (ho : Hid (aged k l = o)) :
    Calls Try.prog 17 #[v, .int .i64 m] w (RetAge o w) := by
  rw [he.out, ← ho.out]; exact age_ok v l k w hv hl hm
theorem sameD_is (a b : Value) (xs : List (Nat × Nat)) (w : World) (ha : IsDs w a xs) (hb : IsDs w b xs) :
    Calls Try.prog 18 #[a, b] w fun e w' => e = .returned (.bool true) ∧ Below w.heap.size w w' :=
  (sameD_ok a b xs w ha hb).mono fun _ _ h => ⟨h.1, by obtain ⟨m, rfl⟩ := h.2; exact below_draws (Below.refl _ _) m⟩
set_option maxRecDepth 100000 in
set_option maxHeartbeats 1000000 in
theorem walk_debtSteps (w : World) (a0 : Value) (w0 : Fit Try.prog w 22 a0) (a1 : Int) (w1 : (Lit.int .i64 a1).wf = true) (a2 : Int) (w2 : (Lit.int .i64 a2).wf = true) :
    Calls Try.prog 3 #[a0, .int .i64 a1, .int .i64 a2] w fun e w' => e = .returned (.bool true) ∧ Below w.heap.size w w' := by
  obtain ⟨n, f, hv⟩ := w0.rows (ks := [.i64, .i64]) Try.underlying22 (by kernel_rfl) (by simp) (by kernel_rfl)
  clear w0
  obtain ⟨x, hx, hx1⟩ := pk_nat a1 1201 (by omega)
  obtain ⟨y, hy, hy1⟩ := pk_nat a2 1200 (by omega)
  go_enter Try.func3, Try.ntmps3
  go_wp2_with fail
  refine (owing_ok a0 n f 1000000000 w hv (by omega)).mono ?_
  rintro e wa ⟨l, A, c, rfl, h8, hp, hds, hba⟩
  have hok : DOk l := ⟨h8, hp⟩
  go_wp2_with fail
  refine (picked_is _ hx w1 (by omega) (by omega)).mono ?_
  rintro e w' ⟨rfl, rfl⟩
  go_wp2_with fail
  refine (picked_is _ hy w2 (by omega) (by omega)).mono ?_
  rintro e w' ⟨rfl, rfl⟩
  obtain ⟨o1, ho1⟩ : ∃ o, Hid (aged x l = o) := ⟨_, rfl⟩
  obtain ⟨o2, ho2⟩ : ∃ o, Hid (aged (y + 1) o1 = o) := ⟨_, rfl⟩
  have ho3 : Hid (aged (x + (y + 1)) l = o2) := by show _ = _; rw [← aged_add, ho1.out, ho2.out]
  have hok1 : DOk o1 := by rw [← ho1.out]; exact aged_ok hok _
  have e2 : Hid ((y : Int) + 1 = ((y + 1 : Nat) : Int)) := by show _ = _; omega
  have e3 : Hid ((x : Int) + ((y : Int) + 1) = ((x + (y + 1) : Nat) : Int)) := by show _ = _; omega
  go_wp2_with fail
  refine (age_is _ l o1 _ x wa hds hok (by omega) rfl ho1).mono ?_
  rintro e wb ⟨A1, c1, rfl, hd1, hbb⟩
  go_wp2_with fail
  refine (age_is _ o1 o2 _ (y + 1) wb hd1 hok1 (by omega) e2 ho2).mono ?_
  rintro e wc ⟨A2, c2, rfl, hd2, hbc⟩
  go_wp2_with fail
  refine (age_is _ l o2 _ (x + (y + 1)) wc ((hds.below hbb).below hbc) hok (by omega) e3 ho3).mono ?_
  rintro e wd ⟨A3, c3, rfl, hd3, hbd⟩
  go_wp2_with fail
  refine (sameD_is _ _ o2 wd (hd2.below hbd) hd3).mono ?_
  rintro e we ⟨rfl, hbe⟩
  have hlen : o2.length = l.length := by rw [← ho3.out]; simp [aged]
  have hD := ((((hds.below hbb).below hbc).below hbd).below hbe)
  have hE := hd3.below hbe
  have hB := (((hba.step hbb).step hbc).step hbd).step hbe
  have hbit : ∀ (k : Nat) (h : k < l.length) (h' : k < o2.length), l[k].1 ≤ o2[k].1 ∧ o2[k].1 ≤ 1000000000 ∧ o2[k].2 = l[k].2 := by
    intro k h h'
    have e := ho3.out
    subst e
    simp only [aged, List.getElem_map]
    exact ⟨(grow_bd (hp _ (List.getElem_mem h)).1 _).1, (grow_bd (hp _ (List.getElem_mem h)).1 _).2, True.intro⟩
  clear hd1 hd2 hd3 hds hba hbb hbc hbd hbe hok hok1 hp ho1 ho2 ho3 hv
  have hl0 : ((o2.length : Int) != (l.length : Int)) = false := by simp; omega
  have HL := Lib.hid hlen
  clear hlen
  go_wp2_with fail
  go_loopw [16] (fun i wr => ∃ k : Nat, k ≤ l.length ∧ i = .int .i64 k ∧ ∃ m, wr = we.drewN m) (fun i _ => l.length - (intOf i).toNat)
  case atStart => exact ⟨0, by omega, rfl, 0, rfl⟩
  case round =>
    obtain ⟨k, hk, rfl, m, rfl⟩ := hrel
    by_cases hlt : k < l.length
    · have hlt2 : k < o2.length := by rw [HL.out]; exact hlt
      obtain ⟨b1, f1, rfl, _, p1, p2⟩ := hD.at_ hlt
      obtain ⟨b2, f2, rfl, _, q1, q2⟩ := hE.at_ hlt2
      obtain ⟨g1, g2, g3⟩ := hbit k hlt hlt2
      clear hD hE hbit
      generalize l[k] = p at *
      generalize o2[k] = q at *
      obtain ⟨px, py⟩ := p
      obtain ⟨qx, qy⟩ := q
      dsimp only at *
      subst g3
      have d1 : decide (qx < px) = false := by simp; omega
      have d2 : decide (1000000000 < (qx : Int)) = false := by simp; omega
      have i1 : (k : Int) < (l.length : Int) := by omega
      have i2 : (k : Int) < (o2.length : Int) := by omega
      go_wp2_with fail
      go_quiet (fail)
      go_wp2
      go_roundw
      case rel => exact ⟨k + 1, by omega, by go_num, _, rfl⟩
      case measure => simp [intOf]; omega
    · go_wp2
      go_ret
      exact ⟨rfl, below_draws hB m⟩
end Go.Proofs.Ytmdpddiiimkagaa
