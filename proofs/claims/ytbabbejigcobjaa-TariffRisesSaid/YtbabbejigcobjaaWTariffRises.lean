/- The walk of the law TariffRises. -/
import Derived.Test.YtbabbejigcobjaaPrice
import Derived.Test.YtbabbejigcobjaaStepped
namespace Go.Proofs.Ytbabbejigcobjaa
open Go.RowKit
set_option linter.unusedVariables false
set_option maxRecDepth 100000 in
set_option maxHeartbeats 1000000 in
theorem walk_tariffRises (w : World) (a0 : Value) (w0 : Fit Try.prog w 38 a0) (a1 : Int) (w1 : (Lit.int .i64 a1).wf = true) (a2 : Int) (w2 : (Lit.int .i64 a2).wf = true) :
    Calls Try.prog 6 #[a0, .int .i64 a1, .int .i64 a2] w fun e w' => e = .returned (.bool true) ∧ Below w.heap.size w w' := by
  obtain ⟨n, f, hv⟩ := w0.rows (ks := [.i64, .i64]) Try.underlying38 (by kernel_rfl) (by simp) (by kernel_rfl)
  clear w0
  obtain ⟨x, hx, hx1⟩ := pk_lit a1 10000000 (by omega)
  have x9 : (x : Int) ≤ 9999999 := by omega
  clear hx1
  obtain ⟨M, hM⟩ : ∃ M : Nat, min 2097151 (10000000 - x) = M := ⟨_, rfl⟩
  have hMi : 1 ≤ M := by omega
  obtain ⟨y, hy, hy1⟩ := pk_lit a2 (M : Int) (by omega)
  have y9 : (y : Int) + 1 ≤ (M : Int) := by omega
  have M1 : (1 : Int) ≤ (M : Int) := by omega
  have M2 : (M : Int) ≤ 9223372036854775807 := by omega
  have hor : ((10000000 : Int) - (x : Int) < 2097151 ∧ (10000000 : Int) - (x : Int) = (M : Int)) ∨ (¬ (10000000 : Int) - (x : Int) < 2097151 ∧ (2097151 : Nat) = M) := by omega
  clear hy1
  go_enter Try.func6, Try.ntmps6
  go_wp2_with fail
  refine (stepped_ok a0 n f w hv).mono ?_
  rintro e wa ⟨l, A, c, rfl, hT, hds, hba⟩
  go_wp2_with fail
  refine (picked_is _ hx w1 (by omega) (by omega)).mono ?_
  rintro e w' ⟨rfl, rfl⟩
  obtain ⟨P, hP⟩ : ∃ P, Hid (cost (pcs l x) y = P) := ⟨_, rfl⟩
  obtain ⟨Q, hQ⟩ : ∃ Q, Hid (cost (pcs l x) (y + 1) = Q) := ⟨_, rfl⟩
  have hp1 : P ≤ y * 100000 := by rw [← hP.out]; exact price_le hT
  have P9 : (P : Int) ≤ 300000000000 := by omega
  have hq1 : Q ≤ (y + 1) * 100000 := by rw [← hQ.out]; exact price_le hT
  have Q9 : (Q : Int) ≤ 300000000000 := by omega
  have hA1 : Ask l x y := ⟨hT, by omega, by omega⟩
  have hA2 : Ask l x (y + 1) := ⟨hT, by omega, by omega⟩
  have e2 : Hid ((y : Int) + 1 = ((y + 1 : Nat) : Int)) := by show _ = _; omega
  have hone : ∀ (i : Nat) (h : i < l.length), (∀ j (hj : j < i), (l[j]'(by omega)).1 ≤ x + y) → x + y < l[i].1 → P + l[i].2 = Q := fun i h h1 h2 => by
    have e1 := cost_one l (x + y) i h h1 h2
    have e2 := cost_add l x y 1
    rw [hP.out, hQ.out, e1] at e2
    exact e2.symm
  have hlast := hT.last
  have hpos := hT.pos
  have hlen := hT.len
  have hbd := hT.bd
  have sx : x + y ≤ 9999999 := by omega
  clear hp1 hq1 hM
  rcases hor with ⟨o1, o2⟩ | ⟨o1, rfl⟩
  all_goals
    go_wp2_with fail
    refine (picked_is _ hy w2 (by omega) (by omega)).mono ?_
    rintro e w' ⟨rfl, rfl⟩
    go_wp2_with fail
    refine (price_is _ l _ _ x y P wa hds hA1 rfl rfl hP).mono ?_
    rintro e wb ⟨rfl, hbb⟩
    go_wp2_with fail
    refine (price_is _ l _ _ x (y + 1) Q wb (hds.below hbb) hA2 rfl e2 hQ).mono ?_
    rintro e wc ⟨rfl, hbc⟩
    have hat := fun k hk => ((hds.below hbb).below hbc).at_ (k := k) hk
    have hB := (hba.step hbb).step hbc
    have HP := Lib.hid hpos
    clear hds hT hA1 hA2 hP hQ hv hx hy hpos
    go_wp2_with fail
    go_loopw [14] (fun i wr => ∃ k : Nat, k ≤ l.length ∧ i = .int .i64 k ∧ Hid (∀ j (hj : j < l.length), j < k → (l[j]'hj).1 ≤ x + y) ∧ wr = wc) (fun i _ => l.length - (intOf i).toNat)
    case atStart => exact ⟨0, by omega, rfl, fun j hj h => absurd h (by omega), rfl⟩
    case round =>
      obtain ⟨k, hk, rfl, hj, rfl⟩ := hrel
      by_cases hlt : k < l.length
      · obtain ⟨b, off, rfl, hBk, p1, p2⟩ := hat k hlt
        have h1 := hone k hlt (fun j hj' => hj.out j (by omega) hj')
        obtain ⟨z1, z2, z3, z4⟩ := hbd _ (List.getElem_mem hlt)
        have i1 : (k : Int) < (l.length : Int) := by omega
        by_cases hle : l[k].1 ≤ x + y
        · have hnx : Hid (∀ j (hj : j < l.length), j < k + 1 → (l[j]'hj).1 ≤ x + y) := by
            intro j hjl h
            by_cases e : j = k
            · subst e; exact hle
            · exact hj.out j hjl (by omega)
          clear h1 hone hlast hat hbd hj
          generalize l[k] = p at *
          obtain ⟨px, py⟩ := p
          dsimp only at *
          have d1 : ¬ (x : Int) + (y : Int) + 1 ≤ (px : Int) := by omega
          clear hle
          go_wp2
          go_roundw
          case rel => exact ⟨k + 1, by omega, by go_num, hnx, trivial⟩
          case measure => (simp [intOf]; try omega)
        · have h2 := h1 (by omega)
          clear h1 hone hlast hat hbd hj
          generalize l[k] = p at *
          obtain ⟨px, py⟩ := p
          dsimp only at *
          have d1 : (x : Int) + (y : Int) + 1 ≤ (px : Int) := by omega
          have d2 : (Q : Int) - (P : Int) = (py : Int) := by omega
          clear hle h2
          go_wp2
          go_ret
          exact ⟨rfl, hB⟩
      · exfalso
        have hpos := HP.out
        have h1 := hlast (by omega)
        have h2 := hj.out (l.length - 1) (by omega) (by omega)
        omega
end Go.Proofs.Ytbabbejigcobjaa
