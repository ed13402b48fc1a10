/- tariff.Check says yes. -/
import Derived.Test.YtnpkondgpmncnaaStepsD
import Derived.Test.YtnpkondgpmncnaaOwn
namespace Go.Proofs.Ytnpkondgpmncnaa
open Go.RowKit
set_option linter.unusedVariables false
set_option maxRecDepth 100000 in
set_option maxHeartbeats 1000000 in
theorem tcheck_ok (v : Value) (l : List (Nat × Nat)) (w : World) (hv : IsDs w v l) (hl : TOk l) :
    Calls Try.prog 95 #[v] w fun e w' => e = .returned (.int .i64 0) ∧ Below w.heap.size w w' := by
  have hv0 := hv
  obtain ⟨A, c, rfl, hc1, hc2, hr⟩ := hv
  have hat := fun k hk => hv0.at_ (k := k) hk
  have hS := fun W h1 h2 => sorted_yes A c w.heap.size l W h1 hl h2
  obtain ⟨hpos, hlen, hbd, _, hlast⟩ := hl
  obtain ⟨n, hn⟩ : ∃ n, l.length = n := ⟨_, rfl⟩
  have HN := Lib.hid hn
  have hcap : c ≤ 9223372036854775807 := by unfold maxLen at hc2; omega
  rw [hn] at hS hpos hlen hc1 hv0 ⊢
  have hpn : n - 1 < l.length := by omega
  have hlast' : l[n - 1].1 = 10000000 := by
    have h := hlast (by omega)
    simp only [hn] at h
    exact h
  obtain ⟨q, hq⟩ : ∃ q : Nat, (n : Int) - 1 = (q : Int) := ⟨n - 1, by omega⟩
  obtain ⟨b, off, hA, hB, p1, p9⟩ := hat (n - 1) hpn
  clear p9
  rw [hlast'] at p1
  rw [show n - 1 = q by omega] at p1
  subst hA
  have p1 : w.cell? ⟨b, off + q * 2, none⟩ = some (.int .i64 10000000) := p1
  have hb1 := below_a1 w (.cells #[.slice (some ⟨b, off, none⟩) n c] 61)
  have hB1 := Blk.new w 61 #[.slice (some ⟨b, off, none⟩) n c]
  have hgn : w.heap.size < (w.alloc (.cells #[.slice (some ⟨b, off, none⟩) n c] 61)).heap.size := by simp
  obtain ⟨W1, hW1⟩ : ∃ W1, w.alloc (.cells #[.slice (some ⟨b, off, none⟩) n c] 61) = W1 := ⟨_, rfl⟩
  have HW := Lib.hid hW1
  rw [hW1] at hb1 hB1 hgn
  clear hn hlast hlast' hpn hr hc2 hW1
  go_enter Try.func95, Try.ntmps95
  go_wp2_with fail
  rw [HW.out]
  have c1 := hB1.cell 0
  go_loopw [4, 16] (fun _ i wr => ∃ k : Nat, k ≤ n ∧ i = .int .i64 k ∧ Below W1.heap.size W1 wr) (fun _ i _ => n - (intOf i).toNat)
  case atStart => exact ⟨0, by omega, rfl, Below.refl _ _⟩
  case round =>
    obtain ⟨k, hk, rfl, hbr⟩ := hrel
    have hb := hb1.step hbr
    have hbs := hbr.size
    by_cases hlt : k < n
    · have hkl : k < l.length := by rw [HN.out]; exact hlt
      obtain ⟨b', off', e', _, p1, p2⟩ := hat k hkl
      injection e' with e'
      injection e' with e1 e2
      subst e1; subst e2
      have p1 := (hb.cell (p := ⟨b, off + k * 2, none⟩) hB).trans p1
      have p2 := (hb.cell (p := ⟨b, off + k * 2 + 1, none⟩) hB).trans p2
      obtain ⟨z1, z2, z3, z4⟩ := hbd _ (List.getElem_mem hkl)
      clear hat hbd hS
      generalize l[k] = p at *
      obtain ⟨x, y⟩ := p
      dsimp only at *
      go_wp2
      go_roundw
      case rel => exact ⟨k + 1, by omega, by go_num, hbr.alloc hbr.size _⟩
      case measure => (simp [intOf]; try omega)
    · obtain rfl : k = n := by omega
      have c2 : wr.cell? ⟨w.heap.size, 0, none⟩ = some (.slice (some ⟨b, off, none⟩) k c) := (hbr.cell (p := ⟨w.heap.size, 0, none⟩) hgn).trans c1
      have hv2 := hv0.below hb
      clear hat hbd
      go_wp2_with fail
      refine (hS _ hv2 c2).mono ?_
      rintro e w2 ⟨rfl, hb2⟩
      have c3 := (hb2.cell (p := ⟨w.heap.size, 0, none⟩) (Nat.lt_of_lt_of_le hgn hbs)).trans c2
      have p3 := ((hb.step hb2).cell (p := ⟨b, off + q * 2, none⟩) hB).trans p1
      go_wp2
      go_ret
      exact ⟨rfl, hb.step hb2⟩
end Go.Proofs.Ytnpkondgpmncnaa
