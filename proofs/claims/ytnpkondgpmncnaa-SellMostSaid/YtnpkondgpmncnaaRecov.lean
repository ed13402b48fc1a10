/- debt.Recover. -/
import Derived.Test.YtnpkondgpmncnaaDebt
import Derived.OwnWalk
import Derived.Test.YtnpkondgpmncnaaOwn
namespace Go.Proofs.Ytnpkondgpmncnaa
open Go.RowKit
/-- The answer of 'Recover', the row is the call's own. -/
def RetRecO (e0 : Nat) (share : Nat) (l : List (Nat × Nat)) (w : World) (e : Ending) (w' : World) : Prop :=
  ∃ (A : Option Addr) (c : Nat), e = .returned (.tuple #[.slice A (recov share l).2.length c, .int .i64 (recov share l).1, .int .i64 0]) ∧ w'.ownsRow w.heap.size e0 2 (.slice A (recov share l).2.length c) (recov share l).2.length (drs (recov share l).2) ∧ Below w.heap.size w w'
/-- The answer of 'Recover'. -/
def RetRec (share : Nat) (l : List (Nat × Nat)) (w : World) (e : Ending) (w' : World) : Prop :=
  ∃ (A : Option Addr) (c : Nat), e = .returned (.tuple #[.slice A (recov share l).2.length c, .int .i64 (recov share l).1, .int .i64 0]) ∧ IsDs w' (.slice A (recov share l).2.length c) (recov share l).2 ∧ Below w.heap.size w w'
theorem part_is {a b s : Int} (w : World) (hs : Hid (a * b / 10000 = s)) (h1 : 0 ≤ a) (h2 : a ≤ 1000000000000) (h3 : 0 ≤ b) (h4 : b ≤ 10000) :
    Calls Try.prog 77 #[.int .i64 a, .int .i64 b] w fun e w' => e = .returned (.tuple #[.int .i64 s, .int .i64 0]) ∧ w = w' := by
  rw [← hs.out]; exact part_ok a b w h1 h2 h3 h4
set_option maxHeartbeats 1000000 in
theorem recover_own (v : Value) (l : List (Nat × Nat)) (t b S : Nat) (w : World) (hv : IsDs w v l) (hl : DOk l) (ht : t ≤ 100000000) (hb : b ≤ 10000) (hS : Hid ((t : Int) * (b : Int) / 10000 = (S : Int))) (hS2 : S ≤ 100000000) :
    Calls Try.prog 76 #[v, .int .i64 t, .int .i64 b] w (RetRecO 25 S l w) := by
  obtain ⟨h8, hp⟩ := hl
  have hv0 := hv
  obtain ⟨A, c, rfl, h1, h2, h3⟩ := hv
  clear h1 h2 h3
  go_enter Try.func76, Try.ntmps76
  go_wp2_with fail
  refine (fault_ok _ l w hv0 ⟨h8, hp⟩).mono ?_
  rintro e wa ⟨rfl, hba⟩
  have hv1 := hv0.below hba
  have hat := fun k hk => hv1.at_ (k := k) hk
  clear hv0
  go_wp2_with fail
  refine (part_is _ hS (by omega) (by omega) (by omega) (by omega)).mono ?_
  rintro e wb ⟨rfl, rfl⟩
  have g1 : decide (100000000 < (t : Int)) = false := by simp; omega
  go_wp2
  go_loopw [12, 13, 15, 16, 36] (fun pd v _ _ i wr => ∃ (k p m : Nat) (A' : Option Addr) (c' : Nat) (o : List (Nat × Nat)), k ≤ l.length ∧ p ≤ S ∧ m ≤ k ∧ i = .int .i64 k ∧ pd = .int .i64 p ∧ Hid (recov S (l.take k) = (p, o)) ∧ Hid (o.length = m) ∧ v = .slice A' m c' ∧ wr.ownsRow wa.heap.size 25 2 (.slice A' m c') m (drs o) ∧ Below wa.heap.size wa wr) (fun _ _ _ _ i _ => l.length - (intOf i).toNat)
  case atStart => exact ⟨0, 0, 0, none, 0, [], by omega, by omega, by omega, rfl, rfl, rfl, rfl, rfl, World.ownsRow_nil _ _ _ _, Below.refl _ _⟩
  case round =>
    obtain ⟨k, p, m, A', c', o, hk, hpS, hmk, rfl, rfl, HR, HO, rfl, hown, hbr⟩ := hrel
    by_cases hlt : k < l.length
    · obtain ⟨bb, off, rfl, hB, q1, q2⟩ := hat k hlt
      have q1 := (hbr.cell (p := ⟨bb, off + k * 2, none⟩) hB).trans q1
      have q2 := (hbr.cell (p := ⟨bb, off + k * 2 + 1, none⟩) hB).trans q2
      obtain ⟨p1, p2⟩ := hp _ (List.getElem_mem hlt)
      have HS : Hid (recov S (l.take (k + 1)) = recStep S (p, o) l[k]) := by show _ = _; rw [take_snoc hlt, recov_snoc, HR.out]
      clear hat hp
      generalize l[k] = d at *
      obtain ⟨x, y⟩ := d
      dsimp only at *
      have hbs := hbr.size
      by_cases hx : x ≤ S - p
      · have HS : Hid (recov S (l.take (k + 1)) = (p + x, o)) := by show _ = _; rw [HS.out]; unfold recStep; dsimp only; rw [Nat.min_eq_left hx, if_pos (by omega)]
        have hx1 : (x : Int) ≤ (S : Int) - (p : Int) := by omega
        clear HR
        go_wp2
        go_roundw
        case rel => exact ⟨k + 1, p + x, m, A', c', o, by omega, by omega, by omega, by go_num, by go_num, HS, HO, rfl, hown.alloc _, hbr.alloc hbs _⟩
        case measure => simp [intOf]; omega
      · obtain ⟨r, hr⟩ : ∃ r : Nat, (S : Int) - (p : Int) = (r : Int) := ⟨S - p, by omega⟩
        obtain ⟨z, hz⟩ : ∃ z : Nat, (x : Int) - (r : Int) = (z : Int) := ⟨x - r, by omega⟩
        have hz1 : 1 ≤ z := by omega
        have HS : Hid (recov S (l.take (k + 1)) = (S, o ++ [(z, y)])) := by
          show _ = _
          rw [HS.out]; unfold recStep; dsimp only
          rw [Nat.min_eq_right (by omega), if_neg (by omega)]
          have e1 : p + (S - p) = S := by omega
          have e2 : x - (S - p) = z := by omega
          rw [e1, e2]
        have hx1 : (r : Int) < (x : Int) := by omega
        have hx2 : ¬ (x : Int) ≤ (r : Int) := by omega
        have hpr : (p : Int) + (r : Int) = (S : Int) := by omega
        have hz0 : decide (0 < z) = true := by simp; omega
        have hone : ∀ u ∈ [Value.int .i64 z, .int .i64 y], u.oneCell' = true := fun u hu => by simp at hu; rcases hu with rfl | rfl <;> rfl
        have hbz : Below wa.heap.size wr ((wr.alloc (.cells #[.int .i64 z, .int .i64 y] 25)).alloc (.cells #[.int .i64 z, .int .i64 y] 25)) := ((Below.refl _ _).alloc hbs _).alloc (by simp; omega) _
        clear HR
        go_wp2_with (at_builtin; refine wpList_pushg el_d rfl (.tmp 57) (.tmp 59) rfl ((wr.alloc (.cells #[.int .i64 z, .int .i64 y] 25)).alloc (.cells #[.int .i64 z, .int .i64 y] 25)) wa.heap.size (wr.heap.size + 1) _ m _ [.int .i64 z, .int .i64 y] rfl ((hown.alloc _).alloc _) rfl (heap_alloc2 _ _ _) rfl hone (by omega) (by unfold maxLen; omega) wr hbz hbs ?_; intro A1 c1 w1 hown1 hb1)
        go_roundw
        case rel => exact ⟨k + 1, S, m + 1, A1, c1, o ++ [(z, y)], by omega, by omega, by omega, by go_num, by go_num, HS, by show _ = _; rw [List.length_append, HO.out]; rfl, rfl, by rw [drs_append]; exact hown1, hbr.trans hb1⟩
        case measure => simp [intOf]; omega
    · obtain rfl : k = l.length := by omega
      have HR : Hid (recov S l = (p, o)) := by have := HR.out; rwa [List.take_length] at this
      clear hat hp
      go_wp2
      go_ret3
      refine ⟨A', c', ?_, ?_, hba.step hbr⟩
      · rw [HR.out]; dsimp only; rw [HO.out]; rfl
      · rw [HR.out]; dsimp only; rw [HO.out]; exact own_mono hown hba.size
theorem recover_ok (v : Value) (l : List (Nat × Nat)) (t b S : Nat) (w : World) (hv : IsDs w v l) (hl : DOk l) (ht : t ≤ 100000000) (hb : b ≤ 10000) (hS : Hid ((t : Int) * (b : Int) / 10000 = (S : Int))) (hS2 : S ≤ 100000000) :
    Calls Try.prog 76 #[v, .int .i64 t, .int .i64 b] w (RetRec S l w) :=
  (recover_own v l t b S w hv hl ht hb hS hS2).mono fun _ _ ⟨A, c, h1, h2, h3⟩ => ⟨A, c, h1, isds_own rfl h2, h3⟩
/-- The same by its names, the row is the call's own. -/
def RetRecOP (e0 paid : Nat) (out : List (Nat × Nat)) (w : World) (e : Ending) (w' : World) : Prop :=
  ∃ (A : Option Addr) (c : Nat), e = .returned (.tuple #[.slice A out.length c, .int .i64 paid, .int .i64 0]) ∧ w'.ownsRow w.heap.size e0 2 (.slice A out.length c) out.length (drs out) ∧ Below w.heap.size w w'
theorem recover_own_is (v : Value) (l : List (Nat × Nat)) (t b S paid : Nat) (out : List (Nat × Nat)) (w : World) (hv : IsDs w v l) (hl : DOk l) (ht : t ≤ 100000000) (hb : b ≤ 10000) (hS : Hid ((t : Int) * (b : Int) / 10000 = (S : Int))) (hS2 : S ≤ 100000000) (hr : Hid (recov S l = (paid, out))) :
    Calls Try.prog 76 #[v, .int .i64 t, .int .i64 b] w (RetRecOP 25 paid out w) := by
  refine (recover_own v l t b S w hv hl ht hb hS hS2).mono ?_
  rintro e w' ⟨A, c, he, hd, hb⟩
  rw [hr.out] at he hd
  exact ⟨A, c, he, hd, hb⟩
/-- The same, the pair by its names. -/
def RetRecP (paid : Nat) (out : List (Nat × Nat)) (w : World) (e : Ending) (w' : World) : Prop :=
  ∃ (A : Option Addr) (c : Nat), e = .returned (.tuple #[.slice A out.length c, .int .i64 paid, .int .i64 0]) ∧ IsDs w' (.slice A out.length c) out ∧ Below w.heap.size w w'
theorem recover_is (v : Value) (l : List (Nat × Nat)) (t b S paid : Nat) (out : List (Nat × Nat)) (w : World) (hv : IsDs w v l) (hl : DOk l) (ht : t ≤ 100000000) (hb : b ≤ 10000) (hS : Hid ((t : Int) * (b : Int) / 10000 = (S : Int))) (hS2 : S ≤ 100000000) (hr : Hid (recov S l = (paid, out))) :
    Calls Try.prog 76 #[v, .int .i64 t, .int .i64 b] w (RetRecP paid out w) := by
  have h := recover_ok v l t b S w hv hl ht hb hS hS2
  refine h.mono ?_
  rintro e w' ⟨A, c, he, hd, hb⟩
  rw [hr.out] at he hd
  exact ⟨A, c, he, hd, hb⟩
end Go.Proofs.Ytnpkondgpmncnaa
