/- debt.Age. -/
import Derived.Test.YtnpkondgpmncnaaAgeD
import Derived.Test.YtnpkondgpmncnaaPushN
import Derived.Test.YtnpkondgpmncnaaOwn
import Derived.OwnWalk
namespace Go.Proofs.Ytnpkondgpmncnaa
open Go.RowKit
theorem drs_set {l : List (Nat × Nat)} {k : Nat} (h : k < l.length) (x : Nat) : (drs l).set (k * 2) (.int .i64 x) = drs (l.set k (x, l[k].2)) := by
  induction l generalizing k with
  | nil => simp at h
  | cons p l ih =>
    cases k with
    | zero => rfl
    | succ k =>
      have := ih (k := k) (by simp at h; omega)
      rw [Nat.succ_mul]
      show [Value.int .i64 p.1, Value.int .i64 p.2] ++ (drs l).set (k * 2) _ = [Value.int .i64 p.1, Value.int .i64 p.2] ++ drs (l.set k _)
      rw [this]
      rfl
theorem ownsRow_drewN {w : World} {base : Nat} {e : TypeId} {size : Nat} {v : Value} {n : Nat} {xs : List Value} (h : w.ownsRow base e size v n xs) (k : Nat) : (w.drewN k).ownsRow base e size v n xs := h
theorem drs_one (l : List (Nat × Nat)) : ∀ u ∈ drs l, u.oneCell' = true := by
  intro u hu
  obtain ⟨p, _, hp⟩ := List.mem_flatMap.1 hu
  simp at hp
  rcases hp with rfl | rfl <;> rfl
/-- What the row holds when k debts are done, and of the next one j months. -/
def agedTo (m : Nat) (l : List (Nat × Nat)) (k : Nat) : List (Nat × Nat) := aged m (l.take k) ++ l.drop k
theorem agedTo_len (m : Nat) (l : List (Nat × Nat)) (k : Nat) : (agedTo m l k).length = l.length := by simp [agedTo, aged]; omega
theorem agedTo_get {m : Nat} {l : List (Nat × Nat)} {k : Nat} (h : k < l.length) : (agedTo m l k)[k]'(by rw [agedTo_len]; exact h) = l[k] := by
  unfold agedTo
  rw [List.getElem_append_right (by simp [aged]; omega)]
  simp [aged, Nat.min_eq_left (Nat.le_of_lt h)]
theorem agedTo_succ {m : Nat} {l : List (Nat × Nat)} {k : Nat} (h : k < l.length) : (agedTo m l k).set k (grow l[k].2 m l[k].1, l[k].2) = agedTo m l (k + 1) := by
  unfold agedTo
  rw [List.set_append_right _ _ (by simp [aged]; omega), List.take_succ_eq_append_getElem h]
  have e : (aged m (l.take k)).length = k := by simp [aged]; omega
  rw [e, Nat.sub_self, List.drop_eq_getElem_cons h]
  have e2 : aged m (l.take k ++ [l[k]]) = aged m (l.take k) ++ [(grow l[k].2 m l[k].1, l[k].2)] := by unfold aged; rw [List.map_append]; rfl
  rw [e2, List.append_assoc]
  rfl
/-- The answer of 'Age'. -/
def RetAge (l : List (Nat × Nat)) (w : World) (e : Ending) (w' : World) : Prop :=
  ∃ (A : Option Addr) (c : Nat), e = .returned (.tuple #[.slice A l.length c, .int .i64 0]) ∧ IsDs w' (.slice A l.length c) l ∧ w'.ownsRow w.heap.size 25 2 (.slice A l.length c) l.length (drs l) ∧ Below w.heap.size w w'
set_option maxHeartbeats 1000000 in
theorem age_ok (v : Value) (l : List (Nat × Nat)) (m : Nat) (w : World) (hv : IsDs w v l) (hl : DOk l) (hm : m ≤ 2400) :
    Calls Try.prog 75 #[v, .int .i64 m] w (RetAge (aged m l) w) := by
  have hl0 := hl
  obtain ⟨h8, hp⟩ := hl
  have hv0 := hv
  obtain ⟨A, c, rfl, h1, h2, h3⟩ := hv
  clear h1 h2
  have hLA : (aged m l).length = l.length := by simp [aged]
  have HLA := Lib.hid hLA
  clear hLA
  go_enter Try.func75, Try.ntmps75
  go_wp2_with fail
  refine (fault_ok _ l w hv0 hl0).mono ?_
  rintro e wa ⟨rfl, hba⟩
  have h3a := (h3.below hba).more hba.size
  go_wp2_with (at_builtin; refine wpList_pushN el_d rfl (.const (.slice none 0 0)) (.tmp 22) rfl wa wa.heap.size _ 0 [] rfl (World.ownsRow_nil _ _ _ _) wa.heap.size A l.length c (drs l) rfl h3a (drs_one l) (by omega) (by unfold maxLen; omega) wa (Below.refl _ _) (Nat.le_refl _) ?_; intro A1 c1 w1 hown1 hb1)
  simp only [Nat.zero_add, List.nil_append] at hown1 ⊢
  have hL9 : (l.length : Int) ≤ 8 := by omega
  clear h3a h3 hv0 hl0
  rcases Nat.eq_zero_or_pos l.length with h0 | h0
  · obtain rfl : l = [] := List.eq_nil_of_length_eq_zero h0
    go_loopw [26] (fun i wr => i = .int .i64 0 ∧ wr = w1) (fun i _ => 0)
    case atStart => exact ⟨rfl, rfl⟩
    case round =>
      obtain ⟨rfl, rfl⟩ := hrel
      go_wp2
      go_ret2
      refine ⟨A1, c1, rfl, ?_, own_mono hown1 hba.size, hba.step hb1⟩
      exact isds_own (l := []) rfl hown1
  · obtain ⟨g, cap, hv, hg0, hglt⟩ := hown1.form h0
    injection hv with hv1 _ hv2
    subst hv1 hv2
    have hst : agedTo m l 0 = l := rfl
    go_loopw [26, 9] (fun i _ wr => ∃ k : Nat, k ≤ l.length ∧ i = .int .i64 k ∧ wr.ownsRow wa.heap.size 25 2 (.slice (some ⟨g, 0, none⟩) l.length c1) l.length (drs (agedTo m l k)) ∧ Below wa.heap.size wa wr) (fun i _ _ => l.length - (intOf i).toNat)
    case atStart => exact ⟨0, by omega, rfl, hown1, hb1⟩
    case round =>
      obtain ⟨k, hk, rfl, hown, hb⟩ := hrel
      clear hown1 hb1
      by_cases hlt : k < l.length
      · have hgk := agedTo_get (m := m) hlt
        obtain ⟨p1, p2⟩ := hp _ (List.getElem_mem hlt)
        have HS := Lib.hid (agedTo_succ (m := m) hlt)
        obtain ⟨L, HL⟩ : ∃ L, Hid (agedTo m l k = L) := ⟨_, rfl⟩
        have hLl : L.length = l.length := by rw [← HL.out]; exact agedTo_len m l k
        have hkL : k < L.length := by omega
        have hLk : L[k] = l[k] := by have e := HL.out; subst e; exact hgk
        rw [HL.out] at hown HS
        clear hgk hst HL
        have HL8 := Lib.hid hLl
        clear hLl
        generalize l[k] = d at *
        obtain ⟨x, y⟩ := d
        dsimp only at *
        have hset : L.set k (x, y) = L := by rw [← hLk]; exact List.set_getElem_self hkL
        have hown : wr.ownsRow wa.heap.size 25 2 (.slice (some ⟨g, 0, none⟩) l.length c1) l.length (drs (L.set k (x, y))) := by rw [hset]; exact hown
        clear hLk hset hp
        obtain ⟨wo, rfl⟩ : ∃ wo : World, wo = wr := ⟨_, rfl⟩
        have hc0 : (0 : Int) ≤ (k : Int) := by omega
        have hc1 : (k : Int) < (l.length : Int) := by omega
        go_wp2_with fail
        go_step3
        go_wp2_with fail
        go_step3
        go_wp2_with fail
        go_loopw [33] (fun i wr => ∃ (j z : Nat), j ≤ m ∧ z ≤ 1000000000 ∧ i = .int .i64 j ∧ Hid (grow y j x = z) ∧ wr.ownsRow wa.heap.size 25 2 (.slice (some ⟨g, 0, none⟩) l.length c1) l.length (drs (L.set k (z, y))) ∧ Below wa.heap.size wa wr) (fun i _ => m - (intOf i).toNat)
        case atStart => exact ⟨0, x, by omega, by omega, rfl, rfl, hown, hb⟩
        case round =>
          obtain ⟨j, z, hj, hz, rfl, HG, hown, hb⟩ := hrel
          by_cases hjm : j < m
          · obtain ⟨q1, q2⟩ := drs_get (l := L.set k (z, y)) (i := k) (by simpa using hkL)
            simp only [List.getElem_set_self] at q1 q2
            have q1 := (hown.cellAt (k * 2) (by omega)).trans q1
            have q2 := (hown.cellAt (k * 2 + 1) (by omega)).trans q2
            have q3 := hown.frozenAt (k * 2)
            have q5 := (hown.stored (k * 2) (.int .i64 ((month1 y z : Nat) : Int)))
            rw [drs_set (by simpa using hkL)] at q5
            simp only [List.getElem_set_self, List.set_set] at q5
            have b1 : z * y ≤ 1000000000 * 10000 := Nat.mul_le_mul hz p2
            have b2 : 0 ≤ (z : Int) * (y : Int) := by rw [← Int.natCast_mul]; omega
            have b3 : (z : Int) * (y : Int) ≤ 10000000000000 := by rw [← Int.natCast_mul]; omega
            obtain ⟨r, hr⟩ : ∃ r : Nat, z * y / 10000 = r := ⟨_, rfl⟩
            have hrI : (z : Int) * (y : Int) / 10000 = (r : Int) := by rw [← Int.natCast_mul]; omega
            have hm1 : month1 y z = min (z + r) 1000000000 := by unfold month1; rw [hr]
            have b4 : r ≤ 1000000000 := by omega
            have HR := Lib.hid hr
            clear hr b1
            have hbs := hb.size
            have hB : wa.heap.size ≤ g := hg0
            by_cases h0r : r = 0
            · have e1 : ((r : Int) == 0) = true := by simp; omega
              have HE : Hid (z = grow y m x) := by
                show _ = _
                have h1 := grow_stop (b := y) hz (by rw [HR.out]; exact h0r) (m - j)
                rw [← HG.out, ← grow_add, show j + (m - j) = m by omega, HG.out] at h1
                exact h1.symm
              clear q5 hm1
              go_wp2_with fail
              go_quiet (fail)
              go_wp2
              rw [Exit.noGoto_normal]
              go_wp2
              go_roundw
              case rel => exact ⟨k + 1, by omega, by go_num, by rw [← HS.out, ← HE.out]; exact ownsRow_drewN hown nq, below_draws hb nq⟩
              case measure => simp [intOf]; omega
            · have e1 : ((r : Int) == 0) = false := by simp; omega
              obtain ⟨t, ht⟩ : ∃ t : Nat, month1 y z = t := ⟨_, rfl⟩
              rw [ht] at hm1 q5
              have HT := Lib.hid ht
              clear ht
              by_cases hmx : z + r ≤ 1000000000
              all_goals
                go_wp2_with fail
                go_quiet (fail)
                go_wp2
                go_roundw
                case rel =>
                  refine ⟨j + 1, t, by omega, by omega, by go_num, (show month1 y (grow y j x) = t by rw [HG.out]; exact HT.out), ?_, ?_⟩
                  · have q6 := ((ownsRow_drewN hown nq).stored (k * 2) (.int .i64 (t : Int))).1
                    rw [drs_set (by simpa using hkL)] at q6
                    simp only [List.getElem_set_self, List.set_set] at q6
                    first | rwa [show ((z : Int) + (r : Int)) = (t : Int) by omega] | rwa [show (1000000000 : Int) = (t : Int) by omega]
                  · exact (below_draws hb nq).setCell (p := ⟨g, k * 2, none⟩) hB _
                case measure => simp [intOf]; omega
          · obtain rfl : j = m := by omega
            go_wp2
            rw [Exit.noGoto_normal]
            go_wp2
            go_roundw
            case rel => exact ⟨k + 1, by omega, by go_num, by rw [← HS.out, HG.out]; exact hown, hb⟩
            case measure => simp [intOf]; omega
      · obtain rfl : k = l.length := by omega
        have hfin : agedTo m l l.length = aged m l := by simp [agedTo]
        rw [hfin] at hown
        go_wp2
        go_ret2
        refine ⟨some ⟨g, 0, none⟩, c1, ?_, ?_, ?_, hba.step hb⟩
        · rw [HLA.out]; rfl
        · rw [HLA.out]; exact isds_own HLA.out hown
        · rw [HLA.out]; exact own_mono hown hba.size
theorem age_is (v : Value) (l o : List (Nat × Nat)) (m : Int) (k : Nat) (w : World) (hv : IsDs w v l) (hl : DOk l) (hm : k ≤ 2400) (he : Hid (m = k)) (ho : Hid (aged k l = o)) :
    Calls Try.prog 75 #[v, .int .i64 m] w (RetAge o w) := by
  rw [he.out, ← ho.out]; exact age_ok v l k w hv hl hm
end Go.Proofs.Ytnpkondgpmncnaa
