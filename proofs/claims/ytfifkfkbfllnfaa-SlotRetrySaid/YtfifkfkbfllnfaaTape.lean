/- tape: records one behind the other. -/
import Derived.Test.YtfifkfkbfllnfaaRecs
namespace Go.Proofs.Ytfifkfkbfllnfaa
open Go.RowKit
/-- A row of words that some call owns. -/
def OwnWs (w : World) (e : TypeId) (v : Value) (xs : List Nat) : Prop := w.ownsRow 0 e 1 v xs.length (ws xs) ∧ ∀ x ∈ xs, x < 4294967296
theorem OwnWs.is {w : World} {e : TypeId} {v : Value} {xs : List Nat} (h : OwnWs w e v xs) : IsWs w v xs := by
  obtain ⟨A, c, rfl⟩ := own_slice h.1
  exact isws_own rfl h.2 h.1
theorem own_ne_type {w : World} {b1 b2 e1 e2 s1 s2 n1 n2 : Nat} {v1 v2 : Value} {xs1 xs2 : List Value} (h1 : w.ownsRow b1 e1 s1 v1 n1 xs1) (h2 : w.ownsRow b2 e2 s2 v2 n2 xs2) (hne : e1 ≠ e2) : v1.ownBlock = none ∨ v1.ownBlock ≠ v2.ownBlock := by
  rcases h1.2 with ⟨rfl, _⟩ | ⟨g, cap, cur, rfl, _, hg, _⟩
  · exact .inl rfl
  · refine .inr fun e => ?_
    rcases h2.2 with ⟨rfl, _⟩ | ⟨g', cap', cur', rfl, _, hg', _⟩
    · simp [Value.ownBlock] at e
    · have e3 : g = g' := by simpa [Value.ownBlock] using e
      subst e3
      rw [hg] at hg'
      injection hg' with hg'
      injection hg' with _ hg' _
      exact hne hg'
theorem OwnWs.grown {w w' : World} {e e2 : TypeId} {v v2 : Value} {xs : List Nat} {base n size : Nat} {ys : List Value} (h : OwnWs w e v xs) (h2 : w.ownsRow base e2 size v2 n ys) (hne : e ≠ e2) (hg : w.grownBy w' v2.ownBlock) : OwnWs w' e v xs :=
  ⟨h.1.kept hg (own_ne_type h.1 h2 hne), h.2⟩
theorem OwnWs.below {w w' : World} {e : TypeId} {v : Value} {xs : List Nat} (h : OwnWs w e v xs) (hb : Below w.heap.size w w') : OwnWs w' e v xs := ⟨own_below h.1 hb, h.2⟩
theorem OwnWs.alloc {w : World} {e : TypeId} {v : Value} {xs : List Nat} (h : OwnWs w e v xs) (o : Obj) : OwnWs (w.alloc o) e v xs := ⟨h.1.alloc o, h.2⟩
/-- These values are rows of words that some call owns. -/
def IsRo (w : World) (e : TypeId) (vs : List Value) (l : List (List Nat)) : Prop := vs.length = l.length ∧ ∀ i (h : i < l.length), ∃ v, vs[i]? = some v ∧ OwnWs w e v l[i]
theorem IsRo.is {w : World} {e : TypeId} {vs : List Value} {l : List (List Nat)} (h : IsRo w e vs l) : IsRs w vs l :=
  ⟨h.1, fun i hi => by obtain ⟨v, h1, h2⟩ := h.2 i hi; exact ⟨v, h1, h2.is⟩⟩
theorem IsRo.map {w w' : World} {e : TypeId} {vs : List Value} {l : List (List Nat)} (h : IsRo w e vs l) (hm : ∀ v xs, OwnWs w e v xs → OwnWs w' e v xs) : IsRo w' e vs l :=
  ⟨h.1, fun i hi => by obtain ⟨v, h1, h2⟩ := h.2 i hi; exact ⟨v, h1, hm _ _ h2⟩⟩
theorem isro_nil (w : World) (e : TypeId) : IsRo w e [] [] := ⟨rfl, fun i hi => by simp at hi⟩
theorem IsRo.snoc {w : World} {e : TypeId} {vs : List Value} {l : List (List Nat)} {v : Value} {r : List Nat} (h : IsRo w e vs l) (hv : OwnWs w e v r) : IsRo w e (vs ++ [v]) (l ++ [r]) := by
  refine ⟨by simp [h.1], fun i hi => ?_⟩
  by_cases hl : i < l.length
  · obtain ⟨u, h1, h2⟩ := h.2 i hl
    refine ⟨u, by rw [List.getElem?_append_left (by rw [h.1]; exact hl)]; exact h1, ?_⟩
    rw [List.getElem_append_left hl]; exact h2
  · obtain rfl : i = l.length := by simp at hi; omega
    refine ⟨v, by rw [List.getElem?_append_right (by rw [h.1]; exact Nat.le_refl _), h.1, Nat.sub_self]; rfl, ?_⟩
    rw [List.getElem_append_right (Nat.le_refl _)]
    simpa using hv
/-- The records that are put there. -/
def recsOf (l : List (List Nat)) : List (List Nat) := (l.take 12).map fun r => someN r 20
theorem enc_len_snoc (l : List (List Nat)) (r : List Nat) : (enc (l ++ [r])).length = (enc l).length + (r.length + 1) := by rw [enc_append, enc_one, List.length_append, List.length_cons]
theorem recsOf_take {l : List (List Nat)} {k : Nat} (hk : k < l.length) : (l.take (k + 1)).map (fun r => someN r 20) = (l.take k).map (fun r => someN r 20) ++ [someN l[k] 20] := by
  rw [List.take_succ_eq_append_getElem hk, List.map_append]; rfl
theorem enc_len_ge : ∀ l : List (List Nat), l.length ≤ (enc l).length
  | [] => Nat.le_refl _
  | r :: l => by
    have := enc_len_ge l
    show _ ≤ ((r.length :: r) ++ enc l).length
    simp; omega
theorem enc_take_le {l : List (List Nat)} {i : Nat} (h : i < l.length) : (enc (l.take i)).length + 1 + l[i].length ≤ (enc l).length := by
  have e : enc l = enc (l.take (i + 1)) ++ enc (l.drop (i + 1)) := by rw [← enc_append, List.take_append_drop]
  rw [e, enc_take_succ h]
  simp; omega
/-- The answer of 'tape'. -/
def RetTape (L : List (List Nat)) (m : Nat) (w : World) (e : Ending) (w' : World) : Prop :=
  ∃ (cv : Value) (C : List Nat) (A : Option Addr) (c : Nat) (vs : List Value), e = .returned (.tuple #[cv, .slice A L.length c, .bool true]) ∧ IsWs w' cv C ∧ IsTape C L ∧ C.length = m + (enc L).length ∧
    w'.ownsRow w.heap.size 40 1 (.slice A L.length c) L.length vs ∧ IsRo w' 60 vs L ∧ Below w.heap.size w w'
set_option maxRecDepth 100000 in
set_option maxHeartbeats 2000000 in
theorem tape_ok (v : Value) (R : List (List Nat)) (m : Nat) (w : World) (hv : IsRr w v R) (hm : m ≤ 100) (h0 : 1 ≤ m + R.length) :
    Calls Try.prog 22 #[v, .int .i64 m] w (RetTape (recsOf R) m w) := by
  have hv0 := hv
  obtain ⟨A, cp, vs0, rfl, hc1, hc2, _, _⟩ := hv
  have hat := fun k hk => hv0.at_ (k := k) hk
  have hR : R.length ≤ 9223372036854775807 := by unfold maxLen at hc2; omega
  clear hc1 hc2 hv0
  go_enter Try.func22, Try.ntmps22
  go_wp2_with fail
  go_loopw [7, 8, 9] (fun v s i wr => ∃ (k z : Nat) (A' : Option Addr) (c' : Nat) (vs : List Value) (L : List (List Nat)), k ≤ R.length ∧ k ≤ 12 ∧ Hid ((R.take k).map (fun r => someN r 20) = L) ∧ Hid (L.length = k) ∧ (∀ r ∈ L, 1 ≤ r.length ∧ r.length ≤ 20) ∧ v = .slice A' k c' ∧ s = .int .i64 z ∧ i = .int .i64 k ∧ Hid (z = m + (enc L).length) ∧ z ≤ m + 21 * k ∧ wr.ownsRow w.heap.size 40 1 (.slice A' k c') k vs ∧ IsRo wr 60 vs L ∧ Below w.heap.size w wr) (fun _ _ i _ => 12 - (intOf i).toNat)
  case atStart => exact ⟨0, m, none, 0, [], [], by omega, by omega, rfl, rfl, by simp, rfl, rfl, rfl, rfl, by omega, World.ownsRow_nil _ _ _ _, isro_nil _ _, Below.refl _ _⟩
  case round =>
    obtain ⟨k, z, A', c', vs, L, hk, hk12, HL, HN, hLr, rfl, rfl, rfl, HZ, hz, hown, hro, hb⟩ := hrel
    have hbs := hb.size
    by_cases hlt : k < R.length ∧ k < 12
    · obtain ⟨hlt, hlt12⟩ := hlt
      obtain ⟨b, off, u, rfl, hB, q1, hu⟩ := hat k hlt
      have q1 := (hb.cell (p := ⟨b, off + k, none⟩) hB).trans q1
      have HT := Lib.hid (recsOf_take hlt)
      have hpos := someN_pos R[k] 20
      have hle := someN_le R[k] 20 (by omega)
      have hu2 := hu.below hb
      clear hat hu
      generalize R[k] = r0 at *
      have hS := fun W h => some_own u r0 20 W h (by omega)
      generalize someN r0 20 = r at *
      have i1 : (k : Int) < (R.length : Int) := by omega
      have i2 : (k : Int) < 12 := by omega
      go_wp2_with fail
      refine (hS _ hu2).mono ?_
      rintro e wa hra
      obtain ⟨A2, c2, rfl, hx2, hown2, hba⟩ := hra
      have hba2 := hba.size
      have hro2 : OwnWs wa 60 (.slice A2 r.length c2) r := ⟨own_mono hown2 (Nat.zero_le _), hx2⟩
      have hownA := own_below hown hba
      have hroA := hro.map fun v xs h => h.below hba
      have hone : ∀ x ∈ [Value.slice A2 r.length c2], x.oneCell' = true := fun x hx => by simp at hx; subst hx; rfl
      go_wp2_with (at_builtin; refine wpList_push el_ws rfl (.tmp 32) (.tmp 34) rfl wa w.heap.size _ k _ [.slice A2 r.length c2] rfl hownA rfl rfl hone (by omega) (by unfold maxLen; omega) (by omega) ?_; intro A3 c3 w1 hown3 hb3 hg3)
      have HL2 : Hid ((R.take (k + 1)).map (fun r => someN r 20) = L ++ [r]) := by show _ = _; rw [HT.out, HL.out]
      have hro3 := (hroA.snoc hro2).map fun v xs h => h.grown hownA (by decide) hg3
      go_roundw
      case rel => exact ⟨k + 1, z + (r.length + 1), A3, c3, _, L ++ [r], by omega, by omega, HL2, by show _ = _; rw [List.length_append, HN.out]; rfl, fun q hq => (by
        rcases List.mem_append.1 hq with h | h
        · exact hLr q h
        · simp at h; subst h; exact ⟨by omega, hle⟩), rfl, by go_num, by go_num, by show _ = _; rw [enc_len_snoc, HZ.out]; omega, by omega, hown3, hro3, (hb.trans (hba.mono hb.size)).trans hb3⟩
      case measure => (simp [intOf]; try omega)
    · have hL : Hid (recsOf R = L) := by
        show _ = _
        unfold recsOf
        rw [← HL.out]
        congr 1
        by_cases h : k = 12
        · rw [h]
        · rw [List.take_of_length_le (i := k) (by omega), List.take_of_length_le (by omega)]
      have hz1 : 1 ≤ z := by
        have h1 := enc_len_ge L
        have h2 := HZ.out
        have h3 := HN.out
        omega
      have hz2 : z ≤ 2048 := by omega
      have hlt1 : ((k : Int) < (R.length : Int) ∧ ¬ (k : Int) < 12) ∨ ¬ (k : Int) < (R.length : Int) := by omega
      have hB := fun W => blank_ok z W hz1 hz2
      have hl0 : (List.replicate z 0 : List Nat).length = z := by simp
      clear hat
      rcases hlt1 with ⟨g1, g2⟩ | g1
      all_goals
        go_wp2_with fail
        refine (hB _).mono ?_
        rintro e wa ⟨cv, rfl, hcv, hba⟩
        have hcv0 := hcv
        obtain ⟨Ac, cc, rfl, _, _, _, _⟩ := hcv
        rw [hl0] at hcv0 ⊢
        have hownA := own_below hown hba
        have hroA := hro.map fun v xs h => h.below hba
        have hrr := isrr_own HN.out hownA hroA.is
        have hat2 := fun i hi => hrr.at_ (k := i) hi
        have hza : ((z : Int) != (z : Int)) = false := by simp
        go_wp2_with fail
        go_loopw [11, 13] (fun x i wr => ∃ (q : Nat) (C : List Nat), q ≤ k ∧ i = .int .i64 q ∧ IsWs wr x C ∧ IsTape C (L.take q) ∧ C.length = z ∧ Below wa.heap.size wa wr) (fun _ i _ => k - (intOf i).toNat)
        case atStart => exact ⟨0, List.replicate z 0, by omega, rfl, hcv0, blank_tape z, hl0, Below.refl _ _⟩
        case round =>
          obtain ⟨q, C, hq, rfl, hxc, hC, hCl, hb2⟩ := hrel
          by_cases hqk : q < k
          · have hqL : q < L.length := by rw [HN.out]; exact hqk
            obtain ⟨b, off, u, hA', hB', q1, hu⟩ := hat2 q hqL
            subst hA'
            have q1 := (hb2.cell (p := ⟨b, off + q, none⟩) hB').trans q1
            have hu2 := hu.below hb2
            obtain ⟨k1, k2⟩ := hLr _ (List.getElem_mem hqL)
            have hlt3 : ∀ x ∈ L[q], x < 4294967296 := by obtain ⟨_, _, _, _, _, h, _⟩ := hu; exact h
            have hef := enc_take_le hqL
            have hfit : (enc (L.take q)).length + 1 + L[q].length ≤ C.length := by
              have := HZ.out
              omega
            have hT2 := (put_tape hC ⟨k1, by omega, hlt3⟩ hfit).2
            rw [← List.take_succ_eq_append_getElem hqL] at hT2
            obtain ⟨r, hr⟩ : ∃ r, L[q] = r := ⟨_, rfl⟩
            simp only [hr] at k1 k2 hfit hT2 hu2
            have hP := fun x W h1 h2 => put_full x u C r (L.take q) W h1 h2 hC (by omega) k1 (by omega) hfit
            have hCl2 : (applyW C (putW C.length (enc (L.take q)).length r)).length = z := by rw [applyW_length]; exact hCl
            have i3 : (q : Int) < (k : Int) := by omega
            clear hat2 hu hef hfit hC hCl hrr hlt3
            generalize applyW C (putW C.length (enc (L.take q)).length r) = C2 at *
            go_wp2_with fail
            refine (hP _ _ hxc hu2).mono ?_
            rintro e wb ⟨y, rfl, hy, hbb⟩
            go_wp2
            go_roundw
            case rel => exact ⟨q + 1, C2, by omega, by go_num, hy, hT2, hCl2, hb2.trans (hbb.mono hb2.size)⟩
            case measure => (simp [intOf]; try omega)
          · obtain rfl : q = k := by omega
            have hT : IsTape C L := by rw [← HN.out, List.take_length] at hC; exact hC
            clear hat2
            go_wp2
            go_ret3
            rw [hL.out]
            exact ⟨_, C, A', c', vs, by rw [HN.out]; rfl, hxc, hT, by rw [hCl, HZ.out], by rw [HN.out]; exact own_below hownA hb2, hroA.map fun v xs h => h.below hb2, (hb.trans (hba.mono hb.size)).trans (hb2.mono (by have := hba.size; omega))⟩
end Go.Proofs.Ytfifkfkbfllnfaa
