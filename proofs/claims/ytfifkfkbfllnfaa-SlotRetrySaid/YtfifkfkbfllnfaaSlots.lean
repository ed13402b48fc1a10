/- fitted; slots: slots in which records were stored. -/
import Derived.Test.YtfifkfkbfllnfaaSlot
namespace Go.Proofs.Ytfifkfkbfllnfaa
open Go.RowKit
set_option linter.unusedVariables false
set_option maxHeartbeats 1000000 in
theorem fitted_own (v : Value) (l : List Nat) (n : Nat) (w : World) (hv : IsWs w v l) (hn : n ≤ 64) : Calls Try.prog 30 #[v, .int .i64 n] w (RetOwn (fitN l n) w) := by
  have hall : ∀ x ∈ fitN l n, x < 4294967296 := fitN_lt (by obtain ⟨_, _, _, _, _, h, _⟩ := hv; exact h) (by omega)
  obtain ⟨A, c, rfl, hc1, hc2, hx, hr⟩ := hv
  have hlen : l.length ≤ 9223372036854775807 := by unfold maxLen at hc2; omega
  have HL := Lib.hid (fitN_len l n)
  have HA := Lib.hid hall
  clear hall hc1 hc2 hx
  go_enter Try.func30, Try.ntmps30
  go_wp2
  go_loopw [5, 6] (fun v i wr => ∃ (k : Nat) (A' : Option Addr) (c' : Nat), k ≤ n ∧ i = .int .i64 k ∧ v = .slice A' k c' ∧ wr.ownsRow w.heap.size 60 1 (.slice A' k c') k (ws (fitN l k)) ∧ Below w.heap.size w wr) (fun _ i _ => n - (intOf i).toNat)
  case atStart => exact ⟨0, none, 0, by omega, rfl, rfl, World.ownsRow_nil _ _ _ _, Below.refl _ _⟩
  case round =>
    obtain ⟨k, A', c', hk, rfl, rfl, hown, hb⟩ := hrel
    have hbs := hb.size
    by_cases hlt : k < n
    · have HS := Lib.hid (show ws (fitN l (k + 1)) = ws (fitN l k) ++ [.int .u32 (l.getD k k : Nat)] by rw [fitN_succ, ws_append]; rfl)
      by_cases hkl : k < l.length
      · obtain ⟨b, off, rfl, hB, hcell⟩ := hr.at_ (by omega)
        have q1 : wr.cell? ⟨b, off + k, none⟩ = some (.int .u32 l[k]) := (hb.cell (p := ⟨b, off + k, none⟩) hB).trans (hcell k _ (ws_get hkl))
        rw [show l.getD k k = l[k] by simp [hkl]] at HS
        clear hcell hr
        generalize l[k] = z at *
        have hone : ∀ u ∈ [Value.int .u32 z], u.oneCell' = true := fun u hu => by simp at hu; subst hu; rfl
        go_wp2_with (at_builtin; refine wpList_push el_u32 rfl (.tmp 23) (.tmp 25) rfl wr w.heap.size _ k _ [.int .u32 z] rfl hown rfl rfl hone (by omega) (by unfold maxLen; omega) hbs ?_; intro A1 c1 w1 hown' hb' _)
        go_roundw
        case rel => exact ⟨k + 1, A1, c1, by omega, by go_num, rfl, by rw [HS.out]; exact hown', hb.trans hb'⟩
        case measure => (simp [intOf]; try omega)
      · rw [show l.getD k k = k by rw [List.getD_eq_getElem?_getD, List.getElem?_eq_none (by omega)]; rfl] at HS
        have hone : ∀ u ∈ [Value.int .u32 (k : Int)], u.oneCell' = true := fun u hu => by simp at hu; subst hu; rfl
        clear hr
        go_wp2_with (at_builtin; refine wpList_push el_u32 rfl (.tmp 23) (.tmp 25) rfl wr w.heap.size _ k _ [.int .u32 k] rfl hown rfl rfl hone (by omega) (by unfold maxLen; omega) hbs ?_; intro A1 c1 w1 hown' hb' _)
        go_roundw
        case rel => exact ⟨k + 1, A1, c1, by omega, by go_num, rfl, by rw [HS.out]; exact hown', hb.trans hb'⟩
        case measure => (simp [intOf]; try omega)
    · obtain rfl : k = n := by omega
      clear hr
      go_wp2
      go_ret
      exact ⟨A', c', by rw [HL.out]; rfl, HA.out, by rw [HL.out]; exact hown, hb⟩
/-- The answer of Fresh. -/
def RetFresh (n N : Nat) (w : World) (e : Ending) (w' : World) : Prop :=
  ∃ A c C, e = .returned (.tuple #[.slice A N c, .int .i64 0]) ∧ IsWs w' (.slice A N c) C ∧ IsSl C n (List.replicate n 0) 0 ∧ Below w.heap.size w w'
theorem fresh2 (n N : Nat) (w : World) (h1 : 1 ≤ n) (h2 : n ≤ 64) (hN : N = 2 * n + 1 + 1) : Calls Try.prog 55 #[.int .i64 n] w (RetFresh n N w) :=
  (fresh_ok n w h1 h2).mono fun e w' ⟨v, he, hv, hb⟩ => by
    have hl : (1 :: List.replicate (2 * n + 1) 0 : List Nat).length = N := by rw [List.length_cons, List.length_replicate, hN]
    have hv0 := hv
    obtain ⟨A, c, rfl, _, _, _, _⟩ := hv
    rw [hl] at he hv0
    exact ⟨A, c, _, he, hv0, fresh_sl n, hb⟩
/-- The answer of 'slots'. -/
def RetSl (n : Nat) (w : World) (e : Ending) (w' : World) : Prop :=
  ∃ cv ov C old s, e = .returned (.tuple #[cv, ov, .bool true]) ∧ IsWs w' cv C ∧ IsWs w' ov old ∧ IsSl C n old s ∧ Below w.heap.size w w'
theorem slW_ok {C rec old : List Nat} {n s : Nat} (h : IsSl C n old s) (hr : rec.length = n) : (∀ p ∈ slW C n rec s, p.1 < C.length) ∧ (slW C n rec s).length = n + 2 := by
  have hl := h.len
  obtain ⟨_, _, _, _, _, hs2⟩ := h.marks
  refine ⟨fun p hp => ?_, by unfold slW; rw [halfW_len, hr]⟩
  have := (halfW_at p hp).2
  rw [hl]
  rcases (show s = 0 ∨ s = 1 by omega) with rfl | rfl <;> omega
set_option maxRecDepth 100000 in
set_option maxHeartbeats 1000000 in
theorem slots_ok (v : Value) (R : List (List Nat)) (n : Nat) (w : World) (hv : IsRr w v R) (h1 : 1 ≤ n) (h2 : n ≤ 20) : Calls Try.prog 28 #[.int .i64 n, v] w (RetSl n w) := by
  obtain ⟨N, hN⟩ : ∃ N : Nat, (2 : Int) * ((n : Int) + 1) = (N : Int) := ⟨2 * (n + 1), by omega⟩
  have hF := fun W => fresh2 n N W h1 (by omega) (by omega)
  have hmk := run_make_n (P := Try.prog) Try.underlying40 u32_info n (by omega) (by omega)
  have hv0 := hv
  obtain ⟨A, cp, _, rfl, _, hm, _, _⟩ := hv
  have hat := fun k hk => hv0.at_ (k := k) hk
  have hRl : R.length ≤ 9223372036854775807 := by unfold maxLen at hm; omega
  clear hm hv0
  go_enter Try.func28, Try.ntmps28
  go_wp2_with fail
  refine (hF _).mono ?_
  rintro e wf ⟨Af, cf, C0, rfl, hC0, hS0, hbf⟩
  have hz : ((N : Int) != (N : Int)) = false := by simp
  have hO0 := isws_blk (w := wf.alloc (.cells (ws (List.replicate n 0)).toArray 60)) (g := wf.heap.size) (t := 60) (xs := List.replicate n 0) (by unfold maxLen; simp; omega) (by intro x hx; have := (List.mem_replicate.1 hx).2; omega) (Blk.new _ _ _)
  have eO : ws (List.replicate n 0) = List.replicate n (.int .u32 0) := by unfold ws; rw [List.map_replicate]; rfl
  rw [eO, List.length_replicate] at hO0
  have HO := Lib.hid hO0
  clear hF hO0 eO
  go_wp2_with fail
  go_loopw [7, 9, 10] (fun x o i wr => ∃ (k s : Nat) (C old : List Nat) (X O : Value), k ≤ R.length ∧ k ≤ 10 ∧ i = .int .i64 k ∧ X = x ∧ O = o ∧ IsWs wr X C ∧ IsWs wr O old ∧ IsSl C n old s ∧ Below w.heap.size w wr) (fun _ _ i _ => 10 - (intOf i).toNat)
  case atStart => exact ⟨0, 0, C0, _, _, _, by omega, by omega, rfl, rfl, rfl, hC0.below (below_a1 _ _), by simpa using HO.out, hS0, hbf.step (below_a1 _ _)⟩
  case round =>
    obtain ⟨k, s, C, old, X, O, hk, hk10, rfl, rfl, rfl, hX, hO, hS, hbr⟩ := hrel
    by_cases hlt : k < R.length ∧ k < 10
    · obtain ⟨hlt, hlt10⟩ := hlt
      obtain ⟨b, off, u, rfl, hB, q1, hu⟩ := hat k hlt
      have q1 := (hbr.cell (p := ⟨b, off + k, none⟩) hB).trans q1
      have hu2 := hu.below hbr
      obtain ⟨t0, ht0⟩ : ∃ t0, R[k] = t0 := ⟨_, rfl⟩
      rw [ht0] at hu2
      clear ht0 hu hat
      have hFt := fun W h => fitted_own u t0 n W h (by omega)
      have hrl := Lib.hid (fitN_len t0 n)
      generalize fitN t0 n = rec at *
      have hSt := fun y W h3 h4 => store_ok X y C rec old n s W h3 h4 hS hrl.out h1 (by omega)
      obtain ⟨hP1, hP2⟩ := slW_ok hS hrl.out
      have hSl2 := (sl_store hS hrl.out).2
      have hCl := hS.len
      obtain ⟨P, hP⟩ : ∃ P, slW C n rec s = P := ⟨_, rfl⟩
      rw [hP] at hSt hP1 hP2 hSl2
      have hA := fun v' u' W h3 h4 => apply_ok v' u' C P P.length W h3 h4 (by omega) (by omega) (by omega) hP1 (Nat.le_refl _)
      rw [List.take_length] at hA
      clear hP hP1 hP2 hCl
      go_wp2_with fail
      refine (hFt _ hu2).mono ?_
      rintro e wa ⟨B, d, rfl, htx, htown, hba⟩
      have hv := isws_own rfl htx htown
      have hXA := hX.below hba
      go_wp2_with fail
      refine (hSt _ _ hXA hv).mono ?_
      rintro e wb ⟨pv, rfl, hpv, hbb⟩
      have hpv0 := hpv
      obtain ⟨E, f, rfl, _, _, _, _⟩ := hpv
      go_wp2_with fail
      refine (hA _ _ _ (hXA.below hbb) hpv0).mono ?_
      rintro e wd ⟨dv, rfl, hdv, hbd⟩
      go_wp2
      go_roundw
      case rel => exact ⟨k + 1, _, _, _, _, _, by omega, by omega, by go_num, rfl, rfl, hdv, hv.below (hbb.step hbd), hSl2, hbr.trans ((hba.step (hbb.step hbd)).mono hbr.size)⟩
      case measure => (simp [intOf]; try omega)
    · have hlt1 : ((k : Int) < (R.length : Int) ∧ ¬ (k : Int) < 10) ∨ ¬ (k : Int) < (R.length : Int) := by omega
      clear hat
      rcases hlt1 with ⟨g1, g2⟩ | g1
      all_goals
        go_wp2
        go_ret3
        exact ⟨_, _, C, old, s, rfl, hX, hO, hS, hbr⟩
end Go.Proofs.Ytfifkfkbfllnfaa
