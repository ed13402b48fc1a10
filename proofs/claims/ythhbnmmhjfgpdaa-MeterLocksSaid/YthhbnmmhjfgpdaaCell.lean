/- cell: words that outlast a power cut; and the drawers of words. -/
import Derived.Test.YthhbnmmhjfgpdaaCellD
namespace Go.Proofs.Ythhbnmmhjfgpdaa
open Go.RowKit

theorem u32_info : (Try.prog.info? 71).map (fun i => (i.zero, i.size, i.bytes)) = some (some (.int .u32 0), 1, 4) := by kernel_rfl
theorem el_u32 : Elem Try.prog 28 71 1 4 := elem_of Try.underlying28 u32_info rfl (by omega)
theorem ws_fit {v : Value} {w : World} (h : Fit Try.prog w 28 v) : ∃ xs, IsWs w v xs := by
  obtain ⟨A, n, c, rfl, hc⟩ := h.slice Try.underlying28
  obtain ⟨hn, hm, zs, hz, hw, hr⟩ := hc.slice_int Try.underlying28 (by kernel_rfl) Try.underlying71
  have hb : ∀ z ∈ zs, 0 ≤ z ∧ z ≤ 4294967295 := fun z hz => bounds_u32 (hw z hz)
  have e : zs.map (Value.int .u32) = ws (zs.map Int.toNat) := by
    unfold ws
    rw [List.map_map]
    refine List.map_congr_left fun z hz => ?_
    show _ = Value.int .u32 ((z.toNat : Nat) : Int)
    rw [Int.toNat_of_nonneg (hb z hz).1]
  rw [e] at hr
  subst hz
  refine ⟨zs.map Int.toNat, A, c, by simp, by simpa using hn, hm, fun x hx => ?_, by simpa using hr⟩
  obtain ⟨z, hz, rfl⟩ := List.mem_map.1 hx
  have := hb z hz
  omega
/-- What 'some' makes of words. -/
def someN (xs : List Nat) (most : Nat) : List Nat := if xs.take most = [] then [0] else xs.take most
theorem someN_pos (xs : List Nat) (most : Nat) : 0 < (someN xs most).length := by
  unfold someN; split
  · simp
  · rename_i h; exact List.length_pos_iff.2 h
theorem someN_le (xs : List Nat) (most : Nat) (h : 1 ≤ most) : (someN xs most).length ≤ most := by
  unfold someN; split
  · simpa using h
  · simp; omega
theorem someN_lt {xs : List Nat} {most : Nat} (h : ∀ x ∈ xs, x < 4294967296) : ∀ x ∈ someN xs most, x < 4294967296 := by
  unfold someN; split
  · simp
  · exact fun x hx => h x (List.mem_of_mem_take hx)
/-- The answer is a slice of the call's own that reads as these words. -/
def RetWs (xs : List Nat) (w : World) (e : Ending) (w' : World) : Prop := ∃ v, e = .returned v ∧ IsWs w' v xs ∧ Below w.heap.size w w'
/-- The answer is a row of words that the call has made. -/
def RetOwn (xs : List Nat) (w : World) (e : Ending) (w' : World) : Prop :=
  ∃ A c, e = .returned (.slice A xs.length c) ∧ (∀ x ∈ xs, x < 4294967296) ∧ w'.ownsRow w.heap.size 71 1 (.slice A xs.length c) xs.length (ws xs) ∧ Below w.heap.size w w'
theorem RetOwn.is {xs : List Nat} {w : World} {e : Ending} {w' : World} (h : RetOwn xs w e w') : RetWs xs w e w' := by
  obtain ⟨A, c, h1, h2, h3, h4⟩ := h
  exact ⟨_, h1, isws_own rfl h2 h3, h4⟩
set_option maxHeartbeats 400000 in
theorem some_own (v : Value) (xs : List Nat) (most : Nat) (w : World) (hv : IsWs w v xs) (h1 : most ≤ 35184372087808) :
    Calls Try.prog 11 #[v, .int .i64 most] w (RetOwn (someN xs most) w) := by
  obtain ⟨A, c, rfl, hc1, hc2, hx, hr⟩ := hv
  have hlen : xs.length ≤ 9223372036854775807 := by unfold maxLen at hc2; omega
  go_enter Try.func11, Try.ntmps11
  go_wp2
  go_loopw [5, 6] (fun v i wr => ∃ (k : Nat) (A' : Option Addr) (c' : Nat), k ≤ xs.length ∧ k ≤ most ∧ i = .int .i64 k ∧ v = .slice A' k c' ∧ wr.ownsRow w.heap.size 71 1 (.slice A' k c') k (ws (xs.take k)) ∧ Below w.heap.size w wr) (fun _ i _ => most - (intOf i).toNat)
  case atStart => exact ⟨0, none, 0, by omega, by omega, rfl, rfl, World.ownsRow_nil _ _ _ _, Below.refl _ _⟩
  case round =>
    obtain ⟨k, A', c', hkn, hkm, rfl, rfl, hown, hb⟩ := hrel
    by_cases hlt : k < xs.length ∧ k < most
    · obtain ⟨hlt, hlm⟩ := hlt
      obtain ⟨b, off, rfl, hB, hcell⟩ := hr.at_ (by omega)
      have hck : wr.cell? ⟨b, off + k, none⟩ = some (.int .u32 xs[k]) := (hb.cell (p := ⟨b, off + k, none⟩) hB).trans (hcell k _ (ws_get hlt))
      have HS := Lib.hid (show ws (xs.take (k + 1)) = ws (xs.take k) ++ [.int .u32 xs[k]] by rw [List.take_succ_eq_append_getElem hlt, ws_append]; rfl)
      clear hcell hr
      generalize xs[k] = z at *
      go_wp2_with (at_builtin; refine wpList_push el_u32 rfl (.tmp 18) (.tmp 23) rfl wr w.heap.size _ k _ [.int .u32 z] rfl hown rfl rfl (fun u hu => by simp at hu; subst hu; rfl) (by omega) (by unfold maxLen; omega) hb.size ?_; intro A1 c1 w1 hown' hb' _)
      go_roundw
      case rel => exact ⟨k + 1, A1, c1, by omega, by omega, by go_num, rfl, by rw [HS.out]; exact hown', hb.trans hb'⟩
      case measure => simp [intOf]; omega
    · have HT := Lib.hid (show xs.take k = xs.take most by
        by_cases h : k = most
        · rw [h]
        · rw [List.take_of_length_le (i := k) (by omega), List.take_of_length_le (by omega)])
      by_cases hk0 : k = 0
      · subst hk0
        have HE := Lib.hid (show someN xs most = [0] by unfold someN; rw [← HT.out]; rfl)
        have e0 : ws (xs.take 0) = [] := rfl
        rw [e0] at hown
        have h00 : (((0 : Nat) : Int) == 0) = true := rfl
        by_cases hn : xs.length = 0
        all_goals
          have hn1 : (0 : Int) < (xs.length : Int) ∨ ¬ (0 : Int) < (xs.length : Int) := by omega
          have hn2 : (0 : Int) < (most : Int) ∨ ¬ (0 : Int) < (most : Int) := by omega
          go_wp2_with (at_builtin; refine wpList_push el_u32 rfl (.tmp 28) (.tmp 29) rfl wr w.heap.size _ 0 _ [.int .u32 0] rfl hown rfl rfl (fun u hu => by simp at hu; subst hu; rfl) (by omega) (by unfold maxLen; omega) hb.size ?_; intro A1 c1 w1 hown' hb' _)
          go_ret
          rw [HE.out]
          exact ⟨A1, c1, rfl, by simp, hown', hb.trans hb'⟩
      · have hk1 : ((k : Int) == 0) = false := by simp; omega
        have HE := Lib.hid (show someN xs most = xs.take k by
          unfold someN
          rw [if_neg, HT.out]
          rw [← HT.out]
          intro h
          have hl : min k xs.length = 0 := by rw [← List.length_take, h]; rfl
          omega)
        have HK := Lib.hid (show (xs.take k).length = k by simp; omega)
        by_cases hkn' : k < xs.length
        · obtain rfl : k = most := by omega
          go_wp2
          go_ret
          rw [HE.out]
          exact ⟨A', c', by rw [HK.out]; rfl, fun x hx' => hx x (List.mem_of_mem_take hx'), by rw [HK.out]; exact hown, hb⟩
        · go_wp2
          go_ret
          rw [HE.out]
          exact ⟨A', c', by rw [HK.out]; rfl, fun x hx' => hx x (List.mem_of_mem_take hx'), by rw [HK.out]; exact hown, hb⟩
theorem some_ok (v : Value) (xs : List Nat) (most : Nat) (w : World) (hv : IsWs w v xs) (h1 : most ≤ 35184372087808) :
    Calls Try.prog 11 #[v, .int .i64 most] w (RetWs (someN xs most) w) := (some_own v xs most w hv h1).mono fun _ _ h => h.is
theorem list_ext_of {xs ys : List Nat} {k : Nat} (hl : xs.length = ys.length) (hk : k = xs.length) (h : xs.take k = ys.take k) : xs = ys := by
  subst hk
  rw [List.take_length, hl, List.take_length] at h
  exact h
set_option maxHeartbeats 400000 in
theorem same_any (a b : Value) (xs ys : List Nat) (w : World) (ha : IsWs w a xs) (hb : IsWs w b ys) :
    Calls Try.prog 12 #[a, b] w fun e w' => e = .returned (.bool (decide (xs = ys))) ∧ ∃ m, w' = w.drewN m := by
  obtain ⟨A, c, rfl, hc1, hc2, hx, hr⟩ := ha
  obtain ⟨B, d, rfl, hd1, hd2, hy, hs⟩ := hb
  have hlx : xs.length ≤ 9223372036854775807 := by unfold maxLen at hc2; omega
  have hly : ys.length ≤ 9223372036854775807 := by unfold maxLen at hd2; omega
  clear hc1 hc2 hd1 hd2 hx hy
  by_cases hl : xs.length = ys.length
  · have hl' : ((xs.length : Int) != (ys.length : Int)) = false := by simp; omega
    have HL := Lib.hid hl
    clear hl
    go_enter Try.func12, Try.ntmps12
    go_wp2
    go_loopw [5] (fun i wr => ∃ k : Nat, k ≤ xs.length ∧ i = .int .i64 k ∧ Hid (xs.take k = ys.take k) ∧ ∃ m, wr = w.drewN m) (fun i _ => xs.length - (intOf i).toNat)
    case atStart => exact ⟨0, by omega, rfl, rfl, 0, rfl⟩
    case round =>
      obtain ⟨k, hk, rfl, heq, m, rfl⟩ := hrel
      by_cases hlt : k < xs.length
      · have hlt2 : k < ys.length := by have := HL.out; omega
        obtain ⟨b1, o1, rfl, _, hc1⟩ := hr.at_ (by omega)
        obtain ⟨b2, o2, rfl, _, hc2⟩ := hs.at_ (by omega)
        have q1 : w.cell? ⟨b1, o1 + k, none⟩ = some (.int .u32 xs[k]) := hc1 k _ (ws_get hlt)
        have q2 : w.cell? ⟨b2, o2 + k, none⟩ = some (.int .u32 ys[k]) := hc2 k _ (ws_get hlt2)
        have HT : xs[k] = ys[k] → Hid (xs.take (k + 1) = ys.take (k + 1)) := fun h => by
          show xs.take (k + 1) = ys.take (k + 1)
          rw [List.take_succ_eq_append_getElem hlt, List.take_succ_eq_append_getElem hlt2, heq.out, h]
        have HF : xs[k] ≠ ys[k] → decide (xs = ys) = false := fun h => by
          simp only [decide_eq_false_iff_not]
          rintro rfl
          exact h rfl
        clear hc1 hc2 hr hs
        have i1 : (k : Int) < (xs.length : Int) := by omega
        have i2 : (k : Int) < (ys.length : Int) := by omega
        generalize xs[k] = x at *
        generalize ys[k] = y at *
        by_cases hxy : x = y
        · have hb1 : ((x : Int) != (y : Int)) = false := by simp; omega
          have HT' := HT hxy
          clear HT HF hxy
          go_wp2_with fail
          go_quiet (fail)
          go_wp2
          go_roundw
          case rel => exact ⟨k + 1, by omega, by go_num, HT', _, rfl⟩
          case measure => simp [intOf]; omega
        · have hb1 : ((x : Int) != (y : Int)) = true := by simp; omega
          have HF' := Lib.hid (HF hxy)
          clear HT HF hxy
          go_wp2_with fail
          go_quiet (fail)
          go_wp2
          go_ret
          exact ⟨by rw [HF'.out]; rfl, _, World.drewN_drewN _ _ _⟩
      · have HD := Lib.hid (show decide (xs = ys) = true by simp only [decide_eq_true_eq]; exact list_ext_of HL.out (by omega) heq.out)
        go_wp2
        go_ret
        exact ⟨by rw [HD.out]; rfl, m, rfl⟩
  · have hl' : ((xs.length : Int) != (ys.length : Int)) = true := by simp; omega
    have HD := Lib.hid (show decide (xs = ys) = false by simp only [decide_eq_false_iff_not]; rintro rfl; exact hl rfl)
    clear hl
    go_enter Try.func12, Try.ntmps12
    go_wp2
    go_ret
    exact ⟨by rw [HD.out]; rfl, 0, rfl⟩
theorem same_ok (a b : Value) (xs ys : List Nat) (w : World) (ha : IsWs w a xs) (hb : IsWs w b ys) :
    Calls Try.prog 12 #[a, b] w fun e w' => e = .returned (.bool (decide (xs = ys))) ∧ Below w.heap.size w w' :=
  (same_any a b xs ys w ha hb).mono fun _ _ h => ⟨h.1, by obtain ⟨m, rfl⟩ := h.2; exact below_draws (Below.refl _ _) m⟩
theorem IsWs.drawn {w : World} {v : Value} {xs : List Nat} (h : IsWs w v xs) (n : Nat) : IsWs (w.drewN n) v xs := h.below (below_draws (Below.refl _ _) n)
/-- Inside a region that draws. -/
theorem same_q (a b : Value) (xs ys : List Nat) (w : World) (n : Nat) (ha : IsWs w a xs) (hb : IsWs w b ys) (h : xs = ys) :
    Calls Try.prog 12 #[a, b] (w.drewN n) fun e w' => e = .returned (.bool true) ∧ ∃ m, w' = w.drewN m :=
  (same_any a b xs ys _ (ha.drawn n) (hb.drawn n)).mono fun _ _ k => ⟨by rw [k.1, decide_eq_true h], by obtain ⟨m, rfl⟩ := k.2; exact ⟨_, World.drewN_drewN _ _ _⟩⟩
end Go.Proofs.Ythhbnmmhjfgpdaa
