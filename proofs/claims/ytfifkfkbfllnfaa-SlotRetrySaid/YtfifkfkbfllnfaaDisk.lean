/- disk: Append, Replay; put. -/
import Derived.Test.YtfifkfkbfllnfaaDiskD
import Derived.Test.YtfifkfkbfllnfaaCell
import Derived.Test.YtfifkfkbfllnfaaPushN
import Derived.Test.YtfifkfkbfllnfaaOwn
namespace Go.Proofs.Ytfifkfkbfllnfaa
open Go.RowKit
theorem wr_info : (Try.prog.info? 62).map (fun i => (i.zero, i.size, i.bytes)) = some (some (.agg #[.int .i64 0, .int .u32 0]), 2, 16) := by kernel_rfl
theorem el_wr : Elem Try.prog 56 62 2 16 := elem_of Try.underlying56 wr_info rfl (by omega)
set_option maxHeartbeats 400000 in
theorem none_ok (v : Value) (w : World) : Calls Try.prog 51 #[v] w fun e w' => e = .returned (.tuple #[]) ∧ w = w' := by
  go_enter Try.func51, Try.ntmps51
  go_wp2
  go_end0
  exact ⟨rfl, rfl⟩
set_option maxRecDepth 100000 in
set_option maxHeartbeats 2000000 in
/-- The walk to each record that does nothing there. -/
theorem walk_none (v : Value) (c : List Nat) (l : List (List Nat)) (w : World) (hv : IsWs w v c) (ht : IsTape c l) (h1 : 1 ≤ c.length) (h2 : c.length ≤ 2048) :
    Calls Try.prog 49 #[v, .func (.func 51) #[] #[]] w fun e w' => e = .returned (.tuple #[.int .i64 (enc l).length, .int .i64 0]) ∧ w = w' := by
  obtain ⟨A, cp, rfl, hc1, hc2, hx, hr⟩ := hv
  have hcp : cp ≤ 9223372036854775807 := by unfold maxLen at hc2; omega
  obtain ⟨b, off, rfl, hB, hcell⟩ := hr.at_ (by omega)
  have hle := ht.le
  clear hx hr hc2
  go_enter Try.func49, Try.ntmps49
  go_wp2_with fail
  go_loop [6] (fun a => ∃ (i p : Nat), i ≤ l.length ∧ a = .int .i64 p ∧ Hid ((enc (l.take i)).length = p) ∧ p ≤ c.length) (fun a => c.length - (intOf a).toNat)
  case atStart => exact ⟨0, 0, by omega, rfl, rfl, by omega⟩
  case round =>
    obtain ⟨i, p, hi, rfl, HP, hpc⟩ := hrel
    by_cases hil : i < l.length
    · have hh := ht.head hil
      have hf := ht.fits hil
      obtain ⟨k1, k2, _⟩ := ht.1 _ (List.getElem_mem hil)
      have HP2 : Hid ((enc (l.take (i + 1))).length = p + 1 + l[i].length) := by
        show _ = _
        rw [enc_take_succ hil, List.length_append, HP.out]; simp; omega
      rw [HP.out] at hh hf
      clear HP
      generalize l[i].length = n at *
      have hpl : p < c.length := by omega
      have q1 : w.cell? ⟨b, off + p, none⟩ = some (.int .u32 n) := by
        have hcp' := List.getElem?_eq_some_iff.1 hh
        obtain ⟨hp1, hp2⟩ := hcp'
        have := hcell p _ (ws_get hp1)
        rw [hp2] at this
        exact this
      have g1 : ((n : Int) != 0) = true := by rw [bne_iff_ne]; omega
      clear hh hcell ht
      go_wp2_with fail
      refine (none_ok _ _).mono ?_
      rintro e w' ⟨rfl, rfl⟩
      go_wp2
      go_round
      case rel => exact ⟨i + 1, p + 1 + n, by omega, by go_num, HP2, by omega⟩
      case measure => (simp [intOf]; try omega)
    · obtain rfl : i = l.length := by omega
      rw [List.take_length] at HP
      by_cases hpl : p < c.length
      · have hh := ht.end_ (by rw [HP.out]; exact hpl)
        rw [HP.out] at hh
        have q1 : w.cell? ⟨b, off + p, none⟩ = some (.int .u32 0) := by
          obtain ⟨hp1, hp2⟩ := List.getElem?_eq_some_iff.1 hh
          have := hcell p _ (ws_get hp1)
          rw [hp2] at this
          exact this
        clear hh hcell ht
        go_wp2
        go_ret2
        exact ⟨by rw [HP.out]; rfl, rfl⟩
      · clear hcell ht
        go_wp2
        go_ret2
        exact ⟨by rw [HP.out]; rfl, rfl⟩
/-- Writes, and no error. -/
def RetWrOk (l : List (Nat × Nat)) (w : World) (e : Ending) (w' : World) : Prop := ∃ v, e = .returned (.tuple #[v, .int .i64 0]) ∧ IsWr w' v l ∧ Below w.heap.size w w'
/-- Writes in a row that the call has made, and no error. -/
def RetWrOwn (l : List (Nat × Nat)) (w : World) (e : Ending) (w' : World) : Prop :=
  ∃ A c, e = .returned (.tuple #[.slice A l.length c, .int .i64 0]) ∧ (∀ p ∈ l, p.2 < 4294967296) ∧ w'.ownsRow w.heap.size 62 2 (.slice A l.length c) l.length (wrs l) ∧ Below w.heap.size w w'
theorem RetWrOwn.is {l : List (Nat × Nat)} {w : World} {e : Ending} {w' : World} (h : RetWrOwn l w e w') : RetWrOk l w e w' := by
  obtain ⟨A, c, h1, h2, h3, h4⟩ := h
  exact ⟨_, h1, iswr_own rfl h2 h3, h4⟩
theorem wrs_snoc (l : List (Nat × Nat)) (a x : Nat) : wrs l ++ [.int .i64 a, .int .u32 x] = wrs (l ++ [(a, x)]) := by rw [wrs_append]; rfl
theorem one2 (a b : Value) (ha : a.oneCell' = true) (hb : b.oneCell' = true) : ∀ u ∈ [a, b], u.oneCell' = true := fun u hu => by
  simp at hu; rcases hu with rfl | rfl <;> assumption
set_option maxRecDepth 100000 in
set_option maxHeartbeats 2000000 in
theorem dappend_full (v u : Value) (c r : List Nat) (l : List (List Nat)) (w : World) (hv : IsWs w v c) (hu : IsWs w u r) (ht : IsTape c l) (h1 : 1 ≤ c.length) (h2 : c.length ≤ 2048) (hr1 : 1 ≤ r.length) (hr2 : r.length ≤ 64) (hf : ¬ (enc l).length + 1 + r.length ≤ c.length) :
    Calls Try.prog 25 #[v, u] w fun e w' => e = .returned (.tuple #[.slice none 0 0, .int .i64 16]) ∧ w = w' := by
  have hW := walk_none v c l w hv ht h1 h2
  have hle := ht.le
  obtain ⟨A, cp, rfl, hc1, hc2, _, _⟩ := hv
  obtain ⟨B, cq, rfl, hd1, hd2, _, _⟩ := hu
  obtain ⟨p, hp⟩ : ∃ p, (enc l).length = p := ⟨_, rfl⟩
  rw [hp] at hW hf hle
  clear hp ht hc2 hd2
  go_enter Try.func25, Try.ntmps25
  go_wp2_with fail
  refine hW.mono ?_
  rintro e w' ⟨rfl, rfl⟩
  go_wp2
  go_ret2
  exact ⟨rfl, rfl⟩
set_option maxRecDepth 100000 in
set_option maxHeartbeats 2000000 in
theorem dappend_own (v u : Value) (c r : List Nat) (l : List (List Nat)) (w : World) (hv : IsWs w v c) (hu : IsWs w u r) (ht : IsTape c l) (h2 : c.length ≤ 2048) (hr1 : 1 ≤ r.length) (hr2 : r.length ≤ 64) (hf : (enc l).length + 1 + r.length ≤ c.length) :
    Calls Try.prog 25 #[v, u] w (RetWrOwn (putW c.length (enc l).length r) w) := by
  have hW := walk_none v c l w hv ht (by omega) h2
  have hlt := putW_lt (len := c.length) (at0 := (enc l).length) (r := r) ⟨hr2, by obtain ⟨_, _, _, _, _, h, _⟩ := hu; exact h⟩
  obtain ⟨A, cp, rfl, hc1, hc2, _, _⟩ := hv
  obtain ⟨B, cq, rfl, hd1, hd2, hx, hrd⟩ := hu
  obtain ⟨b2, o2, rfl, hB2, hcell⟩ := hrd.at_ (by omega)
  obtain ⟨p, hp⟩ : ∃ p, (enc l).length = p := ⟨_, rfl⟩
  rw [hp] at hW hf hlt ⊢
  clear hp ht hc2 hd2 hrd
  obtain ⟨N, hN⟩ : ∃ N : Nat, (p : Int) + 1 + (r.length : Int) = (N : Int) := ⟨p + 1 + r.length, by omega⟩
  have hrl : (r.length : Int) ≤ 64 := by omega
  have hcl : (c.length : Int) ≤ 2048 := by omega
  have hdN : decide (c.length < N) = false := by simp; omega
  have hdr1 : decide ((r.length : Int) < 1) = false := by simp; omega
  have hdr2 : decide (64 < (r.length : Int)) = false := by simp; omega
  have HN := Lib.hid (show p + 1 + r.length = N by omega)
  obtain ⟨f, hfd⟩ : ∃ f : Nat → Nat × Nat, f = fun i => (p + 1 + i, r.getD i 0) := ⟨_, rfl⟩
  have hfk : ∀ k (h : k < r.length), f k = (p + 1 + k, r[k]) := fun k h => by rw [hfd]; simp [h]
  have hput : putW c.length p r = (List.range r.length).map f ++ ((if N < c.length then [(N, 0)] else []) ++ [(p, r.length)]) := by rw [hfd]; unfold putW; rw [HN.out]
  have HPut := Lib.hid hput
  have HLT := Lib.hid hlt
  clear hput hfd hlt
  go_enter Try.func25, Try.ntmps25
  go_wp2_with fail
  refine hW.mono ?_
  rintro e w' ⟨rfl, rfl⟩
  clear hW
  go_wp2_with fail
  go_loopw [39, 9] (fun i v wr => ∃ (k : Nat) (A' : Option Addr) (c' : Nat), k ≤ r.length ∧ i = .int .i64 k ∧ v = .slice A' k c' ∧ wr.ownsRow w.heap.size 62 2 (.slice A' k c') k (wrs ((List.range k).map f)) ∧ Below w.heap.size w wr) (fun i _ _ => r.length - (intOf i).toNat)
  case atStart => exact ⟨0, none, 0, by omega, rfl, rfl, World.ownsRow_nil _ _ _ _, Below.refl _ _⟩
  case round =>
    obtain ⟨k, A', c', hk, rfl, rfl, hown, hb⟩ := hrel
    have hbs := hb.size
    by_cases hlt : k < r.length
    · have q1 : wr.cell? ⟨b2, o2 + k, none⟩ = some (.int .u32 r[k]) := (hb.cell (p := ⟨b2, o2 + k, none⟩) hB2).trans (hcell k _ (ws_get hlt))
      have HF := Lib.hid (hfk k hlt)
      clear hcell hfk
      generalize r[k] = x at *
      obtain ⟨q, hq⟩ : ∃ q : Nat, (p : Int) + 1 + (k : Int) = (q : Int) := ⟨p + 1 + k, by omega⟩
      have HQ := Lib.hid (show p + 1 + k = q by omega)
      have hone : ∀ u ∈ [Value.int .i64 (q : Int), .int .u32 (x : Int)], u.oneCell' = true := one2 _ _ rfl rfl
      have HE : Hid (wrs ((List.range (k + 1)).map f) = wrs ((List.range k).map f) ++ [.int .i64 q, .int .u32 x]) := by
        show _ = _
        rw [List.range_succ, List.map_append, wrs_append]
        show _ ++ wrs [f k] = _
        rw [HF.out, HQ.out]; rfl
      go_wp2_with (at_builtin; refine wpList_push el_wr rfl (.tmp 44) (.tmp 51) rfl wr w.heap.size _ k _ [.int .i64 q, .int .u32 x] rfl hown rfl rfl hone (by omega) (by unfold maxLen; omega) hbs ?_; intro A1 c1 w1 hown' hb' _)
      go_roundw
      case rel => exact ⟨k + 1, A1, c1, by omega, by go_num, rfl, by rw [HE.out]; exact hown', hb.trans hb'⟩
      case measure => (simp [intOf]; try omega)
    · obtain rfl : k = r.length := by omega
      clear hcell hfk
      by_cases hn : N < c.length
      · have hone := one2 (.int .i64 N) (.int .u32 0) rfl rfl
        have hone2 := one2 (.int .i64 p) (.int .u32 r.length) rfl rfl
        go_wp2_with (first | (at_builtin; refine wpList_push el_wr rfl (.tmp 58) (.tmp 61) rfl wr w.heap.size _ r.length _ [.int .i64 N, .int .u32 0] rfl hown rfl rfl hone (by omega) (by unfold maxLen; omega) hbs ?_; intro A1 c1 w1 hown1 hb1 _) | (at_builtin; refine wpList_push el_wr rfl (.tmp 63) (.tmp 69) rfl w1 w.heap.size _ (r.length + 1) _ [.int .i64 p, .int .u32 r.length] rfl hown1 rfl rfl hone2 (by omega) (by unfold maxLen; omega) (by have := hb1.size; omega) ?_; intro A2 c2 w2 hown2 hb2 _))
        go_ret2
        have hx2 : putW c.length p r = (List.range r.length).map f ++ [(N, 0)] ++ [(p, r.length)] := by rw [HPut.out, if_pos hn, List.append_assoc]
        have hl2 : (putW c.length p r).length = r.length + 1 + 1 := by rw [hx2]; simp
        refine ⟨A2, c2, by rw [hl2]; rfl, HLT.out, ?_, (hb.trans hb1).trans hb2⟩
        rw [hl2]
        have hown3 : w2.ownsRow w.heap.size 62 2 (.slice A2 (r.length + 1 + 1) c2) (r.length + 1 + 1) (wrs (putW c.length p r)) := by
          rw [hx2, ← wrs_snoc, ← wrs_snoc]; exact hown2
        exact hown3
      · have hone2 : ∀ u ∈ [Value.int .i64 (p : Int), .int .u32 (r.length : Int)], u.oneCell' = true := one2 _ _ rfl rfl
        go_wp2_with (first | (at_builtin; refine wpList_push el_wr rfl (.tmp 63) (.tmp 69) rfl wr w.heap.size _ r.length _ [.int .i64 p, .int .u32 r.length] rfl hown rfl rfl hone2 (by omega) (by unfold maxLen; omega) hbs ?_; intro A2 c2 w2 hown2 hb2 _))
        go_ret2
        have hx2 : putW c.length p r = (List.range r.length).map f ++ [(p, r.length)] := by rw [HPut.out, if_neg hn, List.nil_append]
        have hl2 : (putW c.length p r).length = r.length + 1 := by rw [hx2]; simp
        refine ⟨A2, c2, by rw [hl2]; rfl, HLT.out, ?_, hb.trans hb2⟩
        rw [hl2]
        have hown3 : w2.ownsRow w.heap.size 62 2 (.slice A2 (r.length + 1) c2) (r.length + 1) (wrs (putW c.length p r)) := by
          rw [hx2, ← wrs_snoc]; exact hown2
        exact hown3
theorem dappend_ok (v u : Value) (c r : List Nat) (l : List (List Nat)) (w : World) (hv : IsWs w v c) (hu : IsWs w u r) (ht : IsTape c l) (h2 : c.length ≤ 2048) (hr1 : 1 ≤ r.length) (hr2 : r.length ≤ 64) (hf : (enc l).length + 1 + r.length ≤ c.length) :
    Calls Try.prog 25 #[v, u] w (RetWrOk (putW c.length (enc l).length r) w) := (dappend_own v u c r l w hv hu ht h2 hr1 hr2 hf).mono fun _ _ h => h.is
end Go.Proofs.Ytfifkfkbfllnfaa
