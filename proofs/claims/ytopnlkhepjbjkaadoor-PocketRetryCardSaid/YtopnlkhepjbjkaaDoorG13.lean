/- token: bounds, fault, Body. -/
import Derived.Test.YtopnlkhepjbjkaaDoorG2
import Derived.OwnWalk
namespace Go.Proofs.YtopnlkhepjbjkaaDoor
open Go.RowKit
set_option linter.unusedVariables false
set_option maxHeartbeats 1000000 in
theorem bounds_is {cls lo hi : Int} {ok : Bool} (h : Hid (cb cls = (lo, hi, ok))) (w : World) :
    Calls Tryd.prog 74 #[.int .i64 cls] w fun e w' => e = .returned (.tuple #[.int .i64 lo, .int .i64 hi, .bool ok]) ∧ w = w' := by
  have h := h.out
  unfold cb at h
  by_cases c0 : cls = 0
  · subst c0
    simp at h
    obtain ⟨rfl, rfl, rfl⟩ := h
    go_enter Tryd.func74, Tryd.ntmps74
    go_wp2
    go_ret3
    exact ⟨rfl, rfl⟩
  · by_cases c2 : cls = 2
    · subst c2
      simp at h
      obtain ⟨rfl, rfl, rfl⟩ := h
      go_enter Tryd.func74, Tryd.ntmps74
      go_wp2
      go_ret3
      exact ⟨rfl, rfl⟩
    · by_cases c1 : cls = 1
      · subst c1
        simp at h
        obtain ⟨rfl, rfl, rfl⟩ := h
        go_enter Tryd.func74, Tryd.ntmps74
        go_wp2
        go_ret3
        exact ⟨rfl, rfl⟩
      · by_cases c3 : cls = 3
        · subst c3
          simp at h
          obtain ⟨rfl, rfl, rfl⟩ := h
          go_enter Tryd.func74, Tryd.ntmps74
          go_wp2
          go_ret3
          exact ⟨rfl, rfl⟩
        · rw [if_neg c0, if_neg c2, if_neg (by omega)] at h
          simp at h
          obtain ⟨rfl, rfl, rfl⟩ := h
          have d0 : (cls == 0) = false := by simp [c0]
          have d1 : (cls == 1) = false := by simp [c1]
          have d2 : (cls == 2) = false := by simp [c2]
          have d3 : (cls == 3) = false := by simp [c3]
          go_enter Tryd.func74, Tryd.ntmps74
          go_wp2
          go_ret3
          exact ⟨rfl, rfl⟩
set_option maxRecDepth 100000 in
set_option maxHeartbeats 1000000 in
theorem fault_is {cls id am tag f : Int} (hf : Hid (tfault cls id am tag = f)) (w : World) :
    Calls Tryd.prog 43 #[.agg #[.int .i64 cls, .int .i64 id, .int .i64 am, .int .i64 tag]] w fun e w' => e = .returned (.int .i64 f) ∧ Below w.heap.size w w' := by
  obtain ⟨lo, hi, ok, hcb⟩ : ∃ lo hi ok, cb cls = (lo, hi, ok) := ⟨_, _, _, rfl⟩
  have hB := fun W => bounds_is (Lib.hid hcb) W
  have hf := hf.out
  unfold tfault at hf
  rw [hcb] at hf
  dsimp only at hf
  have H := Mem.init w
  obtain ⟨W0, hW0⟩ : ∃ W0, (w).alloc (.cells #[.int .i64 cls, .int .i64 id, .int .i64 am, .int .i64 tag] 48) = W0 := ⟨_, rfl⟩
  replace H : Mem (w) [] _ [.blk (w.heap.size) 48 #[.int .i64 cls, .int .i64 id, .int .i64 am, .int .i64 tag]] := Mem.alloc H (w.heap.size) (by first | (simp; done) | (simp; omega)) #[.int .i64 cls, .int .i64 id, .int .i64 am, .int .i64 tag] 48
  rw [hW0] at H
  have tk0 : (W0).cell? ⟨w.heap.size, 0, none⟩ = some (.int .i64 cls) := (H.blk 0 rfl).cell 0
  have tkf0 : (W0).frozen? ⟨w.heap.size, 0, none⟩ = false := (H.blk 0 rfl).frozen 0
  have tk1 : (W0).cell? ⟨w.heap.size, 1, none⟩ = some (.int .i64 id) := (H.blk 0 rfl).cell 1
  have tkf1 : (W0).frozen? ⟨w.heap.size, 1, none⟩ = false := (H.blk 0 rfl).frozen 1
  have tk2 : (W0).cell? ⟨w.heap.size, 2, none⟩ = some (.int .i64 am) := (H.blk 0 rfl).cell 2
  have tkf2 : (W0).frozen? ⟨w.heap.size, 2, none⟩ = false := (H.blk 0 rfl).frozen 2
  have tk3 : (W0).cell? ⟨w.heap.size, 3, none⟩ = some (.int .i64 tag) := (H.blk 0 rfl).cell 3
  have tkf3 : (W0).frozen? ⟨w.heap.size, 3, none⟩ = false := (H.blk 0 rfl).frozen 3
  have tklt : w.heap.size < (W0).heap.size := H.lt 0 rfl
  cases ok with
  | false =>
    simp at hf
    subst hf
    go_enter Tryd.func43, Tryd.ntmps43
    go_wp2_with (go_at_call 74; with_reducible refine (hB _).mono ?_; rintro e w' ⟨rfl, rfl⟩)
    go_ret
    exact ⟨rfl, H.below⟩
  | true =>
    rw [if_neg (by simp)] at hf
    by_cases g1 : id < 1
    · rw [if_pos (.inl g1)] at hf
      subst hf
      go_enter Tryd.func43, Tryd.ntmps43
      go_wp2_with (go_at_call 74; with_reducible refine (hB _).mono ?_; rintro e w' ⟨rfl, rfl⟩)
      go_ret
      exact ⟨rfl, H.below⟩
    · by_cases g2 : 1048575 < id
      · rw [if_pos (by omega)] at hf
        subst hf
        go_enter Tryd.func43, Tryd.ntmps43
        go_wp2_with (go_at_call 74; with_reducible refine (hB _).mono ?_; rintro e w' ⟨rfl, rfl⟩)
        go_ret
        exact ⟨rfl, H.below⟩
      · by_cases g3 : am < lo
        · rw [if_pos (by omega)] at hf
          subst hf
          go_enter Tryd.func43, Tryd.ntmps43
          go_wp2_with (go_at_call 74; with_reducible refine (hB _).mono ?_; rintro e w' ⟨rfl, rfl⟩)
          go_ret
          exact ⟨rfl, H.below⟩
        · by_cases g4 : hi < am
          · rw [if_pos (by omega)] at hf
            subst hf
            go_enter Tryd.func43, Tryd.ntmps43
            go_wp2_with (go_at_call 74; with_reducible refine (hB _).mono ?_; rintro e w' ⟨rfl, rfl⟩)
            go_ret
            exact ⟨rfl, H.below⟩
          · by_cases g5 : tag < 0
            · rw [if_pos (by omega)] at hf
              subst hf
              go_enter Tryd.func43, Tryd.ntmps43
              go_wp2_with (go_at_call 74; with_reducible refine (hB _).mono ?_; rintro e w' ⟨rfl, rfl⟩)
              go_ret
              exact ⟨rfl, H.below⟩
            · by_cases g6 : 65535 < tag
              · rw [if_pos (by omega)] at hf
                subst hf
                go_enter Tryd.func43, Tryd.ntmps43
                go_wp2_with (go_at_call 74; with_reducible refine (hB _).mono ?_; rintro e w' ⟨rfl, rfl⟩)
                go_ret
                exact ⟨rfl, H.below⟩
              · rw [if_neg (by omega)] at hf
                subst hf
                go_enter Tryd.func43, Tryd.ntmps43
                go_wp2_with (go_at_call 74; with_reducible refine (hB _).mono ?_; rintro e w' ⟨rfl, rfl⟩)
                go_ret
                exact ⟨rfl, H.below⟩
set_option maxRecDepth 100000 in
set_option maxHeartbeats 1000000 in
theorem tbody_ok (cls id am tag b : Nat) (w : World) (hk : TkOk cls id am tag) (hb : Hid (tbody cls id am = b)) :
    Calls Tryd.prog 28 #[.agg #[.int .i64 cls, .int .i64 id, .int .i64 am, .int .i64 tag]] w fun e w' => e = .returned (.tuple #[.int .i64 b, .int .i64 0]) ∧ Below w.heap.size w w' := by
  have hF := fun W => fault_is (Lib.hid (tfault_ok hk)) W
  have ham := hk.am
  obtain ⟨k1, k2, k3, k4, k5⟩ := hk
  have e1 := body_e1 (cls := cls) (id := id) k1 k3
  obtain ⟨X, hX⟩ : ∃ X, cls * 1048576 + id = X := ⟨_, rfl⟩
  rw [hX] at e1
  have e2 := body_e2 (x := X) (am := am) (by omega) ham
  have hb := hb.out
  rw [← hX, tbody_eq, hb] at e2
  rw [hX] at e2
  have X9 : (X : Int) ≤ 4194303 := by omega
  clear hX hb k4
  have H := Mem.init w
  obtain ⟨W0, hW0⟩ : ∃ W0, (w).alloc (.cells #[.int .i64 cls, .int .i64 id, .int .i64 am, .int .i64 tag] 48) = W0 := ⟨_, rfl⟩
  replace H : Mem (w) [] _ [.blk (w.heap.size) 48 #[.int .i64 cls, .int .i64 id, .int .i64 am, .int .i64 tag]] := Mem.alloc H (w.heap.size) (by first | (simp; done) | (simp; omega)) #[.int .i64 cls, .int .i64 id, .int .i64 am, .int .i64 tag] 48
  rw [hW0] at H
  have tk0 : (W0).cell? ⟨w.heap.size, 0, none⟩ = some (.int .i64 cls) := (H.blk 0 rfl).cell 0
  have tkf0 : (W0).frozen? ⟨w.heap.size, 0, none⟩ = false := (H.blk 0 rfl).frozen 0
  have tk1 : (W0).cell? ⟨w.heap.size, 1, none⟩ = some (.int .i64 id) := (H.blk 0 rfl).cell 1
  have tkf1 : (W0).frozen? ⟨w.heap.size, 1, none⟩ = false := (H.blk 0 rfl).frozen 1
  have tk2 : (W0).cell? ⟨w.heap.size, 2, none⟩ = some (.int .i64 am) := (H.blk 0 rfl).cell 2
  have tkf2 : (W0).frozen? ⟨w.heap.size, 2, none⟩ = false := (H.blk 0 rfl).frozen 2
  have tk3 : (W0).cell? ⟨w.heap.size, 3, none⟩ = some (.int .i64 tag) := (H.blk 0 rfl).cell 3
  have tkf3 : (W0).frozen? ⟨w.heap.size, 3, none⟩ = false := (H.blk 0 rfl).frozen 3
  have tklt : w.heap.size < (W0).heap.size := H.lt 0 rfl
  go_enter Tryd.func28, Tryd.ntmps28
  go_wp2_with fail
  refine (hF _).mono ?_
  rintro e wa ⟨rfl, hba⟩
  replace H : Mem (w) [] (wa) [.blk (w.heap.size) 48 #[.int .i64 cls, .int .i64 id, .int .i64 am, .int .i64 tag]] := Mem.call H hba
  clear tk0 tkf0 tk1 tkf1 tk2 tkf2 tk3 tkf3 tklt
  have tk0 : (wa).cell? ⟨w.heap.size, 0, none⟩ = some (.int .i64 cls) := (H.blk 0 rfl).cell 0
  have tkf0 : (wa).frozen? ⟨w.heap.size, 0, none⟩ = false := (H.blk 0 rfl).frozen 0
  have tk1 : (wa).cell? ⟨w.heap.size, 1, none⟩ = some (.int .i64 id) := (H.blk 0 rfl).cell 1
  have tkf1 : (wa).frozen? ⟨w.heap.size, 1, none⟩ = false := (H.blk 0 rfl).frozen 1
  have tk2 : (wa).cell? ⟨w.heap.size, 2, none⟩ = some (.int .i64 am) := (H.blk 0 rfl).cell 2
  have tkf2 : (wa).frozen? ⟨w.heap.size, 2, none⟩ = false := (H.blk 0 rfl).frozen 2
  have tk3 : (wa).cell? ⟨w.heap.size, 3, none⟩ = some (.int .i64 tag) := (H.blk 0 rfl).cell 3
  have tkf3 : (wa).frozen? ⟨w.heap.size, 3, none⟩ = false := (H.blk 0 rfl).frozen 3
  have tklt : w.heap.size < (wa).heap.size := H.lt 0 rfl
  clear hba hF hW0
  go_wp2
  go_ret2
  exact ⟨rfl, H.below⟩
set_option maxHeartbeats 1000000 in
theorem tbody_no (cls id am tag f : Int) (w : World) (hf : Hid (tfault cls id am tag = f)) (h0 : f ≠ 0) :
    Calls Tryd.prog 28 #[.agg #[.int .i64 cls, .int .i64 id, .int .i64 am, .int .i64 tag]] w fun e w' => e = .returned (.tuple #[.int .i64 0, .int .i64 f]) ∧ Below w.heap.size w w' := by
  have hF := fun W => fault_is hf W
  have g0 : (f == 0) = false := by simp [h0]
  have H := Mem.init w
  obtain ⟨W0, hW0⟩ : ∃ W0, (w).alloc (.cells #[.int .i64 cls, .int .i64 id, .int .i64 am, .int .i64 tag] 48) = W0 := ⟨_, rfl⟩
  replace H : Mem (w) [] _ [.blk (w.heap.size) 48 #[.int .i64 cls, .int .i64 id, .int .i64 am, .int .i64 tag]] := Mem.alloc H (w.heap.size) (by first | (simp; done) | (simp; omega)) #[.int .i64 cls, .int .i64 id, .int .i64 am, .int .i64 tag] 48
  rw [hW0] at H
  have tk0 : (W0).cell? ⟨w.heap.size, 0, none⟩ = some (.int .i64 cls) := (H.blk 0 rfl).cell 0
  have tkf0 : (W0).frozen? ⟨w.heap.size, 0, none⟩ = false := (H.blk 0 rfl).frozen 0
  have tk1 : (W0).cell? ⟨w.heap.size, 1, none⟩ = some (.int .i64 id) := (H.blk 0 rfl).cell 1
  have tkf1 : (W0).frozen? ⟨w.heap.size, 1, none⟩ = false := (H.blk 0 rfl).frozen 1
  have tk2 : (W0).cell? ⟨w.heap.size, 2, none⟩ = some (.int .i64 am) := (H.blk 0 rfl).cell 2
  have tkf2 : (W0).frozen? ⟨w.heap.size, 2, none⟩ = false := (H.blk 0 rfl).frozen 2
  have tk3 : (W0).cell? ⟨w.heap.size, 3, none⟩ = some (.int .i64 tag) := (H.blk 0 rfl).cell 3
  have tkf3 : (W0).frozen? ⟨w.heap.size, 3, none⟩ = false := (H.blk 0 rfl).frozen 3
  have tklt : w.heap.size < (W0).heap.size := H.lt 0 rfl
  go_enter Tryd.func28, Tryd.ntmps28
  go_wp2_with fail
  refine (hF _).mono ?_
  rintro e wa ⟨rfl, hba⟩
  replace H : Mem (w) [] (wa) [.blk (w.heap.size) 48 #[.int .i64 cls, .int .i64 id, .int .i64 am, .int .i64 tag]] := Mem.call H hba
  clear tk0 tkf0 tk1 tkf1 tk2 tkf2 tk3 tkf3 tklt
  clear hba hF hW0
  go_wp2
  go_ret2
  exact ⟨rfl, H.below⟩
end Go.Proofs.YtopnlkhepjbjkaaDoor
