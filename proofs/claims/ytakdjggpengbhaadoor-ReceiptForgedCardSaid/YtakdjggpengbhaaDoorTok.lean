/- token: bounds, fault, Body. -/
import Derived.Test.YtakdjggpengbhaaDoorTokD
import Derived.Test.YtakdjggpengbhaaDoorHeap
import Derived.OwnWalk
namespace Go.Proofs.YtakdjggpengbhaaDoor
open Go.RowKit
set_option linter.unusedVariables false
set_option maxHeartbeats 1000000 in
theorem bounds_is {cls lo hi : Int} {ok : Bool} (h : Hid (cb cls = (lo, hi, ok))) (w : World) :
    Calls Tryd.prog 98 #[.int .i64 cls] w fun e w' => e = .returned (.tuple #[.int .i64 lo, .int .i64 hi, .bool ok]) ∧ w = w' := by
  have h := h.out
  unfold cb at h
  by_cases c0 : cls = 0
  · subst c0
    simp at h
    obtain ⟨rfl, rfl, rfl⟩ := h
    go_enter Tryd.func98, Tryd.ntmps98
    go_wp2
    go_ret3
    exact ⟨rfl, rfl⟩
  · by_cases c2 : cls = 2
    · subst c2
      simp at h
      obtain ⟨rfl, rfl, rfl⟩ := h
      go_enter Tryd.func98, Tryd.ntmps98
      go_wp2
      go_ret3
      exact ⟨rfl, rfl⟩
    · by_cases c1 : cls = 1
      · subst c1
        simp at h
        obtain ⟨rfl, rfl, rfl⟩ := h
        go_enter Tryd.func98, Tryd.ntmps98
        go_wp2
        go_ret3
        exact ⟨rfl, rfl⟩
      · by_cases c3 : cls = 3
        · subst c3
          simp at h
          obtain ⟨rfl, rfl, rfl⟩ := h
          go_enter Tryd.func98, Tryd.ntmps98
          go_wp2
          go_ret3
          exact ⟨rfl, rfl⟩
        · rw [if_neg c0, if_neg c2, if_neg (by omega)] at h
          simp at h
          obtain ⟨rfl, rfl, rfl⟩ := h
          have d0 : (cls == 0) = false := by simp [c0]
          have d1 : (cls == 1) = false := by simp [c1]
          have d2 : (cls == 2) = false := by simp [c2]
          have d3 : (cls == 3) = false := by simp [c3]
          go_enter Tryd.func98, Tryd.ntmps98
          go_wp2
          go_ret3
          exact ⟨rfl, rfl⟩
set_option maxRecDepth 100000 in
set_option maxHeartbeats 1000000 in
theorem fault_is {cls id am tag f : Int} (hf : Hid (tfault cls id am tag = f)) (w : World) :
    Calls Tryd.prog 70 #[.agg #[.int .i64 cls, .int .i64 id, .int .i64 am, .int .i64 tag]] w fun e w' => e = .returned (.int .i64 f) ∧ Below w.heap.size w w' := by
  obtain ⟨lo, hi, ok, hcb⟩ : ∃ lo hi ok, cb cls = (lo, hi, ok) := ⟨_, _, _, rfl⟩
  have hB := fun W => bounds_is (Lib.hid hcb) W
  have hf := hf.out
  unfold tfault at hf
  rw [hcb] at hf
  dsimp only at hf
  have H := Mem.init w
  obtain ⟨W0, hW0⟩ : ∃ W0, (w).alloc (.cells #[.int .i64 cls, .int .i64 id, .int .i64 am, .int .i64 tag] 97) = W0 := ⟨_, rfl⟩
  replace H : Mem (w) [] _ [.blk (w.heap.size) 97 #[.int .i64 cls, .int .i64 id, .int .i64 am, .int .i64 tag]] := Mem.alloc H (w.heap.size) (by first | (simp; done) | (simp; omega)) #[.int .i64 cls, .int .i64 id, .int .i64 am, .int .i64 tag] 97
  rw [hW0] at H
  have tk0 : (W0).cell? ⟨w.heap.size, 0, none⟩ = some (.int .i64 cls) := (H.blk 0 rfl).cell 0
  have tkf0 : (W0).frozen? ⟨w.heap.size, 0, none⟩ = false := (H.blk 0 rfl).frozen 0
  have tk1 : (W0).cell? ⟨w.heap.size, 1, none⟩ = some (.int .i64 id) := (H.blk 0 rfl).cell 1
  have tkf1 : (W0).frozen? ⟨w.heap.size, 1, none⟩ = false := (H.blk 0 rfl).frozen 1
  have tk2 : (W0).cell? ⟨w.heap.size, 2, none⟩ = some (.int .i64 am) := (H.blk 0 rfl).cell 2
  have tkf2 : (W0).frozen? ⟨w.heap.size, 2, none⟩ = false := (H.blk 0 rfl).frozen 2
  have tk3 : (W0).cell? ⟨w.heap.size, 3, none⟩ = some (.int .i64 tag) := (H.blk 0 rfl).cell 3
  have tkf3 : (W0).frozen? ⟨w.heap.size, 3, none⟩ = false := (H.blk 0 rfl).frozen 3
  have tklt : w.heap.size < (W0).heap.size := H.lt 0 rfl
  cases ok with
  | false =>
    simp at hf
    subst hf
    go_enter Tryd.func70, Tryd.ntmps70
    go_wp2_with (go_at_call 98; with_reducible refine (hB _).mono ?_; rintro e w' ⟨rfl, rfl⟩)
    go_ret
    exact ⟨rfl, H.below⟩
  | true =>
    rw [if_neg (by simp)] at hf
    by_cases g1 : id < 1
    · rw [if_pos (.inl g1)] at hf
      subst hf
      go_enter Tryd.func70, Tryd.ntmps70
      go_wp2_with (go_at_call 98; with_reducible refine (hB _).mono ?_; rintro e w' ⟨rfl, rfl⟩)
      go_ret
      exact ⟨rfl, H.below⟩
    · by_cases g2 : 1048575 < id
      · rw [if_pos (by omega)] at hf
        subst hf
        go_enter Tryd.func70, Tryd.ntmps70
        go_wp2_with (go_at_call 98; with_reducible refine (hB _).mono ?_; rintro e w' ⟨rfl, rfl⟩)
        go_ret
        exact ⟨rfl, H.below⟩
      · by_cases g3 : am < lo
        · rw [if_pos (by omega)] at hf
          subst hf
          go_enter Tryd.func70, Tryd.ntmps70
          go_wp2_with (go_at_call 98; with_reducible refine (hB _).mono ?_; rintro e w' ⟨rfl, rfl⟩)
          go_ret
          exact ⟨rfl, H.below⟩
        · by_cases g4 : hi < am
          · rw [if_pos (by omega)] at hf
            subst hf
            go_enter Tryd.func70, Tryd.ntmps70
            go_wp2_with (go_at_call 98; with_reducible refine (hB _).mono ?_; rintro e w' ⟨rfl, rfl⟩)
            go_ret
            exact ⟨rfl, H.below⟩
          · by_cases g5 : tag < 0
            · rw [if_pos (by omega)] at hf
              subst hf
              go_enter Tryd.func70, Tryd.ntmps70
              go_wp2_with (go_at_call 98; with_reducible refine (hB _).mono ?_; rintro e w' ⟨rfl, rfl⟩)
              go_ret
              exact ⟨rfl, H.below⟩
            · by_cases g6 : 65535 < tag
              · rw [if_pos (by omega)] at hf
                subst hf
                go_enter Tryd.func70, Tryd.ntmps70
                go_wp2_with (go_at_call 98; with_reducible refine (hB _).mono ?_; rintro e w' ⟨rfl, rfl⟩)
                go_ret
                exact ⟨rfl, H.below⟩
              · rw [if_neg (by omega)] at hf
                subst hf
                go_enter Tryd.func70, Tryd.ntmps70
                go_wp2_with (go_at_call 98; with_reducible refine (hB _).mono ?_; rintro e w' ⟨rfl, rfl⟩)
                go_ret
                exact ⟨rfl, H.below⟩
end Go.Proofs.YtakdjggpengbhaaDoor
