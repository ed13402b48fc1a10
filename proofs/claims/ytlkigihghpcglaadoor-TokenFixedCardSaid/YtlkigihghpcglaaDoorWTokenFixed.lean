/- The walk of the law TokenFixed. -/
import Derived.Test.YtlkigihghpcglaaDoorTokL
namespace Go.Proofs.YtlkigihghpcglaaDoor
open Go.RowKit
set_option linter.unusedVariables false
set_option maxRecDepth 100000 in
set_option maxHeartbeats 2000000 in
theorem walk_tokenFixed (w : World) (a0 : ByteArray) (w0 : a0.size ≤ maxLen) :
    Calls Tryd.prog 9 #[.string a0] w fun e w' => e = .returned (.bool true) ∧ Below w.heap.size w w' := by
  have H := Mem.init w
  by_cases h20 : a0.size = 20
  · rcases str_split a0 with ⟨l, hl, rfl⟩ | ⟨j, hj, hn, hd⟩
    · rw [dstr_size] at h20
      obtain ⟨c, i, a, t, E, hR⟩ : ∃ c i a t E, parseS (val10 l) = (c, i, a, t, E) := ⟨_, _, _, _, _, rfl⟩
      have hP := fun W => parse_ok l W hl h20 c i a t E (Lib.hid hR)
      by_cases hE : E = 0
      · subst hE
        obtain ⟨hk, hv⟩ := parseS_ok hR
        have hF := fun W => format_ok c i a t W hk
        rw [show tokD c i a t = l by unfold tokD; rw [← hv]; exact pad_val h20 (by omega) hl] at hF
        clear hR hv hk hl w0 h20
        go_enter Tryd.func9, Tryd.ntmps9
        go_wp2_with fail
        refine (hP _).mono ?_
        rintro e1 wa ⟨rfl, hba⟩
        replace H : Mem (w) [] (wa) [] := Mem.call H hba
        clear hba hP
        go_wp2_with fail
        obtain ⟨wb, hwb⟩ : ∃ wb, (wa).alloc (.cells #[.int .i64 (c : Int), .int .i64 (i : Int), .int .i64 (a : Int), .int .i64 (t : Int)] 52) = wb := ⟨_, rfl⟩
        replace H : Mem (w) [] _ [.blk (wa.heap.size) 52 #[.int .i64 (c : Int), .int .i64 (i : Int), .int .i64 (a : Int), .int .i64 (t : Int)]] := Mem.alloc H (wa.heap.size) (by first | (simp; done) | (simp; omega)) #[.int .i64 (c : Int), .int .i64 (i : Int), .int .i64 (a : Int), .int .i64 (t : Int)] 52
        rw [hwb] at H ⊢
        clear hwb
        refine (hF _).mono ?_
        rintro e1 wc ⟨rfl, hbc⟩
        replace H : Mem (w) [] (wc) [.blk (wa.heap.size) 52 #[.int .i64 (c : Int), .int .i64 (i : Int), .int .i64 (a : Int), .int .i64 (t : Int)]] := Mem.call H hbc
        clear hbc hF
        go_wp2
        go_ret
        exact ⟨rfl, H.below⟩
      · obtain ⟨rfl, rfl, rfl, rfl⟩ := parseS_err hR hE
        have hEb : ((E : Int) != 0) = true := by simp; exact hE
        have hEc : ((E : Int) == 0) = false := by simp; exact hE
        have hEq := fun W => tok_same 0 0 0 0 W
        clear hR hE hl w0 h20
        go_enter Tryd.func9, Tryd.ntmps9
        go_wp2_with fail
        refine (hP _).mono ?_
        rintro e1 wa ⟨rfl, hba⟩
        have H := Mem.init w
        replace H := H.call hba
        clear hba hP
        go_wp2
        go_ret
        exact ⟨rfl, H.call (below_a1 _ _) |>.below⟩
    · have hP := fun W => parse_sign a0 j hj W h20 hn hd
      have hEq := fun W => tok_same 0 0 0 0 W
      clear hn hd w0
      go_enter Tryd.func9, Tryd.ntmps9
      go_wp2_with fail
      refine (hP _).mono ?_
      rintro e1 wa ⟨rfl, hba⟩
      replace H := H.call hba
      clear hba hP
      go_wp2
      go_ret
      exact ⟨rfl, H.call (below_a1 _ _) |>.below⟩
  · have hP := fun W => parse_len a0 W h20
    have hEq := fun W => tok_same 0 0 0 0 W
    clear w0
    go_enter Tryd.func9, Tryd.ntmps9
    go_wp2_with fail
    refine (hP _).mono ?_
    rintro e1 wa ⟨rfl, hba⟩
    replace H := H.call hba
    clear hba hP h20
    go_wp2
    go_ret
    exact ⟨rfl, H.call (below_a1 _ _) |>.below⟩
end Go.Proofs.YtlkigihghpcglaaDoor
