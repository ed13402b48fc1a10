/- token.Parse at any text. -/
import Derived.Test.YtopnlkhepjbjkaaDoorG28
namespace Go.Proofs.YtopnlkhepjbjkaaDoor
open Go.RowKit
set_option linter.unusedVariables false
theorem parse_any (S : ByteArray) : ∃ c i a t E : Nat, (E = 0 → TkOk c i a t) ∧ ∀ W, Calls Tryd.prog 20 #[.string S] W (RetTok c i a t E W) := by
  by_cases h20 : S.size = 20
  · rcases str_split S with ⟨ds, hd, rfl⟩ | ⟨j, hj, hn, hd⟩
    · rw [dstr_size] at h20
      obtain ⟨⟨c, i, a, t, E⟩, hR⟩ : ∃ X, parseS (val10 ds) = X := ⟨_, rfl⟩
      exact ⟨c, i, a, t, E, (fun h => by subst h; exact (parseS_ok hR).1), fun W => parse_ok ds W hd h20 c i a t E (Lib.hid hR)⟩
    · exact ⟨0, 0, 0, 0, 7, (fun h => by cases h), fun W => parse_sign S j hj W h20 hn hd⟩
  · exact ⟨0, 0, 0, 0, 6, (fun h => by cases h), fun W => parse_len S W h20⟩
theorem parse_tok (cls id am tag : Nat) (hk : TkOk cls id am tag) (l : List Nat) (hl : pad 20 (tokN cls id am tag * 97) = l) (h20 : l.length = 20) : ∀ W, Calls Tryd.prog 20 #[.string (dstr l)] W (RetTok cls id am tag 0 W) := fun W =>
  parse_ok l W (by rw [← hl]; exact pad_le _ _) h20 cls id am tag 0 (Lib.hid (by rw [← hl, val10_pad]; exact parseS_tok hk))
end Go.Proofs.YtopnlkhepjbjkaaDoor
