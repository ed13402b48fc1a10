/- check: what its functions compute, on texts of digits. -/
import Derived.Test.YtakdjggpengbhaaDoorPicked
import Derived.Test.YtakdjggpengbhaaDoorFit
import Derived.Test.YtakdjggpengbhaaDoorStr
namespace Go.Proofs.YtakdjggpengbhaaDoor
open Go.RowKit

/-- The rest by 97. -/
def rest97 (l : List Nat) : Nat := l.foldl (fun n d => (n * 10 + d) % 97) 0
theorem rest97_snoc (l : List Nat) (d : Nat) : rest97 (l ++ [d]) = (rest97 l * 10 + d) % 97 := by simp [rest97]
theorem rest97_lt (l : List Nat) : rest97 l < 97 := by
  rcases List.eq_nil_or_concat l with rfl | ⟨l, d, rfl⟩
  · decide
  · rw [List.concat_eq_append, rest97_snoc]; omega
theorem rest97_from (l : List Nat) : ∀ {n m : Nat}, n < 97 → m < 97 → l.foldl (fun n d => (n * 10 + d) % 97) n = l.foldl (fun n d => (n * 10 + d) % 97) m → n = m := by
  induction l with
  | nil => intro n m _ _ h; exact h
  | cons d l ih =>
    intro n m hn hm h
    have := ih (Nat.mod_lt _ (by omega)) (Nat.mod_lt _ (by omega)) h
    omega
theorem rest97_tail {a b q : List Nat} (h : rest97 (a ++ q) = rest97 (b ++ q)) : rest97 a = rest97 b := by
  unfold rest97 at h
  rw [List.foldl_append, List.foldl_append] at h
  exact rest97_from q (rest97_lt a) (rest97_lt b) h
/-- One wrong digit turns the rest. -/
theorem rest97_slip {p q : List Nat} {x d : Nat} (hx : x ≤ 9) (hd : d ≤ 9) (h : rest97 (p ++ x :: q) = rest97 (p ++ d :: q)) : x = d := by
  have h1 : rest97 ((p ++ [x]) ++ q) = rest97 ((p ++ [d]) ++ q) := by simpa using h
  have h2 := rest97_tail h1
  rw [rest97_snoc, rest97_snoc] at h2
  omega
/-- So do two neighbours that change places. -/
theorem rest97_swap1 {p q : List Nat} {x y : Nat} (hx : x ≤ 9) (hy : y ≤ 9) (h : rest97 (p ++ x :: y :: q) = rest97 (p ++ y :: x :: q)) : x = y := by
  have h1 : rest97 (((p ++ [x]) ++ [y]) ++ q) = rest97 (((p ++ [y]) ++ [x]) ++ q) := by simpa using h
  have h2 := rest97_tail h1
  simp only [rest97_snoc] at h2
  omega
theorem rest97_swap2 {p q : List Nat} {x m y : Nat} (hx : x ≤ 9) (hy : y ≤ 9) (h : rest97 (p ++ x :: m :: y :: q) = rest97 (p ++ y :: m :: x :: q)) : x = y := by
  have h1 : rest97 ((((p ++ [x]) ++ [m]) ++ [y]) ++ q) = rest97 ((((p ++ [y]) ++ [m]) ++ [x]) ++ q) := by simpa using h
  have h2 := rest97_tail h1
  simp only [rest97_snoc] at h2
  omega
/-- k noughts more. -/
def p10 : Nat → Nat → Nat
  | 0, a => a
  | k + 1, a => p10 k a * 10 % 97
theorem p10_lt {k a : Nat} (h : a < 97) : p10 k a < 97 := by
  cases k with
  | zero => exact h
  | succ k => exact Nat.mod_lt _ (by omega)
theorem rest97_append (a : List Nat) : ∀ k (b : List Nat), b.length = k → rest97 (a ++ b) = (p10 k (rest97 a) + rest97 b) % 97
  | 0, b, h => by
    have hb := List.eq_nil_of_length_eq_zero h
    subst hb
    have := rest97_lt a
    simp [p10, rest97] at *
    omega
  | k + 1, b, h => by
    rcases List.eq_nil_or_concat b with rfl | ⟨b, d, rfl⟩
    · simp at h
    · rw [List.concat_eq_append] at *
      have ih := rest97_append a k b (by simp at h; exact h)
      rw [← List.append_assoc, rest97_snoc, rest97_snoc, ih, p10]
      omega
theorem take_snoc {l : List Nat} {k : Nat} (h : k < l.length) : l.take (k + 1) = l.take k ++ [l[k]] := by
  rw [List.take_succ_eq_append_getElem h]

set_option maxHeartbeats 400000 in
theorem digits_ok (l : List Nat) (w : World) (hl : ∀ d ∈ l, d ≤ 9) (h0 : 0 < l.length) (h1 : l.length ≤ 200) :
    Calls Tryd.prog 48 #[.string (dstr l)] w fun e w' => e = .returned (.int .i64 0) ∧ Below w.heap.size w w' := by
  have hsz := dstr_size l
  have hne := dstr_empty h0
  go_enter Tryd.func48, Tryd.ntmps48
  go_wp2
  go_loopw [4] (fun r wr => ∃ k, k ≤ l.length ∧ wr = w.iter (dstr l) k) (fun _ wr => l.length - wr.iterPos w.heap.size)
  case atStart => exact ⟨0, by omega, rfl⟩
  case round =>
    obtain ⟨k, hk, rfl⟩ := hrel
    by_cases hlt : k < l.length
    · have hb := dstr_byte hl k (by rw [hsz]; exact hlt)
      have hd := hl l[k] (List.getElem_mem _)
      have hnx := fun ty => run_next_ascii (P := Tryd.prog) w (dstr l) k ty (by rw [hsz]; exact hlt) (by rw [hb]; omega)
      rw [hb] at hnx
      have h1 : (48 : Int) ≤ ((48 + l[k] : Nat) : Int) := by omega
      have h2 : ((48 + l[k] : Nat) : Int) ≤ 57 := by omega
      clear hb hl
      go_wp2
      go_roundw
      case rel => exact ⟨k + 1, by omega, rfl⟩
      case measure => simp only [iterPos_iter]; omega
    · have hnx := fun ty => run_next_end (P := Tryd.prog) w (dstr l) k ty (by rw [hsz]; exact hlt)
      go_wp2
      go_ret
      exact ⟨rfl, below_iter _ _ _⟩

set_option maxHeartbeats 400000 in
theorem rest_ok (l : List Nat) (w : World) (hl : ∀ d ∈ l, d ≤ 9) (h0 : 0 < l.length) (h1 : l.length ≤ 200) :
    Calls Tryd.prog 24 #[.string (dstr l)] w fun e w' => e = .returned (.tuple #[.int .i64 (rest97 l), .int .i64 0]) ∧ Below w.heap.size w w' := by
  have hsz := dstr_size l
  go_enter Tryd.func24, Tryd.ntmps24
  go_wp2_with (go_at_call 48; refine (digits_ok l _ hl h0 h1).mono ?_; rintro e w1 ⟨rfl, hb1⟩)
  go_loopw [5, 7] (fun n r wr => ∃ k, k ≤ l.length ∧ wr = w1.iter (dstr l) k ∧ n = .int .i64 (rest97 (l.take k))) (fun _ _ wr => l.length - wr.iterPos w1.heap.size)
  case atStart => exact ⟨0, by omega, rfl, rfl⟩
  case round =>
    obtain ⟨k, hk, rfl, rfl⟩ := hrel
    have hr := rest97_lt (l.take k)
    by_cases hlt : k < l.length
    · have hb := dstr_byte hl k (by rw [hsz]; exact hlt)
      have hd := hl l[k] (List.getElem_mem _)
      have hnx := fun ty => run_next_ascii (P := Tryd.prog) w1 (dstr l) k ty (by rw [hsz]; exact hlt) (by rw [hb]; omega)
      rw [hb] at hnx
      have HS := Lib.hid (show rest97 (l.take (k + 1)) = (rest97 (l.take k) * 10 + l[k]) % 97 by rw [take_snoc hlt, rest97_snoc])
      clear hb hl
      generalize rest97 (l.take k) = a at *
      generalize l[k] = d at *
      go_wp2
      go_roundw
      case rel => exact ⟨k + 1, by omega, rfl, by rw [HS.out]; go_num⟩
      case measure => simp only [iterPos_iter]; omega
    · have hnx := fun ty => run_next_end (P := Tryd.prog) w1 (dstr l) k ty (by rw [hsz]; exact hlt)
      obtain rfl : k = l.length := by omega
      go_wp2
      go_ret2
      exact ⟨by rw [List.take_length]; rfl, hb1.trans ((below_iter _ _ _).mono hb1.size)⟩
end Go.Proofs.YtakdjggpengbhaaDoor
