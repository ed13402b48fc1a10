/- cell: words that outlast a power cut; and the drawers of words. -/
import Derived.Test.YtjdbgpkadfnfiaaCellD
namespace Go.Proofs.Ytjdbgpkadfnfiaa
open Go.RowKit

/-- What 'some' makes of words. -/
def someN (xs : List Nat) (most : Nat) : List Nat := if xs.take most = [] then [0] else xs.take most
theorem someN_pos (xs : List Nat) (most : Nat) : 0 < (someN xs most).length := by
  unfold someN; split
  · simp
  · rename_i h; exact List.length_pos_iff.2 h
theorem someN_le (xs : List Nat) (most : Nat) (h : 1 ≤ most) : (someN xs most).length ≤ most := by
  unfold someN; split
  · simpa using h
  · simp; omega
theorem someN_lt {xs : List Nat} {most : Nat} (h : ∀ x ∈ xs, x < 4294967296) : ∀ x ∈ someN xs most, x < 4294967296 := by
  unfold someN; split
  · simp
  · exact fun x hx => h x (List.mem_of_mem_take hx)
/-- The answer is a slice of the call's own that reads as these words. -/
def RetWs (xs : List Nat) (w : World) (e : Ending) (w' : World) : Prop := ∃ v, e = .returned v ∧ IsWs w' v xs ∧ Below w.heap.size w w'
/-- The answer is a row of words that the call has made. -/
def RetOwn (xs : List Nat) (w : World) (e : Ending) (w' : World) : Prop :=
  ∃ A c, e = .returned (.slice A xs.length c) ∧ (∀ x ∈ xs, x < 4294967296) ∧ w'.ownsRow w.heap.size 77 1 (.slice A xs.length c) xs.length (ws xs) ∧ Below w.heap.size w w'
theorem RetOwn.is {xs : List Nat} {w : World} {e : Ending} {w' : World} (h : RetOwn xs w e w') : RetWs xs w e w' := by
  obtain ⟨A, c, h1, h2, h3, h4⟩ := h
  exact ⟨_, h1, isws_own rfl h2 h3, h4⟩
end Go.Proofs.Ytjdbgpkadfnfiaa
