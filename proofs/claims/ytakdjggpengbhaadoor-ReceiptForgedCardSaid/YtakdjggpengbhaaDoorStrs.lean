/- Slices of texts that the call itself has made: turned round; joined. -/
import Derived.Test.YtakdjggpengbhaaDoorHeap
import Derived.Test.YtakdjggpengbhaaDoorShelf
import Derived.Sort.OwnSorted
import Derived.Lib.Join
namespace Go.Proofs.YtakdjggpengbhaaDoor
open Go.RowKit Go.Sort
set_option linter.unusedVariables false
section
variable {P : Program} {w0 w : World} {G : List Nat} {L : List Chunk} {base c n i : Nat} {e : TypeId} {A : Option Addr}
/-- Texts as cells. -/
def strs (ss : List (List UInt8)) : List Value := ss.map encStr
theorem strs_len (ss : List (List UInt8)) : (strs ss).length = ss.length := by simp [strs]
theorem strs_snoc (ss : List (List UInt8)) (s : List UInt8) : strs (ss ++ [s]) = strs ss ++ [encStr s] := by simp [strs]
theorem strs_snoc2 (ss : List (List UInt8)) (s : ByteArray) : strs (ss ++ [s.data.toList]) = strs ss ++ [.string s] := by rw [strs_snoc]
theorem mem_reversed {g q : Nat} {ss : List (List UInt8)} (H : Mem w0 G w L) (hi : L[i]? = some (.row base e 1 (.slice (some ⟨g, 0, none⟩) n c) n (strs ss))) :
    Mem w0 G (putRow encStr (Sort.ahead w q) g 0 ss.reverse.toArray) (L.set i (.row base e 1 (.slice (some ⟨g, 0, none⟩) n c) n (strs ss.reverse))) := by
  have hown := H.own_ i hi
  have hn : ss.length = n := by have := hown.1; rw [strs_len] at this; omega
  subst hn
  rcases hown.2 with ⟨h0, _⟩ | ⟨g', cap', cur, hv, hb0, hb, h1, h2, h3, h4⟩
  · cases h0
  · cases hv
    have k1 := ownsRow_sorted (n := q) (os := #[]) (ss := ss) (ts := ss.reverse) (by simp) hb0 hb h1 h2 h3
    have k2 := grownBy_sorted (w := w) (g := g) (n := q) (os := #[]) ss.reverse.toArray
    rw [grow_empty] at k1 k2
    exact H.turn hi k2 (c' := .row base e 1 (.slice (some ⟨g, 0, none⟩) ss.length c) ss.length (strs ss.reverse)) k1 (fun k hk => .inl hk)
theorem own_holds {g : Nat} {ss : List (List UInt8)} (hown : w.ownsRow base e 1 (.slice (some ⟨g, 0, none⟩) n c) n (strs ss)) : Holds encStr w g 0 ss.toArray ∧ g < w.heap.size ∧ n ≤ c ∧ n ≤ 9223372036854775807 := by
  have hn : ss.length = n := by have := hown.1; rw [strs_len] at this; omega
  subst hn
  rcases hown.2 with ⟨h0, _⟩ | ⟨g', cap', cur, hv, hb0, hb, h1, h2, h3, h4⟩
  · cases h0
  · cases hv
    exact ⟨holds_of_block hb (by simpa [strs] using h4), (Array.getElem?_eq_some_iff.1 hb).1, h1, by unfold maxLen at h2; omega⟩
end
theorem revS_mem (ss : List (List UInt8)) (A : Option Addr) (n c i base : Nat) (e : TypeId) (w0 w : World) (G : List Nat) (L : List Chunk) (H : Mem w0 G w L) (hi : L[i]? = some (.row base e 1 (.slice A n c) n (strs ss))) :
    Calls Tryd.prog 90 #[.slice A n c] w fun e' w' => e' = .returned (.tuple #[]) ∧ Mem w0 G w' (L.set i (.row base e 1 (.slice A n c) n (strs ss.reverse))) := by
  have hown := H.own_ i hi
  have hn : ss.length = n := by have := hown.1; rw [strs_len] at this; omega
  rcases hown.2 with ⟨h0, h0'⟩ | ⟨g', cap', cur, hv, _⟩
  · cases h0
    have hs : ss = [] := List.eq_nil_of_length_eq_zero (by omega)
    subst hs
    refine (Tryd.slices_Reverse_string_empty none 0 w).mono ?_
    rintro e' w' ⟨he, rfl⟩
    refine ⟨he, ?_⟩
    have hil : i < L.length := (List.getElem?_eq_some_iff.1 hi).1
    have : L.set i (.row base e 1 (.slice none 0 0) 0 (strs [].reverse)) = L := by
      apply List.ext_getElem?
      intro j
      rw [List.getElem?_set]
      split
      · subst_vars; rw [hi]; rfl
      · rfl
    rw [this]; exact H
  · cases hv
    obtain ⟨k1, k2, k3, k4⟩ := own_holds hown
    have hc := Tryd.slices_Reverse_string_arr g' 0 c ss.toArray w k1 (by simp; omega)
    simp only [List.size_toArray, hn] at hc
    refine hc.mono ?_
    rintro e' w' ⟨he, q, rfl⟩
    refine ⟨he, ?_⟩
    have := mem_reversed (q := q) H hi
    simpa using this
theorem joinS_own (ss : List (List UInt8)) (A : Option Addr) (n c base : Nat) (e : TypeId) (sep : ByteArray) (w : World) (hown : w.ownsRow base e 1 (.slice A n c) n (strs ss)) (hn48 : n ≤ 100000) (hlen : (Lib.join ss sep.data.toList).length ≤ 100000000) :
    Calls Tryd.prog 35 #[.slice A n c, .string sep] w fun e w' => e = .returned (.string ⟨(Lib.join ss sep.data.toList).toArray⟩) ∧ Below w.heap.size w w' := by
  have hn : ss.length = n := by have := hown.1; rw [strs_len] at this; omega
  rcases hown.2 with ⟨h0, h0'⟩ | ⟨g', cap', cur, hv, _⟩
  · cases h0
    have hs : ss = [] := List.eq_nil_of_length_eq_zero (by omega)
    subst hs
    refine (Tryd.strings_Join_none none 0 sep w).mono ?_
    rintro e' w' ⟨he, rfl⟩
    exact ⟨he, Below.refl _ _⟩
  · cases hv
    obtain ⟨k1, k2, k3, k4⟩ := own_holds hown
    have hm : (ss.map fun l => (⟨l.toArray⟩ : ByteArray)).map (fun b => b.data.toList) = ss := by
      rw [List.map_map]
      exact (List.map_congr_left (fun l _ => rfl)).trans (List.map_id ss)
    have hc := Tryd.strings_Join g' 0 c (ss.map fun l => (⟨l.toArray⟩ : ByteArray)) sep w (fun j x hx => by
        rw [List.getElem?_map] at hx
        obtain ⟨l, hl, rfl⟩ := Option.map_eq_some_iff.1 hx
        have hj : j < ss.length := (List.getElem?_eq_some_iff.1 hl).1
        have h2 := (k1 j (by simpa using hj)).1
        rw [h2]
        have : ss.toArray[j]! = l := by
          rw [getElem!_pos _ j (by simpa using hj)]
          have := (List.getElem?_eq_some_iff.1 hl).2
          simpa using this
        rw [this]) k2 (by simp; omega) (by simp; omega) (by rw [hm]; omega)
    rw [hm, List.length_map, hn] at hc
    exact hc
theorem join_flat (xs : List (List UInt8)) : Lib.join xs [] = xs.flatten := by
  cases xs with
  | nil => rfl
  | cons x r => rw [Lib.join_cons]; simp [Lib.joinTail]
end Go.Proofs.YtakdjggpengbhaaDoor
