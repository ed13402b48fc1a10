/- cell: words that outlast a power cut; and the drawers of words. -/
import Derived.Test.YtakdjggpengbhaaDoorCellD
namespace Go.Proofs.YtakdjggpengbhaaDoor
open Go.RowKit

theorem u32_info : (Tryd.prog.info? 118).map (fun i => (i.zero, i.size, i.bytes)) = some (some (.int .u32 0), 1, 4) := by kernel_rfl
theorem el_u32 : Elem Tryd.prog 71 118 1 4 := elem_of Tryd.underlying71 u32_info rfl (by omega)
theorem ws_fit {v : Value} {w : World} (h : Fit Tryd.prog w 71 v) : ∃ xs, IsWs w v xs := by
  obtain ⟨A, n, c, rfl, hc⟩ := h.slice Tryd.underlying71
  obtain ⟨hn, hm, zs, hz, hw, hr⟩ := hc.slice_int Tryd.underlying71 (by kernel_rfl) Tryd.underlying118
  have hb : ∀ z ∈ zs, 0 ≤ z ∧ z ≤ 4294967295 := fun z hz => bounds_u32 (hw z hz)
  have e : zs.map (Value.int .u32) = ws (zs.map Int.toNat) := by
    unfold ws
    rw [List.map_map]
    refine List.map_congr_left fun z hz => ?_
    show _ = Value.int .u32 ((z.toNat : Nat) : Int)
    rw [Int.toNat_of_nonneg (hb z hz).1]
  rw [e] at hr
  subst hz
  refine ⟨zs.map Int.toNat, A, c, by simp, by simpa using hn, hm, fun x hx => ?_, by simpa using hr⟩
  obtain ⟨z, hz, rfl⟩ := List.mem_map.1 hx
  have := hb z hz
  omega
/-- What 'some' makes of words. -/
def someN (xs : List Nat) (most : Nat) : List Nat := if xs.take most = [] then [0] else xs.take most
theorem someN_pos (xs : List Nat) (most : Nat) : 0 < (someN xs most).length := by
  unfold someN; split
  · simp
  · rename_i h; exact List.length_pos_iff.2 h
theorem someN_le (xs : List Nat) (most : Nat) (h : 1 ≤ most) : (someN xs most).length ≤ most := by
  unfold someN; split
  · simpa using h
  · simp; omega
theorem someN_lt {xs : List Nat} {most : Nat} (h : ∀ x ∈ xs, x < 4294967296) : ∀ x ∈ someN xs most, x < 4294967296 := by
  unfold someN; split
  · simp
  · exact fun x hx => h x (List.mem_of_mem_take hx)
/-- The answer is a slice of the call's own that reads as these words. -/
def RetWs (xs : List Nat) (w : World) (e : Ending) (w' : World) : Prop := ∃ v, e = .returned v ∧ IsWs w' v xs ∧ Below w.heap.size w w'
/-- The answer is a row of words that the call has made. -/
def RetOwn (xs : List Nat) (w : World) (e : Ending) (w' : World) : Prop :=
  ∃ A c, e = .returned (.slice A xs.length c) ∧ (∀ x ∈ xs, x < 4294967296) ∧ w'.ownsRow w.heap.size 118 1 (.slice A xs.length c) xs.length (ws xs) ∧ Below w.heap.size w w'
theorem RetOwn.is {xs : List Nat} {w : World} {e : Ending} {w' : World} (h : RetOwn xs w e w') : RetWs xs w e w' := by
  obtain ⟨A, c, h1, h2, h3, h4⟩ := h
  exact ⟨_, h1, isws_own rfl h2 h3, h4⟩
/-- The answer is words and no error. -/
def RetWsOk (xs : List Nat) (w : World) (e : Ending) (w' : World) : Prop := ∃ v, e = .returned (.tuple #[v, .int .i64 0]) ∧ IsWs w' v xs ∧ Below w.heap.size w w'
end Go.Proofs.YtakdjggpengbhaaDoor
