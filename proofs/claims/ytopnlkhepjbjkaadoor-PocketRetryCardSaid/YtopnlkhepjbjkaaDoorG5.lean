/- cell: words that outlast a power cut; and the drawers of words. -/
import Derived.Test.YtopnlkhepjbjkaaDoorG2
namespace Go.Proofs.YtopnlkhepjbjkaaDoor
open Go.RowKit

theorem u32_info : (Tryd.prog.info? 67).map (fun i => (i.zero, i.size, i.bytes)) = some (some (.int .u32 0), 1, 4) := by kernel_rfl
theorem el_u32 : Elem Tryd.prog 23 67 1 4 := elem_of Tryd.underlying23 u32_info rfl (by omega)
theorem ws_fit {v : Value} {w : World} (h : Fit Tryd.prog w 23 v) : ∃ xs, IsWs w v xs := by
  obtain ⟨A, n, c, rfl, hc⟩ := h.slice Tryd.underlying23
  obtain ⟨hn, hm, zs, hz, hw, hr⟩ := hc.slice_int Tryd.underlying23 (by kernel_rfl) Tryd.underlying67
  have hb : ∀ z ∈ zs, 0 ≤ z ∧ z ≤ 4294967295 := fun z hz => bounds_u32 (hw z hz)
  have e : zs.map (Value.int .u32) = ws (zs.map Int.toNat) := by
    unfold ws
    rw [List.map_map]
    refine List.map_congr_left fun z hz => ?_
    show _ = Value.int .u32 ((z.toNat : Nat) : Int)
    rw [Int.toNat_of_nonneg (hb z hz).1]
  rw [e] at hr
  subst hz
  refine ⟨zs.map Int.toNat, A, c, by simp, by simpa using hn, hm, fun x hx => ?_, by simpa using hr⟩
  obtain ⟨z, hz, rfl⟩ := List.mem_map.1 hx
  have := hb z hz
  omega
/-- What 'some' makes of words. -/
def someN (xs : List Nat) (most : Nat) : List Nat := if xs.take most = [] then [0] else xs.take most
theorem someN_pos (xs : List Nat) (most : Nat) : 0 < (someN xs most).length := by
  unfold someN; split
  · simp
  · rename_i h; exact List.length_pos_iff.2 h
theorem someN_le (xs : List Nat) (most : Nat) (h : 1 ≤ most) : (someN xs most).length ≤ most := by
  unfold someN; split
  · simpa using h
  · simp; omega
theorem someN_lt {xs : List Nat} {most : Nat} (h : ∀ x ∈ xs, x < 4294967296) : ∀ x ∈ someN xs most, x < 4294967296 := by
  unfold someN; split
  · simp
  · exact fun x hx => h x (List.mem_of_mem_take hx)
/-- The answer is a slice of the call's own that reads as these words. -/
def RetWs (xs : List Nat) (w : World) (e : Ending) (w' : World) : Prop := ∃ v, e = .returned v ∧ IsWs w' v xs ∧ Below w.heap.size w w'
/-- The answer is a row of words that the call has made. -/
def RetOwn (xs : List Nat) (w : World) (e : Ending) (w' : World) : Prop :=
  ∃ A c, e = .returned (.slice A xs.length c) ∧ (∀ x ∈ xs, x < 4294967296) ∧ w'.ownsRow w.heap.size 67 1 (.slice A xs.length c) xs.length (ws xs) ∧ Below w.heap.size w w'
theorem RetOwn.is {xs : List Nat} {w : World} {e : Ending} {w' : World} (h : RetOwn xs w e w') : RetWs xs w e w' := by
  obtain ⟨A, c, h1, h2, h3, h4⟩ := h
  exact ⟨_, h1, isws_own rfl h2 h3, h4⟩
/-- The answer is words and no error. -/
def RetWsOk (xs : List Nat) (w : World) (e : Ending) (w' : World) : Prop := ∃ v, e = .returned (.tuple #[v, .int .i64 0]) ∧ IsWs w' v xs ∧ Below w.heap.size w w'
theorem w_info : (Tryd.prog.info? 69).map (fun i => (i.zero, i.size, i.bytes)) = some (some (.agg #[.int .i64 0, .int .u32 0]), 2, 16) := by kernel_rfl
set_option maxHeartbeats 400000 in
/-- No write lies outside. -/
theorem apply_fn (a : Nat) (v : Nat) (g n c : Nat) (A : Option Addr) (w : World) (ha : a < n) (hc : w.cell? ⟨g, 0, none⟩ = some (.slice A n c)) :
    Calls Tryd.prog 24 #[.agg #[.int .i64 a, .int .u32 v], .pointer (some ⟨g, 0, none⟩)] w fun e w' => e = .returned (.bool false) ∧ Below w.heap.size w w' := by
  have hg : g < w.heap.size := World.block_lt_of_cell? w _ hc
  go_enter Tryd.func24, Tryd.ntmps24
  go_wp2
  go_ret
  exact ⟨ret_bool (by simp; omega), below_a1 _ _⟩
set_option maxHeartbeats 400000 in
theorem contains_none (v : Value) (l : List (Nat × Nat)) (g n c : Nat) (A : Option Addr) (w : World) (hv : IsWr w v l) (hl : ∀ p ∈ l, p.1 < n) (hc : w.cell? ⟨g, 0, none⟩ = some (.slice A n c)) :
    Calls Tryd.prog 45 #[v, .func (.func 24) #[] #[.pointer (some ⟨g, 0, none⟩)]] w fun e w' => e = .returned (.int .i64 (-1)) ∧ Below w.heap.size w w' := by
  obtain ⟨B, d, rfl, hd1, hd2, hy, hs⟩ := hv
  have hly : l.length ≤ 9223372036854775807 := by unfold maxLen at hd2; omega
  have hg : g < w.heap.size := World.block_lt_of_cell? w _ hc
  clear hd1 hd2 hy
  go_enter Tryd.func45, Tryd.ntmps45
  go_wp2
  go_loopw [5, 8] (fun _ i wr => ∃ k : Nat, k ≤ l.length ∧ i = .int .i64 k ∧ Below w.heap.size w wr) (fun _ i _ => l.length - (intOf i).toNat)
  case atStart => exact ⟨0, by omega, rfl, Below.refl _ _⟩
  case round =>
    obtain ⟨k, hk, rfl, hbr⟩ := hrel
    by_cases hlt : k < l.length
    · obtain ⟨b2, o2, rfl, hB2, hc2⟩ := hs.at_ (by omega)
      have q1 : wr.cell? ⟨b2, o2 + k * 2, none⟩ = some (.int .i64 l[k].1) := (hbr.cell (p := ⟨b2, o2 + k * 2, none⟩) hB2).trans (hc2 _ _ (wrs_get hlt).1)
      have q2 : wr.cell? ⟨b2, o2 + k * 2 + 1, none⟩ = some (.int .u32 l[k].2) := (hbr.cell (p := ⟨b2, o2 + k * 2 + 1, none⟩) hB2).trans (hc2 (k * 2 + 1) _ (wrs_get hlt).2)
      have ha := hl _ (List.getElem_mem hlt)
      have hcr : wr.cell? ⟨g, 0, none⟩ = some (.slice A n c) := (hbr.cell (p := ⟨g, 0, none⟩) hg).trans hc
      clear hc2 hs hl hc
      generalize l[k] = p at *
      obtain ⟨a, x⟩ := p
      go_wp2_with fail
      refine (apply_fn a x g n c A _ ha hcr).mono ?_
      rintro e w1 ⟨rfl, hb1⟩
      go_wp2
      go_roundw
      case rel => exact ⟨k + 1, by omega, by go_num, hbr.step hb1⟩
      case measure => simp [intOf]; omega
    · go_wp2
      go_ret
      exact ⟨rfl, hbr⟩
theorem fits_ok (A : Option Addr) (n c : Nat) (w : World) (h1 : 1 ≤ n) (h2 : n ≤ 2048) : Calls Tryd.prog 22 #[.slice A n c] w fun e w' => e = .returned (.bool true) ∧ w = w' := by
  go_enter Tryd.func22, Tryd.ntmps22
  go_wp2
  go_ret
  exact ⟨ret_true (by simp; omega), rfl⟩
set_option maxHeartbeats 1000000 in
theorem apply_ok (v u : Value) (xs : List Nat) (l : List (Nat × Nat)) (k : Nat) (w : World) (hv : IsWs w v xs) (hu : IsWr w u l) (h1 : 1 ≤ xs.length) (h2 : xs.length ≤ 2048) (h3 : l.length ≤ 4096) (hl : ∀ p ∈ l, p.1 < xs.length) (hk : k ≤ l.length) :
    Calls Tryd.prog 10 #[v, u, .int .i64 k] w (RetWsOk (applyW xs (l.take k)) w) := by
  have hu0 := hu
  obtain ⟨A, c, rfl, hc1, hc2, hx, hr⟩ := hv
  obtain ⟨B, d, rfl, hd1, hd2, hy, hs⟩ := hu
  have hd3 : d ≤ 9223372036854775807 := by unfold maxLen at hd2; omega
  have hmk := run_make_n (P := Tryd.prog) Tryd.underlying23 u32_info xs.length (by omega) (by omega)
  go_enter Tryd.func10, Tryd.ntmps10
  go_wp2_with fail
  refine (fits_ok A xs.length c _ h1 h2).mono ?_
  rintro e w1 ⟨rfl, rfl⟩
  go_wp2_with (go_at_call 23; go_in)
  refine (contains_none (.slice B l.length d) l w.heap.size xs.length c A _ (hu0.below (below_a1 _ _)) hl (by go_simp)).mono ?_
  rintro e w1 ⟨rfl, hb1⟩
  have s1 : w.heap.size < w1.heap.size := by have := hb1.size; simp at this; omega
  have b1 : Below w.heap.size w w1 := (below_a1 _ _).step hb1
  have c1 : w1.cell? ⟨w.heap.size, 0, none⟩ = some (.slice A xs.length c) := by rw [hb1.cell (p := ⟨w.heap.size, 0, none⟩) (by simp)]; go_simp
  clear hb1
  go_wp2_with (with_reducible refine wpList_copy_new rfl (.tmp 35) (.tmp 36) rfl Tryd.underlying23 (by kernel_rfl) w1 xs.length (.int .u32 0) A c (ws xs) rfl rfl ?_ ?_ ?_)
  · exact (hr.below b1).more b1.size
  · intro u hu; simp [ws] at hu; obtain ⟨x, _, rfl⟩ := hu; rfl
  intro w2 hblk hb2
  have b2 : Below w.heap.size w w2 := b1.step hb2
  obtain ⟨g, hg⟩ : ∃ g, g = w1.heap.size := ⟨_, rfl⟩
  rw [← hg] at hblk ⊢
  have hgw : w.heap.size ≤ g := by omega
  clear hb2 c1 s1 b1 hr hmk hu0 hg
  have hBl := hblk.lt
  go_wp2_with fail
  go_loopw [10, 43] (fun _ i wr => ∃ j : Nat, j ≤ k ∧ i = .int .i64 j ∧ Blk wr g 67 (ws (applyW xs (l.take j))).toArray ∧ Below w.heap.size w wr) (fun _ i _ => k - (intOf i).toNat)
  case atStart => exact ⟨0, by omega, rfl, hblk, b2⟩
  case round =>
    obtain ⟨j, hj, rfl, hbj, bj⟩ := hrel
    have hgj := hbj.lt
    by_cases hlt : j < k
    · have hjl : j < l.length := by omega
      obtain ⟨b, off, rfl, hB, hc⟩ := hs.at_ (by omega)
      have q1 : wr.cell? ⟨b, off + j * 2, none⟩ = some (.int .i64 l[j].1) := (bj.cell (p := ⟨b, off + j * 2, none⟩) hB).trans (hc _ _ (wrs_get hjl).1)
      have q2 : wr.cell? ⟨b, off + j * 2 + 1, none⟩ = some (.int .u32 l[j].2) := (bj.cell (p := ⟨b, off + j * 2 + 1, none⟩) hB).trans (hc (j * 2 + 1) _ (wrs_get hjl).2)
      have ha := hl _ (List.getElem_mem hjl)
      have HS := Lib.hid (show ws (applyW xs (l.take (j + 1))) = (ws (applyW xs (l.take j))).set l[j].1 (.int .u32 l[j].2) by
        rw [List.take_succ_eq_append_getElem hjl, applyW_snoc, ws_set])
      obtain ⟨old, q3⟩ : ∃ old, wr.cell? ⟨g, l[j].1, none⟩ = some old := by
        rw [hbj.cell]
        exact ⟨_, Array.getElem?_eq_getElem (by simp [ws_length, applyW_length]; exact ha)⟩
      have q4 := hbj.frozen l[j].1
      have q5 : (wr.alloc (.cells #[.int .i64 l[j].1, .int .u32 l[j].2] 69)).frozen? ⟨g, l[j].1, none⟩ = false := (hbj.alloc _).frozen _
      clear hc hs hl
      generalize l[j] = p at *
      obtain ⟨a, x⟩ := p
      dsimp only at *
      go_wp2
      go_roundw
      case rel =>
        refine ⟨j + 1, by omega, by go_num, ?_, ?_⟩
        · have h := (hbj.set_ a (.int .u32 x)).alloc (.cells #[.int .i64 a, .int .u32 x] 69)
          rw [HS.out]
          simpa using h
        · exact (bj.setCell (p := ⟨g, a, none⟩) hgw _).alloc (by have := bj.size; simp [World.setCell]; omega) _
      case measure => simp [intOf]; omega
    · obtain rfl : j = k := by omega
      go_wp2
      go_ret2
      refine ⟨_, rfl, ?_, bj⟩
      have h := isws_blk (by rw [applyW_length]; unfold maxLen; omega) (applyW_lt hx (fun p hp => hy p (List.mem_of_mem_take hp))) hbj
      rw [applyW_length] at h
      exact h
end Go.Proofs.YtopnlkhepjbjkaaDoor
