/- Slices of slices of words. -/
import Derived.Test.YtfifkfkbfllnfaaDisk
namespace Go.Proofs.Ytfifkfkbfllnfaa
open Go.RowKit
/-- These values read, one by one, as these records. -/
def IsRs (w : World) (vs : List Value) (l : List (List Nat)) : Prop := vs.length = l.length ∧ ∀ i (h : i < l.length), ∃ v, vs[i]? = some v ∧ IsWs w v l[i]
theorem IsRs.below {w w' : World} {vs : List Value} {l : List (List Nat)} (h : IsRs w vs l) (hb : Below w.heap.size w w') : IsRs w' vs l :=
  ⟨h.1, fun i hi => by obtain ⟨v, h1, h2⟩ := h.2 i hi; exact ⟨v, h1, h2.below hb⟩⟩
theorem isrs_nil (w : World) : IsRs w [] [] := ⟨rfl, fun i hi => by simp at hi⟩
theorem IsRs.snoc {w : World} {vs : List Value} {l : List (List Nat)} {v : Value} {r : List Nat} (h : IsRs w vs l) (hv : IsWs w v r) : IsRs w (vs ++ [v]) (l ++ [r]) := by
  refine ⟨by simp [h.1], fun i hi => ?_⟩
  by_cases hl : i < l.length
  · obtain ⟨u, h1, h2⟩ := h.2 i hl
    refine ⟨u, by rw [List.getElem?_append_left (by rw [h.1]; exact hl)]; exact h1, ?_⟩
    rw [List.getElem_append_left hl]; exact h2
  · obtain rfl : i = l.length := by simp at hi; omega
    refine ⟨v, by rw [List.getElem?_append_right (by rw [h.1]; exact Nat.le_refl _), h.1, Nat.sub_self]; rfl, ?_⟩
    rw [List.getElem_append_right (Nat.le_refl _)]
    simpa using hv
theorem IsWs.one {w : World} {v : Value} {r : List Nat} (h : IsWs w v r) : v.oneCell' = true := by
  obtain ⟨A, c, rfl, _⟩ := h; rfl
/-- The value is a slice that reads as these records. -/
def IsRr (w : World) (v : Value) (l : List (List Nat)) : Prop :=
  ∃ (A : Option Addr) (c : Nat) (vs : List Value), v = .slice A l.length c ∧ l.length ≤ c ∧ c ≤ maxLen ∧ Rd w w.heap.size 1 A l.length vs ∧ IsRs w vs l
theorem IsRr.below {w w' : World} {v : Value} {l : List (List Nat)} (h : IsRr w v l) (hb : Below w.heap.size w w') : IsRr w' v l := by
  obtain ⟨A, c, vs, h1, h2, h3, h4, h5⟩ := h
  exact ⟨A, c, vs, h1, h2, h3, (h4.below hb).more hb.size, h5.below hb⟩
theorem IsRr.at_ {w : World} {A : Option Addr} {n c : Nat} {l : List (List Nat)} (h : IsRr w (.slice A n c) l) {k : Nat} (hk : k < l.length) :
    ∃ b off v, A = some ⟨b, off, none⟩ ∧ b < w.heap.size ∧ w.cell? ⟨b, off + k, none⟩ = some v ∧ IsWs w v l[k] := by
  obtain ⟨A', c', vs, e, _, _, hr, hs⟩ := h
  injection e with e1 e2
  subst e1
  obtain ⟨b, off, rfl, hB, hc⟩ := hr.at_ (by omega)
  obtain ⟨v, h1, h2⟩ := hs.2 k hk
  exact ⟨b, off, v, rfl, hB, hc _ _ h1, h2⟩
theorem isrr_own {w : World} {base e : Nat} {A : Option Addr} {n c : Nat} {l : List (List Nat)} {vs : List Value} (hn : l.length = n) (h : w.ownsRow base e 1 (.slice A n c) n vs) (hs : IsRs w vs l) : IsRr w (.slice A n c) l := by
  subst hn
  exact ⟨A, c, vs, rfl, (own_cap h).1, (own_cap h).2, Rd.of_own h, hs⟩
theorem ws_info : (Try.prog.info? 40).map (fun i => (i.zero, i.size, i.bytes)) = some (some (.slice none 0 0), 1, 24) := by kernel_rfl
theorem el_ws : Elem Try.prog 49 40 1 24 := elem_of Try.underlying49 ws_info rfl (by omega)
/-- A slice of slices of words that came in. -/
theorem recs_fit {v : Value} {w : World} (h : Fit Try.prog w 49 v) : ∃ l, IsRr w v l := by
  obtain ⟨A, n, c, rfl, hc⟩ := h.slice Try.underlying49
  obtain ⟨hn, hm, rows, hr, hw, hrd⟩ := hc.slice Try.underlying49 (s := 1) (by kernel_rfl) (by omega)
  have key : ∀ r ∈ rows, ∃ u xs, r = [u] ∧ IsWs w u xs := by
    intro r hr
    obtain ⟨h1, h2⟩ := hw r hr
    have h2' := h2
    obtain ⟨H, enc, fu, y, hy⟩ := h2
    rcases DataW.trod_slice Try.underlying40 hy with ⟨h0, _⟩ | ⟨a, len, cap, elems, rest, m, _, h0, _⟩
    · subst h0
      exact ⟨_, [], rfl, none, 0, rfl, Nat.le_refl _, Nat.zero_le _, by simp, Rd.nil_⟩
    · subst h0
      obtain ⟨g1, g2, zs, hz, hwz, hrz⟩ := h2'.slice_int Try.underlying40 (by kernel_rfl) Try.underlying60
      have hb : ∀ z ∈ zs, 0 ≤ z ∧ z ≤ 4294967295 := fun z hz => bounds_u32 (hwz z hz)
      have e : zs.map (Value.int .u32) = ws (zs.map Int.toNat) := by
        unfold ws
        rw [List.map_map]
        refine List.map_congr_left fun z hz => ?_
        show _ = Value.int .u32 ((z.toNat : Nat) : Int)
        rw [Int.toNat_of_nonneg (hb z hz).1]
      rw [e] at hrz
      subst hz
      refine ⟨_, zs.map Int.toNat, rfl, some a, cap, by simp, by simpa using g1, g2, fun x hx => ?_, by simpa using hrz⟩
      obtain ⟨z, hz, rfl⟩ := List.mem_map.1 hx
      have := hb z hz
      omega
  have key2 : ∀ rows : List (List Value), (∀ r ∈ rows, ∃ u xs, r = [u] ∧ IsWs w u xs) → ∃ l : List (List Nat), l.length = rows.length ∧ IsRs w rows.flatten l := by
    intro rows
    induction rows with
    | nil => exact fun _ => ⟨[], rfl, isrs_nil w⟩
    | cons r rows ih =>
      intro h
      obtain ⟨l, h1, h2⟩ := ih (fun x hx => h x (by simp [hx]))
      obtain ⟨u, xs, rfl, hu⟩ := h r (by simp)
      refine ⟨xs :: l, by simp [h1], by simp [h2.1], fun i hi => ?_⟩
      match i, hi with
      | 0, _ => exact ⟨u, by simp, hu⟩
      | i + 1, hi =>
        obtain ⟨v, g1, g2⟩ := h2.2 i (by simpa using hi)
        exact ⟨v, by simpa using g1, by simpa using g2⟩
  obtain ⟨l, h1, h2⟩ := key2 rows key
  have hln : l.length = n := by omega
  subst hln
  exact ⟨l, A, c, rows.flatten, rfl, hn, hm, hrd, h2⟩
set_option maxHeartbeats 1000000 in
theorem blank_ok (n : Nat) (w : World) (h1 : 1 ≤ n) (h2 : n ≤ 2048) : Calls Try.prog 48 #[.int .i64 n] w (RetWsOk (List.replicate n 0) w) := by
  have hmk := run_make_n (P := Try.prog) Try.underlying40 u32_info n (by omega) (by omega)
  go_enter Try.func48, Try.ntmps48
  go_wp2
  go_ret2
  refine ⟨_, rfl, ?_, below_a1 _ _⟩
  have h := isws_blk (w := w.alloc (.cells (ws (List.replicate n 0)).toArray 60)) (g := w.heap.size) (t := 60) (xs := List.replicate n 0) (by unfold maxLen; simp; omega) (by intro x hx; have := (List.mem_replicate.1 hx).2; omega) (Blk.new _ _ _)
  have e : (ws (List.replicate n 0)) = List.replicate n (.int .u32 0) := by unfold ws; rw [List.map_replicate]; rfl
  rw [e] at h
  simpa using h
/-- The answer of 'put': the words, and yes. -/
def RetPut (xs : List Nat) (w : World) (e : Ending) (w' : World) : Prop := ∃ v, e = .returned (.tuple #[v, .bool true]) ∧ IsWs w' v xs ∧ Below w.heap.size w w'
set_option maxRecDepth 100000 in
set_option maxHeartbeats 1000000 in
theorem put_full (v u : Value) (c r : List Nat) (l : List (List Nat)) (w : World) (hv : IsWs w v c) (hu : IsWs w u r) (ht : IsTape c l) (h2 : c.length ≤ 2048) (hr1 : 1 ≤ r.length) (hr2 : r.length ≤ 64) (hf : (enc l).length + 1 + r.length ≤ c.length) :
    Calls Try.prog 27 #[v, u] w (RetPut (applyW c (putW c.length (enc l).length r)) w) := by
  have hA := dappend_ok v u c r l w hv hu ht h2 hr1 hr2 hf
  have hat := putW_at (len := c.length) (at0 := (enc l).length) (r := r) hf
  have hln := putW_len c.length (enc l).length r
  obtain ⟨W, hW⟩ : ∃ W, putW c.length (enc l).length r = W := ⟨_, rfl⟩
  rw [hW] at hA hat hln ⊢
  have hAp := fun v' u' k (hk : k ≤ W.length) w' (h1 : IsWs w' v' c) (h2' : IsWr w' u' W) => apply_ok v' u' c W k w' h1 h2' (by omega) h2 (by omega) (fun p hp => (hat p hp).2) hk
  have hlc : (applyW c W).length = c.length := applyW_length c W
  clear hW hat
  go_enter Try.func27, Try.ntmps27
  go_wp2_with fail
  refine hA.mono ?_
  rintro e wa ⟨x, rfl, hx, hba⟩
  have hvA := hv.below hba
  have hx0 := hx
  obtain ⟨B, d, rfl, _, _, _, _⟩ := hx
  go_wp2_with fail
  refine (hAp v _ W.length (Nat.le_refl _) wa hvA hx0).mono ?_
  rintro e wb ⟨y, rfl, hy, hbb⟩
  rw [List.take_length] at hy
  have hy0 := hy
  obtain ⟨Y, dy, rfl, _, _, _, _⟩ := hy
  obtain ⟨Z, cz, rfl, _, _, _, _⟩ := hv
  rw [hlc]
  go_wp2
  go_ret2
  refine ⟨_, ?_, hy0, hba.step hbb⟩
  simp [hlc]
end Go.Proofs.Ytfifkfkbfllnfaa
