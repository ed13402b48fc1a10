/- vendmeterkeep.dealt: weights that may be, not all 0. -/
import Derived.Test.YtfcgpgfghidajaaDeal
import Derived.Test.YtfcgpgfghidajaaPushM
import Derived.Test.YtfcgpgfghidajaaPushN
namespace Go.Proofs.Ytfcgpgfghidajaa
open Go.RowKit
set_option linter.unusedVariables false
/-- A slice of ints that came in. -/
def IsIs (w : World) (v : Value) (zs : List Int) : Prop := ∃ (A : Option Addr) (n c : Nat), v = .slice A n c ∧ zs.length = n ∧ (∀ z ∈ zs, (Lit.int .i64 z).wf = true) ∧ Rd w w.heap.size 1 A n (zs.map (Value.int .i64)) ∧ n ≤ maxLen
theorem is_fit {v : Value} {w : World} (h : Fit Try.prog w 22 v) : ∃ zs, IsIs w v zs := by
  obtain ⟨A, n, c, rfl, hc⟩ := h.slice Try.underlying22
  obtain ⟨hn, hm, zs, hz, hw, hr⟩ := hc.slice_int Try.underlying22 (by kernel_rfl) Try.underlying3
  exact ⟨zs, A, n, c, rfl, hz, hw, hr, by omega⟩
theorem nis_snoc (l : List Nat) (x : Nat) : nis l ++ [.int .i64 (x : Int)] = nis (l ++ [x]) := by rw [nis_append]; rfl
def RetDealt (w : World) (e : Ending) (w' : World) : Prop := ∃ (l : List Nat) (b c : Nat), e = .returned (.slice (some ⟨b, 0, none⟩) l.length c) ∧ (∀ x ∈ l, x ≤ 1000000) ∧ 1 ≤ l.length ∧ l.length ≤ 50 ∧ 0 < l.sum ∧ w'.ownsRow w.heap.size 3 1 (.slice (some ⟨b, 0, none⟩) l.length c) l.length (nis l) ∧ Below w.heap.size w w'
set_option maxRecDepth 100000 in
set_option maxHeartbeats 4000000 in
theorem dealt_ok (v : Value) (zs : List Int) (w : World) (hv : IsIs w v zs) : Calls Try.prog 7 #[v] w (RetDealt w) := by
  obtain ⟨A1, n, c1, rfl, hz, hw, hr, hm⟩ := hv
  have H := Mem.init w
  go_enter Try.func7, Try.ntmps7
  go_wp2
  go_loopw [3, 4, 5] (fun l s i wr => ∃ (L : List Nat) (A : Option Addr) (c m k : Nat), L.length = k ∧ k ≤ n ∧ k ≤ 50 ∧ i = .int .i64 (k : Int) ∧ s = .int .i64 (m : Int) ∧ Hid (L.sum = m) ∧ m ≤ 1000000 * k ∧ (∀ x ∈ L, x ≤ 1000000) ∧ l = .slice A k c ∧ Mem w [] wr [.row w.heap.size 3 1 (.slice A k c) k (nis L)]) (fun _ _ i _ => 50 - (intOf i).toNat)
  case atStart => exact ⟨[], none, 0, 0, 0, rfl, by omega, by omega, rfl, rfl, rfl, by omega, by simp, rfl, H.nilrow _ _ _⟩
  case round =>
    obtain ⟨L, A, c, m, k, hL, hkn, hk50, rfl, rfl, hs, hm2, hx, rfl, HM⟩ := hrel
    clear H
    have H : Mem (w) [] (wr) [.row (w.heap.size) (3) (1) (.slice A k c) (k) (nis L)] := HM
    clear HM
    have HL := Lib.hid hL
    have HX := Lib.hid hx
    clear hL hx

    by_cases hlt : k < n ∧ k < 50
    · obtain ⟨hlt, hlt2⟩ := hlt
      obtain ⟨b, off, rfl, hB, hc⟩ := hr.at_ (by omega)
      have hkz : k < zs.length := by omega
      have hck : wr.cell? ⟨b, off + k, none⟩ = some (.int .i64 zs[k]) := (H.below.cell (p := ⟨b, off + k, none⟩) hB).trans (hc k _ (by simp [hkz]))
      have hzk := hw _ (List.getElem_mem hkz)
      obtain ⟨x, hx⟩ : ∃ x, zs[k] = x := ⟨_, rfl⟩
      rw [hx] at hck hzk
      obtain ⟨p, hp, hp1⟩ := pk_nat x 1000001 (by omega)
      have hp2 : Hid (pk x 1000001 = (p : Int)) := hp
      have hP := fun W => picked_is W hp2 hzk (by omega) (by omega)
      clear hc hr hw hkz hx hp hp2 hzk

      go_wp2_with (first | (go_at_call 6; (with_reducible refine (hP _).mono ?_); rintro e w' ⟨rfl, rfl⟩) | (at_builtin; refine wpList_pushM el_int rfl (.tmp 22) (.tmp 24) rfl 0 H rfl rfl _ rfl rfl (news := [.int .i64 (p : Int)]) rfl (fun u hu => by simp at hu; subst hu; rfl) (by omega) (by unfold maxLen; omega) H.keep.size ?_; intro A3 c3 w1 H1))
      replace H : Mem (w) [] (w1) [.row (w.heap.size) (3) (1) (.slice A3 (k + 1) c3) (k + 1) (nis L ++ [.int .i64 (p : Int)])] := H1
      clear H1
      go_roundw
      case rel =>
        refine ⟨L ++ [p], A3, c3, m + p, k + 1, by simp [HL.out], by omega, by omega, by go_num, by go_num, ?_, by omega, fun y hy => ?_, rfl, ?_⟩
        · show _ = _
          rw [List.sum_append, hs.out]; simp
        · rcases List.mem_append.1 hy with h | h
          · exact HX.out y h
          · simp only [List.mem_singleton] at h; omega
        · rw [← nis_snoc]; exact H
      case measure => simp [intOf]; omega
    · skip
      have hlt1 : ((k : Int) < (n : Int) ∧ ¬ (k : Int) < 50) ∨ ¬ (k : Int) < (n : Int) := by omega
      clear hr hw
      by_cases hm0 : m = 0
      · subst hm0
        obtain ⟨q, hq⟩ : ∃ q, min k 49 = q := ⟨_, rfl⟩
        have hmin : min (k : Int) 49 = (q : Int) := by omega
        have hqk : q ≤ k := by omega
        have hq49 : q ≤ 49 := by omega
        have hqk2 : (q : Int) ≤ (k : Int) := by omega
        have h0 : ((0 : Nat) : Int) = 0 := rfl
        have hd : ∀ (W : World), W.heap[wr.heap.size]? = some (.cells #[.int .i64 1] 3 (0, 0)) → W.ownsRow w.heap.size 3 1 (.slice (some ⟨wr.heap.size, 0, none⟩) 1 1) 1 [.int .i64 1] := fun W hW => ⟨rfl, .inr ⟨_, 1, _, rfl, H.keep.size, hW, Nat.le_refl _, by decide, by simp, rfl⟩⟩
        have hR : Rd (wr.alloc (.cells #[.int .i64 1] 3)) (wr.alloc (.cells #[.int .i64 1] 3)).heap.size 1 A q ((nis L).take (q * 1)) := by
          have h1 := own_below (H.own_ 0 rfl) (below_a1 wr (.cells #[.int .i64 1] 3))
          exact (Rd.of_own h1).take hqk
        have hone : ∀ u ∈ (nis L).take (q * 1), u.oneCell' = true := fun u hu => by
          obtain ⟨x, _, rfl⟩ := List.mem_map.1 (List.mem_of_mem_take hu); rfl
        have hqc : (q : Int) ≤ (c : Int) := by have := (own_cap (H.own_ 0 rfl)).1; omega
        have hqc2 : q ≤ c := by omega
        clear hq
        rcases hlt1 with ⟨g1, g2⟩ | g1
        all_goals
          go_wp2_with (at_builtin; go_loud (refine wpList_pushN (W := wr.alloc (.cells #[.int .i64 1] 3)) el_int rfl (.tmp 31) (.tmp 36) rfl w.heap.size (.slice (some ⟨wr.heap.size, 0, none⟩) 1 1) 1 [.int .i64 1] rfl (hd _ (heap_alloc_new _ _)) _ A q c _ rfl hR hone (by omega) (by unfold maxLen; omega) w ((H.below).alloc H.keep.size _) (Nat.le_refl _) ?_); intro A3 c3 w3 ho3 hb3)
          go_ret
          obtain ⟨b3, rfl⟩ : ∃ b, A3 = some ⟨b, 0, none⟩ := by
            rcases ho3.2 with ⟨h1, _⟩ | ⟨g, cap, cur, h1, _⟩
            · injection h1 with h1 h2; omega
            · injection h1 with h1 h2; exact ⟨g, h1⟩
          have hl : (1 :: L.take q).length = 1 + q := by simp [HL.out]; omega
          have e : nis (1 :: L.take q) = [.int .i64 1] ++ (nis L).take (q * 1) := by simp [nis]
          refine ⟨1 :: L.take q, b3, c3, by rw [hl]; rfl, fun x hx => ?_, by rw [hl]; omega, by rw [hl]; omega, by simp; omega, by rw [hl, e]; exact ho3, hb3⟩
          rcases List.mem_cons.1 hx with rfl | hx
          · decide
          · exact HX.out x (List.mem_of_mem_take hx)
      · have h0 : decide ((m : Int) = 0) = false := by simp; omega
        have hk0 : 1 ≤ k := by
          rcases Nat.eq_zero_or_pos k with rfl | h
          · omega
          · exact h
        have ho := H.own_ 0 rfl
        obtain ⟨b, rfl⟩ : ∃ b, A = some ⟨b, 0, none⟩ := by
          rcases ho.2 with ⟨h1, _⟩ | ⟨g, cap, cur, h1, _⟩
          · injection h1 with h1 h2; omega
          · injection h1 with h1 h2; exact ⟨g, h1⟩
        rcases hlt1 with ⟨g1, g2⟩ | g1
        all_goals
          go_wp2
          go_ret
          exact ⟨L, b, c, by rw [HL.out]; rfl, HX.out, by rw [HL.out]; exact hk0, by rw [HL.out]; omega, by rw [hs.out]; omega, by rw [HL.out]; exact ho, H.below⟩
end Go.Proofs.Ytfcgpgfghidajaa
