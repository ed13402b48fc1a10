/- cell.Diff: the writes that make the one of the other. -/
import Derived.Test.YtadaanphoehlmaaCell
namespace Go.Proofs.Ytadaanphoehlmaa
open Go.RowKit

/-- The first k places at which the two differ. -/
def difTo (xs ys : List Nat) : Nat → List (Nat × Nat)
  | 0 => []
  | k + 1 => difTo xs ys k ++ if xs.getD k 0 = ys.getD k 0 then [] else [(k, ys.getD k 0)]
theorem difTo_len (xs ys : List Nat) (k : Nat) : (difTo xs ys k).length ≤ k := by
  induction k with
  | zero => simp [difTo]
  | succ k ih =>
    unfold difTo
    split
    · simp; omega
    · simp; omega
theorem difTo_mem {xs ys : List Nat} {k : Nat} : ∀ p ∈ difTo xs ys k, p.1 < k ∧ xs.getD p.1 0 ≠ p.2 ∧ ys.getD p.1 0 = p.2 := by
  induction k with
  | zero => simp [difTo]
  | succ k ih =>
    intro p hp
    unfold difTo at hp
    rcases List.mem_append.1 hp with h | h
    · have := ih p h
      exact ⟨by omega, this.2⟩
    · split at h
      · simp at h
      · rename_i hne
        simp at h
        subst h
        exact ⟨by simp, hne, rfl⟩
theorem difTo_sorted (xs ys : List Nat) (k : Nat) : (difTo xs ys k).Pairwise (fun p q => p.1 < q.1) := by
  induction k with
  | zero => simp [difTo]
  | succ k ih =>
    unfold difTo
    split
    · simpa using ih
    · refine List.pairwise_append.2 ⟨ih, by simp, fun p hp q hq => ?_⟩
      simp at hq
      subst hq
      exact (difTo_mem p hp).1
theorem difTo_rises {xs ys : List Nat} {k i : Nat} (h : i + 1 < (difTo xs ys k).length) : (difTo xs ys k)[i].1 < (difTo xs ys k)[i + 1].1 :=
  List.pairwise_iff_getElem.1 (difTo_sorted xs ys k) i (i + 1) (by omega) h (by omega)
theorem dif_apply {xs ys : List Nat} (hl : xs.length = ys.length) : ∀ k, k ≤ xs.length → applyW xs (difTo xs ys k) = ys.take k ++ xs.drop k := by
  intro k
  induction k with
  | zero => intro _; simp [difTo, applyW]
  | succ k ih =>
    intro hk
    have ih := ih (by omega)
    have hx : k < xs.length := by omega
    have hy : k < ys.length := by omega
    have e : ys.take (k + 1) ++ xs.drop (k + 1) = (ys.take k ++ xs.drop k).set k ys[k] := by
      rw [List.set_append_right _ _ (by simp; omega)]
      have hlen : k - (ys.take k).length = 0 := by simp; omega
      rw [hlen, List.drop_eq_getElem_cons hx, List.set_cons_zero, List.take_succ_eq_append_getElem hy, List.append_assoc]
      rfl
    unfold difTo
    rw [applyW_append, ih, e]
    split
    · rename_i heq
      simp [hx, hy] at heq
      rw [List.set_append_right _ _ (by simp; omega)]
      have hlen : k - (ys.take k).length = 0 := by simp; omega
      rw [hlen, List.drop_eq_getElem_cons hx, List.set_cons_zero, heq]
      rfl
    · simp [applyW, hy]
theorem dif_all {xs ys : List Nat} (hl : xs.length = ys.length) : applyW xs (difTo xs ys xs.length) = ys := by
  rw [dif_apply hl _ (Nat.le_refl _), hl, List.take_length, ← hl, List.drop_length, List.append_nil]
theorem el_w2 : Elem Try.prog 44 47 2 16 := elem_of Try.underlying44 w_info rfl (by omega)
/-- The answer is writes and no error. -/
def RetWrOk (l : List (Nat × Nat)) (w : World) (e : Ending) (w' : World) : Prop := ∃ A c, e = .returned (.tuple #[.slice A l.length c, .int .i64 0]) ∧ IsWr w' (.slice A l.length c) l ∧ Below w.heap.size w w'
set_option maxHeartbeats 1000000 in
theorem diff_ok (v u : Value) (xs ys : List Nat) (w : World) (hv : IsWs w v xs) (hu : IsWs w u ys) (hl : xs.length = ys.length) (h1 : 1 ≤ xs.length) (h2 : xs.length ≤ 2048) :
    Calls Try.prog 31 #[v, u] w (RetWrOk (difTo xs ys xs.length) w) := by
  obtain ⟨A, c, rfl, hc1, hc2, hx, hr⟩ := hv
  obtain ⟨B, d, hu, hd1, hd2, hy, hs⟩ := hu
  have HL := Lib.hid hl
  have hyy : ∀ k, k < xs.length → ∃ b off, B = some ⟨b, off, none⟩ ∧ b < w.heap.size ∧ w.cell? ⟨b, off + k, none⟩ = some (.int .u32 (ys.getD k 0 : Nat)) ∧ ys.getD k 0 < 4294967296 := by
    intro k hk
    obtain ⟨b, off, e, hB, hc⟩ := hs.at_ (by omega)
    have hk' : k < ys.length := by omega
    refine ⟨b, off, e, hB, ?_, ?_⟩
    · have := hc k _ (ws_get hk'); simpa [hk'] using this
    · have := hy _ (List.getElem_mem hk'); simpa [hk'] using this
  have hxx : ∀ k, k < xs.length → ∃ b off, A = some ⟨b, off, none⟩ ∧ b < w.heap.size ∧ w.cell? ⟨b, off + k, none⟩ = some (.int .u32 (xs.getD k 0 : Nat)) := by
    intro k hk
    obtain ⟨b, off, e, hB, hc⟩ := hr.at_ (by omega)
    refine ⟨b, off, e, hB, ?_⟩
    have := hc k _ (ws_get hk); simpa [hk] using this
  rw [← hl] at hu
  subst hu
  clear hs hr hx hy hl
  generalize hn : xs.length = n at *
  have HN := Lib.hid hn
  clear hn hc1 hc2 hd1 hd2
  go_enter Try.func31, Try.ntmps31
  go_wp2_with fail
  refine (fits_ok A n c _ h1 h2).mono ?_
  rintro e w1 ⟨rfl, rfl⟩
  go_wp2_with fail
  go_loopw [6, 7, 8, 21] (fun v _ _ i wr => ∃ (k : Nat) (A' : Option Addr) (c' m : Nat), k ≤ n ∧ m ≤ k ∧ i = .int .i64 k ∧ Hid ((difTo xs ys k).length = m) ∧ v = .slice A' m c' ∧ wr.ownsRow w.heap.size 47 2 (.slice A' m c') m (wrs (difTo xs ys k)) ∧ Below w.heap.size w wr) (fun _ _ _ i _ => n - (intOf i).toNat)
  case atStart => exact ⟨0, none, 0, 0, by omega, by omega, rfl, rfl, rfl, World.ownsRow_nil _ _ _ _, Below.refl _ _⟩
  case round =>
    obtain ⟨k, A', c', m, hk, hmk, rfl, hm, rfl, hown, hb⟩ := hrel
    by_cases hlt : k < n
    · obtain ⟨b1, o1, rfl, hB1, q1⟩ := hxx k hlt
      obtain ⟨b2, o2, rfl, hB2, q2, hy1⟩ := hyy k hlt
      have q1 := (hb.cell (p := ⟨b1, o1 + k, none⟩) hB1).trans q1
      have q2 := (hb.cell (p := ⟨b2, o2 + k, none⟩) hB2).trans q2
      have HD := Lib.hid (show difTo xs ys (k + 1) = difTo xs ys k ++ if xs.getD k 0 = ys.getD k 0 then [] else [(k, ys.getD k 0)] from rfl)
      clear hxx hyy
      generalize xs.getD k 0 = x at *
      generalize ys.getD k 0 = y at *
      by_cases hxy : x = y
      · have hb1 : ((x : Int) != (y : Int)) = false := by simp; omega
        have HD : Hid (difTo xs ys (k + 1) = difTo xs ys k) := by have := HD.out; rw [if_pos hxy, List.append_nil] at this; exact this
        clear hxy
        go_wp2
        go_roundw
        case rel => exact ⟨k + 1, A', c', m, by omega, by omega, by go_num, by show _ = _; rw [HD.out]; exact hm.out, rfl, by rw [HD.out]; exact hown, hb⟩
        case measure => simp [intOf]; omega
      · have hb1 : ((x : Int) != (y : Int)) = true := by simp; omega
        have HD : Hid (difTo xs ys (k + 1) = difTo xs ys k ++ [(k, y)]) := by have := HD.out; rwa [if_neg hxy] at this
        clear hxy
        go_wp2_with (at_builtin; refine wpList_push el_w2 rfl (.tmp 32) (.tmp 36) rfl wr w.heap.size _ m _ [.int .i64 k, .int .u32 y] rfl hown rfl rfl (fun u hu => by simp at hu; rcases hu with rfl | rfl <;> rfl) (by omega) (by unfold maxLen; omega) hb.size ?_; intro A1 c1 w1 hown1 hb1 _)
        go_roundw
        case rel => exact ⟨k + 1, A1, c1, m + 1, by omega, by omega, by go_num, by show _ = _; rw [HD.out, List.length_append, hm.out]; rfl, rfl, by rw [HD.out, wrs_append]; exact hown1, hb.trans hb1⟩
        case measure => simp [intOf]; omega
    · obtain rfl : k = n := by omega
      have hz : ∀ p ∈ difTo xs ys k, p.2 < 4294967296 := fun p hp => by
        obtain ⟨h1, _, h3⟩ := difTo_mem p hp
        obtain ⟨_, _, _, _, _, h⟩ := hyy _ h1
        omega
      go_wp2
      go_ret2
      refine ⟨A', c', by rw [hm.out]; rfl, by rw [hm.out]; exact iswr_own hm.out hz hown, hb⟩
/-- The same, by what is wanted of it. -/
def RetDiff (xs ys : List Nat) (w : World) (e : Ending) (w' : World) : Prop :=
  ∃ (l : List (Nat × Nat)) (A : Option Addr) (c : Nat), e = .returned (.tuple #[.slice A l.length c, .int .i64 0]) ∧ IsWr w' (.slice A l.length c) l ∧ Below w.heap.size w w' ∧
    l.length ≤ xs.length ∧ (∀ p ∈ l, p.1 < xs.length ∧ xs.getD p.1 0 ≠ p.2 ∧ ys.getD p.1 0 = p.2) ∧ (∀ (i : Nat) (h : i + 1 < l.length), l[i].1 < l[i + 1].1) ∧ Hid (applyW xs l = ys)
theorem diff_is (v u : Value) (xs ys : List Nat) (w : World) (hv : IsWs w v xs) (hu : IsWs w u ys) (hl : xs.length = ys.length) (h1 : 1 ≤ xs.length) (h2 : xs.length ≤ 2048) :
    Calls Try.prog 31 #[v, u] w (RetDiff xs ys w) :=
  (diff_ok v u xs ys w hv hu hl h1 h2).mono fun _ _ ⟨A, c, e, h, hb⟩ => ⟨difTo xs ys xs.length, A, c, e, h, hb, difTo_len _ _ _, difTo_mem, fun _ h => difTo_rises h, dif_all hl⟩
end Go.Proofs.Ytadaanphoehlmaa
