/- Debts: rows of two integers each; plain definitions, and the contract of 'owing'. -/
import Derived.Test.YtnpkondgpmncnaaPicked
import Derived.Test.YtnpkondgpmncnaaPush
import Derived.Test.YtnpkondgpmncnaaFlat
namespace Go.Proofs.Ytnpkondgpmncnaa
open Go.RowKit
attribute [local go_sem ↓] Go.wp_at_zero Go.wp_at_succ

/-- The cells of debts. -/
def drs (l : List (Nat × Nat)) : List Value := l.flatMap fun (p : Nat × Nat) => [Value.int .i64 (p.1 : Int), Value.int .i64 (p.2 : Int)]
theorem drs_length (l : List (Nat × Nat)) : (drs l).length = l.length * 2 := by
  induction l with
  | nil => rfl
  | cons p l ih =>
    show ([Value.int .i64 p.1, Value.int .i64 p.2] ++ drs l).length = _
    rw [List.length_append, ih]; simp only [List.length_cons, List.length_nil]; omega
theorem drs_get {l : List (Nat × Nat)} {i : Nat} (h : i < l.length) : (drs l)[i * 2]? = some (.int .i64 l[i].1) ∧ (drs l)[i * 2 + 1]? = some (.int .i64 l[i].2) := by
  induction l generalizing i with
  | nil => simp at h
  | cons p l ih =>
    cases i with
    | zero => exact ⟨rfl, rfl⟩
    | succ i =>
      have := ih (i := i) (by simp at h; omega)
      simp only [List.getElem_cons_succ]
      rw [Nat.succ_mul]
      exact this
theorem drs_append (a b : List (Nat × Nat)) : drs (a ++ b) = drs a ++ drs b := by simp [drs]
/-- Debts that may be. -/
def DOk (l : List (Nat × Nat)) : Prop := l.length ≤ 8 ∧ ∀ p ∈ l, p.1 ≤ 1000000000 ∧ p.2 ≤ 10000
/-- The value is a slice that reads as these debts. -/
def IsDs (w : World) (v : Value) (l : List (Nat × Nat)) : Prop :=
  ∃ (A : Option Addr) (c : Nat), v = .slice A l.length c ∧ l.length ≤ c ∧ c ≤ maxLen ∧ Rd w w.heap.size 2 A l.length (drs l)
theorem IsDs.below {w w' : World} {v : Value} {l : List (Nat × Nat)} (h : IsDs w v l) (hb : Below w.heap.size w w') : IsDs w' v l := by
  obtain ⟨A, c, h1, h2, h3, h5⟩ := h
  exact ⟨A, c, h1, h2, h3, (h5.below hb).more hb.size⟩
theorem own_cap2 {w : World} {base e size n : Nat} {A : Option Addr} {c : Nat} {xs : List Value} (h : w.ownsRow base e size (.slice A n c) n xs) : n ≤ c ∧ c ≤ maxLen := by
  rcases h.2 with ⟨h1, h2⟩ | ⟨g, cap, cur, h1, _, _, h2, h3, _⟩
  · injection h1 with _ _ h1; subst h1; subst h2; exact ⟨Nat.le_refl _, Nat.zero_le _⟩
  · injection h1 with _ _ h1; subst h1; exact ⟨h2, h3⟩
theorem isds_own {w : World} {base e : Nat} {A : Option Addr} {n c : Nat} {l : List (Nat × Nat)} (hn : l.length = n) (h : w.ownsRow base e 2 (.slice A n c) n (drs l)) : IsDs w (.slice A n c) l := by
  subst hn
  exact ⟨A, c, rfl, (own_cap2 h).1, (own_cap2 h).2, Rd.of_own h⟩
/-- An element's two cells. -/
theorem IsDs.at_ {w : World} {A : Option Addr} {n c : Nat} {l : List (Nat × Nat)} (h : IsDs w (.slice A n c) l) {k : Nat} (hk : k < l.length) :
    ∃ b off, A = some ⟨b, off, none⟩ ∧ b < w.heap.size ∧ w.cell? ⟨b, off + k * 2, none⟩ = some (.int .i64 (l[k].1 : Nat)) ∧ w.cell? ⟨b, off + k * 2 + 1, none⟩ = some (.int .i64 (l[k].2 : Nat)) := by
  obtain ⟨A', c', e, _, _, hr⟩ := h
  injection e with e1 e2
  subst e1
  obtain ⟨b, off, rfl, hB, hc⟩ := hr.at_ (by omega)
  exact ⟨b, off, rfl, hB, hc _ _ (drs_get hk).1, hc (k * 2 + 1) _ (drs_get hk).2⟩
theorem IsDs.len {w : World} {A : Option Addr} {n c : Nat} {l : List (Nat × Nat)} (h : IsDs w (.slice A n c) l) : n = l.length := by
  obtain ⟨A', c', e, _⟩ := h
  injection e
/-- The answer of 'owing': debts that may be, each at most so great; the row is the call's own. -/
def RetDs (most : Nat) (w : World) (e : Ending) (w' : World) : Prop :=
  ∃ (l : List (Nat × Nat)) (A : Option Addr) (c : Nat), e = .returned (.slice A l.length c) ∧ l.length ≤ 8 ∧ (∀ p ∈ l, p.1 ≤ most ∧ p.2 ≤ 10000) ∧ IsDs w' (.slice A l.length c) l ∧ Below w.heap.size w w'
/-- The same, and the row is the call's own. -/
def RetDsO (most : Nat) (w : World) (e : Ending) (w' : World) : Prop :=
  ∃ (l : List (Nat × Nat)) (A : Option Addr) (c : Nat), e = .returned (.slice A l.length c) ∧ l.length ≤ 8 ∧ (∀ p ∈ l, p.1 ≤ most ∧ p.2 ≤ 10000) ∧ IsDs w' (.slice A l.length c) l ∧ w'.ownsRow w.heap.size 25 2 (.slice A l.length c) l.length (drs l) ∧ Below w.heap.size w w'
theorem d_info : (Try.prog.info? 25).map (fun i => (i.zero, i.size, i.bytes)) = some (some (.agg #[.int .i64 0, .int .i64 0]), 2, 16) := by kernel_rfl
theorem el_d : Elem Try.prog 57 25 2 16 := elem_of Try.underlying57 d_info rfl (by omega)
set_option maxRecDepth 100000 in
set_option maxHeartbeats 1000000 in
theorem owing_own (v : Value) (n : Nat) (f : Nat → Nat → Int) (most : Nat) (w : World) (hv : IsRows w v [.i64, .i64] n f) (hm : most ≤ 1000000000) :
    Calls Try.prog 47 #[v, .int .i64 most] w (RetDsO most w) := by
  obtain ⟨B, d, rfl, hL1, hL2, hwf, hcell⟩ := hv
  have hL : n ≤ 9223372036854775807 := by unfold maxLen at hL2; omega
  obtain ⟨M, hM⟩ : ∃ M : Int, (most : Int) + 1 = M := ⟨_, rfl⟩
  have hM1 : 1 ≤ M := by omega
  have hM2 : M ≤ 1000000001 := by omega
  have hMw : IntKind.i64.wrap M = M := by rw [IntKind.wrap_i64]; omega
  clear hL1 hL2
  go_enter Try.func47, Try.ntmps47
  go_wp2
  go_loopw [5, 6] (fun v i wr => ∃ (k : Nat) (A' : Option Addr) (c' : Nat) (l : List (Nat × Nat)), k ≤ n ∧ k ≤ 8 ∧ i = .int .i64 k ∧ Hid (l.length = k) ∧ (∀ p ∈ l, p.1 ≤ most ∧ p.2 ≤ 10000) ∧ v = .slice A' k c' ∧ wr.ownsRow w.heap.size 25 2 (.slice A' k c') k (drs l) ∧ Below w.heap.size w wr) (fun _ i _ => 8 - (intOf i).toNat)
  case atStart => exact ⟨0, none, 0, [], by omega, by omega, rfl, rfl, by simp, rfl, World.ownsRow_nil _ _ _ _, Below.refl _ _⟩
  case round =>
    obtain ⟨k, A', c', l, hkL, hk, rfl, HL, hlp, rfl, hown, hbr⟩ := hrel
    by_cases hlt : k < n ∧ k < 8
    · obtain ⟨hlt, hk'⟩ := hlt
      obtain ⟨b, off, rfl, hB, hc⟩ := hcell (by omega)
      have q1 : wr.cell? ⟨b, off + k * 2, none⟩ = some (.int .i64 (f k 0)) := (hbr.cell (p := ⟨b, off + k * 2, none⟩) hB).trans (hc k hlt 0 _ rfl)
      have q2 : wr.cell? ⟨b, off + k * 2 + 1, none⟩ = some (.int .i64 (f k 1)) := (hbr.cell (p := ⟨b, off + k * 2 + 1, none⟩) hB).trans (hc k hlt 1 _ rfl)
      have z1 := hwf k hlt 0 _ rfl
      have z2 := hwf k hlt 1 _ rfl
      clear hc hcell hwf
      generalize f k 0 = x at *
      generalize f k 1 = y at *
      obtain ⟨p, hp, hpl⟩ : ∃ p : Nat, Hid (pk x M = (p : Int)) ∧ (p : Int) < M := by
        obtain ⟨r, h1, h2, h3⟩ := pk_int x M hM1
        exact ⟨r.toNat, by show _ = _; rw [h1.out]; omega, by omega⟩
      obtain ⟨q, hq, hql⟩ : ∃ q : Nat, Hid (pk y 10001 = (q : Int)) ∧ (q : Int) < 10001 := by
        obtain ⟨r, h1, h2, h3⟩ := pk_int y 10001 (by omega)
        exact ⟨r.toNat, by show _ = _; rw [h1.out]; omega, by omega⟩
      have hM2' : M ≤ 9223372036854775807 := by omega
      have hc1 : (1 : Int) ≤ 10001 := by omega
      have hc2 : (10001 : Int) ≤ 9223372036854775807 := by omega
      have hone : ∀ u ∈ [Value.int .i64 p, .int .i64 q], u.oneCell' = true := fun u hu => by simp at hu; rcases hu with rfl | rfl <;> rfl
      have hby : (k + 1) * 16 ≤ 140737488355328 := by omega
      have hmx : k + 1 ≤ maxLen := by unfold maxLen; omega
      go_wp2_with fail
      go_region_held3 (fun w' => w'.cell? ⟨b, off + k * 2, none⟩ = some (.int .i64 x) ∧ w'.cell? ⟨b, off + k * 2 + 1, none⟩ = some (.int .i64 y)) (first | go_keep | (go_split_ands; exact ⟨((hb1.cell (p := ⟨b, off + k * 2, none⟩) (by show b < _; omega)).trans q1), ((hb1.cell (p := ⟨b, off + k * 2 + 1, none⟩) (by show b < _; omega)).trans q2)⟩))
        (first | (go_at_call 18; with_reducible refine (picked_is _ hp z1 hM1 hM2').mono ?_; rintro e w' ⟨rfl, rfl⟩) | (go_at_call 18; with_reducible refine (picked_is _ hq z2 hc1 hc2).mono ?_; rintro e w' ⟨rfl, rfl⟩) | ((refine step_push el_d (by rfl) (.tmp 17) (.tmp 33) (by rfl) _ w.heap.size wr.heap.size _ k _ [.int .i64 p, .int .i64 q] (by rfl) ((hown.alloc _).drew) (by rfl) (heap_alloc_new wr _) rfl hone hby hmx wr (below_ad (Below.refl _ _) hbr.size _) hbr.size ?_; intro A1 c1 w1 hown1 hb1)))
      clear q1 q2
      all_goals
        go_wp2
        go_roundw
        case rel =>
          refine ⟨k + 1, A1, c1, l ++ [(p, q)], by omega, by omega, by go_num, by show _ = _; rw [List.length_append, HL.out]; rfl, fun q hq => ?_, rfl, ?_, hbr.trans hb1⟩
          · rcases List.mem_append.1 hq with h | h
            · exact hlp q h
            · simp at h; subst h; dsimp only; omega
          · rw [drs_append]; exact hown1
        case measure => simp [intOf]; omega
    · have hlt1 : ((k : Int) < (n : Int) ∧ ¬ (k : Int) < 8) ∨ ¬ (k : Int) < (n : Int) := by omega
      have hk8 : l.length ≤ 8 := by rw [HL.out]; omega
      clear hcell hwf
      rcases hlt1 with ⟨g1, g2⟩ | g1
      all_goals
        go_wp2
        go_ret
        exact ⟨l, A', c', by rw [HL.out]; rfl, hk8, hlp, by rw [HL.out]; exact isds_own HL.out hown, by rw [HL.out]; exact hown, hbr⟩
theorem owing_ok (v : Value) (n : Nat) (f : Nat → Nat → Int) (most : Nat) (w : World) (hv : IsRows w v [.i64, .i64] n f) (hm : most ≤ 1000000000) :
    Calls Try.prog 47 #[v, .int .i64 most] w (RetDs most w) :=
  (owing_own v n f most w hv hm).mono fun _ _ ⟨l, A, c, h1, h2, h3, h4, _, h6⟩ => ⟨l, A, c, h1, h2, h3, h4, h6⟩
end Go.Proofs.Ytnpkondgpmncnaa
