/- account: within, may, Check, open. -/
import Derived.Test.YtnpkondgpmncnaaTotal
import Derived.Test.YtnpkondgpmncnaaSteps
import Derived.Test.YtnpkondgpmncnaaPushN
import Derived.Test.YtnpkondgpmncnaaAge
namespace Go.Proofs.Ytnpkondgpmncnaa
open Go.RowKit
set_option linter.unusedVariables false
theorem blk_not_row {w : World} {g : Nat} {t e : TypeId} {cs : Array Value} (h : Blk w g t cs) (hte : t ≠ e) {base size k : Nat} {v : Value} {xs : List Value} (hr : w.ownsRow base e size v k xs) : some g ≠ v.ownBlock := by
  rcases hr.2 with ⟨rfl, _⟩ | ⟨r, cap, cur, rfl, _, hgb, _⟩
  · simp [Value.ownBlock]
  · intro e'
    obtain rfl : g = r := by simpa [Value.ownBlock] using e'
    have := (show w.heap[g]? = _ from h).symm.trans hgb
    simp at this
    exact hte this.2
/-- What an account may hold. -/
structure AOk (me rev next month bought : Nat) (free : Int) : Prop where
  h1 : me ≤ 49
  h2 : rev ≤ 15
  h3 : 1 ≤ next
  h4 : next ≤ 1048576
  h5 : month ≤ 2399
  h6 : bought ≤ 10000000
  h7 : -1 ≤ free
  h8 : free ≤ (month : Int)
/-- What terms may hold. -/
structure TmOk (fx fb db al : Nat) : Prop where
  h1 : fx ≤ 100000
  h2 : fb ≤ 10000
  h3 : db ≤ 10000
  h4 : al ≤ 2097151
theorem within_is (n lo hi : Int) (b : Bool) (w : World) (hb : Hid (decide (lo ≤ n ∧ n ≤ hi) = b)) :
    Calls Try.prog 74 #[.int .i64 n, .int .i64 lo, .int .i64 hi] w fun e w' => e = .returned (.bool b) ∧ w = w' := by
  have hor : (lo ≤ n ∧ n ≤ hi ∧ b = true) ∨ (lo ≤ n ∧ ¬ n ≤ hi ∧ b = false) ∨ (¬ lo ≤ n ∧ b = false) := by
    have := hb.out
    cases b <;> simp at this ⊢ <;> omega
  clear hb
  rcases hor with ⟨h1, h2, rfl⟩ | ⟨h1, h2, rfl⟩ | ⟨h1, rfl⟩
  all_goals
    go_enter Try.func74, Try.ntmps74
    go_wp2
    go_ret
    exact ⟨rfl, rfl⟩
theorem within_yes (n lo hi : Int) (w : World) (h1 : lo ≤ n) (h2 : n ≤ hi) :
    Calls Try.prog 74 #[.int .i64 n, .int .i64 lo, .int .i64 hi] w fun e w' => e = .returned (.bool true) ∧ w = w' :=
  within_is n lo hi true w (by show _ = _; simp; omega)
set_option maxRecDepth 100000 in
set_option maxHeartbeats 1000000 in
theorem amay_ok (me rev next month bought : Nat) (free : Int) (A : Option Addr) (n c : Nat) (l : List (Nat × Nat)) (w : World) (hv : IsDs w (.slice A n c) l) (hl : DOk l) (ha : AOk me rev next month bought free) :
    Calls Try.prog 72 #[.agg #[.int .i64 (me : Int), .int .i64 (rev : Int), .int .i64 (next : Int), .int .i64 (month : Int), .int .i64 (bought : Int), .int .i64 free, .slice A n c]] w fun e w' => e = .returned (.bool true) ∧ Below w.heap.size w w' := by
  have hT := fun W h => total_ok (.slice A n c) l W h hl
  obtain ⟨a1, a2, a3, a4, a5, a6, a7, a8⟩ := ha
  obtain ⟨s, hs⟩ : ∃ s, dsum l = s := ⟨_, rfl⟩
  rw [hs] at hT
  clear hs hl
  have hb1 := below_a1 w (.cells #[.int .i64 (me : Int), .int .i64 (rev : Int), .int .i64 (next : Int), .int .i64 (month : Int), .int .i64 (bought : Int), .int .i64 free, .slice A n c] 59)
  have hv1 := hv.below hb1
  have hB := Blk.new w 59 #[.int .i64 (me : Int), .int .i64 (rev : Int), .int .i64 (next : Int), .int .i64 (month : Int), .int .i64 (bought : Int), .int .i64 free, .slice A n c]
  have hBl := hB.lt
  go_enter Try.func72, Try.ntmps72
  go_wp2_with fail
  refine (hT _ hv1).mono ?_
  rintro e w1 ⟨rfl, hb2⟩
  have hB1 := hB.below hb2 hBl
  have k0 : w1.cell? ⟨w.heap.size, 0, none⟩ = some (.int .i64 (me : Int)) := hB1.cell 0
  have kf0 : w1.frozen? ⟨w.heap.size, 0, none⟩ = false := hB1.frozen 0
  have k1 : w1.cell? ⟨w.heap.size, 1, none⟩ = some (.int .i64 (rev : Int)) := hB1.cell 1
  have kf1 : w1.frozen? ⟨w.heap.size, 1, none⟩ = false := hB1.frozen 1
  have k2 : w1.cell? ⟨w.heap.size, 2, none⟩ = some (.int .i64 (next : Int)) := hB1.cell 2
  have kf2 : w1.frozen? ⟨w.heap.size, 2, none⟩ = false := hB1.frozen 2
  have k3 : w1.cell? ⟨w.heap.size, 3, none⟩ = some (.int .i64 (month : Int)) := hB1.cell 3
  have kf3 : w1.frozen? ⟨w.heap.size, 3, none⟩ = false := hB1.frozen 3
  have k4 : w1.cell? ⟨w.heap.size, 4, none⟩ = some (.int .i64 (bought : Int)) := hB1.cell 4
  have kf4 : w1.frozen? ⟨w.heap.size, 4, none⟩ = false := hB1.frozen 4
  have k5 : w1.cell? ⟨w.heap.size, 5, none⟩ = some (.int .i64 free) := hB1.cell 5
  have kf5 : w1.frozen? ⟨w.heap.size, 5, none⟩ = false := hB1.frozen 5
  have k6 : w1.cell? ⟨w.heap.size, 6, none⟩ = some (.slice A n c) := hB1.cell 6
  have kf6 : w1.frozen? ⟨w.heap.size, 6, none⟩ = false := hB1.frozen 6
  have hbb := hb1.step hb2
  clear hT hv hv1 hB hB1 hb1 hb2 hBl
  go_wp2_with (go_at_call 74; refine (within_yes _ _ _ _ (by omega) (by omega)).mono ?_; rintro e w' ⟨rfl, rfl⟩)
  go_ret
  exact ⟨rfl, hbb⟩
set_option maxRecDepth 100000 in
set_option maxHeartbeats 1000000 in
theorem acheck_ok (A : Option Addr) (n c fx fb db al : Nat) (l : List (Nat × Nat)) (w : World) (hv : IsDs w (.slice A n c) l) (hl : TOk l) (ht : TmOk fx fb db al) :
    Calls Try.prog 73 #[.agg #[.slice A n c, .int .i64 (fx : Int), .int .i64 (fb : Int), .int .i64 (db : Int), .int .i64 (al : Int)]] w fun e w' => e = .returned (.int .i64 0) ∧ Below w.heap.size w w' := by
  have hT := fun W h => tcheck_ok (.slice A n c) l W h hl
  obtain ⟨a1, a2, a3, a4⟩ := ht
  clear hl
  have hb1 := below_a1 w (.cells #[.slice A n c, .int .i64 (fx : Int), .int .i64 (fb : Int), .int .i64 (db : Int), .int .i64 (al : Int)] 63)
  have hv1 := hv.below hb1
  have hB := Blk.new w 63 #[.slice A n c, .int .i64 (fx : Int), .int .i64 (fb : Int), .int .i64 (db : Int), .int .i64 (al : Int)]
  have hBl := hB.lt
  go_enter Try.func73, Try.ntmps73
  go_wp2_with fail
  refine (hT _ hv1).mono ?_
  rintro e w1 ⟨rfl, hb2⟩
  have hB1 := hB.below hb2 hBl
  have k0 : w1.cell? ⟨w.heap.size, 0, none⟩ = some (.slice A n c) := hB1.cell 0
  have kf0 : w1.frozen? ⟨w.heap.size, 0, none⟩ = false := hB1.frozen 0
  have k1 : w1.cell? ⟨w.heap.size, 1, none⟩ = some (.int .i64 (fx : Int)) := hB1.cell 1
  have kf1 : w1.frozen? ⟨w.heap.size, 1, none⟩ = false := hB1.frozen 1
  have k2 : w1.cell? ⟨w.heap.size, 2, none⟩ = some (.int .i64 (fb : Int)) := hB1.cell 2
  have kf2 : w1.frozen? ⟨w.heap.size, 2, none⟩ = false := hB1.frozen 2
  have k3 : w1.cell? ⟨w.heap.size, 3, none⟩ = some (.int .i64 (db : Int)) := hB1.cell 3
  have kf3 : w1.frozen? ⟨w.heap.size, 3, none⟩ = false := hB1.frozen 3
  have k4 : w1.cell? ⟨w.heap.size, 4, none⟩ = some (.int .i64 (al : Int)) := hB1.cell 4
  have kf4 : w1.frozen? ⟨w.heap.size, 4, none⟩ = false := hB1.frozen 4
  have hbb := hb1.step hb2
  clear hT hv hv1 hB hB1 hb1 hb2 hBl
  go_wp2_with (go_at_call 74; refine (within_yes _ _ _ _ (by omega) (by omega)).mono ?_; rintro e w' ⟨rfl, rfl⟩)
  go_ret
  exact ⟨rfl, hbb⟩
/-- A clerk at work in block g: the account, the terms; the debts are the call's own. -/
def Ck (B : Nat) (w : World) (g me rev next month bought : Nat) (free : Int) (l : List (Nat × Nat)) (At : Option Addr) (nt ct fx fb db al : Nat) : Prop :=
  B ≤ g ∧ ∃ (A : Option Addr) (c : Nat), Blk w g 120 #[.int .i64 (me : Int), .int .i64 (rev : Int), .int .i64 (next : Int), .int .i64 (month : Int), .int .i64 (bought : Int), .int .i64 free, .slice A l.length c, .slice At nt ct, .int .i64 (fx : Int), .int .i64 (fb : Int), .int .i64 (db : Int), .int .i64 (al : Int)] ∧
    w.ownsRow B 25 2 (.slice A l.length c) l.length (drs l)
/-- The answer of 'open'. -/
def RetOpen (me rev next month bought : Nat) (free : Int) (l : List (Nat × Nat)) (At : Option Addr) (nt ct fx fb db al : Nat) (w : World) (e : Ending) (w' : World) : Prop :=
  ∃ g, e = .returned (.tuple #[.pointer (some ⟨g, 0, none⟩), .int .i64 0]) ∧ Ck w.heap.size w' g me rev next month bought free l At nt ct fx fb db al ∧ Below w.heap.size w w'
set_option maxRecDepth 100000 in
set_option maxHeartbeats 1000000 in
theorem open_ok (me rev next month bought : Nat) (free : Int) (A : Option Addr) (n c : Nat) (l : List (Nat × Nat)) (At : Option Addr) (nt ct fx fb db al : Nat) (tl : List (Nat × Nat)) (w : World) (hv : IsDs w (.slice A n c) l) (hl : DOk l) (ha : AOk me rev next month bought free)
    (hv2 : IsDs w (.slice At nt ct) tl) (hl2 : TOk tl) (ht : TmOk fx fb db al) :
    Calls Try.prog 49 #[.agg #[.int .i64 (me : Int), .int .i64 (rev : Int), .int .i64 (next : Int), .int .i64 (month : Int), .int .i64 (bought : Int), .int .i64 free, .slice A n c], .agg #[.slice At nt ct, .int .i64 (fx : Int), .int .i64 (fb : Int), .int .i64 (db : Int), .int .i64 (al : Int)]] w
      (RetOpen me rev next month bought free l At nt ct fx fb db al w) := by
  have hM := fun W h => amay_ok me rev next month bought free A n c l W h hl ha
  have hC := fun W h => acheck_ok At nt ct fx fb db al tl W h hl2 ht
  obtain ⟨h8, hp⟩ := hl
  clear ha ht hl2
  have hb1 := below_a2 w (.cells #[.int .i64 (me : Int), .int .i64 (rev : Int), .int .i64 (next : Int), .int .i64 (month : Int), .int .i64 (bought : Int), .int .i64 free, .slice A n c] 59) (.cells #[.slice At nt ct, .int .i64 (fx : Int), .int .i64 (fb : Int), .int .i64 (db : Int), .int .i64 (al : Int)] 63)
  have hv1 := hv.below hb1
  have hv21 := hv2.below hb1
  have hB := (Blk.new w 59 #[.int .i64 (me : Int), .int .i64 (rev : Int), .int .i64 (next : Int), .int .i64 (month : Int), .int .i64 (bought : Int), .int .i64 free, .slice A n c]).alloc (.cells #[.slice At nt ct, .int .i64 (fx : Int), .int .i64 (fb : Int), .int .i64 (db : Int), .int .i64 (al : Int)] 63)
  have hD := Blk.new (w.alloc (.cells #[.int .i64 (me : Int), .int .i64 (rev : Int), .int .i64 (next : Int), .int .i64 (month : Int), .int .i64 (bought : Int), .int .i64 free, .slice A n c] 59)) 63 #[.slice At nt ct, .int .i64 (fx : Int), .int .i64 (fb : Int), .int .i64 (db : Int), .int .i64 (al : Int)]
  have hsz : (w.alloc (.cells #[.int .i64 (me : Int), .int .i64 (rev : Int), .int .i64 (next : Int), .int .i64 (month : Int), .int .i64 (bought : Int), .int .i64 free, .slice A n c] 59)).heap.size = w.heap.size + 1 := by simp
  rw [hsz] at hD
  clear hsz
  go_enter Try.func49, Try.ntmps49
  go_wp2_with fail
  refine (hM _ hv1).mono ?_
  rintro e w1 ⟨rfl, hb2⟩
  have hs2 := hb2.size
  have hB1 := hB.below hb2 hB.lt
  have hD1 := hD.below hb2 hD.lt
  have k0 : w1.cell? ⟨w.heap.size, 0, none⟩ = some (.int .i64 (me : Int)) := hB1.cell 0
  have kf0 : w1.frozen? ⟨w.heap.size, 0, none⟩ = false := hB1.frozen 0
  have k1 : w1.cell? ⟨w.heap.size, 1, none⟩ = some (.int .i64 (rev : Int)) := hB1.cell 1
  have kf1 : w1.frozen? ⟨w.heap.size, 1, none⟩ = false := hB1.frozen 1
  have k2 : w1.cell? ⟨w.heap.size, 2, none⟩ = some (.int .i64 (next : Int)) := hB1.cell 2
  have kf2 : w1.frozen? ⟨w.heap.size, 2, none⟩ = false := hB1.frozen 2
  have k3 : w1.cell? ⟨w.heap.size, 3, none⟩ = some (.int .i64 (month : Int)) := hB1.cell 3
  have kf3 : w1.frozen? ⟨w.heap.size, 3, none⟩ = false := hB1.frozen 3
  have k4 : w1.cell? ⟨w.heap.size, 4, none⟩ = some (.int .i64 (bought : Int)) := hB1.cell 4
  have kf4 : w1.frozen? ⟨w.heap.size, 4, none⟩ = false := hB1.frozen 4
  have k5 : w1.cell? ⟨w.heap.size, 5, none⟩ = some (.int .i64 free) := hB1.cell 5
  have kf5 : w1.frozen? ⟨w.heap.size, 5, none⟩ = false := hB1.frozen 5
  have k6 : w1.cell? ⟨w.heap.size, 6, none⟩ = some (.slice A n c) := hB1.cell 6
  have kf6 : w1.frozen? ⟨w.heap.size, 6, none⟩ = false := hB1.frozen 6
  have j0 : w1.cell? ⟨w.heap.size + 1, 0, none⟩ = some (.slice At nt ct) := hD1.cell 0
  have jf0 : w1.frozen? ⟨w.heap.size + 1, 0, none⟩ = false := hD1.frozen 0
  have j1 : w1.cell? ⟨w.heap.size + 1, 1, none⟩ = some (.int .i64 (fx : Int)) := hD1.cell 1
  have jf1 : w1.frozen? ⟨w.heap.size + 1, 1, none⟩ = false := hD1.frozen 1
  have j2 : w1.cell? ⟨w.heap.size + 1, 2, none⟩ = some (.int .i64 (fb : Int)) := hD1.cell 2
  have jf2 : w1.frozen? ⟨w.heap.size + 1, 2, none⟩ = false := hD1.frozen 2
  have j3 : w1.cell? ⟨w.heap.size + 1, 3, none⟩ = some (.int .i64 (db : Int)) := hD1.cell 3
  have jf3 : w1.frozen? ⟨w.heap.size + 1, 3, none⟩ = false := hD1.frozen 3
  have j4 : w1.cell? ⟨w.heap.size + 1, 4, none⟩ = some (.int .i64 (al : Int)) := hD1.cell 4
  have jf4 : w1.frozen? ⟨w.heap.size + 1, 4, none⟩ = false := hD1.frozen 4
  clear hM
  go_wp2_with fail
  refine (hC _ (hv21.below hb2)).mono ?_
  rintro e w2 ⟨rfl, hb3⟩
  have hv3 := (hv1.below hb2).below hb3
  have hB2 := hB1.below hb3 hB1.lt
  have hD2 := hD1.below hb3 hD1.lt
  have hB2l := hB2.lt
  have hD2l := hD2.lt
  have hbb := (hb1.step hb2).step hb3
  clear k0 k1 k2 k3 k4 k5 k6 kf0 kf1 kf2 kf3 kf4 kf5 kf6 j0 j1 j2 j3 j4 jf0 jf1 jf2 jf3 jf4 hC hB hD hB1 hD1 hv1 hv21 hv hv2 hb1 hb2 hb3 hs2
  have k0 : w2.cell? ⟨w.heap.size, 0, none⟩ = some (.int .i64 (me : Int)) := hB2.cell 0
  have kf0 : w2.frozen? ⟨w.heap.size, 0, none⟩ = false := hB2.frozen 0
  have k1 : w2.cell? ⟨w.heap.size, 1, none⟩ = some (.int .i64 (rev : Int)) := hB2.cell 1
  have kf1 : w2.frozen? ⟨w.heap.size, 1, none⟩ = false := hB2.frozen 1
  have k2 : w2.cell? ⟨w.heap.size, 2, none⟩ = some (.int .i64 (next : Int)) := hB2.cell 2
  have kf2 : w2.frozen? ⟨w.heap.size, 2, none⟩ = false := hB2.frozen 2
  have k3 : w2.cell? ⟨w.heap.size, 3, none⟩ = some (.int .i64 (month : Int)) := hB2.cell 3
  have kf3 : w2.frozen? ⟨w.heap.size, 3, none⟩ = false := hB2.frozen 3
  have k4 : w2.cell? ⟨w.heap.size, 4, none⟩ = some (.int .i64 (bought : Int)) := hB2.cell 4
  have kf4 : w2.frozen? ⟨w.heap.size, 4, none⟩ = false := hB2.frozen 4
  have k5 : w2.cell? ⟨w.heap.size, 5, none⟩ = some (.int .i64 free) := hB2.cell 5
  have kf5 : w2.frozen? ⟨w.heap.size, 5, none⟩ = false := hB2.frozen 5
  have k6 : w2.cell? ⟨w.heap.size, 6, none⟩ = some (.slice A n c) := hB2.cell 6
  have kf6 : w2.frozen? ⟨w.heap.size, 6, none⟩ = false := hB2.frozen 6
  have j0 : w2.cell? ⟨w.heap.size + 1, 0, none⟩ = some (.slice At nt ct) := hD2.cell 0
  have jf0 : w2.frozen? ⟨w.heap.size + 1, 0, none⟩ = false := hD2.frozen 0
  have j1 : w2.cell? ⟨w.heap.size + 1, 1, none⟩ = some (.int .i64 (fx : Int)) := hD2.cell 1
  have jf1 : w2.frozen? ⟨w.heap.size + 1, 1, none⟩ = false := hD2.frozen 1
  have j2 : w2.cell? ⟨w.heap.size + 1, 2, none⟩ = some (.int .i64 (fb : Int)) := hD2.cell 2
  have jf2 : w2.frozen? ⟨w.heap.size + 1, 2, none⟩ = false := hD2.frozen 2
  have j3 : w2.cell? ⟨w.heap.size + 1, 3, none⟩ = some (.int .i64 (db : Int)) := hD2.cell 3
  have jf3 : w2.frozen? ⟨w.heap.size + 1, 3, none⟩ = false := hD2.frozen 3
  have j4 : w2.cell? ⟨w.heap.size + 1, 4, none⟩ = some (.int .i64 (al : Int)) := hD2.cell 4
  have jf4 : w2.frozen? ⟨w.heap.size + 1, 4, none⟩ = false := hD2.frozen 4
  obtain ⟨A', c', e', _, _, hrd⟩ := hv3
  injection e' with e1 e2 e3
  subst e1; subst e2; subst e3
  go_wp2_with (at_builtin; refine wpList_pushN el_d rfl (.const (.slice none 0 0)) (.tmp 16) rfl w2 w2.heap.size _ 0 [] rfl (World.ownsRow_nil _ _ _ _) w2.heap.size A l.length c (drs l) rfl hrd (drs_one l) (by omega) (by unfold maxLen; omega) w2 (Below.refl _ _) (Nat.le_refl _) ?_; intro A1 c1 w3 hown hb4; have hB3 := hB2.below hb4 hB2l; have hD3 := hD2.below hb4 hD2l; have m0 := hB3.cell 0; have m1 := hB3.cell 1; have m2 := hB3.cell 2; have m3 := hB3.cell 3; have m4 := hB3.cell 4; have m5 := hB3.cell 5; have m6 := hB3.cell 6; have f6 := hB3.frozen 6; have o0 := hD3.cell 0; have o1 := hD3.cell 1; have o2 := hD3.cell 2; have o3 := hD3.cell 3; have o4 := hD3.cell 4)
  simp only [Nat.zero_add, List.nil_append] at hown ⊢
  go_ret2
  have hsz := hown.1
  have q1 := own_far (p := ⟨w.heap.size, 6, none⟩) hown hB2l (.slice A1 l.length c1)
  have q2 := (own_mono q1 (b' := w.heap.size) (by omega)).alloc (.cells #[.int .i64 (me : Int), .int .i64 (rev : Int), .int .i64 (next : Int), .int .i64 (month : Int), .int .i64 (bought : Int), .int .i64 free, .slice A1 l.length c1, .slice At nt ct, .int .i64 (fx : Int), .int .i64 (fb : Int), .int .i64 (db : Int), .int .i64 (al : Int)] 120)
  have hb9 : Below w.heap.size w (w3.setCell ⟨w.heap.size, 6, none⟩ (.slice A1 l.length c1)) := (hbb.step hb4).setCell (p := ⟨w.heap.size, 6, none⟩) (Nat.le_refl _) _
  have hB9 := Blk.new (w3.setCell ⟨w.heap.size, 6, none⟩ (.slice A1 l.length c1)) 120 #[.int .i64 (me : Int), .int .i64 (rev : Int), .int .i64 (next : Int), .int .i64 (month : Int), .int .i64 (bought : Int), .int .i64 free, .slice A1 l.length c1, .slice At nt ct, .int .i64 (fx : Int), .int .i64 (fb : Int), .int .i64 (db : Int), .int .i64 (al : Int)]
  have hs9 := hb9.size
  have e9 : (w3.setCell ⟨w.heap.size, 6, none⟩ (.slice A1 l.length c1)).heap.size = w3.heap.size := by simp
  have hb10 := hb9.alloc hs9 (.cells #[.int .i64 (me : Int), .int .i64 (rev : Int), .int .i64 (next : Int), .int .i64 (month : Int), .int .i64 (bought : Int), .int .i64 free, .slice A1 l.length c1, .slice At nt ct, .int .i64 (fx : Int), .int .i64 (fb : Int), .int .i64 (db : Int), .int .i64 (al : Int)] 120)
  rw [e9] at hB9 hs9
  exact ⟨_, rfl, ⟨hs9, A1, c1, hB9, q2⟩, hb10⟩
end Go.Proofs.Ytnpkondgpmncnaa
