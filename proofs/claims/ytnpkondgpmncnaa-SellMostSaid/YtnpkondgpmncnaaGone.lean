/- gone: an account that may be; agreed: terms that are right. -/
import Derived.Test.YtnpkondgpmncnaaAcc
import Derived.Test.YtnpkondgpmncnaaStepped
import Derived.Test.YtnpkondgpmncnaaFitA
import Derived.Test.YtnpkondgpmncnaaSets
import Derived.Deep.RegionHeld3
import Derived.IntWalk
import Derived.Deep.DeepCutAuto
namespace Go.Proofs.Ytnpkondgpmncnaa
open Go.RowKit
set_option linter.unusedVariables false
theorem below_ad1 {v : Value} {ks : List IntKind} {n : Nat} {f : Nat → Nat → Int} (w : World) (o : Obj) (h : IsRows w v ks n f) : IsRows (w.alloc o).drew v ks n f := h.below (w' := (w.alloc o).drew) (below_draws (below_a1 w o) 1)
/-- The account's variable, whichever way it came to be. -/
def GZ (w W0 Wz : World) (gz : Nat) (ga gb : Array Value) (A1 : Option Addr) (c1 : Nat) (l : List (Nat × Nat)) : Prop :=
  Blk Wz gz 59 ga ∧ Blk Wz w.heap.size 53 gb ∧ Blk Wz (w.heap.size + 1) 59 #[.int .i64 0, .int .i64 0, .int .i64 0, .int .i64 0, .int .i64 0, .int .i64 0, .slice none 0 0] ∧
    Wz.ownsRow W0.heap.size 25 2 (.slice A1 l.length c1) l.length (drs l) ∧ Below w.heap.size w Wz ∧ w.heap.size + 1 < gz ∧ w.heap.size + 1 < W0.heap.size
theorem goneA {w W0 w1 : World} {ga gb : Array Value} {A1 : Option Addr} {c1 : Nat} {l : List (Nat × Nat)} {base : Nat} (hB1 : Blk w1 w.heap.size 53 gb) (hX1 : Blk w1 (w.heap.size + 1) 59 #[.int .i64 0, .int .i64 0, .int .i64 0, .int .i64 0, .int .i64 0, .int .i64 0, .slice none 0 0])
    (hown : w1.ownsRow base 25 2 (.slice A1 l.length c1) l.length (drs l)) (hbase : W0.heap.size ≤ base) (hbb : Below w.heap.size w w1) (hs : w.heap.size + 2 ≤ W0.heap.size) : GZ w W0 (w1.alloc (.cells ga 59)) w1.heap.size ga gb A1 c1 l :=
  ⟨Blk.new w1 _ _, hB1.alloc _, hX1.alloc _, (own_mono hown hbase).alloc _, hbb.alloc hbb.size _, hX1.lt, by omega⟩
theorem goneB {w W0 w1 : World} {gb : Array Value} {A1 : Option Addr} {c1 : Nat} {l : List (Nat × Nat)} {base : Nat} (ps : List (Nat × Value)) (hB1 : Blk w1 w.heap.size 53 gb) (hX1 : Blk w1 (w.heap.size + 1) 59 #[.int .i64 0, .int .i64 0, .int .i64 0, .int .i64 0, .int .i64 0, .int .i64 0, .slice none 0 0]) (hY1 : Blk w1 W0.heap.size 59 #[.int .i64 0, .int .i64 0, .int .i64 0, .int .i64 0, .int .i64 0, .int .i64 0, .slice none 0 0])
    (hown : w1.ownsRow base 25 2 (.slice A1 l.length c1) l.length (drs l)) (hbase : W0.heap.size < base) (hbb : Below w.heap.size w w1) (hs : w.heap.size + 2 ≤ W0.heap.size) : GZ w W0 (sets w1 W0.heap.size ps) W0.heap.size (ps.foldl (fun cs p => cs.setIfInBounds p.1 p.2) #[.int .i64 0, .int .i64 0, .int .i64 0, .int .i64 0, .int .i64 0, .int .i64 0, .slice none 0 0]) gb A1 c1 l :=
  ⟨Blk.sets ps hY1, Blk.sets_far (by omega) ps hB1, Blk.sets_far (by omega) ps hX1, own_mono (own_sets hbase ps hown) (by omega), below_sets (by omega) ps hbb, by omega, by omega⟩
theorem goneE {w W0 Wz : World} {gz : Nat} {ga : Array Value} {A1 : Option Addr} {c1 : Nat} {l : List (Nat × Nat)} (ps : List (Nat × Value)) (z3 : Blk Wz (w.heap.size + 1) 59 #[.int .i64 0, .int .i64 0, .int .i64 0, .int .i64 0, .int .i64 0, .int .i64 0, .slice none 0 0]) (z1 : Blk Wz gz 59 ga)
    (z4 : Wz.ownsRow W0.heap.size 25 2 (.slice A1 l.length c1) l.length (drs l)) (z5 : Below w.heap.size w Wz) (hn : w.heap.size + 1 ≠ gz) (hg : w.heap.size ≤ gz) (h0 : w.heap.size + 1 < W0.heap.size) (fz : Int) :
    Blk (sets (Wz.setCell ⟨gz, 5, none⟩ (.int .i64 fz)) (w.heap.size + 1) ps) (w.heap.size + 1) 59 (ps.foldl (fun cs p => cs.setIfInBounds p.1 p.2) #[.int .i64 0, .int .i64 0, .int .i64 0, .int .i64 0, .int .i64 0, .int .i64 0, .slice none 0 0]) ∧
      (sets (Wz.setCell ⟨gz, 5, none⟩ (.int .i64 fz)) (w.heap.size + 1) ps).ownsRow W0.heap.size 25 2 (.slice A1 l.length c1) l.length (drs l) ∧ Below w.heap.size w (sets (Wz.setCell ⟨gz, 5, none⟩ (.int .i64 fz)) (w.heap.size + 1) ps) :=
  ⟨Blk.sets ps (z3.far (p := ⟨gz, 5, none⟩) hn _), own_sets h0 ps (own_other (p := ⟨gz, 5, none⟩) z4 (blk_not_row z1 (by decide) z4) _), below_sets (by omega) ps (z5.setCell (p := ⟨gz, 5, none⟩) hg _)⟩
/-- The answer of 'gone': an account that may be, with two numbers left and a month to come. -/
def RetGone (w : World) (e : Ending) (w' : World) : Prop :=
  ∃ (me rev next month bought : Nat) (free : Int) (l : List (Nat × Nat)) (A : Option Addr) (c : Nat), e = .returned (.agg #[.int .i64 (me : Int), .int .i64 (rev : Int), .int .i64 (next : Int), .int .i64 (month : Int), .int .i64 (bought : Int), .int .i64 free, .slice A l.length c]) ∧
    AOk me rev next month bought free ∧ next ≤ 1048574 ∧ month ≤ 2398 ∧ DOk l ∧ IsDs w' (.slice A l.length c) l ∧ Below w.heap.size w w'
/-- The same, and the row of debts is the call's own. -/
def RetGoneO (w : World) (e : Ending) (w' : World) : Prop :=
  ∃ (me rev next month bought : Nat) (free : Int) (l : List (Nat × Nat)) (A : Option Addr) (c : Nat), e = .returned (.agg #[.int .i64 (me : Int), .int .i64 (rev : Int), .int .i64 (next : Int), .int .i64 (month : Int), .int .i64 (bought : Int), .int .i64 free, .slice A l.length c]) ∧
    AOk me rev next month bought free ∧ next ≤ 1048574 ∧ month ≤ 2398 ∧ DOk l ∧ w'.ownsRow w.heap.size 25 2 (.slice A l.length c) l.length (drs l) ∧ Below w.heap.size w w'
set_option maxRecDepth 100000 in
set_option maxHeartbeats 8000000 in
theorem gone_own (a b c d e f : Int) (A : Option Addr) (n m : Nat) (g : Nat → Nat → Int) (w : World) (wa : (Lit.int .i64 a).wf = true) (wb : (Lit.int .i64 b).wf = true) (wc : (Lit.int .i64 c).wf = true) (wd : (Lit.int .i64 d).wf = true) (we : (Lit.int .i64 e).wf = true) (wf : (Lit.int .i64 f).wf = true)
    (hv : IsRows w (.slice A n m) [.i64, .i64] n g) :
    Calls Try.prog 21 #[.agg #[.int .i64 a, .int .i64 b, .int .i64 c, .int .i64 d, .int .i64 e, .int .i64 f, .slice A n m]] w (RetGoneO w) := by
  obtain ⟨me, h1, g1⟩ := pk_lit a 50 (by omega)
  obtain ⟨rev, h2, g2⟩ := pk_lit b 16 (by omega)
  obtain ⟨nx, h3, g3⟩ := pk_lit c 1048574 (by omega)
  obtain ⟨mo, h4, g4⟩ := pk_lit d 2399 (by omega)
  obtain ⟨bo, h5, g5⟩ := pk_lit e 10000001 (by omega)
  obtain ⟨N, hN⟩ : ∃ N : Int, (mo : Int) + 2 = N := ⟨_, rfl⟩
  obtain ⟨fr, h6, g6⟩ := pk_lit f N (by omega)
  have hO : ∀ W, IsRows W (.slice A n m) [.i64, .i64] n g → Calls Try.prog 47 #[.slice A n m, .int .i64 1000000000] W (RetDsO 1000000000 W) := fun W h => owing_own (.slice A n m) n g 1000000000 W h (by omega)
  have m1 : (me : Int) ≤ 49 := by omega
  have m2 : (rev : Int) ≤ 15 := by omega
  have m3 : (nx : Int) ≤ 1048573 := by omega
  have m4 : (mo : Int) ≤ 2398 := by omega
  have m5 : (bo : Int) ≤ 10000000 := by omega
  have m6 : (fr : Int) ≤ (mo : Int) + 1 := by omega
  clear g1 g2 g3 g4 g5 g6
  obtain ⟨N1, hN1⟩ : ∃ N1 : Nat, (1 : Int) + (nx : Int) = (N1 : Int) := ⟨1 + nx, by omega⟩
  obtain ⟨fz, hfz⟩ : ∃ fz : Int, (fr : Int) - 1 = fz := ⟨_, rfl⟩
  have hwN : IntKind.i64.wrap ((1 : Int) + (nx : Int)) = (N1 : Int) := by rw [hN1]; exact IntWalk.i64_in _ (by omega)
  have hok : AOk me rev N1 mo bo fz := ⟨by omega, by omega, by omega, by omega, by omega, by omega, by omega, by omega⟩
  have hn9 : N1 ≤ 1048574 ∧ mo ≤ 2398 := by omega
  have HN9 := Lib.hid hn9
  have HOK := Lib.hid hok
  have K1 : (1 : Int) ≤ N := by omega
  have K2 : N ≤ 9223372036854775807 := by omega
  clear hok hn9 hN1
  obtain ⟨W0, hW0⟩ : ∃ W0, (w.alloc (.cells #[.int .i64 a, .int .i64 b, .int .i64 c, .int .i64 d, .int .i64 e, .int .i64 f, .slice A n m] 53)).alloc (.cells #[.int .i64 0, .int .i64 0, .int .i64 0, .int .i64 0, .int .i64 0, .int .i64 0, .slice none 0 0] 59) = W0 := ⟨_, rfl⟩
  have hb0 : Below w.heap.size w W0 := by rw [← hW0]; exact below_a2 _ _ _
  have hv0 := hv.below hb0
  have hs0 : W0.heap.size = w.heap.size + 2 := by rw [← hW0]; simp
  have hB : Blk W0 w.heap.size 53 #[.int .i64 a, .int .i64 b, .int .i64 c, .int .i64 d, .int .i64 e, .int .i64 f, .slice A n m] := by
    rw [← hW0]; exact (Blk.new w _ _).alloc _
  have hX : Blk W0 (w.heap.size + 1) 59 #[.int .i64 0, .int .i64 0, .int .i64 0, .int .i64 0, .int .i64 0, .int .i64 0, .slice none 0 0] := by
    have := Blk.new (w.alloc (.cells #[.int .i64 a, .int .i64 b, .int .i64 c, .int .i64 d, .int .i64 e, .int .i64 f, .slice A n m] 53)) 59 #[.int .i64 0, .int .i64 0, .int .i64 0, .int .i64 0, .int .i64 0, .int .i64 0, .slice none 0 0]
    rw [hW0] at this
    simpa using this
  have hs1 : w.heap.size + 2 ≤ W0.heap.size := by omega
  have hne1 : w.heap.size ≠ W0.heap.size := by omega
  have hne2 : W0.heap.size ≠ w.heap.size := by omega
  clear hv hs0
  go_enter Try.func21, Try.ntmps21
  go_upto_region 1 with fail
  go_cut [3] (fun p wx => ∃ (gz : Nat) (l : List (Nat × Nat)) (A1 : Option Addr) (c1 : Nat), p = .pointer (some ⟨gz, 0, none⟩) ∧ GZ w W0 wx gz #[.int .i64 (me : Int), .int .i64 (rev : Int), .int .i64 (N1 : Int), .int .i64 (mo : Int), .int .i64 (bo : Int), .int .i64 0, .slice A1 l.length c1] #[.int .i64 a, .int .i64 b, .int .i64 c, .int .i64 d, .int .i64 e, .int .i64 f, .slice A n m] A1 c1 l ∧ DOk l)
  case first =>
    have k0 : W0.cell? ⟨w.heap.size, 0, none⟩ = some (.int .i64 a) := hB.cell 0
    have kf0 : W0.frozen? ⟨w.heap.size, 0, none⟩ = false := hB.frozen 0
    have k1 : W0.cell? ⟨w.heap.size, 1, none⟩ = some (.int .i64 b) := hB.cell 1
    have kf1 : W0.frozen? ⟨w.heap.size, 1, none⟩ = false := hB.frozen 1
    have k2 : W0.cell? ⟨w.heap.size, 2, none⟩ = some (.int .i64 c) := hB.cell 2
    have kf2 : W0.frozen? ⟨w.heap.size, 2, none⟩ = false := hB.frozen 2
    have k3 : W0.cell? ⟨w.heap.size, 3, none⟩ = some (.int .i64 d) := hB.cell 3
    have kf3 : W0.frozen? ⟨w.heap.size, 3, none⟩ = false := hB.frozen 3
    have k4 : W0.cell? ⟨w.heap.size, 4, none⟩ = some (.int .i64 e) := hB.cell 4
    have kf4 : W0.frozen? ⟨w.heap.size, 4, none⟩ = false := hB.frozen 4
    have k5 : W0.cell? ⟨w.heap.size, 5, none⟩ = some (.int .i64 f) := hB.cell 5
    have kf5 : W0.frozen? ⟨w.heap.size, 5, none⟩ = false := hB.frozen 5
    have k6 : W0.cell? ⟨w.heap.size, 6, none⟩ = some (.slice A n m) := hB.cell 6
    have kf6 : W0.frozen? ⟨w.heap.size, 6, none⟩ = false := hB.frozen 6
    clear hW0
    have hvd : IsRows W0.drew (.slice A n m) [.i64, .i64] n g := hv0
    have hva : IsRows (W0.alloc (.cells #[.int .i64 0, .int .i64 0, .int .i64 0, .int .i64 0, .int .i64 0, .int .i64 0, .slice none 0 0] 59)).drew (.slice A n m) [.i64, .i64] n g := (below_ad1 W0 _ hv0)
    have kk0 := ((hB.alloc (.cells #[.int .i64 0, .int .i64 0, .int .i64 0, .int .i64 0, .int .i64 0, .int .i64 0, .slice none 0 0] 59)).cell 0)
    have kk1 := ((hB.alloc (.cells #[.int .i64 0, .int .i64 0, .int .i64 0, .int .i64 0, .int .i64 0, .int .i64 0, .slice none 0 0] 59)).cell 1)
    have kk2 := ((hB.alloc (.cells #[.int .i64 0, .int .i64 0, .int .i64 0, .int .i64 0, .int .i64 0, .int .i64 0, .slice none 0 0] 59)).cell 2)
    have kk3 := ((hB.alloc (.cells #[.int .i64 0, .int .i64 0, .int .i64 0, .int .i64 0, .int .i64 0, .int .i64 0, .slice none 0 0] 59)).cell 3)
    have kk4 := ((hB.alloc (.cells #[.int .i64 0, .int .i64 0, .int .i64 0, .int .i64 0, .int .i64 0, .int .i64 0, .slice none 0 0] 59)).cell 4)
    have kk6 := ((hB.alloc (.cells #[.int .i64 0, .int .i64 0, .int .i64 0, .int .i64 0, .int .i64 0, .int .i64 0, .slice none 0 0] 59)).cell 6)
    go_region_held3 (fun w' => w'.cell? ⟨w.heap.size, 0, none⟩ = some (.int .i64 a) ∧ w'.cell? ⟨w.heap.size, 1, none⟩ = some (.int .i64 b) ∧ w'.cell? ⟨w.heap.size, 2, none⟩ = some (.int .i64 c) ∧ w'.cell? ⟨w.heap.size, 3, none⟩ = some (.int .i64 d) ∧ w'.cell? ⟨w.heap.size, 4, none⟩ = some (.int .i64 e) ∧ w'.cell? ⟨w.heap.size, 6, none⟩ = some (.slice A n m)) (first | go_keep | exact ⟨s0, s1, s2, s3, s4, s6⟩ | fail)
      (first | (go_at_call 18; with_reducible refine (picked_is _ h1 wa (by omega) (by omega)).mono ?_; rintro e w' ⟨rfl, rfl⟩) | (go_at_call 18; with_reducible refine (picked_is _ h2 wb (by omega) (by omega)).mono ?_; rintro e w' ⟨rfl, rfl⟩) | (go_at_call 18; with_reducible refine (picked_is _ h3 wc (by omega) (by omega)).mono ?_; rintro e w' ⟨rfl, rfl⟩) | (go_at_call 18; with_reducible refine (picked_is _ h4 wd (by omega) (by omega)).mono ?_; rintro e w' ⟨rfl, rfl⟩) | (go_at_call 18; with_reducible refine (picked_is _ h5 we (by omega) (by omega)).mono ?_; rintro e w' ⟨rfl, rfl⟩) | (go_at_call 47; (with_reducible refine (hO _ hvd).mono ?_); rintro e9 w1 ⟨l, A1, c1, rfl, h8, hp, hds, hown, hb1⟩; have q1 : w.heap.size < w1.heap.size := Nat.lt_of_lt_of_le (by simp; omega) hb1.size; have s0 := (hb1.cell (p := ⟨w.heap.size, 0, none⟩) (by show w.heap.size < _; simp; omega)).trans k0; have s1 := (hb1.cell (p := ⟨w.heap.size, 1, none⟩) (by show w.heap.size < _; simp; omega)).trans k1; have s2 := (hb1.cell (p := ⟨w.heap.size, 2, none⟩) (by show w.heap.size < _; simp; omega)).trans k2; have s3 := (hb1.cell (p := ⟨w.heap.size, 3, none⟩) (by show w.heap.size < _; simp; omega)).trans k3; have s4 := (hb1.cell (p := ⟨w.heap.size, 4, none⟩) (by show w.heap.size < _; simp; omega)).trans k4; have s6 := (hb1.cell (p := ⟨w.heap.size, 6, none⟩) (by show w.heap.size < _; simp; omega)).trans k6; have hX1 := Blk.below (w := W0.drew) hX hb1 (by show w.heap.size + 1 < W0.heap.size; omega); have hB1 := Blk.below (w := W0.drew) hB hb1 (by show w.heap.size < W0.heap.size; omega); have hbb := (below_draws hb0 1).trans (hb1.mono (show w.heap.size ≤ W0.heap.size by omega))) | (go_at_call 47; (with_reducible refine (hO _ hva).mono ?_); rintro e9 w1 ⟨l, A1, c1, rfl, h8, hp, hds, hown, hb1⟩; have q1 : w.heap.size < w1.heap.size := Nat.lt_of_lt_of_le (by simp; omega) hb1.size; have s0 := (hb1.cell (p := ⟨w.heap.size, 0, none⟩) (by show w.heap.size < _; simp; omega)).trans kk0; have s1 := (hb1.cell (p := ⟨w.heap.size, 1, none⟩) (by show w.heap.size < _; simp; omega)).trans kk1; have s2 := (hb1.cell (p := ⟨w.heap.size, 2, none⟩) (by show w.heap.size < _; simp; omega)).trans kk2; have s3 := (hb1.cell (p := ⟨w.heap.size, 3, none⟩) (by show w.heap.size < _; simp; omega)).trans kk3; have s4 := (hb1.cell (p := ⟨w.heap.size, 4, none⟩) (by show w.heap.size < _; simp; omega)).trans kk4; have s6 := (hb1.cell (p := ⟨w.heap.size, 6, none⟩) (by show w.heap.size < _; simp; omega)).trans kk6; have hX1 := Blk.below (w := (W0.alloc (.cells #[.int .i64 0, .int .i64 0, .int .i64 0, .int .i64 0, .int .i64 0, .int .i64 0, .slice none 0 0] 59)).drew) (hX.alloc _) hb1 (by show w.heap.size + 1 < (W0.alloc _).heap.size; simp; omega); have hB1 := Blk.below (w := (W0.alloc (.cells #[.int .i64 0, .int .i64 0, .int .i64 0, .int .i64 0, .int .i64 0, .int .i64 0, .slice none 0 0] 59)).drew) (hB.alloc _) hb1 (by show w.heap.size < (W0.alloc _).heap.size; simp; omega); have hY1 := Blk.below (w := (W0.alloc (.cells #[.int .i64 0, .int .i64 0, .int .i64 0, .int .i64 0, .int .i64 0, .int .i64 0, .slice none 0 0] 59)).drew) (Blk.new W0 _ _) hb1 (by show W0.heap.size < (W0.alloc _).heap.size; simp); have y0 := hY1.cell 0; have yf0 := hY1.frozen 0; have y1 := hY1.cell 1; have yf1 := hY1.frozen 1; have y2 := hY1.cell 2; have yf2 := hY1.frozen 2; have y3 := hY1.cell 3; have yf3 := hY1.frozen 3; have y4 := hY1.cell 4; have yf4 := hY1.frozen 4; have y5 := hY1.cell 5; have yf5 := hY1.frozen 5; have y6 := hY1.cell 6; have yf6 := hY1.frozen 6; have hbb := (below_draws (hb0.alloc hb0.size _) 1).trans (hb1.mono (show w.heap.size ≤ (W0.alloc _).heap.size by simp; omega))))
    all_goals
      clear hwN
      first
      | (have hz := goneA (ga := #[.int .i64 (me : Int), .int .i64 (rev : Int), .int .i64 (N1 : Int), .int .i64 (mo : Int), .int .i64 (bo : Int), .int .i64 0, .slice A1 l.length c1]) hB1 hX1 hown (show W0.heap.size ≤ W0.heap.size from Nat.le_refl _) hbb hs1
         obtain ⟨Wz, hWz⟩ : ∃ Wz, w1.alloc (.cells #[.int .i64 (me : Int), .int .i64 (rev : Int), .int .i64 (N1 : Int), .int .i64 (mo : Int), .int .i64 (bo : Int), .int .i64 0, .slice A1 l.length c1] 59) = Wz := ⟨_, rfl⟩
         rw [hWz] at hz
         rw [hWz]
         obtain ⟨gz, hgz⟩ : ∃ gz, w1.heap.size = gz := ⟨_, rfl⟩
         rw [hgz] at hz)
      | (have hz := goneB [(0, .int .i64 (me : Int)), (1, .int .i64 (rev : Int)), (2, .int .i64 (N1 : Int)), (3, .int .i64 (mo : Int)), (4, .int .i64 (bo : Int)), (5, .int .i64 0), (6, .slice A1 l.length c1)] hB1 hX1 hY1 hown (show W0.heap.size < (W0.alloc _).heap.size by simp) hbb hs1
         simp only [sets, List.foldl_cons, List.foldl_nil] at hz
         obtain ⟨Wz, hWz⟩ : ∃ Wz, (((((((w1.setCell ⟨W0.heap.size, 0, none⟩ (.int .i64 (me : Int))).setCell ⟨W0.heap.size, 1, none⟩ (.int .i64 (rev : Int))).setCell ⟨W0.heap.size, 2, none⟩ (.int .i64 (N1 : Int))).setCell ⟨W0.heap.size, 3, none⟩ (.int .i64 (mo : Int))).setCell ⟨W0.heap.size, 4, none⟩ (.int .i64 (bo : Int))).setCell ⟨W0.heap.size, 5, none⟩ (.int .i64 0)).setCell ⟨W0.heap.size, 6, none⟩ (.slice A1 l.length c1)) = Wz := ⟨_, rfl⟩
         rw [hWz] at hz
         rw [hWz]
         obtain ⟨gz, hgz⟩ : ∃ gz, W0.heap.size = gz := ⟨_, rfl⟩
         rw [hgz] at hz)
      go_wp2_with fail
      go_meet
      exact ⟨gz, l, A1, c1, by rw [hgz], hz, h8, hp⟩
  case rest =>
    obtain ⟨gz, l, A1, c1, rfl, ⟨z1, z2, z3, z4, z5, z6, z7⟩, hdok⟩ := hcut
    obtain ⟨Wz, rfl⟩ : ∃ Wz, Wz = wc := ⟨_, rfl⟩
    have zlt := z1.lt
    have zn1 : gz ≠ w.heap.size := by omega
    have zn2 : gz ≠ w.heap.size + 1 := by omega
    have zn3 : w.heap.size + 1 ≠ gz := by omega
    have zn4 : w.heap.size ≠ gz := by omega
    have zg : w.heap.size ≤ gz := by omega
    clear hwN hv0 hO hb0 hB hX hne1 hne2 hW0
    have j5 := z2.cell 5
    have i0 : Wz.cell? ⟨gz, 0, none⟩ = some (.int .i64 (me : Int)) := z1.cell 0
    have if0 : Wz.frozen? ⟨gz, 0, none⟩ = false := z1.frozen 0
    have i1 : Wz.cell? ⟨gz, 1, none⟩ = some (.int .i64 (rev : Int)) := z1.cell 1
    have if1 : Wz.frozen? ⟨gz, 1, none⟩ = false := z1.frozen 1
    have i2 : Wz.cell? ⟨gz, 2, none⟩ = some (.int .i64 (N1 : Int)) := z1.cell 2
    have if2 : Wz.frozen? ⟨gz, 2, none⟩ = false := z1.frozen 2
    have i3 : Wz.cell? ⟨gz, 3, none⟩ = some (.int .i64 (mo : Int)) := z1.cell 3
    have if3 : Wz.frozen? ⟨gz, 3, none⟩ = false := z1.frozen 3
    have i4 : Wz.cell? ⟨gz, 4, none⟩ = some (.int .i64 (bo : Int)) := z1.cell 4
    have if4 : Wz.frozen? ⟨gz, 4, none⟩ = false := z1.frozen 4
    have i5 : Wz.cell? ⟨gz, 5, none⟩ = some (.int .i64 0) := z1.cell 5
    have if5 : Wz.frozen? ⟨gz, 5, none⟩ = false := z1.frozen 5
    have i6 : Wz.cell? ⟨gz, 6, none⟩ = some (.slice A1 l.length c1) := z1.cell 6
    have if6 : Wz.frozen? ⟨gz, 6, none⟩ = false := z1.frozen 6
    have r0 : Wz.cell? ⟨w.heap.size + 1, 0, none⟩ = some (.int .i64 0) := z3.cell 0
    have rf0 : Wz.frozen? ⟨w.heap.size + 1, 0, none⟩ = false := z3.frozen 0
    have r1 : Wz.cell? ⟨w.heap.size + 1, 1, none⟩ = some (.int .i64 0) := z3.cell 1
    have rf1 : Wz.frozen? ⟨w.heap.size + 1, 1, none⟩ = false := z3.frozen 1
    have r2 : Wz.cell? ⟨w.heap.size + 1, 2, none⟩ = some (.int .i64 0) := z3.cell 2
    have rf2 : Wz.frozen? ⟨w.heap.size + 1, 2, none⟩ = false := z3.frozen 2
    have r3 : Wz.cell? ⟨w.heap.size + 1, 3, none⟩ = some (.int .i64 0) := z3.cell 3
    have rf3 : Wz.frozen? ⟨w.heap.size + 1, 3, none⟩ = false := z3.frozen 3
    have r4 : Wz.cell? ⟨w.heap.size + 1, 4, none⟩ = some (.int .i64 0) := z3.cell 4
    have rf4 : Wz.frozen? ⟨w.heap.size + 1, 4, none⟩ = false := z3.frozen 4
    have r5 : Wz.cell? ⟨w.heap.size + 1, 5, none⟩ = some (.int .i64 0) := z3.cell 5
    have rf5 : Wz.frozen? ⟨w.heap.size + 1, 5, none⟩ = false := z3.frozen 5
    have r6 : Wz.cell? ⟨w.heap.size + 1, 6, none⟩ = some (.slice none 0 0) := z3.cell 6
    have rf6 : Wz.frozen? ⟨w.heap.size + 1, 6, none⟩ = false := z3.frozen 6
    clear hs1
    go_wp2_with (go_at_call 18; with_reducible refine (picked_is _ h6 wf K1 K2).mono ?_; rintro e9 w' ⟨rfl, rfl⟩)
    have hE := goneE [(0, .int .i64 (me : Int)), (1, .int .i64 (rev : Int)), (2, .int .i64 (N1 : Int)), (3, .int .i64 (mo : Int)), (4, .int .i64 (bo : Int)), (5, .int .i64 fz), (6, .slice A1 l.length c1)] z3 z1 z4 z5 zn3 zg z7 fz
    obtain ⟨hX4, ho3, hb3⟩ := hE
    have hX4 : Blk _ (w.heap.size + 1) 59 #[.int .i64 (me : Int), .int .i64 (rev : Int), .int .i64 (N1 : Int), .int .i64 (mo : Int), .int .i64 (bo : Int), .int .i64 fz, .slice A1 l.length c1] := hX4
    have r0 := hX4.cell 0
    have r1 := hX4.cell 1
    have r2 := hX4.cell 2
    have r3 := hX4.cell 3
    have r4 := hX4.cell 4
    have r5 := hX4.cell 5
    have r6 := hX4.cell 6
    have hd3 := own_mono (b' := w.heap.size) ho3 (by omega)
    simp only [sets, List.foldl_cons, List.foldl_nil] at r0 r1 r2 r3 r4 r5 r6 hd3 hb3
    refine bodyPost_ret (v := .agg #[.int .i64 (me : Int), .int .i64 (rev : Int), .int .i64 (N1 : Int), .int .i64 (mo : Int), .int .i64 (bo : Int), .int .i64 fz, .slice A1 l.length c1]) (by simp [results, Try.results21, go_sem, r0, r1, r2, r3, r4, r5, r6]; done) rfl ?_
    exact ⟨me, rev, N1, mo, bo, fz, l, A1, c1, rfl, HOK.out, HN9.out.1, HN9.out.2, hdok, hd3, hb3⟩
theorem gone_ok (a b c d e f : Int) (A : Option Addr) (n m : Nat) (g : Nat → Nat → Int) (w : World) (wa : (Lit.int .i64 a).wf = true) (wb : (Lit.int .i64 b).wf = true) (wc : (Lit.int .i64 c).wf = true) (wd : (Lit.int .i64 d).wf = true) (we : (Lit.int .i64 e).wf = true) (wf : (Lit.int .i64 f).wf = true)
    (hv : IsRows w (.slice A n m) [.i64, .i64] n g) :
    Calls Try.prog 21 #[.agg #[.int .i64 a, .int .i64 b, .int .i64 c, .int .i64 d, .int .i64 e, .int .i64 f, .slice A n m]] w (RetGone w) :=
  (gone_own a b c d e f A n m g w wa wb wc wd we wf hv).mono fun _ _ ⟨me, rev, next, month, bought, free, l, A, c, h1, h2, h3, h4, h5, h6, h7⟩ => ⟨me, rev, next, month, bought, free, l, A, c, h1, h2, h3, h4, h5, isds_own rfl h6, h7⟩
end Go.Proofs.Ytnpkondgpmncnaa
