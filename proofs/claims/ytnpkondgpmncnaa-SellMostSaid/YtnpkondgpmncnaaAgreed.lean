/- agreed: terms that are right. -/
import Derived.Test.YtnpkondgpmncnaaAcc
import Derived.Test.YtnpkondgpmncnaaStepped
import Derived.Test.YtnpkondgpmncnaaFitA
import Derived.Test.YtnpkondgpmncnaaSets
import Derived.Deep.RegionHeld3
namespace Go.Proofs.Ytnpkondgpmncnaa
open Go.RowKit
set_option linter.unusedVariables false
/-- The answer of 'agreed': terms that may be. -/
def RetAg (w : World) (e : Ending) (w' : World) : Prop :=
  ∃ (tl : List (Nat × Nat)) (A : Option Addr) (c fx fb db al : Nat), e = .returned (.agg #[.slice A tl.length c, .int .i64 (fx : Int), .int .i64 (fb : Int), .int .i64 (db : Int), .int .i64 (al : Int)]) ∧
    TOk tl ∧ TmOk fx fb db al ∧ IsDs w' (.slice A tl.length c) tl ∧ Below w.heap.size w w'
/-- The same, and the tariff's row is the call's own. -/
def RetAgO (w : World) (e : Ending) (w' : World) : Prop :=
  ∃ (tl : List (Nat × Nat)) (A : Option Addr) (c fx fb db al : Nat), e = .returned (.agg #[.slice A tl.length c, .int .i64 (fx : Int), .int .i64 (fb : Int), .int .i64 (db : Int), .int .i64 (al : Int)]) ∧
    TOk tl ∧ TmOk fx fb db al ∧ w'.ownsRow w.heap.size 122 2 (.slice A tl.length c) tl.length (drs tl) ∧ Below w.heap.size w w'
set_option maxRecDepth 100000 in
set_option maxHeartbeats 2000000 in
theorem agreed_own (A : Option Addr) (n m : Nat) (g : Nat → Nat → Int) (a b c d : Int) (w : World) (wa : (Lit.int .i64 a).wf = true) (wb : (Lit.int .i64 b).wf = true) (wc : (Lit.int .i64 c).wf = true) (wd : (Lit.int .i64 d).wf = true)
    (hv : IsRows w (.slice A n m) [.i64, .i64] n g) :
    Calls Try.prog 22 #[.agg #[.slice A n m, .int .i64 a, .int .i64 b, .int .i64 c, .int .i64 d]] w (RetAgO w) := by
  obtain ⟨fx, h1, g1⟩ := pk_lit a 100001 (by omega)
  obtain ⟨fb, h2, g2⟩ := pk_lit b 10001 (by omega)
  obtain ⟨db, h3, g3⟩ := pk_lit c 10001 (by omega)
  obtain ⟨al, h4, g4⟩ := pk_lit d 2097152 (by omega)
  have hS := fun W h => stepped_own (.slice A n m) n g W h
  have HT : Hid (TmOk fx fb db al) := ⟨by omega, by omega, by omega, by omega⟩
  clear g1 g2 g3 g4
  obtain ⟨W0, hW0⟩ : ∃ W0, (w.alloc (.cells #[.slice A n m, .int .i64 a, .int .i64 b, .int .i64 c, .int .i64 d] 56)).alloc (.cells #[.slice none 0 0, .int .i64 0, .int .i64 0, .int .i64 0, .int .i64 0] 63) = W0 := ⟨_, rfl⟩
  have hb0 : Below w.heap.size w W0 := by rw [← hW0]; exact below_a2 _ _ _
  have hv0 := hv.below hb0
  have hvd : IsRows W0.drew (.slice A n m) [.i64, .i64] n g := hv0
  have hs0 : w.heap.size + 2 ≤ W0.heap.size := by rw [← hW0]; simp
  have hB : Blk W0 w.heap.size 56 #[.slice A n m, .int .i64 a, .int .i64 b, .int .i64 c, .int .i64 d] := by
    rw [← hW0]; exact (Blk.new w _ _).alloc _
  have hX : Blk W0 (w.heap.size + 1) 63 #[.slice none 0 0, .int .i64 0, .int .i64 0, .int .i64 0, .int .i64 0] := by
    have := Blk.new (w.alloc (.cells #[.slice A n m, .int .i64 a, .int .i64 b, .int .i64 c, .int .i64 d] 56)) 63 #[.slice none 0 0, .int .i64 0, .int .i64 0, .int .i64 0, .int .i64 0]
    rw [hW0] at this
    simpa using this
  clear hv
  go_enter Try.func22, Try.ntmps22
  go_wp2_with fail
  have k0 : W0.cell? ⟨w.heap.size, 0, none⟩ = some (.slice A n m) := hB.cell 0
  have kf0 : W0.frozen? ⟨w.heap.size, 0, none⟩ = false := hB.frozen 0
  have k1 : W0.cell? ⟨w.heap.size, 1, none⟩ = some (.int .i64 a) := hB.cell 1
  have kf1 : W0.frozen? ⟨w.heap.size, 1, none⟩ = false := hB.frozen 1
  have k2 : W0.cell? ⟨w.heap.size, 2, none⟩ = some (.int .i64 b) := hB.cell 2
  have kf2 : W0.frozen? ⟨w.heap.size, 2, none⟩ = false := hB.frozen 2
  have k3 : W0.cell? ⟨w.heap.size, 3, none⟩ = some (.int .i64 c) := hB.cell 3
  have kf3 : W0.frozen? ⟨w.heap.size, 3, none⟩ = false := hB.frozen 3
  have k4 : W0.cell? ⟨w.heap.size, 4, none⟩ = some (.int .i64 d) := hB.cell 4
  have kf4 : W0.frozen? ⟨w.heap.size, 4, none⟩ = false := hB.frozen 4
  clear hW0
  go_region_held3 (fun w' => w'.cell? ⟨w.heap.size, 0, none⟩ = some (.slice A n m) ∧ w'.cell? ⟨w.heap.size, 1, none⟩ = some (.int .i64 a) ∧ w'.cell? ⟨w.heap.size, 2, none⟩ = some (.int .i64 b) ∧ w'.cell? ⟨w.heap.size, 3, none⟩ = some (.int .i64 c) ∧ w'.cell? ⟨w.heap.size, 4, none⟩ = some (.int .i64 d)) (first | go_keep | exact ⟨s0, s1, s2, s3, s4⟩ | fail)
    (first | (go_at_call 18; with_reducible refine (picked_is _ h1 wa (by omega) (by omega)).mono ?_; rintro e w' ⟨rfl, rfl⟩) | (go_at_call 18; with_reducible refine (picked_is _ h2 wb (by omega) (by omega)).mono ?_; rintro e w' ⟨rfl, rfl⟩) | (go_at_call 18; with_reducible refine (picked_is _ h3 wc (by omega) (by omega)).mono ?_; rintro e w' ⟨rfl, rfl⟩) | (go_at_call 18; with_reducible refine (picked_is _ h4 wd (by omega) (by omega)).mono ?_; rintro e w' ⟨rfl, rfl⟩) | (go_at_call 48; (with_reducible refine (hS _ hvd).mono ?_); rintro e w1 ⟨tl, A1, c1, rfl, hT, hown, hb1⟩; have hlt0 : w.heap.size < W0.drew.heap.size := (show w.heap.size < W0.heap.size by omega); have hlt1 : w.heap.size + 1 < W0.drew.heap.size := (show w.heap.size + 1 < W0.heap.size by omega); have s0 := (hb1.cell (p := ⟨w.heap.size, 0, none⟩) hlt0).trans k0; have s1 := (hb1.cell (p := ⟨w.heap.size, 1, none⟩) hlt0).trans k1; have s2 := (hb1.cell (p := ⟨w.heap.size, 2, none⟩) hlt0).trans k2; have s3 := (hb1.cell (p := ⟨w.heap.size, 3, none⟩) hlt0).trans k3; have s4 := (hb1.cell (p := ⟨w.heap.size, 4, none⟩) hlt0).trans k4; have hX1 := Blk.below (w := W0.drew) hX hb1 hlt1; have x0 := hX1.cell 0; have x1 := hX1.cell 1; have x2 := hX1.cell 2; have x3 := hX1.cell 3; have x4 := hX1.cell 4; have y0 := hX1.frozen 0; have y1 := hX1.frozen 1; have y2 := hX1.frozen 2; have y3 := hX1.frozen 3; have y4 := hX1.frozen 4))
  clear s0 s1 s2 s3 s4 k0 k1 k2 k3 k4 kf0 kf1 kf2 kf3 kf4 x0 x1 x2 x3 x4 y0 y1 y2 y3 y4 hS hvd hv0
  obtain ⟨ps, hps⟩ : ∃ ps : List (Nat × Value), ps = [(0, .slice A1 tl.length c1), (1, .int .i64 (fx : Int)), (2, .int .i64 (fb : Int)), (3, .int .i64 (db : Int)), (4, .int .i64 (al : Int))] := ⟨_, rfl⟩
  have hX3 := Blk.sets ps hX1
  have ho3 := own_sets (b := w.heap.size + 1) hlt1 ps hown
  have hb3 := below_sets (b := w.heap.size + 1) (by omega) ps ((below_draws hb0 1).trans (hb1.mono (show w.heap.size ≤ W0.heap.size by omega)))
  subst hps
  have hX4 : Blk _ (w.heap.size + 1) 63 #[.slice A1 tl.length c1, .int .i64 (fx : Int), .int .i64 (fb : Int), .int .i64 (db : Int), .int .i64 (al : Int)] := hX3
  have r0 := hX4.cell 0
  have r1 := hX4.cell 1
  have r2 := hX4.cell 2
  have r3 := hX4.cell 3
  have r4 := hX4.cell 4
  have hd3 := own_mono (b' := w.heap.size) ho3 (by omega)
  simp only [sets, List.foldl_cons, List.foldl_nil] at r0 r1 r2 r3 r4 hd3 hb3
  go_wp2
  refine bodyPost_ret (v := .agg #[.slice A1 tl.length c1, .int .i64 (fx : Int), .int .i64 (fb : Int), .int .i64 (db : Int), .int .i64 (al : Int)]) (by simp [results, Try.results22, go_sem, r0, r1, r2, r3, r4]; done) rfl ?_
  exact ⟨tl, A1, c1, fx, fb, db, al, rfl, hT, HT.out, hd3, hb3⟩
theorem agreed_ok (A : Option Addr) (n m : Nat) (g : Nat → Nat → Int) (a b c d : Int) (w : World) (wa : (Lit.int .i64 a).wf = true) (wb : (Lit.int .i64 b).wf = true) (wc : (Lit.int .i64 c).wf = true) (wd : (Lit.int .i64 d).wf = true)
    (hv : IsRows w (.slice A n m) [.i64, .i64] n g) :
    Calls Try.prog 22 #[.agg #[.slice A n m, .int .i64 a, .int .i64 b, .int .i64 c, .int .i64 d]] w (RetAg w) :=
  (agreed_own A n m g a b c d w wa wb wc wd hv).mono fun _ _ ⟨tl, A, c, fx, fb, db, al, h1, h2, h3, h4, h5⟩ => ⟨tl, A, c, fx, fb, db, al, h1, h2, h3, isds_own rfl h4, h5⟩
end Go.Proofs.Ytnpkondgpmncnaa
