/- meter: (state).sold, credit, clear, change, take. -/
import Derived.Test.YtopnlkhepjbjkaaDoorG13
import Derived.Test.YtopnlkhepjbjkaaDoorG2
import Derived.Test.YtopnlkhepjbjkaaDoorG15
import Derived.Test.YtopnlkhepjbjkaaDoorG7
import Derived.Deep.RegionWith
namespace Go.Proofs.YtopnlkhepjbjkaaDoor
open Go.RowKit Go.Maps Go.ChangeShapes Go.WideShapes
set_option linter.unusedVariables false
theorem verify_is (v : Value) (l : List Pr) (x y z d : Int) (b : Bool) (w : World) (hv : IsPs w v l) (hl : OOk l) (hw : wf3 x y z) (hb : Hid ((look l (x, y, z) == some d) = b)) :
    Calls Tryd.prog 62 #[.agg #[v], .int .i64 x, .int .i64 y, .int .i64 z, .int .i64 d] w fun e w' => e = .returned (.bool b) ∧ Below w.heap.size w w' := by
  rw [← hb.out]; exact verify_ok v l x y z d w hv hl hw _ (Lib.hid rfl)
set_option maxRecDepth 100000 in
set_option maxHeartbeats 2000000 in
theorem msold_ok (v : Value) (l : List Pr) (g me rev cr H B bad lock : Nat) (ad : Int) (body tag E bad2 lock2 : Nat) (w : World) (hv : IsPs w v l) (hl : OOk l)
    (hg : Blk w g 87 #[.int .i64 (me : Int), .int .i64 (rev : Int), .int .i64 (cr : Int), .int .i64 (H : Int), .int .u64 (B : Int), .int .i64 (bad : Int), .int .i64 (lock : Int), .int .i64 ad])
    (h1 : me < 50) (h2 : rev ≤ 15) (h3 : bad < 5) (h4 : body ≤ 8796093022207) (hE : Hid (soldE l me body rev (tag : Int) (rev + 1) = E)) (hB : Hid (badS E bad lock = (bad2, lock2))) :
    Calls Tryd.prog 35 #[.pointer (some ⟨g, 0, none⟩), .agg #[v], .int .i64 (body : Int), .int .i64 (tag : Int)] w fun e w' =>
      e = .returned (.int .i64 (E : Int)) ∧ Mem w [g] w' [.blk g 87 #[.int .i64 (me : Int), .int .i64 (rev : Int), .int .i64 (cr : Int), .int .i64 (H : Int), .int .u64 (B : Int), .int .i64 (bad2 : Int), .int .i64 (lock2 : Int), .int .i64 ad]] := by
  have hv0 := hv
  obtain ⟨A, c, rfl, _, _, _, _⟩ := hv
  have hV := fun r b W h hw hb => verify_is (.slice A l.length c) l (me : Int) r (body : Int) (tag : Int) b W h hl hw hb
  have HM : Mem (w) [g] (w) [.blk (g) 87 #[.int .i64 (me : Int), .int .i64 (rev : Int), .int .i64 (cr : Int), .int .i64 (H : Int), .int .u64 (B : Int), .int .i64 (bad : Int), .int .i64 (lock : Int), .int .i64 ad]] := Mem.init1 hg
  obtain ⟨W0, hW0⟩ : ∃ W0, (w).alloc (.cells #[.slice A l.length c] 33) = W0 := ⟨_, rfl⟩
  replace HM : Mem (w) [g] _ [.blk (g) 87 #[.int .i64 (me : Int), .int .i64 (rev : Int), .int .i64 (cr : Int), .int .i64 (H : Int), .int .u64 (B : Int), .int .i64 (bad : Int), .int .i64 (lock : Int), .int .i64 ad], .blk (w.heap.size) 33 #[.slice A l.length c]] := Mem.alloc HM (w.heap.size) (by first | (simp; done) | (simp; omega)) #[.slice A l.length c] 33
  rw [hW0] at HM
  have hb0 : Below w.heap.size w W0 := by rw [← hW0]; exact below_a1 _ _
  have s0 : (W0).cell? ⟨g, 0, none⟩ = some (.int .i64 (me : Int)) := (HM.blk 0 rfl).cell 0
  have sf0 : (W0).frozen? ⟨g, 0, none⟩ = false := (HM.blk 0 rfl).frozen 0
  have s1 : (W0).cell? ⟨g, 1, none⟩ = some (.int .i64 (rev : Int)) := (HM.blk 0 rfl).cell 1
  have sf1 : (W0).frozen? ⟨g, 1, none⟩ = false := (HM.blk 0 rfl).frozen 1
  have s2 : (W0).cell? ⟨g, 2, none⟩ = some (.int .i64 (cr : Int)) := (HM.blk 0 rfl).cell 2
  have sf2 : (W0).frozen? ⟨g, 2, none⟩ = false := (HM.blk 0 rfl).frozen 2
  have s3 : (W0).cell? ⟨g, 3, none⟩ = some (.int .i64 (H : Int)) := (HM.blk 0 rfl).cell 3
  have sf3 : (W0).frozen? ⟨g, 3, none⟩ = false := (HM.blk 0 rfl).frozen 3
  have s4 : (W0).cell? ⟨g, 4, none⟩ = some (.int .u64 (B : Int)) := (HM.blk 0 rfl).cell 4
  have sf4 : (W0).frozen? ⟨g, 4, none⟩ = false := (HM.blk 0 rfl).frozen 4
  have s5 : (W0).cell? ⟨g, 5, none⟩ = some (.int .i64 (bad : Int)) := (HM.blk 0 rfl).cell 5
  have sf5 : (W0).frozen? ⟨g, 5, none⟩ = false := (HM.blk 0 rfl).frozen 5
  have s6 : (W0).cell? ⟨g, 6, none⟩ = some (.int .i64 (lock : Int)) := (HM.blk 0 rfl).cell 6
  have sf6 : (W0).frozen? ⟨g, 6, none⟩ = false := (HM.blk 0 rfl).frozen 6
  have s7 : (W0).cell? ⟨g, 7, none⟩ = some (.int .i64 ad) := (HM.blk 0 rfl).cell 7
  have sf7 : (W0).frozen? ⟨g, 7, none⟩ = false := (HM.blk 0 rfl).frozen 7
  have slt : g < (W0).heap.size := HM.lt 0 rfl
  have ob0 : (W0).cell? ⟨w.heap.size, 0, none⟩ = some (.slice A l.length c) := (HM.blk 1 rfl).cell 0
  have obf0 : (W0).frozen? ⟨w.heap.size, 0, none⟩ = false := (HM.blk 1 rfl).frozen 0
  have oblt : w.heap.size < (W0).heap.size := HM.lt 1 rfl
  have ne_s_ob : g ≠ w.heap.size := HM.ne 0 1 rfl rfl (by decide)
  have ne_ob_s : w.heap.size ≠ g := HM.ne 1 0 rfl rfl (by decide)
  have hr9 : (rev : Int) ≤ 15 := by omega
  have hb9 : (bad : Int) < 5 := by omega
  have hgl := Blk.lt hg
  clear hl
  go_enter Tryd.func35, Tryd.ntmps35
  go_wp2_with fail
  go_loopw [9] (fun i wr => ∃ z : Int, -1 ≤ z ∧ z ≤ rev ∧ i = .int .i64 z ∧ Hid (soldE l me body rev (tag : Int) (z + 1).toNat = E) ∧ Mem w [g] wr [.blk g 87 #[.int .i64 (me : Int), .int .i64 (rev : Int), .int .i64 (cr : Int), .int .i64 (H : Int), .int .u64 (B : Int), .int .i64 (bad : Int), .int .i64 (lock : Int), .int .i64 ad], .blk w.heap.size 33 #[.slice A l.length c]] ∧ Below w.heap.size w wr) (fun i _ => (intOf i + 1).toNat)
  case atStart => exact ⟨(rev : Int), by omega, by omega, rfl, by rw [show ((rev : Int) + 1).toNat = rev + 1 by omega]; exact hE, HM, hb0⟩
  case round =>
    obtain ⟨z, hz1, hz2, rfl, hEz, HM, hbr⟩ := hrel
    have HM : Mem (w) [g] (wr) [.blk (g) 87 #[.int .i64 (me : Int), .int .i64 (rev : Int), .int .i64 (cr : Int), .int .i64 (H : Int), .int .u64 (B : Int), .int .i64 (bad : Int), .int .i64 (lock : Int), .int .i64 ad], .blk (w.heap.size) 33 #[.slice A l.length c]] := HM
    clear hE

    by_cases hz : z < 0
    · obtain rfl : z = -1 := by omega
      have hE12 : E = 12 := by rw [← hEz.out]; rfl
      subst hE12
      have hB2 := hB.out
      clear hB hEz hV hv0
      unfold badS at hB2
      rw [if_pos rfl] at hB2
      clear s0 sf0 s1 sf1 s2 sf2 s3 sf3 s4 sf4 s5 sf5 s6 sf6 s7 sf7 slt ob0 obf0 oblt ne_s_ob ne_ob_s
      have s0 : (wr).cell? ⟨g, 0, none⟩ = some (.int .i64 (me : Int)) := (HM.blk 0 rfl).cell 0
      have sf0 : (wr).frozen? ⟨g, 0, none⟩ = false := (HM.blk 0 rfl).frozen 0
      have s1 : (wr).cell? ⟨g, 1, none⟩ = some (.int .i64 (rev : Int)) := (HM.blk 0 rfl).cell 1
      have sf1 : (wr).frozen? ⟨g, 1, none⟩ = false := (HM.blk 0 rfl).frozen 1
      have s2 : (wr).cell? ⟨g, 2, none⟩ = some (.int .i64 (cr : Int)) := (HM.blk 0 rfl).cell 2
      have sf2 : (wr).frozen? ⟨g, 2, none⟩ = false := (HM.blk 0 rfl).frozen 2
      have s3 : (wr).cell? ⟨g, 3, none⟩ = some (.int .i64 (H : Int)) := (HM.blk 0 rfl).cell 3
      have sf3 : (wr).frozen? ⟨g, 3, none⟩ = false := (HM.blk 0 rfl).frozen 3
      have s4 : (wr).cell? ⟨g, 4, none⟩ = some (.int .u64 (B : Int)) := (HM.blk 0 rfl).cell 4
      have sf4 : (wr).frozen? ⟨g, 4, none⟩ = false := (HM.blk 0 rfl).frozen 4
      have s5 : (wr).cell? ⟨g, 5, none⟩ = some (.int .i64 (bad : Int)) := (HM.blk 0 rfl).cell 5
      have sf5 : (wr).frozen? ⟨g, 5, none⟩ = false := (HM.blk 0 rfl).frozen 5
      have s6 : (wr).cell? ⟨g, 6, none⟩ = some (.int .i64 (lock : Int)) := (HM.blk 0 rfl).cell 6
      have sf6 : (wr).frozen? ⟨g, 6, none⟩ = false := (HM.blk 0 rfl).frozen 6
      have s7 : (wr).cell? ⟨g, 7, none⟩ = some (.int .i64 ad) := (HM.blk 0 rfl).cell 7
      have sf7 : (wr).frozen? ⟨g, 7, none⟩ = false := (HM.blk 0 rfl).frozen 7
      have slt : g < (wr).heap.size := HM.lt 0 rfl

      by_cases h5 : bad + 1 = 5
      · rw [if_pos h5] at hB2
        injection hB2 with e1 e2
        subst e1; subst e2
        obtain rfl : bad = 4 := by omega
        go_wp2
        obtain ⟨W5, hW5⟩ : ∃ W5, (((wr).setCell ⟨g, 5, none⟩ (.int .i64 5)).setCell ⟨g, 5, none⟩ (.int .i64 0)).setCell ⟨g, 6, none⟩ (.int .i64 30) = W5 := ⟨_, rfl⟩
        replace HM : Mem (w) [g] _ [.blk (g) 87 #[.int .i64 (me : Int), .int .i64 (rev : Int), .int .i64 (cr : Int), .int .i64 (H : Int), .int .u64 (B : Int), .int .i64 5, .int .i64 (lock : Int), .int .i64 ad], .blk (w.heap.size) 33 #[.slice A l.length c]] := Mem.set 0 HM rfl 5 (.int .i64 5)
        replace HM : Mem (w) [g] _ [.blk (g) 87 #[.int .i64 (me : Int), .int .i64 (rev : Int), .int .i64 (cr : Int), .int .i64 (H : Int), .int .u64 (B : Int), .int .i64 0, .int .i64 (lock : Int), .int .i64 ad], .blk (w.heap.size) 33 #[.slice A l.length c]] := Mem.set 0 HM rfl 5 (.int .i64 0)
        replace HM : Mem (w) [g] _ [.blk (g) 87 #[.int .i64 (me : Int), .int .i64 (rev : Int), .int .i64 (cr : Int), .int .i64 (H : Int), .int .u64 (B : Int), .int .i64 0, .int .i64 30, .int .i64 ad], .blk (w.heap.size) 33 #[.slice A l.length c]] := Mem.set 0 HM rfl 6 (.int .i64 30)
        rw [hW5] at HM ⊢
        clear hW5
        go_ret
        exact ⟨rfl, HM.drop_ 1⟩
      · skip
        rw [if_neg h5] at hB2
        injection hB2 with e1 e2
        subst e1; subst e2
        have h6 : IntKind.i64.wrap ((bad : Int) + 1) = ((bad + 1 : Nat) : Int) := by rw [IntWalk.i64_in _ (by omega)]; rfl
        generalize hbb : bad + 1 = bb at *
        have h7 : ((bb : Int) == 5) = false := by simp; omega
        go_wp2
        obtain ⟨W5, hW5⟩ : ∃ W5, (wr).setCell ⟨g, 5, none⟩ (.int .i64 (bb : Int)) = W5 := ⟨_, rfl⟩
        replace HM : Mem (w) [g] _ [.blk (g) 87 #[.int .i64 (me : Int), .int .i64 (rev : Int), .int .i64 (cr : Int), .int .i64 (H : Int), .int .u64 (B : Int), .int .i64 (bb : Int), .int .i64 (lock : Int), .int .i64 ad], .blk (w.heap.size) 33 #[.slice A l.length c]] := Mem.set 0 HM rfl 5 (.int .i64 (bb : Int))
        rw [hW5] at HM ⊢
        clear hW5
        go_ret
        rw [hbb]
        exact ⟨rfl, HM.drop_ 1⟩
    · skip
      obtain ⟨r, rfl⟩ : ∃ r : Nat, z = (r : Int) := ⟨z.toNat, by omega⟩
      rw [show ((r : Int) + 1).toNat = r + 1 by omega] at hEz
      have hEz2 := hEz.out
      unfold soldE at hEz2
      obtain ⟨o, ho⟩ : ∃ o, look l ((me : Int), (r : Int), (body : Int)) = o := ⟨_, rfl⟩
      rw [ho] at hEz2
      have hVr := fun b W h => hV (r : Int) b W h ⟨WalkArith.wf_i64 (by omega), WalkArith.wf_i64 (by omega), WalkArith.wf_i64 (by omega)⟩
      have hrr : (r : Int) ≤ 15 := by omega
      have hvr : IsPs wr.drew (.slice A l.length c) l := hv0.below (w' := wr.drew) (below_draws hbr 1)
      clear s0 sf0 s1 sf1 s2 sf2 s3 sf3 s4 sf4 s5 sf5 s6 sf6 s7 sf7 slt ob0 obf0 oblt ne_s_ob ne_ob_s
      have s0 : (wr).cell? ⟨g, 0, none⟩ = some (.int .i64 (me : Int)) := (HM.blk 0 rfl).cell 0
      have sf0 : (wr).frozen? ⟨g, 0, none⟩ = false := (HM.blk 0 rfl).frozen 0
      have s1 : (wr).cell? ⟨g, 1, none⟩ = some (.int .i64 (rev : Int)) := (HM.blk 0 rfl).cell 1
      have sf1 : (wr).frozen? ⟨g, 1, none⟩ = false := (HM.blk 0 rfl).frozen 1
      have s2 : (wr).cell? ⟨g, 2, none⟩ = some (.int .i64 (cr : Int)) := (HM.blk 0 rfl).cell 2
      have sf2 : (wr).frozen? ⟨g, 2, none⟩ = false := (HM.blk 0 rfl).frozen 2
      have s3 : (wr).cell? ⟨g, 3, none⟩ = some (.int .i64 (H : Int)) := (HM.blk 0 rfl).cell 3
      have sf3 : (wr).frozen? ⟨g, 3, none⟩ = false := (HM.blk 0 rfl).frozen 3
      have s4 : (wr).cell? ⟨g, 4, none⟩ = some (.int .u64 (B : Int)) := (HM.blk 0 rfl).cell 4
      have sf4 : (wr).frozen? ⟨g, 4, none⟩ = false := (HM.blk 0 rfl).frozen 4
      have s5 : (wr).cell? ⟨g, 5, none⟩ = some (.int .i64 (bad : Int)) := (HM.blk 0 rfl).cell 5
      have sf5 : (wr).frozen? ⟨g, 5, none⟩ = false := (HM.blk 0 rfl).frozen 5
      have s6 : (wr).cell? ⟨g, 6, none⟩ = some (.int .i64 (lock : Int)) := (HM.blk 0 rfl).cell 6
      have sf6 : (wr).frozen? ⟨g, 6, none⟩ = false := (HM.blk 0 rfl).frozen 6
      have s7 : (wr).cell? ⟨g, 7, none⟩ = some (.int .i64 ad) := (HM.blk 0 rfl).cell 7
      have sf7 : (wr).frozen? ⟨g, 7, none⟩ = false := (HM.blk 0 rfl).frozen 7
      have slt : g < (wr).heap.size := HM.lt 0 rfl
      have ob0 : (wr).cell? ⟨w.heap.size, 0, none⟩ = some (.slice A l.length c) := (HM.blk 1 rfl).cell 0
      have obf0 : (wr).frozen? ⟨w.heap.size, 0, none⟩ = false := (HM.blk 1 rfl).frozen 0
      have oblt : w.heap.size < (wr).heap.size := HM.lt 1 rfl
      have ne_s_ob : g ≠ w.heap.size := HM.ne 0 1 rfl rfl (by decide)
      have ne_ob_s : w.heap.size ≠ g := HM.ne 1 0 rfl rfl (by decide)

      by_cases hot : o = some (tag : Int)
      · rw [if_pos hot] at hEz2
        have hb := Lib.hid (show (look l ((me : Int), (r : Int), (body : Int)) == some (tag : Int)) = true by rw [ho, hot]; simp)
        have hE3 : (r < rev ∧ E = 11) ∨ (((r : Int) < (rev : Int)) = False ∧ E = 0) := by
          by_cases hlt : r < rev
          · rw [if_pos hlt] at hEz2; exact .inl ⟨hlt, hEz2.symm⟩
          · rw [if_neg hlt] at hEz2; exact .inr ⟨by simp; omega, hEz2.symm⟩
        have hB2 : bad = bad2 ∧ lock = lock2 := by
          have := hB.out
          unfold badS at this
          rw [if_neg (by omega)] at this
          injection this with e1 e2
          exact ⟨e1, e2⟩
        obtain ⟨rfl, rfl⟩ := hB2
        clear hB hEz hEz2 hot ho hV
        go_wp2_with fail
        go_region_with ((go_at_call 62; (with_reducible refine (hVr _ _ hvr hb).mono ?_); rintro e wv ⟨rfl, hbv⟩))
        all_goals
          replace HM : Mem (w) [g] (wv) [.blk (g) 87 #[.int .i64 (me : Int), .int .i64 (rev : Int), .int .i64 (cr : Int), .int .i64 (H : Int), .int .u64 (B : Int), .int .i64 (bad : Int), .int .i64 (lock : Int), .int .i64 ad], .blk (w.heap.size) 33 #[.slice A l.length c]] := Mem.call (Mem.drew HM) hbv
          clear s0 sf0 s1 sf1 s2 sf2 s3 sf3 s4 sf4 s5 sf5 s6 sf6 s7 sf7 slt ob0 obf0 oblt ne_s_ob ne_ob_s
          have s0 : (wv).cell? ⟨g, 0, none⟩ = some (.int .i64 (me : Int)) := (HM.blk 0 rfl).cell 0
          have sf0 : (wv).frozen? ⟨g, 0, none⟩ = false := (HM.blk 0 rfl).frozen 0
          have s1 : (wv).cell? ⟨g, 1, none⟩ = some (.int .i64 (rev : Int)) := (HM.blk 0 rfl).cell 1
          have sf1 : (wv).frozen? ⟨g, 1, none⟩ = false := (HM.blk 0 rfl).frozen 1
          have s2 : (wv).cell? ⟨g, 2, none⟩ = some (.int .i64 (cr : Int)) := (HM.blk 0 rfl).cell 2
          have sf2 : (wv).frozen? ⟨g, 2, none⟩ = false := (HM.blk 0 rfl).frozen 2
          have s3 : (wv).cell? ⟨g, 3, none⟩ = some (.int .i64 (H : Int)) := (HM.blk 0 rfl).cell 3
          have sf3 : (wv).frozen? ⟨g, 3, none⟩ = false := (HM.blk 0 rfl).frozen 3
          have s4 : (wv).cell? ⟨g, 4, none⟩ = some (.int .u64 (B : Int)) := (HM.blk 0 rfl).cell 4
          have sf4 : (wv).frozen? ⟨g, 4, none⟩ = false := (HM.blk 0 rfl).frozen 4
          have s5 : (wv).cell? ⟨g, 5, none⟩ = some (.int .i64 (bad : Int)) := (HM.blk 0 rfl).cell 5
          have sf5 : (wv).frozen? ⟨g, 5, none⟩ = false := (HM.blk 0 rfl).frozen 5
          have s6 : (wv).cell? ⟨g, 6, none⟩ = some (.int .i64 (lock : Int)) := (HM.blk 0 rfl).cell 6
          have sf6 : (wv).frozen? ⟨g, 6, none⟩ = false := (HM.blk 0 rfl).frozen 6
          have s7 : (wv).cell? ⟨g, 7, none⟩ = some (.int .i64 ad) := (HM.blk 0 rfl).cell 7
          have sf7 : (wv).frozen? ⟨g, 7, none⟩ = false := (HM.blk 0 rfl).frozen 7
          have slt : g < (wv).heap.size := HM.lt 0 rfl
          clear hbv hvr hVr hv0
          rcases hE3 with ⟨hlt, rfl⟩ | ⟨hlt, rfl⟩
          all_goals
            go_wp2
            go_ret
            exact ⟨rfl, HM.drop_ 1⟩
      · skip
        rw [if_neg hot] at hEz2
        have hb := Lib.hid (show (look l ((me : Int), (r : Int), (body : Int)) == some (tag : Int)) = false by rw [ho]; simpa using hot)
        have hE3 := Lib.hid hEz2
        clear hEz hEz2 hot ho hV
        go_wp2_with fail
        go_region_with ((go_at_call 62; (with_reducible refine (hVr _ _ hvr hb).mono ?_); rintro e wv ⟨rfl, hbv⟩))
        all_goals
          have hbw := hbr.trans ((below_draws (Below.refl _ _) 1).trans (hbv.mono (show w.heap.size ≤ wr.drew.heap.size from hbr.size)))
          replace HM : Mem (w) [g] (wv) [.blk (g) 87 #[.int .i64 (me : Int), .int .i64 (rev : Int), .int .i64 (cr : Int), .int .i64 (H : Int), .int .u64 (B : Int), .int .i64 (bad : Int), .int .i64 (lock : Int), .int .i64 ad], .blk (w.heap.size) 33 #[.slice A l.length c]] := Mem.call (Mem.drew HM) hbv
          clear s0 sf0 s1 sf1 s2 sf2 s3 sf3 s4 sf4 s5 sf5 s6 sf6 s7 sf7 slt ob0 obf0 oblt ne_s_ob ne_ob_s
          clear hbv hvr hVr hv0
          go_wp2
          go_roundw
          case rel => exact ⟨(r : Int) - 1, by omega, by omega, by go_num, by rw [show ((r : Int) - 1 + 1).toNat = r by omega]; exact hE3, HM, hbw⟩
          case measure => simp [intOf] <;> omega
set_option maxHeartbeats 1000000 in
theorem mcredit_ok (g me rev cr H B bad lock am : Nat) (w : World)
    (hg : Blk w g 87 #[.int .i64 (me : Int), .int .i64 (rev : Int), .int .i64 (cr : Int), .int .i64 (H : Int), .int .u64 (B : Int), .int .i64 (bad : Int), .int .i64 (lock : Int), .int .i64 0]) (h1 : cr ≤ 99999999) (h2 : am ≤ 2097151) (cr2 ad E : Nat)
    (hE : Hid ((if 99999999 < cr + am then (cr, 0, 15) else (cr + am, am, 0)) = (cr2, ad, E))) :
    Calls Tryd.prog 64 #[.pointer (some ⟨g, 0, none⟩), .int .i64 (am : Int)] w fun e w' =>
      e = .returned (.int .i64 (E : Int)) ∧ Mem w [g] w' [.blk g 87 #[.int .i64 (me : Int), .int .i64 (rev : Int), .int .i64 (cr2 : Int), .int .i64 (H : Int), .int .u64 (B : Int), .int .i64 (bad : Int), .int .i64 (lock : Int), .int .i64 (ad : Int)]] := by
  have HM : Mem (w) [g] (w) [.blk (g) 87 #[.int .i64 (me : Int), .int .i64 (rev : Int), .int .i64 (cr : Int), .int .i64 (H : Int), .int .u64 (B : Int), .int .i64 (bad : Int), .int .i64 (lock : Int), .int .i64 0]] := Mem.init1 hg
  have s0 : (w).cell? ⟨g, 0, none⟩ = some (.int .i64 (me : Int)) := (HM.blk 0 rfl).cell 0
  have sf0 : (w).frozen? ⟨g, 0, none⟩ = false := (HM.blk 0 rfl).frozen 0
  have s1 : (w).cell? ⟨g, 1, none⟩ = some (.int .i64 (rev : Int)) := (HM.blk 0 rfl).cell 1
  have sf1 : (w).frozen? ⟨g, 1, none⟩ = false := (HM.blk 0 rfl).frozen 1
  have s2 : (w).cell? ⟨g, 2, none⟩ = some (.int .i64 (cr : Int)) := (HM.blk 0 rfl).cell 2
  have sf2 : (w).frozen? ⟨g, 2, none⟩ = false := (HM.blk 0 rfl).frozen 2
  have s3 : (w).cell? ⟨g, 3, none⟩ = some (.int .i64 (H : Int)) := (HM.blk 0 rfl).cell 3
  have sf3 : (w).frozen? ⟨g, 3, none⟩ = false := (HM.blk 0 rfl).frozen 3
  have s4 : (w).cell? ⟨g, 4, none⟩ = some (.int .u64 (B : Int)) := (HM.blk 0 rfl).cell 4
  have sf4 : (w).frozen? ⟨g, 4, none⟩ = false := (HM.blk 0 rfl).frozen 4
  have s5 : (w).cell? ⟨g, 5, none⟩ = some (.int .i64 (bad : Int)) := (HM.blk 0 rfl).cell 5
  have sf5 : (w).frozen? ⟨g, 5, none⟩ = false := (HM.blk 0 rfl).frozen 5
  have s6 : (w).cell? ⟨g, 6, none⟩ = some (.int .i64 (lock : Int)) := (HM.blk 0 rfl).cell 6
  have sf6 : (w).frozen? ⟨g, 6, none⟩ = false := (HM.blk 0 rfl).frozen 6
  have s7 : (w).cell? ⟨g, 7, none⟩ = some (.int .i64 0) := (HM.blk 0 rfl).cell 7
  have sf7 : (w).frozen? ⟨g, 7, none⟩ = false := (HM.blk 0 rfl).frozen 7
  have slt : g < (w).heap.size := HM.lt 0 rfl
  have hE := hE.out
  obtain ⟨x, hx⟩ : ∃ x : Nat, (cr : Int) + (am : Int) = (x : Int) := ⟨cr + am, by omega⟩
  have hw : IntKind.i64.wrap ((cr : Int) + (am : Int)) = (x : Int) := by rw [hx]; exact IntWalk.i64_in _ (by omega)
  have hxx : cr + am = x := by omega
  rw [hxx] at hE
  clear hx hxx
  by_cases h : 99999999 < x
  · rw [if_pos h] at hE
    injection hE with e1 hE
    injection hE with e2 e3
    subst e1; subst e2; subst e3
    have hI : (99999999 : Int) < (x : Int) := by omega
    go_enter Tryd.func64, Tryd.ntmps64
    go_wp2
    go_ret
    exact ⟨rfl, HM⟩
  · rw [if_neg h] at hE
    injection hE with e1 hE
    injection hE with e2 e3
    subst e1; subst e2; subst e3
    have hI : (x : Int) ≤ 99999999 := by omega
    go_enter Tryd.func64, Tryd.ntmps64
    go_wp2
    obtain ⟨W5, hW5⟩ : ∃ W5, ((w).setCell ⟨g, 2, none⟩ (.int .i64 (x : Int))).setCell ⟨g, 7, none⟩ (.int .i64 (am : Int)) = W5 := ⟨_, rfl⟩
    replace HM : Mem (w) [g] _ [.blk (g) 87 #[.int .i64 (me : Int), .int .i64 (rev : Int), .int .i64 (x : Int), .int .i64 (H : Int), .int .u64 (B : Int), .int .i64 (bad : Int), .int .i64 (lock : Int), .int .i64 0]] := Mem.set 0 HM rfl 2 (.int .i64 (x : Int))
    replace HM : Mem (w) [g] _ [.blk (g) 87 #[.int .i64 (me : Int), .int .i64 (rev : Int), .int .i64 (x : Int), .int .i64 (H : Int), .int .u64 (B : Int), .int .i64 (bad : Int), .int .i64 (lock : Int), .int .i64 (am : Int)]] := Mem.set 0 HM rfl 7 (.int .i64 (am : Int))
    rw [hW5] at HM ⊢
    clear hW5
    go_ret
    exact ⟨rfl, HM⟩
set_option maxHeartbeats 1000000 in
theorem mclear_ok (g me rev cr H B bad lock : Nat) (x : Int) (w : World)
    (hg : Blk w g 87 #[.int .i64 (me : Int), .int .i64 (rev : Int), .int .i64 (cr : Int), .int .i64 (H : Int), .int .u64 (B : Int), .int .i64 (bad : Int), .int .i64 (lock : Int), .int .i64 0]) :
    Calls Tryd.prog 65 #[.pointer (some ⟨g, 0, none⟩), .int .i64 x] w fun e w' =>
      e = .returned (.int .i64 0) ∧ Mem w [g] w' [.blk g 87 #[.int .i64 (me : Int), .int .i64 (rev : Int), .int .i64 0, .int .i64 (H : Int), .int .u64 (B : Int), .int .i64 (bad : Int), .int .i64 (lock : Int), .int .i64 0]] := by
  have HM : Mem (w) [g] (w) [.blk (g) 87 #[.int .i64 (me : Int), .int .i64 (rev : Int), .int .i64 (cr : Int), .int .i64 (H : Int), .int .u64 (B : Int), .int .i64 (bad : Int), .int .i64 (lock : Int), .int .i64 0]] := Mem.init1 hg
  have s0 : (w).cell? ⟨g, 0, none⟩ = some (.int .i64 (me : Int)) := (HM.blk 0 rfl).cell 0
  have sf0 : (w).frozen? ⟨g, 0, none⟩ = false := (HM.blk 0 rfl).frozen 0
  have s1 : (w).cell? ⟨g, 1, none⟩ = some (.int .i64 (rev : Int)) := (HM.blk 0 rfl).cell 1
  have sf1 : (w).frozen? ⟨g, 1, none⟩ = false := (HM.blk 0 rfl).frozen 1
  have s2 : (w).cell? ⟨g, 2, none⟩ = some (.int .i64 (cr : Int)) := (HM.blk 0 rfl).cell 2
  have sf2 : (w).frozen? ⟨g, 2, none⟩ = false := (HM.blk 0 rfl).frozen 2
  have s3 : (w).cell? ⟨g, 3, none⟩ = some (.int .i64 (H : Int)) := (HM.blk 0 rfl).cell 3
  have sf3 : (w).frozen? ⟨g, 3, none⟩ = false := (HM.blk 0 rfl).frozen 3
  have s4 : (w).cell? ⟨g, 4, none⟩ = some (.int .u64 (B : Int)) := (HM.blk 0 rfl).cell 4
  have sf4 : (w).frozen? ⟨g, 4, none⟩ = false := (HM.blk 0 rfl).frozen 4
  have s5 : (w).cell? ⟨g, 5, none⟩ = some (.int .i64 (bad : Int)) := (HM.blk 0 rfl).cell 5
  have sf5 : (w).frozen? ⟨g, 5, none⟩ = false := (HM.blk 0 rfl).frozen 5
  have s6 : (w).cell? ⟨g, 6, none⟩ = some (.int .i64 (lock : Int)) := (HM.blk 0 rfl).cell 6
  have sf6 : (w).frozen? ⟨g, 6, none⟩ = false := (HM.blk 0 rfl).frozen 6
  have s7 : (w).cell? ⟨g, 7, none⟩ = some (.int .i64 0) := (HM.blk 0 rfl).cell 7
  have sf7 : (w).frozen? ⟨g, 7, none⟩ = false := (HM.blk 0 rfl).frozen 7
  have slt : g < (w).heap.size := HM.lt 0 rfl
  go_enter Tryd.func65, Tryd.ntmps65
  go_wp2
  obtain ⟨W5, hW5⟩ : ∃ W5, (w).setCell ⟨g, 2, none⟩ (.int .i64 0) = W5 := ⟨_, rfl⟩
  replace HM : Mem (w) [g] _ [.blk (g) 87 #[.int .i64 (me : Int), .int .i64 (rev : Int), .int .i64 0, .int .i64 (H : Int), .int .u64 (B : Int), .int .i64 (bad : Int), .int .i64 (lock : Int), .int .i64 0]] := Mem.set 0 HM rfl 2 (.int .i64 0)
  rw [hW5] at HM ⊢
  clear hW5
  go_ret
  exact ⟨rfl, HM⟩
set_option maxHeartbeats 1000000 in
theorem mchange_ok (g me rev cr H B bad lock am : Nat) (w : World)
    (hg : Blk w g 87 #[.int .i64 (me : Int), .int .i64 (rev : Int), .int .i64 (cr : Int), .int .i64 (H : Int), .int .u64 (B : Int), .int .i64 (bad : Int), .int .i64 (lock : Int), .int .i64 0]) (rev2 E : Nat)
    (hE : Hid ((if am ≤ rev then (rev, 24) else (am, 0)) = (rev2, E))) :
    Calls Tryd.prog 66 #[.pointer (some ⟨g, 0, none⟩), .int .i64 (am : Int)] w fun e w' =>
      e = .returned (.int .i64 (E : Int)) ∧ Mem w [g] w' [.blk g 87 #[.int .i64 (me : Int), .int .i64 (rev2 : Int), .int .i64 (cr : Int), .int .i64 (H : Int), .int .u64 (B : Int), .int .i64 (bad : Int), .int .i64 (lock : Int), .int .i64 0]] := by
  have HM : Mem (w) [g] (w) [.blk (g) 87 #[.int .i64 (me : Int), .int .i64 (rev : Int), .int .i64 (cr : Int), .int .i64 (H : Int), .int .u64 (B : Int), .int .i64 (bad : Int), .int .i64 (lock : Int), .int .i64 0]] := Mem.init1 hg
  have s0 : (w).cell? ⟨g, 0, none⟩ = some (.int .i64 (me : Int)) := (HM.blk 0 rfl).cell 0
  have sf0 : (w).frozen? ⟨g, 0, none⟩ = false := (HM.blk 0 rfl).frozen 0
  have s1 : (w).cell? ⟨g, 1, none⟩ = some (.int .i64 (rev : Int)) := (HM.blk 0 rfl).cell 1
  have sf1 : (w).frozen? ⟨g, 1, none⟩ = false := (HM.blk 0 rfl).frozen 1
  have s2 : (w).cell? ⟨g, 2, none⟩ = some (.int .i64 (cr : Int)) := (HM.blk 0 rfl).cell 2
  have sf2 : (w).frozen? ⟨g, 2, none⟩ = false := (HM.blk 0 rfl).frozen 2
  have s3 : (w).cell? ⟨g, 3, none⟩ = some (.int .i64 (H : Int)) := (HM.blk 0 rfl).cell 3
  have sf3 : (w).frozen? ⟨g, 3, none⟩ = false := (HM.blk 0 rfl).frozen 3
  have s4 : (w).cell? ⟨g, 4, none⟩ = some (.int .u64 (B : Int)) := (HM.blk 0 rfl).cell 4
  have sf4 : (w).frozen? ⟨g, 4, none⟩ = false := (HM.blk 0 rfl).frozen 4
  have s5 : (w).cell? ⟨g, 5, none⟩ = some (.int .i64 (bad : Int)) := (HM.blk 0 rfl).cell 5
  have sf5 : (w).frozen? ⟨g, 5, none⟩ = false := (HM.blk 0 rfl).frozen 5
  have s6 : (w).cell? ⟨g, 6, none⟩ = some (.int .i64 (lock : Int)) := (HM.blk 0 rfl).cell 6
  have sf6 : (w).frozen? ⟨g, 6, none⟩ = false := (HM.blk 0 rfl).frozen 6
  have s7 : (w).cell? ⟨g, 7, none⟩ = some (.int .i64 0) := (HM.blk 0 rfl).cell 7
  have sf7 : (w).frozen? ⟨g, 7, none⟩ = false := (HM.blk 0 rfl).frozen 7
  have slt : g < (w).heap.size := HM.lt 0 rfl
  have hE := hE.out
  by_cases h : am ≤ rev
  · rw [if_pos h] at hE
    injection hE with e1 e3
    subst e1; subst e3
    have hI : (am : Int) ≤ (rev : Int) := by omega
    go_enter Tryd.func66, Tryd.ntmps66
    go_wp2
    go_ret
    exact ⟨rfl, HM⟩
  · rw [if_neg h] at hE
    injection hE with e1 e3
    subst e1; subst e3
    have hI : ¬ (am : Int) ≤ (rev : Int) := by omega
    go_enter Tryd.func66, Tryd.ntmps66
    go_wp2
    obtain ⟨W5, hW5⟩ : ∃ W5, (w).setCell ⟨g, 1, none⟩ (.int .i64 (am : Int)) = W5 := ⟨_, rfl⟩
    replace HM : Mem (w) [g] _ [.blk (g) 87 #[.int .i64 (me : Int), .int .i64 (am : Int), .int .i64 (cr : Int), .int .i64 (H : Int), .int .u64 (B : Int), .int .i64 (bad : Int), .int .i64 (lock : Int), .int .i64 0]] := Mem.set 0 HM rfl 1 (.int .i64 (am : Int))
    rw [hW5] at HM ⊢
    clear hW5
    go_ret
    exact ⟨rfl, HM⟩
end Go.Proofs.YtopnlkhepjbjkaaDoor
