/- vendmeterkeep.sameBook. -/
import Derived.Test.YtpcgpnkmjjamhaaGreatMxSameN
namespace Go.Proofs.YtpcgpnkmjjamhaaGreat
open Go.RowKit
set_option linter.unusedVariables false
set_option maxRecDepth 100000 in
set_option maxHeartbeats 8000000 in
theorem sameB_ok (Aa : Option Addr) (ca : Nat) (Ab : Option Addr) (cb n m : Nat) (r : Bool) (B1 B2 : List Cu) (w : World) (h1 : IsBk w (.slice Aa n ca) B1) (h2 : IsBk w (.slice Ab n cb) B2) (hm : m ≤ n) (hn : n ≤ 1000) (hr : (m = n ∧ r = true) ∨ (m < n ∧ r = false)) (heq : ∀ j (g1 : j < B1.length) (g2 : j < B2.length), j < m → B1[j] = B2[j])
   (hun : ∀ (g1 : m < B1.length) (g2 : m < B2.length), B2[m].a.me = B1[m].a.me ∧ Unlike B1[m].a B2[m].a) :
   Calls Tryz.prog 14 #[.agg #[.slice Aa n ca], .agg #[.slice Ab n cb]] w fun e w' => e = .returned (.bool r) ∧ Below w.heap.size w w' := by
 have g1 := h1.len
 have g2 := h2.len
 have H := Mem.init w
 obtain ⟨W0, hW0⟩ : ∃ W0, ((w).alloc (.cells #[.slice Aa n ca] 49)).alloc (.cells #[.slice Ab n cb] 49) = W0 := ⟨_, rfl⟩
 replace H := Mem.alloc H (w.heap.size) (by first | (simp; done) | (simp; omega)) #[.slice Aa n ca] 49
 replace H := Mem.alloc H (w.heap.size + 1) (by first | (simp; done) | (simp; omega)) #[.slice Ab n cb] 49
 simp only [List.nil_append, List.cons_append] at H
 rw [hW0] at H
 have k1 := h1.below H.below
 have k2 := h2.below H.below
 obtain ⟨balt, ba0, baf0⟩ := H.c1 0 rfl
 obtain ⟨bblt, bb0, bbf0⟩ := H.c1 1 rfl
 have ne_ba_bb := H.ne 0 1 rfl rfl (by decide)
 have ne_bb_ba := H.ne 1 0 rfl rfl (by decide)
 have HX := Lib.hid (And.intro g1 (And.intro g2 (And.intro heq (And.intro hun hr))))
 have HK := Lib.hid (And.intro k1 k2)
 have hb0 := H.below
 clear h1 h2 g1 g2 heq hun hr k1 k2
 go_enter Tryz.func14, Tryz.ntmps14
 go_wp2
 clear hW0
 go_loopw [5] (fun i wr => ∃ k : Nat, k ≤ m ∧ i = .int .i64 ↑k ∧ Below W0.heap.size W0 wr) (fun i _ => n - (intOf i).toNat)
 case atStart => exact ⟨0, by omega, rfl, Below.refl _ _⟩
 case round =>
   obtain ⟨k, hk, rfl, hbr⟩ := hrel
   by_cases hlt : k < n
   · obtain ⟨g1, g2, heq, hun, hr⟩ := HX.out
     obtain ⟨b1, o1, A1, c1, S1, d1, rfl, l1, hd1, hs1, p0, p1, p2, p3, p4, p5, p6, p7⟩ := HK.out.1.at_ (k := k) (by omega)
     obtain ⟨b2, o2, A2, c2, S2, d2, rfl, l2, hd2, hs2, q0, q1, q2, q3, q4, q5, q6, q7⟩ := HK.out.2.at_ (k := k) (by omega)
     have f0 : wr.cell? ⟨w.heap.size, 0, none⟩ = some (.slice (some ⟨b1, o1, none⟩) n ca) := (hbr.cell (p := ⟨w.heap.size, 0, none⟩) balt).trans ba0
     have f1 : wr.cell? ⟨w.heap.size + 1, 0, none⟩ = some (.slice (some ⟨b2, o2, none⟩) n cb) := (hbr.cell (p := ⟨w.heap.size + 1, 0, none⟩) bblt).trans bb0
     have f2 := (hbr.cell (p := ⟨b1, o1 + k * 8, none⟩) l1).trans p0
     have f3 := (hbr.cell (p := ⟨b1, o1 + k * 8 + 1, none⟩) l1).trans p1
     have f4 := (hbr.cell (p := ⟨b1, o1 + k * 8 + 2, none⟩) l1).trans p2
     have f5 := (hbr.cell (p := ⟨b1, o1 + k * 8 + 3, none⟩) l1).trans p3
     have f6 := (hbr.cell (p := ⟨b1, o1 + k * 8 + 4, none⟩) l1).trans p4
     have f7 := (hbr.cell (p := ⟨b1, o1 + k * 8 + 5, none⟩) l1).trans p5
     have f8 := (hbr.cell (p := ⟨b1, o1 + k * 8 + 6, none⟩) l1).trans p6
     have f9 := (hbr.cell (p := ⟨b1, o1 + k * 8 + 7, none⟩) l1).trans p7
     have f10 := (hbr.cell (p := ⟨b2, o2 + k * 8, none⟩) l2).trans q0
     have f11 := (hbr.cell (p := ⟨b2, o2 + k * 8 + 1, none⟩) l2).trans q1
     have f12 := (hbr.cell (p := ⟨b2, o2 + k * 8 + 2, none⟩) l2).trans q2
     have f13 := (hbr.cell (p := ⟨b2, o2 + k * 8 + 3, none⟩) l2).trans q3
     have f14 := (hbr.cell (p := ⟨b2, o2 + k * 8 + 4, none⟩) l2).trans q4
     have f15 := (hbr.cell (p := ⟨b2, o2 + k * 8 + 5, none⟩) l2).trans q5
     have f16 := (hbr.cell (p := ⟨b2, o2 + k * 8 + 6, none⟩) l2).trans q6
     have f17 := (hbr.cell (p := ⟨b2, o2 + k * 8 + 7, none⟩) l2).trans q7
     replace hd1 := hd1.below hbr
     replace hd2 := hd2.below hbr
     replace hs1 := hs1.below hbr
     replace hs2 := hs2.below hbr
     have alt : w.heap.size < wr.heap.size := Nat.lt_of_lt_of_le balt hbr.size
     have blt : w.heap.size + 1 < wr.heap.size := Nat.lt_of_lt_of_le bblt hbr.size
     have h1lt : b1 < wr.heap.size := Nat.lt_of_lt_of_le l1 hbr.size
     have h2lt : b2 < wr.heap.size := Nat.lt_of_lt_of_le l2 hbr.size
     have B0 : Below wr.heap.size wr wr.drew := below_draws (Below.refl _ _) 1
     have klt : (k : Int) < (n : Int) := by omega
     clear p0 p1 p2 p3 p4 p5 p6 p7 q0 q1 q2 q3 q4 q5 q6 q7 HK
     by_cases hkm : k < m
     · have e := heq k (by omega) (by omega) hkm
       rw [← e] at f10 f11 f12 f13 f14 f15 f16 f17 hd2 hs2
       generalize B1[k]'(by omega) = cu at *
       clear e heq hun hr g1 g2 HX
       have t1 := sameAcc_ok (cu.a.me : Int) (cu.a.rev : Int) (cu.a.next : Int) (cu.a.month : Int) (cu.a.bought : Int) cu.a.free A1 cu.a.l.length c1 A2 cu.a.l.length c2 cu.a.l _ (hd1.below B0) (hd2.below B0)
       have t2 := fun we (hWe : Below wr.heap.size wr we) => sameS_is _ _ cu.s we (hs1.below hWe) (hs2.below hWe)
       go_wp2_with fail
       go_region_held3 (fun w' => w'.cell? ⟨w.heap.size, 0, none⟩ = some (.slice (some ⟨b1, o1, none⟩) n ca) ∧ w'.cell? ⟨w.heap.size + 1, 0, none⟩ = some (.slice (some ⟨b2, o2, none⟩) n cb) ∧ w'.cell? ⟨b1, o1 + k * 8, none⟩ = some (.int .i64 ↑cu.a.me) ∧ w'.cell? ⟨b1, o1 + k * 8 + 1, none⟩ = some (.int .i64 ↑cu.a.rev) ∧ w'.cell? ⟨b1, o1 + k * 8 + 2, none⟩ = some (.int .i64 ↑cu.a.next) ∧ w'.cell? ⟨b1, o1 + k * 8 + 3, none⟩ = some (.int .i64 ↑cu.a.month) ∧ w'.cell? ⟨b1, o1 + k * 8 + 4, none⟩ = some (.int .i64 ↑cu.a.bought) ∧ w'.cell? ⟨b1, o1 + k * 8 + 5, none⟩ = some (.int .i64 cu.a.free) ∧ w'.cell? ⟨b1, o1 + k * 8 + 6, none⟩ = some (.slice A1 (cu.a.l.length) c1) ∧ w'.cell? ⟨b1, o1 + k * 8 + 7, none⟩ = some (.slice S1 (cu.s.length) d1) ∧ w'.cell? ⟨b2, o2 + k * 8, none⟩ = some (.int .i64 ↑cu.a.me) ∧ w'.cell? ⟨b2, o2 + k * 8 + 1, none⟩ = some (.int .i64 ↑cu.a.rev) ∧ w'.cell? ⟨b2, o2 + k * 8 + 2, none⟩ = some (.int .i64 ↑cu.a.next) ∧ w'.cell? ⟨b2, o2 + k * 8 + 3, none⟩ = some (.int .i64 ↑cu.a.month) ∧ w'.cell? ⟨b2, o2 + k * 8 + 4, none⟩ = some (.int .i64 ↑cu.a.bought) ∧ w'.cell? ⟨b2, o2 + k * 8 + 5, none⟩ = some (.int .i64 cu.a.free) ∧ w'.cell? ⟨b2, o2 + k * 8 + 6, none⟩ = some (.slice A2 (cu.a.l.length) c2) ∧ w'.cell? ⟨b2, o2 + k * 8 + 7, none⟩ = some (.slice S2 (cu.s.length) d2))
         (first | with_reducible exact ⟨s0, s1, s2, s3, s4, s5, s6, s7, s8, s9, s10, s11, s12, s13, s14, s15, s16, s17⟩ | go_keep | fail)
         (first | (go_at_call 29; (with_reducible refine t1.mono ?_); rintro e we ⟨rfl, hbe⟩; have hWe := B0.trans (hbe.mono B0.size); have s0 := (hWe.cell (p := ⟨w.heap.size, 0, none⟩) alt).trans f0; have s1 := (hWe.cell (p := ⟨w.heap.size + 1, 0, none⟩) blt).trans f1; have s2 := (hWe.cell (p := ⟨b1, o1 + k * 8, none⟩) h1lt).trans f2; have s3 := (hWe.cell (p := ⟨b1, o1 + k * 8 + 1, none⟩) h1lt).trans f3; have s4 := (hWe.cell (p := ⟨b1, o1 + k * 8 + 2, none⟩) h1lt).trans f4; have s5 := (hWe.cell (p := ⟨b1, o1 + k * 8 + 3, none⟩) h1lt).trans f5; have s6 := (hWe.cell (p := ⟨b1, o1 + k * 8 + 4, none⟩) h1lt).trans f6; have s7 := (hWe.cell (p := ⟨b1, o1 + k * 8 + 5, none⟩) h1lt).trans f7; have s8 := (hWe.cell (p := ⟨b1, o1 + k * 8 + 6, none⟩) h1lt).trans f8; have s9 := (hWe.cell (p := ⟨b1, o1 + k * 8 + 7, none⟩) h1lt).trans f9; have s10 := (hWe.cell (p := ⟨b2, o2 + k * 8, none⟩) h2lt).trans f10; have s11 := (hWe.cell (p := ⟨b2, o2 + k * 8 + 1, none⟩) h2lt).trans f11; have s12 := (hWe.cell (p := ⟨b2, o2 + k * 8 + 2, none⟩) h2lt).trans f12; have s13 := (hWe.cell (p := ⟨b2, o2 + k * 8 + 3, none⟩) h2lt).trans f13; have s14 := (hWe.cell (p := ⟨b2, o2 + k * 8 + 4, none⟩) h2lt).trans f14; have s15 := (hWe.cell (p := ⟨b2, o2 + k * 8 + 5, none⟩) h2lt).trans f15; have s16 := (hWe.cell (p := ⟨b2, o2 + k * 8 + 6, none⟩) h2lt).trans f16; have s17 := (hWe.cell (p := ⟨b2, o2 + k * 8 + 7, none⟩) h2lt).trans f17) | (go_at_call 15; (with_reducible refine (t2 _ hWe).mono ?_); rintro e wf ⟨rfl, hbf⟩; have hWf := hWe.trans (hbf.mono hWe.size); have s0 := (hWf.cell (p := ⟨w.heap.size, 0, none⟩) alt).trans f0; have s1 := (hWf.cell (p := ⟨w.heap.size + 1, 0, none⟩) blt).trans f1; have s2 := (hWf.cell (p := ⟨b1, o1 + k * 8, none⟩) h1lt).trans f2; have s3 := (hWf.cell (p := ⟨b1, o1 + k * 8 + 1, none⟩) h1lt).trans f3; have s4 := (hWf.cell (p := ⟨b1, o1 + k * 8 + 2, none⟩) h1lt).trans f4; have s5 := (hWf.cell (p := ⟨b1, o1 + k * 8 + 3, none⟩) h1lt).trans f5; have s6 := (hWf.cell (p := ⟨b1, o1 + k * 8 + 4, none⟩) h1lt).trans f6; have s7 := (hWf.cell (p := ⟨b1, o1 + k * 8 + 5, none⟩) h1lt).trans f7; have s8 := (hWf.cell (p := ⟨b1, o1 + k * 8 + 6, none⟩) h1lt).trans f8; have s9 := (hWf.cell (p := ⟨b1, o1 + k * 8 + 7, none⟩) h1lt).trans f9; have s10 := (hWf.cell (p := ⟨b2, o2 + k * 8, none⟩) h2lt).trans f10; have s11 := (hWf.cell (p := ⟨b2, o2 + k * 8 + 1, none⟩) h2lt).trans f11; have s12 := (hWf.cell (p := ⟨b2, o2 + k * 8 + 2, none⟩) h2lt).trans f12; have s13 := (hWf.cell (p := ⟨b2, o2 + k * 8 + 3, none⟩) h2lt).trans f13; have s14 := (hWf.cell (p := ⟨b2, o2 + k * 8 + 4, none⟩) h2lt).trans f14; have s15 := (hWf.cell (p := ⟨b2, o2 + k * 8 + 5, none⟩) h2lt).trans f15; have s16 := (hWf.cell (p := ⟨b2, o2 + k * 8 + 6, none⟩) h2lt).trans f16; have s17 := (hWf.cell (p := ⟨b2, o2 + k * 8 + 7, none⟩) h2lt).trans f17))
       go_wp2
       go_roundw
       case rel => exact ⟨k + 1, by omega, by go_num, hbr.trans (hWf.mono hbr.size)⟩
       case measure => simp [intOf]; omega
     · have hke : m = k := by omega
       subst hke
       obtain ⟨hyx, hun⟩ := hun (by omega) (by omega)
       have hrf : r = false := by rcases hr with ⟨h, _⟩ | ⟨_, h⟩; omega; exact h
       generalize B1[m]'(by omega) = cu at *
       generalize B2[m]'(by omega) = cv at *
       clear heq hr g1 g2 HX
       subst hrf
       have t1 := sameAcc_no cu.a cv.a A1 c1 A2 c2 wr.drew hyx hun
       rw [hyx] at t1 f10
       clear hyx hun
       go_wp2_with fail
       have s0 : wr.drew.cell? ⟨w.heap.size, 0, none⟩ = some (.slice (some ⟨b1, o1, none⟩) n ca) := f0
       have s1 : wr.drew.cell? ⟨w.heap.size + 1, 0, none⟩ = some (.slice (some ⟨b2, o2, none⟩) n cb) := f1
       have s2 : wr.drew.cell? ⟨b1, o1 + m * 8, none⟩ = some (.int .i64 ↑cu.a.me) := f2
       have s3 : wr.drew.cell? ⟨b1, o1 + m * 8 + 1, none⟩ = some (.int .i64 ↑cu.a.rev) := f3
       have s4 : wr.drew.cell? ⟨b1, o1 + m * 8 + 2, none⟩ = some (.int .i64 ↑cu.a.next) := f4
       have s5 : wr.drew.cell? ⟨b1, o1 + m * 8 + 3, none⟩ = some (.int .i64 ↑cu.a.month) := f5
       have s6 : wr.drew.cell? ⟨b1, o1 + m * 8 + 4, none⟩ = some (.int .i64 ↑cu.a.bought) := f6
       have s7 : wr.drew.cell? ⟨b1, o1 + m * 8 + 5, none⟩ = some (.int .i64 cu.a.free) := f7
       have s8 : wr.drew.cell? ⟨b1, o1 + m * 8 + 6, none⟩ = some (.slice A1 (cu.a.l.length) c1) := f8
       have s9 : wr.drew.cell? ⟨b2, o2 + m * 8, none⟩ = some (.int .i64 ↑cu.a.me) := f10
       have s10 : wr.drew.cell? ⟨b2, o2 + m * 8 + 1, none⟩ = some (.int .i64 ↑cv.a.rev) := f11
       have s11 : wr.drew.cell? ⟨b2, o2 + m * 8 + 2, none⟩ = some (.int .i64 ↑cv.a.next) := f12
       have s12 : wr.drew.cell? ⟨b2, o2 + m * 8 + 3, none⟩ = some (.int .i64 ↑cv.a.month) := f13
       have s13 : wr.drew.cell? ⟨b2, o2 + m * 8 + 4, none⟩ = some (.int .i64 ↑cv.a.bought) := f14
       have s14 : wr.drew.cell? ⟨b2, o2 + m * 8 + 5, none⟩ = some (.int .i64 cv.a.free) := f15
       have s15 : wr.drew.cell? ⟨b2, o2 + m * 8 + 6, none⟩ = some (.slice A2 (cv.a.l.length) c2) := f16
       refine wp_region_held_drew (S := fun w' => w'.cell? ⟨w.heap.size, 0, none⟩ = some (.slice (some ⟨b1, o1, none⟩) n ca) ∧ w'.cell? ⟨w.heap.size + 1, 0, none⟩ = some (.slice (some ⟨b2, o2, none⟩) n cb) ∧ w'.cell? ⟨b1, o1 + m * 8, none⟩ = some (.int .i64 ↑cu.a.me) ∧ w'.cell? ⟨b1, o1 + m * 8 + 1, none⟩ = some (.int .i64 ↑cu.a.rev) ∧ w'.cell? ⟨b1, o1 + m * 8 + 2, none⟩ = some (.int .i64 ↑cu.a.next) ∧ w'.cell? ⟨b1, o1 + m * 8 + 3, none⟩ = some (.int .i64 ↑cu.a.month) ∧ w'.cell? ⟨b1, o1 + m * 8 + 4, none⟩ = some (.int .i64 ↑cu.a.bought) ∧ w'.cell? ⟨b1, o1 + m * 8 + 5, none⟩ = some (.int .i64 cu.a.free) ∧ w'.cell? ⟨b1, o1 + m * 8 + 6, none⟩ = some (.slice A1 (cu.a.l.length) c1) ∧ w'.cell? ⟨b2, o2 + m * 8, none⟩ = some (.int .i64 ↑cu.a.me) ∧ w'.cell? ⟨b2, o2 + m * 8 + 1, none⟩ = some (.int .i64 ↑cv.a.rev) ∧ w'.cell? ⟨b2, o2 + m * 8 + 2, none⟩ = some (.int .i64 ↑cv.a.next) ∧ w'.cell? ⟨b2, o2 + m * 8 + 3, none⟩ = some (.int .i64 ↑cv.a.month) ∧ w'.cell? ⟨b2, o2 + m * 8 + 4, none⟩ = some (.int .i64 ↑cv.a.bought) ∧ w'.cell? ⟨b2, o2 + m * 8 + 5, none⟩ = some (.int .i64 cv.a.free) ∧ w'.cell? ⟨b2, o2 + m * 8 + 6, none⟩ = some (.slice A2 (cv.a.l.length) c2)) (by kernel_rfl) ⟨s0, s1, s2, s3, s4, s5, s6, s7, s8, s9, s10, s11, s12, s13, s14, s15⟩ (fun hHeld => ?_)
       refine wpAnyH_take (i := 0) (v := ?v1) rfl (by kernel_rfl) (by kernel_rfl) (by kernel_rfl) (fun _ _ _ h => h) (Or.inl ⟨by rfl, ?hy1⟩) (by assumption) ?rest1
       case hy1 => (intro w' hSw; (try dsimp only at hSw); go_simp; (try with_reducible rfl))
       try simp only [Act.put, List.getElem_toArray, List.getElem_cons_zero, List.setIfInBounds_toArray, List.set_cons_zero, List.set_cons_succ]
       refine wpAnyH_take (i := 1) (v := ?v2) rfl (by kernel_rfl) (by kernel_rfl) (by kernel_rfl) (fun _ _ _ h => h) (Or.inl ⟨by rfl, ?hy2⟩) (by assumption) ?rest2
       case hy2 => (intro w' hSw; (try dsimp only at hSw); go_simp; (try with_reducible rfl))
       try simp only [Act.put, List.getElem_toArray, List.getElem_cons_zero, List.getElem_cons_succ, List.setIfInBounds_toArray, List.set_cons_zero, List.set_cons_succ]
       refine wpAnyH_take (i := 2) (v := ?v3) rfl (by kernel_rfl) (by kernel_rfl) (by kernel_rfl) (fun _ _ _ h => h) (Or.inl ⟨by rfl, ?hy3⟩) (by assumption) ?rest3
       case hy3 => (intro w' hSw; (try dsimp only at hSw); go_simp; (try with_reducible rfl))
       try simp only [Act.put, List.getElem_toArray, List.getElem_cons_zero, List.getElem_cons_succ, List.setIfInBounds_toArray, List.set_cons_zero, List.set_cons_succ]
       refine wpAnyH_take (i := 3) (v := ?v4) rfl (by kernel_rfl) (by kernel_rfl) (by kernel_rfl) (fun _ _ _ h => h) (Or.inl ⟨by rfl, ?hy4⟩) (by assumption) ?rest4
       case hy4 => (intro w' hSw; (try dsimp only at hSw); go_simp; (try with_reducible rfl))
       try simp only [Act.put, List.getElem_toArray, List.getElem_cons_zero, List.getElem_cons_succ, List.setIfInBounds_toArray, List.set_cons_zero, List.set_cons_succ]
       refine wpAnyH_take (i := 4) (v := ?v5) rfl (by kernel_rfl) (by kernel_rfl) (by kernel_rfl) (fun _ _ _ h => h) (Or.inl ⟨by rfl, ?hy5⟩) (by assumption) ?rest5
       case hy5 => (intro w' hSw; (try dsimp only at hSw); go_simp; (try with_reducible rfl))
       try simp only [Act.put, List.getElem_toArray, List.getElem_cons_zero, List.getElem_cons_succ, List.setIfInBounds_toArray, List.set_cons_zero, List.set_cons_succ]
       refine wpAnyH_take (i := 5) (v := ?v6) rfl (by kernel_rfl) (by kernel_rfl) (by kernel_rfl) (fun _ _ _ h => h) (Or.inl ⟨by rfl, ?hy6⟩) (by assumption) ?rest6
       case hy6 => (intro w' hSw; (try dsimp only at hSw); go_simp; (try with_reducible rfl))
       try simp only [Act.put, List.getElem_toArray, List.getElem_cons_zero, List.getElem_cons_succ, List.setIfInBounds_toArray, List.set_cons_zero, List.set_cons_succ]
       refine wpAnyH_take (i := 6) (v := ?v7) rfl (by kernel_rfl) (by kernel_rfl) (by kernel_rfl) (fun _ _ _ h => h) (Or.inl ⟨by rfl, ?hy7⟩) (by assumption) ?rest7
       case hy7 => (intro w' hSw; (try dsimp only at hSw); go_simp; (try with_reducible rfl))
       try simp only [Act.put, List.getElem_toArray, List.getElem_cons_zero, List.getElem_cons_succ, List.setIfInBounds_toArray, List.set_cons_zero, List.set_cons_succ]
       refine wpAnyH_take (i := 7) (v := ?v8) rfl (by kernel_rfl) (by kernel_rfl) (by kernel_rfl) (fun _ _ _ h => h) (Or.inl ⟨by rfl, ?hy8⟩) (by assumption) ?rest8
       case hy8 => (intro w' hSw; (try dsimp only at hSw); go_simp; (try with_reducible rfl))
       try simp only [Act.put, List.getElem_toArray, List.getElem_cons_zero, List.getElem_cons_succ, List.setIfInBounds_toArray, List.set_cons_zero, List.set_cons_succ]
       refine wpAnyH_take (i := 8) (v := ?v9) rfl (by kernel_rfl) (by kernel_rfl) (by kernel_rfl) (fun _ _ _ h => h) (Or.inl ⟨by rfl, ?hy9⟩) (by assumption) ?rest9
       case hy9 => (intro w' hSw; (try dsimp only at hSw); go_simp; (try with_reducible rfl))
       try simp only [Act.put, List.getElem_toArray, List.getElem_cons_zero, List.getElem_cons_succ, List.setIfInBounds_toArray, List.set_cons_zero, List.set_cons_succ]
       refine wpAnyH_take (i := 9) (v := ?v10) rfl (by kernel_rfl) (by kernel_rfl) (by kernel_rfl) (fun _ _ _ h => h) (Or.inl ⟨by rfl, ?hy10⟩) (by assumption) ?rest10
       case hy10 => (intro w' hSw; (try dsimp only at hSw); go_simp; (try with_reducible rfl))
       try simp only [Act.put, List.getElem_toArray, List.getElem_cons_zero, List.getElem_cons_succ, List.setIfInBounds_toArray, List.set_cons_zero, List.set_cons_succ]
       refine wpAnyH_take (i := 10) (v := ?v11) rfl (by kernel_rfl) (by kernel_rfl) (by kernel_rfl) (fun _ _ _ h => h) (Or.inl ⟨by rfl, ?hy11⟩) (by assumption) ?rest11
       case hy11 => (intro w' hSw; (try dsimp only at hSw); go_simp; (try with_reducible rfl))
       try simp only [Act.put, List.getElem_toArray, List.getElem_cons_zero, List.getElem_cons_succ, List.setIfInBounds_toArray, List.set_cons_zero, List.set_cons_succ]
       refine wpAnyH_take (i := 11) (v := ?v12) rfl (by kernel_rfl) (by kernel_rfl) (by kernel_rfl) (fun _ _ _ h => h) (Or.inl ⟨by rfl, ?hy12⟩) (by assumption) ?rest12
       case hy12 => (intro w' hSw; (try dsimp only at hSw); go_simp; (try with_reducible rfl))
       try simp only [Act.put, List.getElem_toArray, List.getElem_cons_zero, List.getElem_cons_succ, List.setIfInBounds_toArray, List.set_cons_zero, List.set_cons_succ]
       refine wpAnyH_ready (rs := [12]) (by kernel_rfl) (by simp) ?_
       refine AllReadyH.cons (o := { dst := some 32, op := Op.call { callee := Callee.value (Operand.func 29), args := #[Operand.tmp 25, Operand.tmp 31], argTypes := #[58, 58] }, type := 4, pos := "shops.go:678", after := #[{ on := 5, ground := Ground.data }, { on := 11, ground := Ground.data }], guard := none }) rfl (fun K hK => ?_) AllReadyH.nil
       go_simp
       go_at_call 29; (with_reducible refine t1.mono ?_); rintro e we ⟨rfl, hbe⟩; have hWe := B0.trans (hbe.mono B0.size)
       dsimp only
       have r0 := (hWe.cell (p := ⟨w.heap.size, 0, none⟩) alt).trans s0
       have r1 := (hWe.cell (p := ⟨w.heap.size + 1, 0, none⟩) blt).trans s1
       have r2 := (hWe.cell (p := ⟨b1, o1 + m * 8, none⟩) h1lt).trans s2
       have r3 := (hWe.cell (p := ⟨b1, o1 + m * 8 + 1, none⟩) h1lt).trans s3
       have r4 := (hWe.cell (p := ⟨b1, o1 + m * 8 + 2, none⟩) h1lt).trans s4
       have r5 := (hWe.cell (p := ⟨b1, o1 + m * 8 + 3, none⟩) h1lt).trans s5
       have r6 := (hWe.cell (p := ⟨b1, o1 + m * 8 + 4, none⟩) h1lt).trans s6
       have r7 := (hWe.cell (p := ⟨b1, o1 + m * 8 + 5, none⟩) h1lt).trans s7
       have r8 := (hWe.cell (p := ⟨b1, o1 + m * 8 + 6, none⟩) h1lt).trans s8
       have r9 := (hWe.cell (p := ⟨b2, o2 + m * 8, none⟩) h2lt).trans s9
       have r10 := (hWe.cell (p := ⟨b2, o2 + m * 8 + 1, none⟩) h2lt).trans s10
       have r11 := (hWe.cell (p := ⟨b2, o2 + m * 8 + 2, none⟩) h2lt).trans s11
       have r12 := (hWe.cell (p := ⟨b2, o2 + m * 8 + 3, none⟩) h2lt).trans s12
       have r13 := (hWe.cell (p := ⟨b2, o2 + m * 8 + 4, none⟩) h2lt).trans s13
       have r14 := (hWe.cell (p := ⟨b2, o2 + m * 8 + 5, none⟩) h2lt).trans s14
       have r15 := (hWe.cell (p := ⟨b2, o2 + m * 8 + 6, none⟩) h2lt).trans s15
       refine hK.out _ _ ⟨r0, r1, r2, r3, r4, r5, r6, r7, r8, r9, r10, r11, r12, r13, r14, r15⟩ (fun hHeld => ?_)
       clear hK K
       try simp only [Act.put, List.getElem_toArray, List.getElem_cons_zero, List.getElem_cons_succ, List.setIfInBounds_toArray, List.set_cons_zero, List.set_cons_succ]
       refine wpAnyH_take (i := 13) (v := ?v13) rfl (by kernel_rfl) (by kernel_rfl) (by kernel_rfl) (fun _ _ _ h => h) (Or.inl ⟨by rfl, ?hy13⟩) (by assumption) ?rest13
       case hy13 => (intro w' hSw; (try dsimp only at hSw); go_simp; (try with_reducible rfl))
       try simp only [Act.put, List.getElem_toArray, List.getElem_cons_zero, List.getElem_cons_succ, List.setIfInBounds_toArray, List.set_cons_zero, List.set_cons_succ]
       refine wpAnyH_take (i := 14) (v := ?v14) rfl (by kernel_rfl) (by kernel_rfl) (by kernel_rfl) (fun _ _ _ h => h) (Or.inl ⟨by rfl, ?hy14⟩) (by assumption) ?rest14
       case hy14 => (intro w' hSw; (try dsimp only at hSw); go_simp; (try with_reducible rfl))
       try simp only [Act.put, List.getElem_toArray, List.getElem_cons_zero, List.getElem_cons_succ, List.setIfInBounds_toArray, List.set_cons_zero, List.set_cons_succ]
       refine wpAnyH_take (i := 15) (v := undef) rfl (by kernel_rfl) (by kernel_rfl) (by kernel_rfl) (fun _ _ _ h => h) (Or.inr ⟨by kernel_rfl, rfl⟩) (by assumption) ?rest15
       try simp only [Act.put, List.getElem_toArray, List.getElem_cons_zero, List.getElem_cons_succ, List.setIfInBounds_toArray, List.set_cons_zero, List.set_cons_succ]
       refine wpAnyH_take (i := 16) (v := undef) rfl (by kernel_rfl) (by kernel_rfl) (by kernel_rfl) (fun _ _ _ h => h) (Or.inr ⟨by kernel_rfl, rfl⟩) (by assumption) ?rest16
       try simp only [Act.put, List.getElem_toArray, List.getElem_cons_zero, List.getElem_cons_succ, List.setIfInBounds_toArray, List.set_cons_zero, List.set_cons_succ]
       refine wpAnyH_take (i := 17) (v := undef) rfl (by kernel_rfl) (by kernel_rfl) (by kernel_rfl) (fun _ _ _ h => h) (Or.inr ⟨by kernel_rfl, rfl⟩) (by assumption) ?rest17
       try simp only [Act.put, List.getElem_toArray, List.getElem_cons_zero, List.getElem_cons_succ, List.setIfInBounds_toArray, List.set_cons_zero, List.set_cons_succ]
       refine wpAnyH_take (i := 18) (v := undef) rfl (by kernel_rfl) (by kernel_rfl) (by kernel_rfl) (fun _ _ _ h => h) (Or.inr ⟨by kernel_rfl, rfl⟩) (by assumption) ?rest18
       try simp only [Act.put, List.getElem_toArray, List.getElem_cons_zero, List.getElem_cons_succ, List.setIfInBounds_toArray, List.set_cons_zero, List.set_cons_succ]
       refine wpAnyH_take (i := 19) (v := undef) rfl (by kernel_rfl) (by kernel_rfl) (by kernel_rfl) (fun _ _ _ h => h) (Or.inr ⟨by kernel_rfl, rfl⟩) (by assumption) ?rest19
       try simp only [Act.put, List.getElem_toArray, List.getElem_cons_zero, List.getElem_cons_succ, List.setIfInBounds_toArray, List.set_cons_zero, List.set_cons_succ]
       refine wpAnyH_take (i := 20) (v := undef) rfl (by kernel_rfl) (by kernel_rfl) (by kernel_rfl) (fun _ _ _ h => h) (Or.inr ⟨by kernel_rfl, rfl⟩) (by assumption) ?rest20
       try simp only [Act.put, List.getElem_toArray, List.getElem_cons_zero, List.getElem_cons_succ, List.setIfInBounds_toArray, List.set_cons_zero, List.set_cons_succ]
       refine wpAnyH_take (i := 21) (v := undef) rfl (by kernel_rfl) (by kernel_rfl) (by kernel_rfl) (fun _ _ _ h => h) (Or.inr ⟨by kernel_rfl, rfl⟩) (by assumption) ?rest21
       try simp only [Act.put, List.getElem_toArray, List.getElem_cons_zero, List.getElem_cons_succ, List.setIfInBounds_toArray, List.set_cons_zero, List.set_cons_succ]
       refine wpAnyH_take (i := 22) (v := undef) rfl (by kernel_rfl) (by kernel_rfl) (by kernel_rfl) (fun _ _ _ h => h) (Or.inr ⟨by kernel_rfl, rfl⟩) (by assumption) ?rest22
       try simp only [Act.put, List.getElem_toArray, List.getElem_cons_zero, List.getElem_cons_succ, List.setIfInBounds_toArray, List.set_cons_zero, List.set_cons_succ]
       refine wpAnyH_take (i := 23) (v := undef) rfl (by kernel_rfl) (by kernel_rfl) (by kernel_rfl) (fun _ _ _ h => h) (Or.inr ⟨by kernel_rfl, rfl⟩) (by assumption) ?rest23
       try simp only [Act.put, List.getElem_toArray, List.getElem_cons_zero, List.getElem_cons_succ, List.setIfInBounds_toArray, List.set_cons_zero, List.set_cons_succ]
       refine wpAnyH_take (i := 24) (v := undef) rfl (by kernel_rfl) (by kernel_rfl) (by kernel_rfl) (fun _ _ _ h => h) (Or.inr ⟨by kernel_rfl, rfl⟩) (by assumption) ?rest24
       try simp only [Act.put, List.getElem_toArray, List.getElem_cons_zero, List.getElem_cons_succ, List.setIfInBounds_toArray, List.set_cons_zero, List.set_cons_succ]
       refine wpAnyH_take (i := 25) (v := undef) rfl (by kernel_rfl) (by kernel_rfl) (by kernel_rfl) (fun _ _ _ h => h) (Or.inr ⟨by kernel_rfl, rfl⟩) (by assumption) ?rest25
       try simp only [Act.put, List.getElem_toArray, List.getElem_cons_zero, List.getElem_cons_succ, List.setIfInBounds_toArray, List.set_cons_zero, List.set_cons_succ]
       refine wpAnyH_take (i := 26) (v := undef) rfl (by kernel_rfl) (by kernel_rfl) (by kernel_rfl) (fun _ _ _ h => h) (Or.inr ⟨by kernel_rfl, rfl⟩) (by assumption) ?rest26
       try simp only [Act.put, List.getElem_toArray, List.getElem_cons_zero, List.getElem_cons_succ, List.setIfInBounds_toArray, List.set_cons_zero, List.set_cons_succ]
       refine wpAnyH_take (i := 27) (v := undef) rfl (by kernel_rfl) (by kernel_rfl) (by kernel_rfl) (fun _ _ _ h => h) (Or.inr ⟨by kernel_rfl, rfl⟩) (by assumption) ?rest27
       try simp only [Act.put, List.getElem_toArray, List.getElem_cons_zero, List.getElem_cons_succ, List.setIfInBounds_toArray, List.set_cons_zero, List.set_cons_succ]
       refine wpAnyH_take (i := 28) (v := undef) rfl (by kernel_rfl) (by kernel_rfl) (by kernel_rfl) (fun _ _ _ h => h) (Or.inr ⟨by kernel_rfl, rfl⟩) (by assumption) ?rest28
       try simp only [Act.put, List.getElem_toArray, List.getElem_cons_zero, List.getElem_cons_succ, List.setIfInBounds_toArray, List.set_cons_zero, List.set_cons_succ]
       refine wpAnyH_take (i := 29) (v := ?v29) rfl (by kernel_rfl) (by kernel_rfl) (by kernel_rfl) (fun _ _ _ h => h) (Or.inl ⟨by rfl, ?hy29⟩) (by assumption) ?rest29
       case hy29 => (intro w' hSw; (try dsimp only at hSw); go_simp; (try with_reducible rfl))
       try simp only [Act.put, List.getElem_toArray, List.getElem_cons_zero, List.getElem_cons_succ, List.setIfInBounds_toArray, List.set_cons_zero, List.set_cons_succ]
       refine wpAnyH_done (by kernel_rfl) ?_ _
       go_wp2
       go_ret
       exact ⟨rfl, hb0.trans ((hbr.trans (hWe.mono hbr.size)).mono hb0.size)⟩
   · have hr := HX.out.2.2.2.2
     have hrf : r = true := by rcases hr with ⟨_, h⟩ | ⟨h, _⟩; exact h; omega
     have f0 := (hbr.cell (p := ⟨w.heap.size, 0, none⟩) balt).trans ba0
     have klt : ¬ (k : Int) < (n : Int) := by omega
     clear hr HX HK
     subst hrf
     go_wp2
     go_ret
     exact ⟨rfl, hb0.trans (hbr.mono hb0.size)⟩
theorem sameB_yes (Aa : Option Addr) (na ca : Nat) (Ab : Option Addr) (nb cb : Nat) (B : List Cu) (w : World) (h1 : IsBk w (.slice Aa na ca) B) (h2 : IsBk w (.slice Ab nb cb) B) (hn : na ≤ 1000) :
   Calls Tryz.prog 14 #[.agg #[.slice Aa na ca], .agg #[.slice Ab nb cb]] w fun e w' => e = .returned (.bool true) ∧ Below w.heap.size w w' := by
 have g1 := h1.len
 have g2 := h2.len
 obtain rfl : nb = na := by omega
 exact sameB_ok Aa ca Ab cb nb nb true B B w h1 h2 (Nat.le_refl _) hn (.inl ⟨rfl, rfl⟩) (fun _ _ _ _ => rfl) (fun h _ => by omega)
theorem sameB_no (Aa : Option Addr) (na ca : Nat) (Ab : Option Addr) (nb cb : Nat) (B : List Cu) (i : Nat) (c2 : Cu) (w : World) (h1 : IsBk w (.slice Aa na ca) B) (h2 : IsBk w (.slice Ab nb cb) (B.set i c2)) (hn : na ≤ 1000) (hi : i < B.length) (hme : c2.a.me = (B.getD i cu0).a.me) (hu : Unlike (B.getD i cu0).a c2.a) :
   Calls Tryz.prog 14 #[.agg #[.slice Aa na ca], .agg #[.slice Ab nb cb]] w fun e w' => e = .returned (.bool false) ∧ Below w.heap.size w w' := by
 have g1 := h1.len
 have g2 := h2.len
 rw [List.length_set] at g2
 obtain rfl : nb = na := by omega
 have hgd : B.getD i cu0 = B[i] := by simp [hi]
 rw [hgd] at hme hu
 refine sameB_ok Aa ca Ab cb nb i false B (B.set i c2) w h1 h2 (by omega) hn (.inr ⟨by omega, rfl⟩) (fun j _ _ hj => ?_) (fun _ _ => ?_)
 · rw [List.getElem_set_ne (by omega)]
 · rw [List.getElem_set_self]; exact ⟨hme, hu⟩
end Go.Proofs.YtpcgpnkmjjamhaaGreat
