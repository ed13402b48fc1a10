/- (book.keeper).sell: a sale that is not what the event says. -/
import Derived.Test.YtpcgpnkmjjamhaaGreatDoorQ24
namespace Go.Proofs.YtpcgpnkmjjamhaaGreatDoor
open Go.RowKit
set_option linter.unusedVariables false
set_option maxRecDepth 100000
set_option maxHeartbeats 8000000 in
theorem ksell2_no (g o kb bd : Nat) (cur : Array Value) (R M : Value) (me rev next month bought : Nat) (free : Int) (l : List (Nat × Nat)) (Ad : Option Addr) (cd : Nat) (s : List So) (As : Option Addr) (cs : Nat) (At : Option Addr) (nt ct fx fb db al : Nat) (tl : List (Nat × Nat)) (k vme mo id te de fe pr ch un tg ow bp : Nat) (X : List Chunk) (w0 w : World)
   (H : Mem w0 [] w (.blk g 64 cur :: .blk kb 180 #[R, .slice At nt ct, .int .i64 ↑fx, .int .i64 ↑fb, .int .i64 ↑db, .int .i64 ↑al, M] :: .row bd 81 2 (.slice Ad l.length cd) l.length (drs l) :: .row w0.heap.size 229 5 (.slice As s.length cs) s.length (sos s) :: X))
   (ce0 : cur[o]? = some (.int .i64 ↑me)) (ce1 : cur[o + 1]? = some (.int .i64 ↑rev)) (ce2 : cur[o + 2]? = some (.int .i64 ↑next)) (ce3 : cur[o + 3]? = some (.int .i64 ↑month)) (ce4 : cur[o + 4]? = some (.int .i64 ↑bought)) (ce5 : cur[o + 5]? = some (.int .i64 free)) (ce6 : cur[o + 6]? = some (.slice Ad l.length cd)) (ce7 : cur[o + 7]? = some (.slice As s.length cs))
   (hvt : IsDs w0 (.slice At nt ct) tl) (hT : TOk tl) (hTm : TmOk fx fb db al) (ha : AOk me rev next month bought free) (hl : DOk l) (hnx : next ≤ 1048575) (hk : k = 2) (ht1 : 1 ≤ te) (ht9 : te ≤ 100000000) (hmo : mo ≤ 2399) (hsl : s.length ≤ 1000) (C E me2 rev2 next2 month2 bought2 : Nat) (free2 : Int) (l2 : List (Nat × Nat)) (x1 x2 x3 x4 x5 x6 x7 : Nat) (hR : Hid (sellP ⟨tl, fx, fb, db, al⟩ ⟨me, rev, next, month, bought, free, l⟩ te mo = (E, ⟨me2, rev2, next2, month2, bought2, free2, l2⟩, ⟨x1, x2, x3, x4, x5, x6, x7⟩))) (hbad : Hid ((E ≠ 0 ∧ C = E) ∨ (E = 0 ∧ C = 8 ∧ ¬ (x1 = id ∧ x2 = te ∧ x3 = de ∧ x4 = fe ∧ x5 = pr ∧ x6 = ch ∧ x7 = un)))) :
   Calls Tryz.prog 92 #[.pointer (some ⟨kb, 0, none⟩), .pointer (some ⟨g, o, none⟩), .agg #[.int .i64 ↑k, .int .i64 ↑vme, .int .i64 ↑mo, .int .i64 ↑id, .int .i64 ↑te, .int .i64 ↑de, .int .i64 ↑fe, .int .i64 ↑pr, .int .i64 ↑ch, .int .i64 ↑un, .int .i64 ↑tg, .int .i64 ↑ow, .int .i64 ↑bp]] w fun e w' => e = .panicked (thrown (C : Int)) ∧ Mem w0 [] w' (.blk g 64 cur :: .blk kb 180 #[R, .slice At nt ct, .int .i64 ↑fx, .int .i64 ↑fb, .int .i64 ↑db, .int .i64 ↑al, M] :: .row bd 81 2 (.slice Ad l.length cd) l.length (drs l) :: .row w0.heap.size 229 5 (.slice As s.length cs) s.length (sos s) :: X) := by
 subst hk
 have hSl := fun W h h2 => sell_all me rev next month bought free Ad l.length cd l At nt ct fx fb db al tl te mo E me2 rev2 next2 month2 bought2 free2 l2 x1 x2 x3 x4 x5 x6 x7 W h hl ha h2 hT hTm ht1 ht9 hmo hnx hR
 unfold RetDI at hSl
 have H : Mem (w0) [] (w) (.blk (g) 64 (cur) :: .blk (kb) 180 #[R, .slice At nt ct, .int .i64 ↑fx, .int .i64 ↑fb, .int .i64 ↑db, .int .i64 ↑al, M] :: .row (bd) (81) (2) (.slice Ad l.length cd) (l.length) (drs l) :: .row (w0.heap.size) (229) (5) (.slice As s.length cs) (s.length) (sos s) :: X) := H
 have q0 := ((H.blk 0 rfl).cell (o)).trans ce0
 have q1 := ((H.blk 0 rfl).cell (o + 1)).trans ce1
 have q2 := ((H.blk 0 rfl).cell (o + 2)).trans ce2
 have q3 := ((H.blk 0 rfl).cell (o + 3)).trans ce3
 have q4 := ((H.blk 0 rfl).cell (o + 4)).trans ce4
 have q5 := ((H.blk 0 rfl).cell (o + 5)).trans ce5
 have q6 := ((H.blk 0 rfl).cell (o + 6)).trans ce6
 have hgl := H.lt 0 rfl
 obtain ⟨kplt, kp0, kpf0, kp1, kpf1, kp2, kpf2, kp3, kpf3, kp4, kpf4, kp5, kpf5, kp6, kpf6⟩ := H.c7 1 rfl
 go_enter Tryz.func92, Tryz.ntmps92
 go_upto_region 4 with fail
 obtain ⟨W1, hW1⟩ : ∃ W1, (((w).alloc (.cells #[.int .i64 2, .int .i64 ↑vme, .int .i64 ↑mo, .int .i64 ↑id, .int .i64 ↑te, .int .i64 ↑de, .int .i64 ↑fe, .int .i64 ↑pr, .int .i64 ↑ch, .int .i64 ↑un, .int .i64 ↑tg, .int .i64 ↑ow, .int .i64 ↑bp] 115)).alloc (.cells #[.int .i64 0, .int .i64 0, .int .i64 0, .int .i64 0, .int .i64 0, .int .i64 0, .slice none 0 0] 61)).alloc (.cells #[.int .i64 0, .int .i64 0, .int .i64 0, .int .i64 0, .int .i64 0, .int .i64 0, .int .i64 0] 48) = W1 := ⟨_, rfl⟩
 replace H := Mem.allocF H (w.heap.size) (by first | (simp; done) | (simp; omega)) #[.int .i64 2, .int .i64 ↑vme, .int .i64 ↑mo, .int .i64 ↑id, .int .i64 ↑te, .int .i64 ↑de, .int .i64 ↑fe, .int .i64 ↑pr, .int .i64 ↑ch, .int .i64 ↑un, .int .i64 ↑tg, .int .i64 ↑ow, .int .i64 ↑bp] 115
 replace H := Mem.allocF H (w.heap.size + 1) (by first | (simp; done) | (simp; omega)) #[.int .i64 0, .int .i64 0, .int .i64 0, .int .i64 0, .int .i64 0, .int .i64 0, .slice none 0 0] 61
 replace H := Mem.allocF H (w.heap.size + 1 + 1) (by first | (simp; done) | (simp; omega)) #[.int .i64 0, .int .i64 0, .int .i64 0, .int .i64 0, .int .i64 0, .int .i64 0, .int .i64 0] 48
 rw [hW1] at H ⊢
 clear hW1
 clear q0 q1 q2 q3 q4 q5 q6 hgl
 have q1 := ((H.blk 3 rfl).cell (o + 1)).trans ce1
 have hgl := H.lt 3 rfl
 clear kplt kp0 kpf0 kp1 kpf1 kp2 kpf2 kp3 kpf3 kp4 kpf4 kp5 kpf5 kp6 kpf6
 obtain ⟨evlt, ev0, evf0, ev1, evf1, ev2, evf2, ev3, evf3, ev4, evf4, ev5, evf5, ev6, evf6, ev7, evf7, ev8, evf8, ev9, evf9, ev10, evf10, ev11, evf11, ev12, evf12⟩ := H.c13 2 rfl
 go_region
 obtain ⟨W2, hW2⟩ : ∃ W2, ((W1).alloc (.cells #[.int .i64 ↑id, .int .i64 0, .int .i64 ↑un, .int .i64 ↑tg, .int .i64 ↑rev] 229)).drew = W2 := ⟨_, rfl⟩
 replace H := Mem.allocF H (W1.heap.size) (by first | (simp; done) | (simp; omega)) #[.int .i64 ↑id, .int .i64 0, .int .i64 ↑un, .int .i64 ↑tg, .int .i64 ↑rev] 229
 replace H := H.drew
 rw [hW2] at H ⊢
 clear hW2
 clear evlt ev0 evf0 ev1 evf1 ev2 evf2 ev3 evf3 ev4 evf4 ev5 evf5 ev6 evf6 ev7 evf7 ev8 evf8 ev9 evf9 ev10 evf10 ev11 evf11 ev12 evf12
 obtain ⟨evlt, ev0, evf0, ev1, evf1, ev2, evf2, ev3, evf3, ev4, evf4, ev5, evf5, ev6, evf6, ev7, evf7, ev8, evf8, ev9, evf9, ev10, evf10, ev11, evf11, ev12, evf12⟩ := H.c13 3 rfl
 clear q1 hgl
 go_upto_region 7 with fail
 have q0 : W2.cell? ⟨g, o, none⟩ = _ := ((H.blk 4 rfl).cell (o)).trans ce0
 have q1 : W2.cell? ⟨g, o + 1, none⟩ = _ := ((H.blk 4 rfl).cell (o + 1)).trans ce1
 have q2 : W2.cell? ⟨g, o + 2, none⟩ = _ := ((H.blk 4 rfl).cell (o + 2)).trans ce2
 have q3 : W2.cell? ⟨g, o + 3, none⟩ = _ := ((H.blk 4 rfl).cell (o + 3)).trans ce3
 have q4 : W2.cell? ⟨g, o + 4, none⟩ = _ := ((H.blk 4 rfl).cell (o + 4)).trans ce4
 have q5 : W2.cell? ⟨g, o + 5, none⟩ = _ := ((H.blk 4 rfl).cell (o + 5)).trans ce5
 have q6 : W2.cell? ⟨g, o + 6, none⟩ = _ := ((H.blk 4 rfl).cell (o + 6)).trans ce6
 have hgl := H.lt 4 rfl
 have hg1 : g ≠ w.heap.size + 1 := fun e => H.ne 4 2 rfl rfl (by decide) e
 have hg1' : w.heap.size + 1 ≠ g := fun e => hg1 e.symm
 have hg2 : g ≠ w.heap.size + 1 + 1 := fun e => H.ne 4 1 rfl rfl (by decide) e
 have hg2' : w.heap.size + 1 + 1 ≠ g := fun e => hg2 e.symm
 clear evlt ev0 evf0 ev1 evf1 ev2 evf2 ev3 evf3 ev4 evf4 ev5 evf5 ev6 evf6 ev7 evf7 ev8 evf8 ev9 evf9 ev10 evf10 ev11 evf11 ev12 evf12
 obtain ⟨evlt, ev0, evf0, ev1, evf1, ev2, evf2, ev3, evf3, ev4, evf4, ev5, evf5, ev6, evf6, ev7, evf7, ev8, evf8, ev9, evf9, ev10, evf10, ev11, evf11, ev12, evf12⟩ := H.c13 3 rfl
 obtain ⟨kplt, kp0, kpf0, kp1, kpf1, kp2, kpf2, kp3, kpf3, kp4, kpf4, kp5, kpf5, kp6, kpf6⟩ := H.c7 5 rfl
 obtain ⟨alt, a0, af0, a1, af1, a2, af2, a3, af3, a4, af4, a5, af5, a6, af6⟩ := H.c7 2 rfl
 obtain ⟨blt, b0, bf0, b1, bf1, b2, bf2, b3, bf3, b4, bf4, b5, bf5, b6, bf6⟩ := H.c7 1 rfl
 have ne_ev_kp := H.ne 3 5 rfl rfl (by decide)
 have ne_ev_a := H.ne 3 2 rfl rfl (by decide)
 have ne_ev_b := H.ne 3 1 rfl rfl (by decide)
 have ne_kp_ev := H.ne 5 3 rfl rfl (by decide)
 have ne_kp_a := H.ne 5 2 rfl rfl (by decide)
 have ne_kp_b := H.ne 5 1 rfl rfl (by decide)
 have ne_a_ev := H.ne 2 3 rfl rfl (by decide)
 have ne_a_kp := H.ne 2 5 rfl rfl (by decide)
 have ne_a_b := H.ne 2 1 rfl rfl (by decide)
 have ne_b_ev := H.ne 1 3 rfl rfl (by decide)
 have ne_b_kp := H.ne 1 5 rfl rfl (by decide)
 have ne_b_a := H.ne 1 2 rfl rfl (by decide)
 have hds := isds_own (l := l) rfl (H.own_ 6 rfl)
 have hts := hvt.below H.below
 have V0 : Below W2.heap.size W2 W2.drew := below_draws (Below.refl _ _) 1
 go_region_held3 (fun w' => w'.cell? ⟨g, o, none⟩ = some (.int .i64 ↑me) ∧ w'.cell? ⟨g, o + 1, none⟩ = some (.int .i64 ↑rev) ∧ w'.cell? ⟨g, o + 2, none⟩ = some (.int .i64 ↑next) ∧ w'.cell? ⟨g, o + 3, none⟩ = some (.int .i64 ↑month) ∧ w'.cell? ⟨g, o + 4, none⟩ = some (.int .i64 ↑bought) ∧ w'.cell? ⟨g, o + 5, none⟩ = some (.int .i64 free) ∧ w'.cell? ⟨g, o + 6, none⟩ = some (.slice Ad l.length cd) ∧ w'.cell? ⟨kb, 1, none⟩ = some (.slice At nt ct) ∧ w'.cell? ⟨kb, 2, none⟩ = some (.int .i64 ↑fx) ∧ w'.cell? ⟨kb, 3, none⟩ = some (.int .i64 ↑fb) ∧ w'.cell? ⟨kb, 4, none⟩ = some (.int .i64 ↑db) ∧ w'.cell? ⟨kb, 5, none⟩ = some (.int .i64 ↑al) ∧ w'.cell? ⟨w.heap.size, 4, none⟩ = some (.int .i64 ↑te) ∧ w'.cell? ⟨w.heap.size, 2, none⟩ = some (.int .i64 ↑mo))
   (first | with_reducible exact ⟨s0, s1, s2, s3, s4, s5, s6, s7, s8, s9, s10, s11, s12, s13⟩ | go_keep | fail)
   (first | (go_at_call 44; (with_reducible refine (hSl W2.drew (hds.below V0) (hts.below V0)).mono ?_); rintro e we ⟨A2, c2, rfl, hown, hbe⟩; have hWe := V0.trans (hbe.mono V0.size); have s0 := (hWe.cell (p := ⟨g, o, none⟩) hgl).trans q0; have s1 := (hWe.cell (p := ⟨g, o + 1, none⟩) hgl).trans q1; have s2 := (hWe.cell (p := ⟨g, o + 2, none⟩) hgl).trans q2; have s3 := (hWe.cell (p := ⟨g, o + 3, none⟩) hgl).trans q3; have s4 := (hWe.cell (p := ⟨g, o + 4, none⟩) hgl).trans q4; have s5 := (hWe.cell (p := ⟨g, o + 5, none⟩) hgl).trans q5; have s6 := (hWe.cell (p := ⟨g, o + 6, none⟩) hgl).trans q6; have s7 := (hWe.cell (p := ⟨kb, 1, none⟩) kplt).trans kp1; have s8 := (hWe.cell (p := ⟨kb, 2, none⟩) kplt).trans kp2; have s9 := (hWe.cell (p := ⟨kb, 3, none⟩) kplt).trans kp3; have s10 := (hWe.cell (p := ⟨kb, 4, none⟩) kplt).trans kp4; have s11 := (hWe.cell (p := ⟨kb, 5, none⟩) kplt).trans kp5; have s12 := (hWe.cell (p := ⟨w.heap.size, 4, none⟩) evlt).trans ev4; have s13 := (hWe.cell (p := ⟨w.heap.size, 2, none⟩) evlt).trans ev2; have HE := Mem.rowF H.drew hbe hown (Nat.le_refl _); have az0 := (HE.blk 3 rfl).cell 0; have azf0 := (HE.blk 3 rfl).frozen 0; have az1 := (HE.blk 3 rfl).cell 1; have azf1 := (HE.blk 3 rfl).frozen 1; have az2 := (HE.blk 3 rfl).cell 2; have azf2 := (HE.blk 3 rfl).frozen 2; have az3 := (HE.blk 3 rfl).cell 3; have azf3 := (HE.blk 3 rfl).frozen 3; have az4 := (HE.blk 3 rfl).cell 4; have azf4 := (HE.blk 3 rfl).frozen 4; have az5 := (HE.blk 3 rfl).cell 5; have azf5 := (HE.blk 3 rfl).frozen 5; have az6 := (HE.blk 3 rfl).cell 6; have azf6 := (HE.blk 3 rfl).frozen 6; have azlt := HE.lt 3 rfl; have bz0 := (HE.blk 2 rfl).cell 0; have bzf0 := (HE.blk 2 rfl).frozen 0; have bz1 := (HE.blk 2 rfl).cell 1; have bzf1 := (HE.blk 2 rfl).frozen 1; have bz2 := (HE.blk 2 rfl).cell 2; have bzf2 := (HE.blk 2 rfl).frozen 2; have bz3 := (HE.blk 2 rfl).cell 3; have bzf3 := (HE.blk 2 rfl).frozen 3; have bz4 := (HE.blk 2 rfl).cell 4; have bzf4 := (HE.blk 2 rfl).frozen 4; have bz5 := (HE.blk 2 rfl).cell 5; have bzf5 := (HE.blk 2 rfl).frozen 5; have bz6 := (HE.blk 2 rfl).cell 6; have bzf6 := (HE.blk 2 rfl).frozen 6; have bzlt := HE.lt 2 rfl; have zne1 := HE.ne 3 2 rfl rfl (by decide); have zne2 := HE.ne 2 3 rfl rfl (by decide)))
 clear s0 s1 s2 s3 s4 s5 s6 s7 s8 s9 s10 s11 s12 s13 q0 q1 q2 q3 q4 q5 q6 hgl hg1 hg1' hg2 hg2'
 replace H : Mem (w0) [] (we) (.row (W2.heap.size) (81) (2) (.slice A2 l2.length c2) (l2.length) (drs l2) :: .blk (W1.heap.size) 229 #[.int .i64 ↑id, .int .i64 0, .int .i64 ↑un, .int .i64 ↑tg, .int .i64 ↑rev] :: .blk (w.heap.size + 1 + 1) 48 #[.int .i64 0, .int .i64 0, .int .i64 0, .int .i64 0, .int .i64 0, .int .i64 0, .int .i64 0] :: .blk (w.heap.size + 1) 61 #[.int .i64 0, .int .i64 0, .int .i64 0, .int .i64 0, .int .i64 0, .int .i64 0, .slice none 0 0] :: .blk (w.heap.size) 115 #[.int .i64 2, .int .i64 ↑vme, .int .i64 ↑mo, .int .i64 ↑id, .int .i64 ↑te, .int .i64 ↑de, .int .i64 ↑fe, .int .i64 ↑pr, .int .i64 ↑ch, .int .i64 ↑un, .int .i64 ↑tg, .int .i64 ↑ow, .int .i64 ↑bp] :: .blk (g) 64 (cur) :: .blk (kb) 180 #[R, .slice At nt ct, .int .i64 ↑fx, .int .i64 ↑fb, .int .i64 ↑db, .int .i64 ↑al, M] :: .row (bd) (81) (2) (.slice Ad l.length cd) (l.length) (drs l) :: .row (w0.heap.size) (229) (5) (.slice As s.length cs) (s.length) (sos s) :: X) := Mem.rowF H hWe hown (Nat.le_refl _)
 clear HE az0 az1 az2 az3 az4 az5 az6 bz0 bz1 bz2 bz3 bz4 bz5 bz6 azf0 azf1 azf2 azf3 azf4 azf5 azf6 bzf0 bzf1 bzf2 bzf3 bzf4 bzf5 bzf6 azlt bzlt zne1 zne2 hds hts hSl hWe hbe hown V0
 obtain ⟨W3, hW3⟩ : ∃ W3, ((((((((((((((we).setCell ⟨w.heap.size + 1, 0, none⟩ (.int .i64 ↑me2)).setCell ⟨w.heap.size + 1, 1, none⟩ (.int .i64 ↑rev2)).setCell ⟨w.heap.size + 1, 2, none⟩ (.int .i64 ↑next2)).setCell ⟨w.heap.size + 1, 3, none⟩ (.int .i64 ↑month2)).setCell ⟨w.heap.size + 1, 4, none⟩ (.int .i64 ↑bought2)).setCell ⟨w.heap.size + 1, 5, none⟩ (.int .i64 free2)).setCell ⟨w.heap.size + 1, 6, none⟩ (.slice A2 l2.length c2)).setCell ⟨w.heap.size + 1 + 1, 0, none⟩ (.int .i64 ↑x1)).setCell ⟨w.heap.size + 1 + 1, 1, none⟩ (.int .i64 ↑x2)).setCell ⟨w.heap.size + 1 + 1, 2, none⟩ (.int .i64 ↑x3)).setCell ⟨w.heap.size + 1 + 1, 3, none⟩ (.int .i64 ↑x4)).setCell ⟨w.heap.size + 1 + 1, 4, none⟩ (.int .i64 ↑x5)).setCell ⟨w.heap.size + 1 + 1, 5, none⟩ (.int .i64 ↑x6)).setCell ⟨w.heap.size + 1 + 1, 6, none⟩ (.int .i64 ↑x7) = W3 := ⟨_, rfl⟩
 replace H := Mem.set 3 H rfl (0) (.int .i64 ↑me2)
 replace H := Mem.set 3 H rfl (1) (.int .i64 ↑rev2)
 replace H := Mem.set 3 H rfl (2) (.int .i64 ↑next2)
 replace H := Mem.set 3 H rfl (3) (.int .i64 ↑month2)
 replace H := Mem.set 3 H rfl (4) (.int .i64 ↑bought2)
 replace H := Mem.set 3 H rfl (5) (.int .i64 free2)
 replace H := Mem.set 3 H rfl (6) (.slice A2 l2.length c2)
 replace H := Mem.set 2 H rfl (0) (.int .i64 ↑x1)
 replace H := Mem.set 2 H rfl (1) (.int .i64 ↑x2)
 replace H := Mem.set 2 H rfl (2) (.int .i64 ↑x3)
 replace H := Mem.set 2 H rfl (3) (.int .i64 ↑x4)
 replace H := Mem.set 2 H rfl (4) (.int .i64 ↑x5)
 replace H := Mem.set 2 H rfl (5) (.int .i64 ↑x6)
 replace H := Mem.set 2 H rfl (6) (.int .i64 ↑x7)
 simp only [List.set_cons_zero, List.set_cons_succ, List.setIfInBounds_toArray] at H
 rw [hW3] at H ⊢
 clear hW3
 have hgl := H.lt 5 rfl
 clear evlt ev0 evf0 ev1 evf1 ev2 evf2 ev3 evf3 ev4 evf4 ev5 evf5 ev6 evf6 ev7 evf7 ev8 evf8 ev9 evf9 ev10 evf10 ev11 evf11 ev12 evf12 kplt kp0 kpf0 kp1 kpf1 kp2 kpf2 kp3 kpf3 kp4 kpf4 kp5 kpf5 kp6 kpf6 alt a0 af0 a1 af1 a2 af2 a3 af3 a4 af4 a5 af5 a6 af6 blt b0 bf0 b1 bf1 b2 bf2 b3 bf3 b4 bf4 b5 bf5 b6 bf6 ne_ev_kp ne_ev_a ne_ev_b ne_kp_ev ne_kp_a ne_kp_b ne_a_ev ne_a_kp ne_a_b ne_b_ev ne_b_kp ne_b_a
 obtain ⟨evlt, ev0, evf0, ev1, evf1, ev2, evf2, ev3, evf3, ev4, evf4, ev5, evf5, ev6, evf6, ev7, evf7, ev8, evf8, ev9, evf9, ev10, evf10, ev11, evf11, ev12, evf12⟩ := H.c13 4 rfl
 obtain ⟨alt, a0, af0, a1, af1, a2, af2, a3, af3, a4, af4, a5, af5, a6, af6⟩ := H.c7 3 rfl
 obtain ⟨blt, b0, bf0, b1, bf1, b2, bf2, b3, bf3, b4, bf4, b5, bf5, b6, bf6⟩ := H.c7 2 rfl
 have ne_ev_a := H.ne 4 3 rfl rfl (by decide)
 have ne_ev_b := H.ne 4 2 rfl rfl (by decide)
 have ne_a_ev := H.ne 3 4 rfl rfl (by decide)
 have ne_a_b := H.ne 3 2 rfl rfl (by decide)
 have ne_b_ev := H.ne 2 4 rfl rfl (by decide)
 have ne_b_a := H.ne 2 3 rfl rfl (by decide)
 rcases hbad.out with ⟨hE, rfl⟩ | ⟨rfl, rfl, hne⟩
 · have hEb : ((C : Int) == 0) = false := by simp; omega
   have hEn : ¬ (C : Int) = 0 := by omega
   clear hE hR hbad
   go_wp2_with (go_at_call 65; (with_reducible refine (want_no _ _).mono ?_); rintro e w' ⟨rfl, rfl⟩)
   exact ⟨rfl, rfl, Mem.drop_ 0 (Mem.drop_ 1 (Mem.drop_ 2 (Mem.drop_ 3 (Mem.drop_ 4 H))))⟩
 · have hbq := fun W => bill_same x1 x2 x3 x4 x5 x6 x7 id te de fe pr ch un false (decide_eq_false hne) W
   clear hne hR hbad
   go_wp2_with (first | (go_at_call 65; (with_reducible refine (want_ok _ _).mono ?_); rintro e w' ⟨rfl, rfl⟩) | (go_at_call 65; (with_reducible refine (want_no _ _).mono ?_); rintro e w' ⟨rfl, rfl⟩))
   exact ⟨rfl, rfl, Mem.drop_ 0 (Mem.drop_ 1 (Mem.drop_ 2 (Mem.drop_ 3 (Mem.drop_ 4 H))))⟩
end Go.Proofs.YtpcgpnkmjjamhaaGreatDoor
