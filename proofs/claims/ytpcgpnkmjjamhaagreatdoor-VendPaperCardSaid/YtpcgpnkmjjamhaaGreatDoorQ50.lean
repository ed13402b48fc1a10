/- token: what twenty digits tell: plain. -/
import Derived.Test.YtpcgpnkmjjamhaaGreatDoorQ38
import Derived.Lib.TrimByte
import Derived.Test.YtpcgpnkmjjamhaaGreatDoorQ12
import Derived.Test.YtpcgpnkmjjamhaaGreatDoorQ49
import Derived.Test.YtpcgpnkmjjamhaaGreatDoorQ36
import Derived.Deep.RegionHeld3
import Derived.Test.YtpcgpnkmjjamhaaGreatDoorQ48
namespace Go.Proofs.YtpcgpnkmjjamhaaGreatDoor
open Go.RowKit
set_option linter.unusedVariables false
set_option maxRecDepth 100000
def parseS (D : Nat) : Nat × Nat × Nat × Nat × Nat :=
 if 73786976294838206464 ≤ D then (0, 0, 0, 0, 2) else if D % 97 ≠ 0 then (0, 0, 0, 0, 8)
 else if bitsN (D / 97) 59 32 ≠ 0 ∨ tfault (bitsN (D / 97) 57 2 : Nat) (bitsN (D / 97) 37 20 : Nat) (bitsN (D / 97) 16 21 : Nat) (bitsN (D / 97) 0 16 : Nat) ≠ 0 then (0, 0, 0, 0, 2)
 else (bitsN (D / 97) 57 2, bitsN (D / 97) 37 20, bitsN (D / 97) 16 21, bitsN (D / 97) 0 16, 0)
theorem parseS_tok {cls id am tag : Nat} (h : TkOk cls id am tag) : parseS (tokN cls id am tag * 97) = (cls, id, am, tag, 0) := by
 have h1 := tokN_lt h
 obtain ⟨f1, f2, f3, f4, f5⟩ := tokN_fields h
 unfold parseS
 rw [if_neg (by omega), if_neg (by omega), Nat.mul_div_cancel _ (by omega), f1, f2, f3, f4, f5, if_neg (by rw [tfault_ok h]; simp)]
def bareD (l : List Nat) : List Nat := (l.take 19).dropWhile (· == 0) ++ l.drop 19
theorem drop_zeros : ∀ l : List Nat, ∃ k, l = List.replicate k 0 ++ l.dropWhile (· == 0) ∧ (∀ d t, l.dropWhile (· == 0) = d :: t → d ≠ 0)
 | [] => ⟨0, rfl, by simp⟩
 | d :: l => by
   rw [List.dropWhile_cons]
   split
   · rename_i h
     have h : d = 0 := by simpa using h
     obtain ⟨k, h1, h2⟩ := drop_zeros l
     exact ⟨k + 1, by rw [List.replicate_succ, List.cons_append, ← h1, h], h2⟩
   · rename_i h
     refine ⟨0, rfl, fun e t he => ?_⟩
     injection he with h3 h4
     subst h3
     simpa using h
theorem bare_val {l : List Nat} : val10 (bareD l) = val10 l := by
 obtain ⟨k, h1, _⟩ := drop_zeros (l.take 19)
 unfold bareD
 conv => rhs; rw [← List.take_append_drop 19 l, h1, List.append_assoc, val10_zeros]
theorem bare_mem {l : List Nat} (h : ∀ d ∈ l, d ≤ 9) : ∀ d ∈ bareD l, d ≤ 9 := by
 intro d hd
 rcases List.mem_append.1 hd with h1 | h1
 · exact h d (List.mem_of_mem_take ((List.dropWhile_sublist _).subset h1))
 · exact h d (List.mem_of_mem_drop h1)
theorem bare_len {l : List Nat} (h : l.length = 20) : 0 < (bareD l).length ∧ (bareD l).length ≤ 20 := by
 unfold bareD
 have h1 : (l.drop 19).length = 1 := by simp [h]
 have h2 := (List.dropWhile_sublist (· == 0) (l := l.take 19)).length_le
 rw [List.length_append, h1]
 simp [h] at h2
 omega
theorem bare_head {l : List Nat} (h : l.length = 20) : (bareD l).length = 1 ∨ (bareD l)[0]? ≠ some 0 := by
 obtain ⟨k, h1, h2⟩ := drop_zeros (l.take 19)
 unfold bareD
 cases hd : (l.take 19).dropWhile (· == 0) with
 | nil => exact .inl (by simp [h])
 | cons d t => exact .inr (by simp; exact h2 d t hd)
theorem trim_dig : ∀ l : List Nat, (∀ d ∈ l, d ≤ 9) → Lib.trimLeftB (l.map dg) 48 = (l.dropWhile (· == 0)).map dg
 | [], _ => rfl
 | d :: l, h => by
   have hd := h d (by simp)
   have ih := trim_dig l (fun x hx => h x (by simp [hx]))
   unfold Lib.trimLeftB at *
   rw [List.map_cons, List.dropWhile_cons, List.dropWhile_cons]
   have e : (dg d == 48) = (d == 0) := by
     rw [Bool.eq_iff_iff]
     simp only [beq_iff_eq]
     constructor
     · intro h3; exact dg_inj hd (by omega) h3
     · intro h3; rw [h3]; rfl
   rw [e]
   split
   · exact ih
   · rfl
def RetTok (c i a t E : Nat) (w : World) (e : Ending) (w' : World) : Prop := e = .returned (.tuple #[.agg #[.int .i64 ↑c, .int .i64 ↑i, .int .i64 ↑a, .int .i64 ↑t], .int .i64 ↑E]) ∧ Below w.heap.size w w'
set_option maxHeartbeats 1000000 in
theorem tfield_ok (x0 x1 x2 lo m lo2 V g : Nat) (w : World) (a0 : x0 < 4294967296) (a1 : x1 < 4294967296) (a2 : x2 < 4294967296) (h1 : 1 ≤ m) (h2 : m ≤ 32) (h3 : lo + m ≤ 96) (hl : lo + m = lo2) (hV : bitsN (val3 x0 x1 x2) lo m = V) (hg : Blk w g 3 #[.int .i64 ↑lo]) :
   Calls Tryz.prog 24 #[.agg #[.int .u32 ↑x0, .int .u32 ↑x1, .int .u32 ↑x2], .pointer (some ⟨g, 0, none⟩), .int .i64 ↑m] w fun e w' => e = .returned (.int .i64 ↑V) ∧ Mem w [g] w' [.blk g 3 #[.int .i64 ↑lo2]] := by
 have hB := fun W => bits_ok x0 x1 x2 lo m W a0 a1 a2 h1 (by omega) h3
 have hlt := bitsN_lt (val3 x0 x1 x2) lo m
 rw [hV] at hB hlt
 have hV9 : (V : Int) ≤ 4294967295 := by
   have : (2 : Nat) ^ m ≤ 2 ^ 32 := Nat.pow_le_pow_right (by omega) h2
   omega
 have hlI : (lo : Int) + (m : Int) = (lo2 : Int) := by omega
 have hl2 : (lo2 : Int) ≤ 96 := by omega
 clear hV hlt a0 a1 a2 h1 h2 h3 hl
 have H : Mem (w) [g] (w) [.blk (g) 3 #[.int .i64 ↑lo]] := Mem.init1 hg
 obtain ⟨W0, hW0⟩ : ∃ W0, (w).alloc (.cells #[.int .u32 ↑x0, .int .u32 ↑x1, .int .u32 ↑x2] 88) = W0 := ⟨_, rfl⟩
 replace H := Mem.alloc H (w.heap.size) (by first | (simp; done) | (simp; omega)) #[.int .u32 ↑x0, .int .u32 ↑x1, .int .u32 ↑x2] 88
 simp only [List.cons_append, List.nil_append] at H
 rw [hW0] at H
 obtain ⟨atlt, at0, atf0⟩ := H.c1 0 rfl
 obtain ⟨bxlt, bx0, bxf0, bx1, bxf1, bx2, bxf2⟩ := H.c3 1 rfl
 have ne_at_bx := H.ne 0 1 rfl rfl (by decide)
 have ne_bx_at := H.ne 1 0 rfl rfl (by decide)
 clear hg
 go_enter Tryz.func24, Tryz.ntmps24
 go_wp2
 clear hW0
 go_region_held3 (fun w' => w'.cell? ⟨w.heap.size, 0, none⟩ = some (.int .u32 ↑x0) ∧ w'.cell? ⟨w.heap.size, 1, none⟩ = some (.int .u32 ↑x1) ∧ w'.cell? ⟨w.heap.size, 2, none⟩ = some (.int .u32 ↑x2) ∧ w'.cell? ⟨g, 0, none⟩ = some (.int .i64 ↑lo)) (first | go_keep | fail) ((go_at_call 25; (with_reducible refine (hB _).mono ?_); rintro e wa ⟨rfl, hba⟩; have c0 := (hba.cell (p := ⟨w.heap.size, 0, none⟩) bxlt).trans bx0; have c1 := (hba.cell (p := ⟨w.heap.size, 1, none⟩) bxlt).trans bx1; have c2 := (hba.cell (p := ⟨w.heap.size, 2, none⟩) bxlt).trans bx2; have c3 := (hba.cell (p := ⟨g, 0, none⟩) atlt).trans at0))
 replace H := Mem.call (Mem.drew H) hba
 clear atlt at0 atf0 bxlt bx0 bxf0 bx1 bxf1 bx2 bxf2 ne_at_bx ne_bx_at
 obtain ⟨atlt, at0, atf0⟩ := H.c1 0 rfl
 obtain ⟨bxlt, bx0, bxf0, bx1, bxf1, bx2, bxf2⟩ := H.c3 1 rfl
 have ne_at_bx := H.ne 0 1 rfl rfl (by decide)
 have ne_bx_at := H.ne 1 0 rfl rfl (by decide)
 clear hba c0 c1 c2 c3 hB
 go_wp2
 obtain ⟨wb, hwb⟩ : ∃ wb, (wa).setCell ⟨g, 0, none⟩ (.int .i64 ↑lo2) = wb := ⟨_, rfl⟩
 replace H := Mem.set 0 H rfl (0) (.int .i64 ↑lo2)
 simp only [List.set_cons_zero, List.setIfInBounds_toArray] at H
 rw [hwb] at H ⊢
 clear hwb
 go_ret
 exact ⟨rfl, Mem.drop_ 1 H⟩
theorem big_y {y0 y1 y2 D : Nat} (k0 : y0 < 4294967296) (k1 : y1 < 4294967296) (h : val3 y0 y1 y2 = D) (hb : 73786976294838206464 ≤ D) : 4 ≤ y2 := by unfold val3 at h; omega
theorem small_y {y0 y1 y2 D : Nat} (h : val3 y0 y1 y2 = D) (hb : D < 73786976294838206464) : y2 < 4 := by unfold val3 at h; omega
theorem over_div {x r D : Nat} (h : x * 97 + r = D) (hr : r < 97) : x = D / 97 ∧ D % 97 = r := by omega
theorem lt_of20 {l : List Nat} (hl : ∀ d ∈ l, d ≤ 9) (h20 : l.length = 20) : val10 l < 79228162514264337593543950336 := by
 have h := val10_lt hl
 rw [h20] at h
 have e : (10 : Nat) ^ 20 = 100000000000000000000 := by decide
 rw [e] at h
 omega
set_option maxHeartbeats 4000000 in
theorem parse_ok (l : List Nat) (w : World) (hl : ∀ d ∈ l, d ≤ 9) (h20 : l.length = 20) (c i a t E : Nat) (hR : Hid (parseS (val10 l) = (c, i, a, t, E))) :
   Calls Tryz.prog 8 #[.string (dstr l)] w (RetTok c i a t E w) := by
 have hsz := dstr_size l
 rw [h20] at hsz
 obtain ⟨Z, hZ⟩ : ∃ Z, (l.take 19).dropWhile (· == 0) = Z := ⟨_, rfl⟩
 have hZl : Z.length ≤ 19 := by
   rw [← hZ]
   have h2 := (List.dropWhile_sublist (· == 0) (l := l.take 19)).length_le
   simp [h20] at h2; omega
 have hTr : ∀ W, Calls Tryz.prog 21 #[.string ((dstr l).extract 0 19), .string ⟨#[48]⟩] W fun e w' => e = .returned (.string (dstr Z)) ∧ w' = W := fun W => by
   have h := Tryz.strings_TrimLeft_one ((dstr l).extract 0 19) 48 (by decide) W
   rw [dstr_extract, dstr_toList, trim_dig _ (fun d hd => hl d (List.mem_of_mem_take (by simpa using hd))), show (List.drop 0 l).take (19 - 0) = l.take 19 by simp, hZ] at h
   rw [dstr_extract, show (List.drop 0 l).take (19 - 0) = l.take 19 by simp]
   exact h
 have hcat : dstr Z ++ (dstr l).extract 19 20 = dstr (bareD l) := by
   rw [dstr_extract, ← dstr_append]
   unfold bareD
   rw [hZ]
   congr 2
   exact List.take_of_length_le (by simp [h20])
 have HC := Lib.hid hcat
 obtain ⟨b1, b2⟩ := bare_len h20
 have hRd := fun W => wread_ok (bareD l) W (bare_mem hl) b1 (by omega) (bare_head h20) (by rw [bare_val]; exact lt_of20 hl h20)
 rw [bare_val] at hRd
 obtain ⟨D, hD⟩ : ∃ D, val10 l = D := ⟨_, rfl⟩
 rw [hD] at hRd hR
 have hS := @ByteArray.size_append
 have hzs := dstr_size Z
 have hzI : (Z.length : Int) ≤ 19 := by omega
 have hxs : ((dstr l).extract 19 20).size = 1 := by simp [hsz]
 clear hZ hcat hD b1 b2 hZl
 have H := Mem.init w
 replace H := Mem.alloc H (w.heap.size) (by first | (simp; done) | (simp; omega)) #[.int .i64 0, .int .i64 0, .int .i64 0, .int .i64 0] 54
 replace H : Mem (w) [] _ [.blk (w.heap.size) 54 #[.int .i64 0, .int .i64 0, .int .i64 0, .int .i64 0], .obj (w.heap.size + 1) (.stringIter (dstr l) 0)] := Mem.iter H (w.heap.size + 1) (by first | (simp; done) | (simp; omega)) (dstr l)
 have H20 := Lib.hid h20
 clear h20
 go_enter Tryz.func8, Tryz.ntmps8
 go_wp2
 go_loopw [] (fun wr => ∃ k : Nat, k ≤ 20 ∧ Mem w [] wr [.blk w.heap.size 54 #[.int .i64 0, .int .i64 0, .int .i64 0, .int .i64 0], .obj (w.heap.size + 1) (.stringIter (dstr l) k)]) (fun wr => 20 - wr.iterPos (w.heap.size + 1))
 case atStart => exact ⟨0, by omega, H⟩
 case round =>
   obtain ⟨k, hk, HM⟩ := hrel
   clear H
   have H : Mem (w) [] (wr) [.blk (w.heap.size) 54 #[.int .i64 0, .int .i64 0, .int .i64 0, .int .i64 0], .obj (w.heap.size + 1) (.stringIter (dstr l) k)] := HM
   clear HM
   have hit := H.obj_ 1 rfl

   by_cases hlt : k < 20
   · have hb := dstr_byte hl k (by omega)
     have hd := hl (l[k]'(by rw [H20.out]; exact hlt)) (List.getElem_mem _)
     have hnx := fun ty => Lib.run_next_ascii_at (P := Tryz.prog) wr (w.heap.size + 1) (dstr l) k ty hit (by omega) (by omega)
     rw [hb] at hnx
     obtain ⟨d, hdd⟩ : ∃ d, l[k]'(by rw [H20.out]; exact hlt) = d := ⟨_, rfl⟩
     rw [hdd] at hnx hd
     have g3 : (48 : Int) ≤ ((48 + d : Nat) : Int) := by omega
     have g4 : ((48 + d : Nat) : Int) ≤ 57 := by omega
     have HIT := Lib.hid hit
     clear hb hit hdd
     replace H : Mem (w) [] _ [.blk (w.heap.size) 54 #[.int .i64 0, .int .i64 0, .int .i64 0, .int .i64 0], .obj (w.heap.size + 1) (.stringIter (dstr l) (k + 1))] := Mem.next 1 H rfl (k + 1)
     go_wp2
     go_roundw
     case rel => exact ⟨k + 1, by omega, H⟩
     case measure =>
       have h9 := iterPos_of (H.obj_ 1 rfl)
       have h8 := iterPos_of HIT.out
       omega
   · skip
     have hnx := fun ty => Lib.run_next_end_at (P := Tryz.prog) wr (w.heap.size + 1) (dstr l) k ty hit (by omega)
     clear hit hlt hk hl
     go_wp2
     go_quiet ((go_at_call 21; exact Calls.quiet_of_same (hTr _)))
     rw [HC.out]
     obtain ⟨wq, hwq⟩ : ∃ wq, (wr).drewN nq = wq := ⟨_, rfl⟩
     replace H := H.drewN nq
     rw [hwq] at H ⊢
     clear hwq
     clear hS hzs hzI hxs hTr hsz hnx
     go_wp2_with fail
     refine (hRd _).mono ?_
     rintro e wa ⟨y0, y1, y2, k0, k1, k2, hy, rfl, hba⟩
     replace H := Mem.call H hba
     obtain ⟨rslt, rs0, rsf0, rs1, rsf1, rs2, rsf2, rs3, rsf3⟩ := H.c4 0 rfl
     clear hba hRd HC
     have hR1 := hR.out
     unfold parseS at hR1

     by_cases hbig : 73786976294838206464 ≤ D
     · rw [if_pos hbig] at hR1
       simp only [Prod.mk.injEq] at hR1
       obtain ⟨rfl, rfl, rfl, rfl, rfl⟩ := hR1
       have h4 : (4 : Int) ≤ (y2 : Int) := by have := big_y k0 k1 hy.out hbig; omega
       clear hR hy k0 k1 k2 hbig
       go_wp2
       obtain ⟨wb, hwb⟩ : ∃ wb, (((((wa).setCell ⟨w.heap.size, 0, none⟩ (.int .i64 0)).setCell ⟨w.heap.size, 1, none⟩ (.int .i64 0)).setCell ⟨w.heap.size, 2, none⟩ (.int .i64 0)).setCell ⟨w.heap.size, 3, none⟩ (.int .i64 0)).alloc (.cells #[.int .u32 ↑y0, .int .u32 ↑y1, .int .u32 ↑y2] 88) = wb := ⟨_, rfl⟩
       replace H := Mem.set 0 H rfl (0) (.int .i64 0)
       replace H := Mem.set 0 H rfl (1) (.int .i64 0)
       replace H := Mem.set 0 H rfl (2) (.int .i64 0)
       replace H := Mem.set 0 H rfl (3) (.int .i64 0)
       replace H := Mem.alloc H (wa.heap.size) (by first | (simp; done) | (simp; omega)) #[.int .u32 ↑y0, .int .u32 ↑y1, .int .u32 ↑y2] 88
       simp only [List.set_cons_zero, List.setIfInBounds_toArray, List.set_cons_succ, List.cons_append, List.nil_append] at H
       rw [hwb] at H ⊢
       clear hwb
       clear rslt rs0 rsf0 rs1 rsf1 rs2 rsf2 rs3 rsf3
       obtain ⟨rslt, rs0, rsf0, rs1, rsf1, rs2, rsf2, rs3, rsf3⟩ := H.c4 0 rfl
       refine bodyPost_ret (v := .tuple #[.agg #[.int .i64 0, .int .i64 0, .int .i64 0, .int .i64 0], .int .i64 2]) (by simp [results, Tryz.results8, go_sem, rs0, rs1, rs2, rs3]; done) rfl ?_
       exact ⟨rfl, H.below⟩
     · skip
       rw [if_neg hbig] at hR1
       have h4 : decide ((4 : Int) ≤ (y2 : Int)) = false := by have := small_y hy.out (by omega); simp; omega
       have hOv := fun W => over_is y0 y1 y2 97 W k0 k1 k2 (by omega) (by omega)
       rw [hy.out] at hOv
       clear hy k0 k1 k2 hbig
       go_wp2_with fail
       obtain ⟨wb, hwb⟩ : ∃ wb, (wa).alloc (.cells #[.int .u32 ↑y0, .int .u32 ↑y1, .int .u32 ↑y2] 88) = wb := ⟨_, rfl⟩
       replace H := Mem.alloc H (wa.heap.size) (by first | (simp; done) | (simp; omega)) #[.int .u32 ↑y0, .int .u32 ↑y1, .int .u32 ↑y2] 88
       simp only [List.cons_append, List.nil_append] at H
       rw [hwb] at H ⊢
       clear hwb
       refine (hOv _).mono ?_
       rintro e wc ⟨q0, q1, q2, r, l0, l1, l2, hr97, hq, rfl, hbc⟩
       replace H := Mem.call H hbc
       clear rslt rs0 rsf0 rs1 rsf1 rs2 rsf2 rs3 rsf3
       obtain ⟨rslt, rs0, rsf0, rs1, rsf1, rs2, rsf2, rs3, rsf3⟩ := H.c4 0 rfl
       obtain ⟨w7lt, w70, w7f0, w71, w7f1, w72, w7f2⟩ := H.c3 2 rfl
       have ne_rs_w7 := H.ne 0 2 rfl rfl (by decide)
       have ne_w7_rs := H.ne 2 0 rfl rfl (by decide)
       obtain ⟨hqd, hqr⟩ := over_div hq.out hr97
       rw [hqr] at hR1
       clear hbc hOv h4 hR hq hr97

       by_cases hr0 : r = 0
       · subst hr0
         obtain ⟨Q, hQ⟩ : ∃ Q, D / 97 = Q := ⟨_, rfl⟩
         rw [hQ] at hR1 hqd
         obtain ⟨vt, hvt⟩ : ∃ v, bitsN Q 0 16 = v := ⟨_, rfl⟩
         obtain ⟨va, hva⟩ : ∃ v, bitsN Q 16 21 = v := ⟨_, rfl⟩
         obtain ⟨vi, hvi⟩ : ∃ v, bitsN Q 37 20 = v := ⟨_, rfl⟩
         obtain ⟨vc, hvc⟩ : ∃ v, bitsN Q 57 2 = v := ⟨_, rfl⟩
         obtain ⟨vx, hvx⟩ : ∃ v, bitsN Q 59 32 = v := ⟨_, rfl⟩
         have hf0 := fun g W h => tfield_ok q0 q1 q2 0 16 16 vt g W l0 l1 l2 (by omega) (by omega) (by omega) (by omega) (by rw [hqd]; exact hvt) h
         have hf1 := fun g W h => tfield_ok q0 q1 q2 16 21 37 va g W l0 l1 l2 (by omega) (by omega) (by omega) (by omega) (by rw [hqd]; exact hva) h
         have hf2 := fun g W h => tfield_ok q0 q1 q2 37 20 57 vi g W l0 l1 l2 (by omega) (by omega) (by omega) (by omega) (by rw [hqd]; exact hvi) h
         have hf3 := fun g W h => tfield_ok q0 q1 q2 57 2 59 vc g W l0 l1 l2 (by omega) (by omega) (by omega) (by omega) (by rw [hqd]; exact hvc) h
         have hBt := fun W => bits_ok q0 q1 q2 59 32 W l0 l1 l2 (by omega) (by omega) (by omega)
         rw [hqd, hvx] at hBt
         obtain ⟨f, hf⟩ : ∃ f, tfault (vc : Int) (vi : Int) (va : Int) (vt : Int) = f := ⟨_, rfl⟩
         rw [hvt, hva, hvi, hvc, hvx, hf, if_neg (by omega)] at hR1
         have hFl := fun W => fault_is (Lib.hid hf) W
         clear hvt hva hvi hvc hvx hqd hQ l0 l1 l2 hqr hf
         have HR1 := Lib.hid hR1
         clear hR1
         simp only [Int.natCast_zero] at *
         go_wp2_with fail
         obtain ⟨wd, hwd⟩ : ∃ wd, (((wc).alloc (.cells #[.int .u32 ↑q0, .int .u32 ↑q1, .int .u32 ↑q2] 88)).alloc (.cells #[.int .i64 0, .int .i64 0, .int .i64 0, .int .i64 0] 54)).alloc (.cells #[.int .i64 0] 3) = wd := ⟨_, rfl⟩
         replace H := Mem.alloc H (wc.heap.size) (by first | (simp; done) | (simp; omega)) #[.int .u32 ↑q0, .int .u32 ↑q1, .int .u32 ↑q2] 88
         replace H := Mem.alloc H (wc.heap.size + 1) (by first | (simp; done) | (simp; omega)) #[.int .i64 0, .int .i64 0, .int .i64 0, .int .i64 0] 54
         replace H := Mem.alloc H (wc.heap.size + 1 + 1) (by first | (simp; done) | (simp; omega)) #[.int .i64 0] 3
         simp only [List.cons_append, List.nil_append] at H
         rw [hwd] at H ⊢
         clear hwd
         refine (hf0 _ _ (H.blk 5 rfl)).mono ?_
         rintro e d0 ⟨rfl, hK⟩
         replace H : Mem (w) [] (d0) [.blk (w.heap.size) 54 #[.int .i64 0, .int .i64 0, .int .i64 0, .int .i64 0], .obj (w.heap.size + 1) (.stringIter (dstr l) k), .blk (wa.heap.size) 88 #[.int .u32 ↑y0, .int .u32 ↑y1, .int .u32 ↑y2], .blk (wc.heap.size) 88 #[.int .u32 ↑q0, .int .u32 ↑q1, .int .u32 ↑q2], .blk (wc.heap.size + 1) 54 #[.int .i64 0, .int .i64 0, .int .i64 0, .int .i64 0], .blk (wc.heap.size + 1 + 1) 3 #[.int .i64 ↑16]] := Mem.joinAt 5 H rfl hK
         clear rslt rs0 rsf0 rs1 rsf1 rs2 rsf2 rs3 rsf3 w7lt w70 w7f0 w71 w7f1 w72 w7f2 ne_rs_w7 ne_w7_rs
         obtain ⟨rslt, rs0, rsf0, rs1, rsf1, rs2, rsf2, rs3, rsf3⟩ := H.c4 0 rfl
         obtain ⟨q9lt, q90, q9f0, q91, q9f1, q92, q9f2⟩ := H.c3 3 rfl
         obtain ⟨t12lt, t120, t12f0, t121, t12f1, t122, t12f2, t123, t12f3⟩ := H.c4 4 rfl
         obtain ⟨a13lt, a130, a13f0⟩ := H.c1 5 rfl
         have ne_rs_q9 := H.ne 0 3 rfl rfl (by decide)
         have ne_rs_t12 := H.ne 0 4 rfl rfl (by decide)
         have ne_rs_a13 := H.ne 0 5 rfl rfl (by decide)
         have ne_q9_rs := H.ne 3 0 rfl rfl (by decide)
         have ne_q9_t12 := H.ne 3 4 rfl rfl (by decide)
         have ne_q9_a13 := H.ne 3 5 rfl rfl (by decide)
         have ne_t12_rs := H.ne 4 0 rfl rfl (by decide)
         have ne_t12_q9 := H.ne 4 3 rfl rfl (by decide)
         have ne_t12_a13 := H.ne 4 5 rfl rfl (by decide)
         have ne_a13_rs := H.ne 5 0 rfl rfl (by decide)
         have ne_a13_q9 := H.ne 5 3 rfl rfl (by decide)
         have ne_a13_t12 := H.ne 5 4 rfl rfl (by decide)
         clear hK hf0
         go_wp2_with fail
         obtain ⟨w0, hw0⟩ : ∃ w0, (d0).setCell ⟨wc.heap.size + 1, 3, none⟩ (.int .i64 ↑vt) = w0 := ⟨_, rfl⟩
         replace H := Mem.set 4 H rfl (3) (.int .i64 ↑vt)
         simp only [List.set_cons_zero, List.set_cons_succ, List.setIfInBounds_toArray] at H
         rw [hw0] at H ⊢
         clear hw0
         refine (hf1 _ _ (H.blk 5 rfl)).mono ?_
         rintro e d1 ⟨rfl, hK⟩
         replace H : Mem (w) [] (d1) [.blk (w.heap.size) 54 #[.int .i64 0, .int .i64 0, .int .i64 0, .int .i64 0], .obj (w.heap.size + 1) (.stringIter (dstr l) k), .blk (wa.heap.size) 88 #[.int .u32 ↑y0, .int .u32 ↑y1, .int .u32 ↑y2], .blk (wc.heap.size) 88 #[.int .u32 ↑q0, .int .u32 ↑q1, .int .u32 ↑q2], .blk (wc.heap.size + 1) 54 #[.int .i64 0, .int .i64 0, .int .i64 0, .int .i64 ↑vt], .blk (wc.heap.size + 1 + 1) 3 #[.int .i64 ↑37]] := Mem.joinAt 5 H rfl hK
         clear rslt rs0 rsf0 rs1 rsf1 rs2 rsf2 rs3 rsf3 q9lt q90 q9f0 q91 q9f1 q92 q9f2 t12lt t120 t12f0 t121 t12f1 t122 t12f2 t123 t12f3 a13lt a130 a13f0 ne_rs_q9 ne_rs_t12 ne_rs_a13 ne_q9_rs ne_q9_t12 ne_q9_a13 ne_t12_rs ne_t12_q9 ne_t12_a13 ne_a13_rs ne_a13_q9 ne_a13_t12
         obtain ⟨rslt, rs0, rsf0, rs1, rsf1, rs2, rsf2, rs3, rsf3⟩ := H.c4 0 rfl
         obtain ⟨q9lt, q90, q9f0, q91, q9f1, q92, q9f2⟩ := H.c3 3 rfl
         obtain ⟨t12lt, t120, t12f0, t121, t12f1, t122, t12f2, t123, t12f3⟩ := H.c4 4 rfl
         obtain ⟨a13lt, a130, a13f0⟩ := H.c1 5 rfl
         have ne_rs_q9 := H.ne 0 3 rfl rfl (by decide)
         have ne_rs_t12 := H.ne 0 4 rfl rfl (by decide)
         have ne_rs_a13 := H.ne 0 5 rfl rfl (by decide)
         have ne_q9_rs := H.ne 3 0 rfl rfl (by decide)
         have ne_q9_t12 := H.ne 3 4 rfl rfl (by decide)
         have ne_q9_a13 := H.ne 3 5 rfl rfl (by decide)
         have ne_t12_rs := H.ne 4 0 rfl rfl (by decide)
         have ne_t12_q9 := H.ne 4 3 rfl rfl (by decide)
         have ne_t12_a13 := H.ne 4 5 rfl rfl (by decide)
         have ne_a13_rs := H.ne 5 0 rfl rfl (by decide)
         have ne_a13_q9 := H.ne 5 3 rfl rfl (by decide)
         have ne_a13_t12 := H.ne 5 4 rfl rfl (by decide)
         clear hK hf1
         go_wp2_with fail
         obtain ⟨w1, hw1⟩ : ∃ w1, (d1).setCell ⟨wc.heap.size + 1, 2, none⟩ (.int .i64 ↑va) = w1 := ⟨_, rfl⟩
         replace H := Mem.set 4 H rfl (2) (.int .i64 ↑va)
         simp only [List.set_cons_zero, List.set_cons_succ, List.setIfInBounds_toArray] at H
         rw [hw1] at H ⊢
         clear hw1
         refine (hf2 _ _ (H.blk 5 rfl)).mono ?_
         rintro e d2 ⟨rfl, hK⟩
         replace H : Mem (w) [] (d2) [.blk (w.heap.size) 54 #[.int .i64 0, .int .i64 0, .int .i64 0, .int .i64 0], .obj (w.heap.size + 1) (.stringIter (dstr l) k), .blk (wa.heap.size) 88 #[.int .u32 ↑y0, .int .u32 ↑y1, .int .u32 ↑y2], .blk (wc.heap.size) 88 #[.int .u32 ↑q0, .int .u32 ↑q1, .int .u32 ↑q2], .blk (wc.heap.size + 1) 54 #[.int .i64 0, .int .i64 0, .int .i64 ↑va, .int .i64 ↑vt], .blk (wc.heap.size + 1 + 1) 3 #[.int .i64 ↑57]] := Mem.joinAt 5 H rfl hK
         clear rslt rs0 rsf0 rs1 rsf1 rs2 rsf2 rs3 rsf3 q9lt q90 q9f0 q91 q9f1 q92 q9f2 t12lt t120 t12f0 t121 t12f1 t122 t12f2 t123 t12f3 a13lt a130 a13f0 ne_rs_q9 ne_rs_t12 ne_rs_a13 ne_q9_rs ne_q9_t12 ne_q9_a13 ne_t12_rs ne_t12_q9 ne_t12_a13 ne_a13_rs ne_a13_q9 ne_a13_t12
         obtain ⟨rslt, rs0, rsf0, rs1, rsf1, rs2, rsf2, rs3, rsf3⟩ := H.c4 0 rfl
         obtain ⟨q9lt, q90, q9f0, q91, q9f1, q92, q9f2⟩ := H.c3 3 rfl
         obtain ⟨t12lt, t120, t12f0, t121, t12f1, t122, t12f2, t123, t12f3⟩ := H.c4 4 rfl
         obtain ⟨a13lt, a130, a13f0⟩ := H.c1 5 rfl
         have ne_rs_q9 := H.ne 0 3 rfl rfl (by decide)
         have ne_rs_t12 := H.ne 0 4 rfl rfl (by decide)
         have ne_rs_a13 := H.ne 0 5 rfl rfl (by decide)
         have ne_q9_rs := H.ne 3 0 rfl rfl (by decide)
         have ne_q9_t12 := H.ne 3 4 rfl rfl (by decide)
         have ne_q9_a13 := H.ne 3 5 rfl rfl (by decide)
         have ne_t12_rs := H.ne 4 0 rfl rfl (by decide)
         have ne_t12_q9 := H.ne 4 3 rfl rfl (by decide)
         have ne_t12_a13 := H.ne 4 5 rfl rfl (by decide)
         have ne_a13_rs := H.ne 5 0 rfl rfl (by decide)
         have ne_a13_q9 := H.ne 5 3 rfl rfl (by decide)
         have ne_a13_t12 := H.ne 5 4 rfl rfl (by decide)
         clear hK hf2
         go_wp2_with fail
         obtain ⟨w2, hw2⟩ : ∃ w2, (d2).setCell ⟨wc.heap.size + 1, 1, none⟩ (.int .i64 ↑vi) = w2 := ⟨_, rfl⟩
         replace H := Mem.set 4 H rfl (1) (.int .i64 ↑vi)
         simp only [List.set_cons_zero, List.set_cons_succ, List.setIfInBounds_toArray] at H
         rw [hw2] at H ⊢
         clear hw2
         refine (hf3 _ _ (H.blk 5 rfl)).mono ?_
         rintro e d3 ⟨rfl, hK⟩
         replace H : Mem (w) [] (d3) [.blk (w.heap.size) 54 #[.int .i64 0, .int .i64 0, .int .i64 0, .int .i64 0], .obj (w.heap.size + 1) (.stringIter (dstr l) k), .blk (wa.heap.size) 88 #[.int .u32 ↑y0, .int .u32 ↑y1, .int .u32 ↑y2], .blk (wc.heap.size) 88 #[.int .u32 ↑q0, .int .u32 ↑q1, .int .u32 ↑q2], .blk (wc.heap.size + 1) 54 #[.int .i64 0, .int .i64 ↑vi, .int .i64 ↑va, .int .i64 ↑vt], .blk (wc.heap.size + 1 + 1) 3 #[.int .i64 ↑59]] := Mem.joinAt 5 H rfl hK
         clear rslt rs0 rsf0 rs1 rsf1 rs2 rsf2 rs3 rsf3 q9lt q90 q9f0 q91 q9f1 q92 q9f2 t12lt t120 t12f0 t121 t12f1 t122 t12f2 t123 t12f3 a13lt a130 a13f0 ne_rs_q9 ne_rs_t12 ne_rs_a13 ne_q9_rs ne_q9_t12 ne_q9_a13 ne_t12_rs ne_t12_q9 ne_t12_a13 ne_a13_rs ne_a13_q9 ne_a13_t12
         obtain ⟨rslt, rs0, rsf0, rs1, rsf1, rs2, rsf2, rs3, rsf3⟩ := H.c4 0 rfl
         obtain ⟨q9lt, q90, q9f0, q91, q9f1, q92, q9f2⟩ := H.c3 3 rfl
         obtain ⟨t12lt, t120, t12f0, t121, t12f1, t122, t12f2, t123, t12f3⟩ := H.c4 4 rfl
         obtain ⟨a13lt, a130, a13f0⟩ := H.c1 5 rfl
         have ne_rs_q9 := H.ne 0 3 rfl rfl (by decide)
         have ne_rs_t12 := H.ne 0 4 rfl rfl (by decide)
         have ne_rs_a13 := H.ne 0 5 rfl rfl (by decide)
         have ne_q9_rs := H.ne 3 0 rfl rfl (by decide)
         have ne_q9_t12 := H.ne 3 4 rfl rfl (by decide)
         have ne_q9_a13 := H.ne 3 5 rfl rfl (by decide)
         have ne_t12_rs := H.ne 4 0 rfl rfl (by decide)
         have ne_t12_q9 := H.ne 4 3 rfl rfl (by decide)
         have ne_t12_a13 := H.ne 4 5 rfl rfl (by decide)
         have ne_a13_rs := H.ne 5 0 rfl rfl (by decide)
         have ne_a13_q9 := H.ne 5 3 rfl rfl (by decide)
         have ne_a13_t12 := H.ne 5 4 rfl rfl (by decide)
         clear hK hf3
         go_wp2_with fail
         obtain ⟨w3, hw3⟩ : ∃ w3, (d3).setCell ⟨wc.heap.size + 1, 0, none⟩ (.int .i64 ↑vc) = w3 := ⟨_, rfl⟩
         replace H := Mem.set 4 H rfl (0) (.int .i64 ↑vc)
         simp only [List.set_cons_zero, List.set_cons_succ, List.setIfInBounds_toArray] at H
         rw [hw3] at H ⊢
         clear hw3
         refine (hBt _).mono ?_
         rintro e we ⟨rfl, hbe⟩
         replace H := Mem.call H hbe
         clear rslt rs0 rsf0 rs1 rsf1 rs2 rsf2 rs3 rsf3 q9lt q90 q9f0 q91 q9f1 q92 q9f2 t12lt t120 t12f0 t121 t12f1 t122 t12f2 t123 t12f3 a13lt a130 a13f0 ne_rs_q9 ne_rs_t12 ne_rs_a13 ne_q9_rs ne_q9_t12 ne_q9_a13 ne_t12_rs ne_t12_q9 ne_t12_a13 ne_a13_rs ne_a13_q9 ne_a13_t12
         obtain ⟨rslt, rs0, rsf0, rs1, rsf1, rs2, rsf2, rs3, rsf3⟩ := H.c4 0 rfl
         obtain ⟨q9lt, q90, q9f0, q91, q9f1, q92, q9f2⟩ := H.c3 3 rfl
         obtain ⟨t12lt, t120, t12f0, t121, t12f1, t122, t12f2, t123, t12f3⟩ := H.c4 4 rfl
         have ne_rs_q9 := H.ne 0 3 rfl rfl (by decide)
         have ne_rs_t12 := H.ne 0 4 rfl rfl (by decide)
         have ne_q9_rs := H.ne 3 0 rfl rfl (by decide)
         have ne_q9_t12 := H.ne 3 4 rfl rfl (by decide)
         have ne_t12_rs := H.ne 4 0 rfl rfl (by decide)
         have ne_t12_q9 := H.ne 4 3 rfl rfl (by decide)
         clear hbe hBt

         by_cases hx0 : vx = 0
         · subst hx0
           by_cases hf0 : f = 0
           · subst hf0
             have hR2 := HR1.out
             rw [if_neg (by simp)] at hR2
             simp only [Prod.mk.injEq] at hR2
             obtain ⟨rfl, rfl, rfl, rfl, rfl⟩ := hR2
             clear HR1
             go_wp2_with fail
             refine (hFl _).mono ?_
             rintro e wf ⟨rfl, hbf⟩
             replace H := Mem.call H hbf
             clear rslt rs0 rsf0 rs1 rsf1 rs2 rsf2 rs3 rsf3 q9lt q90 q9f0 q91 q9f1 q92 q9f2 t12lt t120 t12f0 t121 t12f1 t122 t12f2 t123 t12f3 ne_rs_q9 ne_rs_t12 ne_q9_rs ne_q9_t12 ne_t12_rs ne_t12_q9
             obtain ⟨rslt, rs0, rsf0, rs1, rsf1, rs2, rsf2, rs3, rsf3⟩ := H.c4 0 rfl
             obtain ⟨t12lt, t120, t12f0, t121, t12f1, t122, t12f2, t123, t12f3⟩ := H.c4 4 rfl
             have ne_rs_t12 := H.ne 0 4 rfl rfl (by decide)
             have ne_t12_rs := H.ne 4 0 rfl rfl (by decide)
             clear hbf hFl
             go_wp2
             obtain ⟨wg, hwg⟩ : ∃ wg, ((((wf).setCell ⟨w.heap.size, 0, none⟩ (.int .i64 ↑vc)).setCell ⟨w.heap.size, 1, none⟩ (.int .i64 ↑vi)).setCell ⟨w.heap.size, 2, none⟩ (.int .i64 ↑va)).setCell ⟨w.heap.size, 3, none⟩ (.int .i64 ↑vt) = wg := ⟨_, rfl⟩
             replace H := Mem.set 0 H rfl (0) (.int .i64 ↑vc)
             replace H := Mem.set 0 H rfl (1) (.int .i64 ↑vi)
             replace H := Mem.set 0 H rfl (2) (.int .i64 ↑va)
             replace H := Mem.set 0 H rfl (3) (.int .i64 ↑vt)
             simp only [List.set_cons_zero, List.setIfInBounds_toArray, List.set_cons_succ] at H
             rw [hwg] at H ⊢
             clear hwg
             clear rslt rs0 rsf0 rs1 rsf1 rs2 rsf2 rs3 rsf3 t12lt t120 t12f0 t121 t12f1 t122 t12f2 t123 t12f3 ne_rs_t12 ne_t12_rs
             obtain ⟨rslt, rs0, rsf0, rs1, rsf1, rs2, rsf2, rs3, rsf3⟩ := H.c4 0 rfl
             refine bodyPost_ret (v := .tuple #[.agg #[.int .i64 ↑vc, .int .i64 ↑vi, .int .i64 ↑va, .int .i64 ↑vt], .int .i64 0]) (by simp [results, Tryz.results8, go_sem, rs0, rs1, rs2, rs3]; done) rfl ?_
             exact ⟨rfl, H.below⟩
           · skip
             have hR2 := HR1.out
             rw [if_pos (.inr hf0)] at hR2
             simp only [Prod.mk.injEq] at hR2
             obtain ⟨rfl, rfl, rfl, rfl, rfl⟩ := hR2
             have hfb : (f != 0) = true := by simp; exact hf0
             have hfc : (f == 0) = false := by simp; exact hf0
             clear HR1 hf0
             go_wp2_with fail
             refine (hFl _).mono ?_
             rintro e wf ⟨rfl, hbf⟩
             replace H := Mem.call H hbf
             clear rslt rs0 rsf0 rs1 rsf1 rs2 rsf2 rs3 rsf3 q9lt q90 q9f0 q91 q9f1 q92 q9f2 t12lt t120 t12f0 t121 t12f1 t122 t12f2 t123 t12f3 ne_rs_q9 ne_rs_t12 ne_q9_rs ne_q9_t12 ne_t12_rs ne_t12_q9
             obtain ⟨rslt, rs0, rsf0, rs1, rsf1, rs2, rsf2, rs3, rsf3⟩ := H.c4 0 rfl
             obtain ⟨t12lt, t120, t12f0, t121, t12f1, t122, t12f2, t123, t12f3⟩ := H.c4 4 rfl
             have ne_rs_t12 := H.ne 0 4 rfl rfl (by decide)
             have ne_t12_rs := H.ne 4 0 rfl rfl (by decide)
             clear hbf hFl
             go_wp2
             obtain ⟨wg, hwg⟩ : ∃ wg, ((((wf).setCell ⟨w.heap.size, 0, none⟩ (.int .i64 0)).setCell ⟨w.heap.size, 1, none⟩ (.int .i64 0)).setCell ⟨w.heap.size, 2, none⟩ (.int .i64 0)).setCell ⟨w.heap.size, 3, none⟩ (.int .i64 0) = wg := ⟨_, rfl⟩
             replace H := Mem.set 0 H rfl (0) (.int .i64 0)
             replace H := Mem.set 0 H rfl (1) (.int .i64 0)
             replace H := Mem.set 0 H rfl (2) (.int .i64 0)
             replace H := Mem.set 0 H rfl (3) (.int .i64 0)
             simp only [List.set_cons_zero, List.setIfInBounds_toArray, List.set_cons_succ] at H
             rw [hwg] at H ⊢
             clear hwg
             clear rslt rs0 rsf0 rs1 rsf1 rs2 rsf2 rs3 rsf3 t12lt t120 t12f0 t121 t12f1 t122 t12f2 t123 t12f3 ne_rs_t12 ne_t12_rs
             obtain ⟨rslt, rs0, rsf0, rs1, rsf1, rs2, rsf2, rs3, rsf3⟩ := H.c4 0 rfl
             refine bodyPost_ret (v := .tuple #[.agg #[.int .i64 0, .int .i64 0, .int .i64 0, .int .i64 0], .int .i64 2]) (by simp [results, Tryz.results8, go_sem, rs0, rs1, rs2, rs3]; done) rfl ?_
             exact ⟨rfl, H.below⟩
         · skip
           have hR2 := HR1.out
           rw [if_pos (.inl hx0)] at hR2
           simp only [Prod.mk.injEq] at hR2
           obtain ⟨rfl, rfl, rfl, rfl, rfl⟩ := hR2
           have hxb : ((vx : Int) != 0) = true := by simp; exact hx0
           have hxc : ((vx : Int) == 0) = false := by simp; exact hx0
           clear HR1 hx0 hFl
           go_wp2
           obtain ⟨wg, hwg⟩ : ∃ wg, ((((we).setCell ⟨w.heap.size, 0, none⟩ (.int .i64 0)).setCell ⟨w.heap.size, 1, none⟩ (.int .i64 0)).setCell ⟨w.heap.size, 2, none⟩ (.int .i64 0)).setCell ⟨w.heap.size, 3, none⟩ (.int .i64 0) = wg := ⟨_, rfl⟩
           replace H := Mem.set 0 H rfl (0) (.int .i64 0)
           replace H := Mem.set 0 H rfl (1) (.int .i64 0)
           replace H := Mem.set 0 H rfl (2) (.int .i64 0)
           replace H := Mem.set 0 H rfl (3) (.int .i64 0)
           simp only [List.set_cons_zero, List.setIfInBounds_toArray, List.set_cons_succ] at H
           rw [hwg] at H ⊢
           clear hwg
           clear rslt rs0 rsf0 rs1 rsf1 rs2 rsf2 rs3 rsf3 q9lt q90 q9f0 q91 q9f1 q92 q9f2 t12lt t120 t12f0 t121 t12f1 t122 t12f2 t123 t12f3 ne_rs_q9 ne_rs_t12 ne_q9_rs ne_q9_t12 ne_t12_rs ne_t12_q9
           obtain ⟨rslt, rs0, rsf0, rs1, rsf1, rs2, rsf2, rs3, rsf3⟩ := H.c4 0 rfl
           refine bodyPost_ret (v := .tuple #[.agg #[.int .i64 0, .int .i64 0, .int .i64 0, .int .i64 0], .int .i64 2]) (by simp [results, Tryz.results8, go_sem, rs0, rs1, rs2, rs3]; done) rfl ?_
           exact ⟨rfl, H.below⟩
       · skip
         rw [if_pos hr0] at hR1
         simp only [Prod.mk.injEq] at hR1
         obtain ⟨rfl, rfl, rfl, rfl, rfl⟩ := hR1
         have hrb : ((r : Int) != 0) = true := by simp; exact hr0
         have hrc : ((r : Int) == 0) = false := by simp; exact hr0
         clear hr0 hqr hqd l0 l1 l2
         go_wp2
         obtain ⟨wd, hwd⟩ : ∃ wd, (((((wc).setCell ⟨w.heap.size, 0, none⟩ (.int .i64 0)).setCell ⟨w.heap.size, 1, none⟩ (.int .i64 0)).setCell ⟨w.heap.size, 2, none⟩ (.int .i64 0)).setCell ⟨w.heap.size, 3, none⟩ (.int .i64 0)).alloc (.cells #[.int .u32 ↑q0, .int .u32 ↑q1, .int .u32 ↑q2] 88) = wd := ⟨_, rfl⟩
         replace H := Mem.set 0 H rfl (0) (.int .i64 0)
         replace H := Mem.set 0 H rfl (1) (.int .i64 0)
         replace H := Mem.set 0 H rfl (2) (.int .i64 0)
         replace H := Mem.set 0 H rfl (3) (.int .i64 0)
         replace H := Mem.alloc H (wc.heap.size) (by first | (simp; done) | (simp; omega)) #[.int .u32 ↑q0, .int .u32 ↑q1, .int .u32 ↑q2] 88
         simp only [List.set_cons_zero, List.setIfInBounds_toArray, List.set_cons_succ, List.cons_append, List.nil_append] at H
         rw [hwd] at H ⊢
         clear hwd
         clear rslt rs0 rsf0 rs1 rsf1 rs2 rsf2 rs3 rsf3 w7lt w70 w7f0 w71 w7f1 w72 w7f2 ne_rs_w7 ne_w7_rs
         obtain ⟨rslt, rs0, rsf0, rs1, rsf1, rs2, rsf2, rs3, rsf3⟩ := H.c4 0 rfl
         refine bodyPost_ret (v := .tuple #[.agg #[.int .i64 0, .int .i64 0, .int .i64 0, .int .i64 0], .int .i64 8]) (by simp [results, Tryz.results8, go_sem, rs0, rs1, rs2, rs3]; done) rfl ?_
         exact ⟨rfl, H.below⟩
theorem parse_tok (cls id am tag : Nat) (hk : TkOk cls id am tag) (l : List Nat) (hl : pad 20 (tokN cls id am tag * 97) = l) (h20 : l.length = 20) : ∀ W, Calls Tryz.prog 8 #[.string (dstr l)] W (RetTok cls id am tag 0 W) := fun W =>
 parse_ok l W (by rw [← hl]; exact pad_le _ _) h20 cls id am tag 0 (Lib.hid (by rw [← hl, val10_pad]; exact parseS_tok hk))
set_option maxHeartbeats 4000000 in
theorem check_right (m id T d f p g u cls am tag : Nat) (w : World) (hk : TkOk cls id am tag) (hm : m < 50) (hT : T ≤ 100000000) (hu : u ≤ 2097151) (hs : T = d + f + p + g) (hc : (cls = 2 ∧ u = 0) ∨ (cls = 0 ∧ am = u)) :
   Calls Tryz.prog 11 #[.agg #[.int .i64 ↑m, .int .i64 ↑id, .int .i64 ↑T, .int .i64 ↑d, .int .i64 ↑f, .int .i64 ↑p, .int .i64 ↑g, .int .i64 ↑u, .string (dstr (tokD cls id am tag))]] w fun e w' => e = .returned (.int .i64 0) ∧ Below w.heap.size w w' := by
 have hP := parse_tok cls id am tag hk (tokD cls id am tag) rfl (tokD_len hk)
 unfold RetTok at hP
 obtain ⟨Sx, hSx⟩ : ∃ Sx, dstr (tokD cls id am tag) = Sx := ⟨_, rfl⟩
 rw [hSx] at hP ⊢
 clear hSx
 have h1 := hk.h2
 have h2 := hk.h3
 have i0 : ∀ W, (Instr.index 106 (.agg #[.int .i64 ↑T, .int .i64 ↑d, .int .i64 ↑f, .int .i64 ↑p, .int .i64 ↑g]) (.int .i64 0)).run Tryz.prog W = .ok (.int .i64 ↑T) W := fun _ => by kernel_rfl
 have i1 : ∀ W, (Instr.index 106 (.agg #[.int .i64 ↑T, .int .i64 ↑d, .int .i64 ↑f, .int .i64 ↑p, .int .i64 ↑g]) (.int .i64 1)).run Tryz.prog W = .ok (.int .i64 ↑d) W := fun _ => by kernel_rfl
 have i2 : ∀ W, (Instr.index 106 (.agg #[.int .i64 ↑T, .int .i64 ↑d, .int .i64 ↑f, .int .i64 ↑p, .int .i64 ↑g]) (.int .i64 2)).run Tryz.prog W = .ok (.int .i64 ↑f) W := fun _ => by kernel_rfl
 have i3 : ∀ W, (Instr.index 106 (.agg #[.int .i64 ↑T, .int .i64 ↑d, .int .i64 ↑f, .int .i64 ↑p, .int .i64 ↑g]) (.int .i64 3)).run Tryz.prog W = .ok (.int .i64 ↑p) W := fun _ => by kernel_rfl
 have i4 : ∀ W, (Instr.index 106 (.agg #[.int .i64 ↑T, .int .i64 ↑d, .int .i64 ↑f, .int .i64 ↑p, .int .i64 ↑g]) (.int .i64 4)).run Tryz.prog W = .ok (.int .i64 ↑g) W := fun _ => by kernel_rfl
 have a1 : IntKind.i64.wrap ((d : Int) + (f : Int)) = (d : Int) + (f : Int) := IntWalk.i64_in _ (by omega)
 have a2 : IntKind.i64.wrap ((d : Int) + (f : Int) + (p : Int)) = (d : Int) + (f : Int) + (p : Int) := IntWalk.i64_in _ (by omega)
 have a3 : IntKind.i64.wrap ((d : Int) + (f : Int) + (p : Int) + (g : Int)) = (d : Int) + (f : Int) + (p : Int) + (g : Int) := IntWalk.i64_in _ (by omega)
 have nI : ((T : Int) == (d : Int) + (f : Int) + (p : Int) + (g : Int)) = true := by rw [beq_iff_eq]; omega
 have nK : ((T : Int) != (d : Int) + (f : Int) + (p : Int) + (g : Int)) = false := by rw [bne_eq_false_iff_eq]; omega
 have nJ : (T : Int) = (d : Int) + (f : Int) + (p : Int) + (g : Int) := by omega
 have HJ := Lib.hid nJ
 have b0 : (m : Int) < 50 := by omega
 have b1 : 1 ≤ (id : Int) := by omega
 have b2 : (id : Int) ≤ 1048575 := by omega
 have c0 : (T : Int) ≤ 100000000 := by omega
 have c1 : (d : Int) ≤ 100000000 := by omega
 have c2 : (f : Int) ≤ 100000000 := by omega
 have c3 : (p : Int) ≤ 100000000 := by omega
 have c4 : (g : Int) ≤ 100000000 := by omega
 have c5 : (u : Int) ≤ 2097151 := by omega
 clear hm h1 h2 hT hu hs hk nJ
 have HM := Mem.init w
 obtain ⟨W0, hW0⟩ : ∃ W0, (w).alloc (.cells #[.int .i64 ↑m, .int .i64 ↑id, .int .i64 ↑T, .int .i64 ↑d, .int .i64 ↑f, .int .i64 ↑p, .int .i64 ↑g, .int .i64 ↑u, .string Sx] 50) = W0 := ⟨_, rfl⟩
 replace HM := Mem.alloc HM (w.heap.size) (by first | (simp; done) | (simp; omega)) #[.int .i64 ↑m, .int .i64 ↑id, .int .i64 ↑T, .int .i64 ↑d, .int .i64 ↑f, .int .i64 ↑p, .int .i64 ↑g, .int .i64 ↑u, .string Sx] 50
 simp only [List.nil_append] at HM
 rw [hW0] at HM
 obtain ⟨ralt, ra0, raf0, ra1, raf1, ra2, raf2, ra3, raf3, ra4, raf4, ra5, raf5, ra6, raf6, ra7, raf7, ra8, raf8⟩ := HM.c9 0 rfl
 go_enter Tryz.func11, Tryz.ntmps11
 go_wp2
 go_loopw [30] (fun v wr => ∃ k : Nat, k ≤ 5 ∧ v = .int .i64 ↑k ∧ Mem w [] wr [.blk (w.heap.size) 50 #[.int .i64 ↑m, .int .i64 ↑id, .int .i64 ↑T, .int .i64 ↑d, .int .i64 ↑f, .int .i64 ↑p, .int .i64 ↑g, .int .i64 ↑u, .string Sx], .blk (W0.heap.size) 48 #[.int .i64 ↑id, .int .i64 ↑T, .int .i64 ↑d, .int .i64 ↑f, .int .i64 ↑p, .int .i64 ↑g, .int .i64 ↑u]]) (fun v _ => 5 - (intOf v).toNat)
 case atStart =>
   obtain ⟨W1, hW1⟩ : ∃ W1, (W0).alloc (.cells #[.int .i64 ↑id, .int .i64 ↑T, .int .i64 ↑d, .int .i64 ↑f, .int .i64 ↑p, .int .i64 ↑g, .int .i64 ↑u] 48) = W1 := ⟨_, rfl⟩
   replace HM := Mem.alloc HM (W0.heap.size) (by first | (simp; done) | (simp; omega)) #[.int .i64 ↑id, .int .i64 ↑T, .int .i64 ↑d, .int .i64 ↑f, .int .i64 ↑p, .int .i64 ↑g, .int .i64 ↑u] 48
   simp only [List.cons_append, List.nil_append] at HM
   rw [hW1] at HM ⊢
   clear hW1
   exact ⟨0, by omega, rfl, HM⟩
 case round =>
   obtain ⟨k, hk, rfl, HM⟩ := hrel
   have HM : Mem (w) [] (wr) [.blk (w.heap.size) 50 #[.int .i64 ↑m, .int .i64 ↑id, .int .i64 ↑T, .int .i64 ↑d, .int .i64 ↑f, .int .i64 ↑p, .int .i64 ↑g, .int .i64 ↑u, .string Sx], .blk (W0.heap.size) 48 #[.int .i64 ↑id, .int .i64 ↑T, .int .i64 ↑d, .int .i64 ↑f, .int .i64 ↑p, .int .i64 ↑g, .int .i64 ↑u]] := HM

   obtain rfl | rfl | rfl | rfl | rfl | rfl : k = 0 ∨ k = 1 ∨ k = 2 ∨ k = 3 ∨ k = 4 ∨ k = 5 := by omega
   · skip
     go_wp2
     go_roundw
     case rel => exact ⟨1, by omega, by first | rfl | go_num, HM⟩
     case measure => simp [intOf]
   · skip
     go_wp2
     go_roundw
     case rel => exact ⟨2, by omega, by first | rfl | go_num, HM⟩
     case measure => simp [intOf]
   · skip
     go_wp2
     go_roundw
     case rel => exact ⟨3, by omega, by first | rfl | go_num, HM⟩
     case measure => simp [intOf]
   · skip
     go_wp2
     go_roundw
     case rel => exact ⟨4, by omega, by first | rfl | go_num, HM⟩
     case measure => simp [intOf]
   · skip
     go_wp2
     go_roundw
     case rel => exact ⟨5, by omega, by first | rfl | go_num, HM⟩
     case measure => simp [intOf]
   · skip
     clear ralt ra0 raf0 ra1 raf1 ra2 raf2 ra3 raf3 ra4 raf4 ra5 raf5 ra6 raf6 ra7 raf7 ra8 raf8
     obtain ⟨ralt, ra0, raf0, ra1, raf1, ra2, raf2, ra3, raf3, ra4, raf4, ra5, raf5, ra6, raf6, ra7, raf7, ra8, raf8⟩ := HM.c9 0 rfl
     obtain ⟨balt, ba0, baf0, ba1, baf1, ba2, baf2, ba3, baf3, ba4, baf4, ba5, baf5, ba6, baf6⟩ := HM.c7 1 rfl
     have ne_ra_ba := HM.ne 0 1 rfl rfl (by decide)
     have ne_ba_ra := HM.ne 1 0 rfl rfl (by decide)
     clear i0 i1 i2 i3 i4
     go_wp2_with fail
     refine (hP _).mono ?_
     rintro e wp ⟨rfl, hbp⟩
     replace HM := Mem.call HM hbp
     have hbF := HM.below
     clear hP hbp nI nK HJ

     rcases hc with ⟨rfl, rfl⟩ | ⟨rfl, rfl⟩
     · clear ralt ra0 raf0 ra1 raf1 ra2 raf2 ra3 raf3 ra4 raf4 ra5 raf5 ra6 raf6 ra7 raf7 ra8 raf8 balt ba0 baf0 ba1 baf1 ba2 baf2 ba3 baf3 ba4 baf4 ba5 baf5 ba6 baf6 ne_ra_ba ne_ba_ra
       obtain ⟨balt, ba0, baf0, ba1, baf1, ba2, baf2, ba3, baf3, ba4, baf4, ba5, baf5, ba6, baf6⟩ := HM.c7 1 rfl
       go_wp2
       go_ret
       exact ⟨rfl, hbF.trans ((below_a1 _ _).mono hbF.size)⟩
     · skip
       clear ralt ra0 raf0 ra1 raf1 ra2 raf2 ra3 raf3 ra4 raf4 ra5 raf5 ra6 raf6 ra7 raf7 ra8 raf8 balt ba0 baf0 ba1 baf1 ba2 baf2 ba3 baf3 ba4 baf4 ba5 baf5 ba6 baf6 ne_ra_ba ne_ba_ra
       obtain ⟨balt, ba0, baf0, ba1, baf1, ba2, baf2, ba3, baf3, ba4, baf4, ba5, baf5, ba6, baf6⟩ := HM.c7 1 rfl
       go_wp2
       go_ret
       exact ⟨rfl, hbF.trans ((below_a1 _ _).mono hbF.size)⟩
end Go.Proofs.YtpcgpnkmjjamhaaGreatDoor
