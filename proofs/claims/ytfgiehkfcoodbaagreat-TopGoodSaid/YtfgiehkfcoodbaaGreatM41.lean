/- token: what twenty digits tell: plain. -/
import Derived.Test.YtfgiehkfcoodbaaGreatM0
import Derived.Test.YtfgiehkfcoodbaaGreatM35
import Derived.Lib.TrimByte
import Derived.Test.YtfgiehkfcoodbaaGreatM38
import Derived.Test.YtfgiehkfcoodbaaGreatM40
import Derived.Test.YtfgiehkfcoodbaaGreatM33
import Derived.Deep.RegionHeld3
namespace Go.Proofs.YtfgiehkfcoodbaaGreat
open Go.RowKit
set_option linter.unusedVariables false
set_option maxRecDepth 100000
set_option maxHeartbeats 16000000
def parseS (D:Nat):Nat × Nat × Nat × Nat × Nat :=
 if 73786976294838206464 ≤ D then (0,0,0,0,2) else if D % 97 ≠ 0 then (0,0,0,0,8)
 else if bitsN (D / 97) 59 32 ≠ 0 ∨ tfault (bitsN (D / 97) 57 2:Nat) (bitsN (D / 97) 37 20:Nat) (bitsN (D / 97) 16 21:Nat) (bitsN (D / 97) 0 16:Nat) ≠ 0 then (0,0,0,0,2)
 else (bitsN (D / 97) 57 2,bitsN (D / 97) 37 20,bitsN (D / 97) 16 21,bitsN (D / 97) 0 16,0)
theorem parseS_ok {D c i a t:Nat} (h:parseS D = (c,i,a,t,0)):TkOk c i a t ∧ D = tokN c i a t * 97:=by
 unfold parseS at h
 by_cases h1:73786976294838206464 ≤ D
 ·rw [if_pos h1] at h;simp at h
 ·rw [if_neg h1] at h
  by_cases h2:D % 97 ≠ 0
  ·rw [if_pos h2] at h;simp at h
  ·rw [if_neg h2] at h
   by_cases h3:bitsN (D / 97) 59 32 ≠ 0 ∨ tfault (bitsN (D / 97) 57 2:Nat) (bitsN (D / 97) 37 20:Nat) (bitsN (D / 97) 16 21:Nat) (bitsN (D / 97) 0 16:Nat) ≠ 0
   ·rw [if_pos h3] at h;simp at h
   ·rw [if_neg h3] at h
    simp only [Prod.mk.injEq] at h
    obtain ⟨rfl,rfl,rfl,rfl,_⟩:=h
    have h4:bitsN (D / 97) 59 32 = 0:=by
     rcases Nat.eq_zero_or_pos (bitsN (D / 97) 59 32) with h | h
     ·exact h
     ·exact absurd (.inl (by omega)) h3
    have h5:tfault (bitsN (D / 97) 57 2:Nat) (bitsN (D / 97) 37 20:Nat) (bitsN (D / 97) 16 21:Nat) (bitsN (D / 97) 0 16:Nat) = 0:=Classical.byContradiction fun h => h3 (.inr h)
    have h6:=fields_tokN (D / 97) h4 (by omega)
    obtain ⟨c,i,a,t,e1,e2,e3,e4,hk⟩:=tfault_zero h5
    have e1:bitsN (D / 97) 57 2 = c:=by omega
    have e2:bitsN (D / 97) 37 20 = i:=by omega
    have e3:bitsN (D / 97) 16 21 = a:=by omega
    have e4:bitsN (D / 97) 0 16 = t:=by omega
    rw [e1,e2,e3,e4] at h6 ⊢
    exact ⟨hk,by omega⟩
def bareD (l:List Nat):List Nat:=(l.take 19).dropWhile (· == 0) ++ l.drop 19
theorem drop_zeros:∀ l:List Nat,∃ k,l = List.replicate k 0 ++ l.dropWhile (· == 0) ∧ (∀ d t,l.dropWhile (· == 0) = d :: t → d ≠ 0)
 | [] => ⟨0,rfl,by simp⟩
 | d :: l => by
  rw [List.dropWhile_cons]
  split
  ·rename_i h
   have h:d = 0:=by simpa using h
   obtain ⟨k,h1,h2⟩:=drop_zeros l
   exact ⟨k + 1,by rw [List.replicate_succ,List.cons_append,← h1,h],h2⟩
  ·rename_i h
   refine ⟨0,rfl,fun e t he => ?_⟩
   injection he with h3 h4
   subst h3
   simpa using h
theorem bare_val {l:List Nat}:val10 (bareD l) = val10 l:=by
 obtain ⟨k,h1,_⟩:=drop_zeros (l.take 19)
 unfold bareD
 conv => rhs;rw [← List.take_append_drop 19 l,h1,List.append_assoc,val10_zeros]
theorem bare_mem {l:List Nat} (h:∀ d ∈ l,d ≤ 9):∀ d ∈ bareD l,d ≤ 9:=by
 intro d hd
 rcases List.mem_append.1 hd with h1 | h1
 ·exact h d (List.mem_of_mem_take ((List.dropWhile_sublist _).subset h1))
 ·exact h d (List.mem_of_mem_drop h1)
theorem bare_len {l:List Nat} (h:l.length = 20):0 < (bareD l).length ∧ (bareD l).length ≤ 20:=by
 unfold bareD
 have h1:(l.drop 19).length = 1:=by simp [h]
 have h2:=(List.dropWhile_sublist (· == 0) (l:=l.take 19)).length_le
 rw [List.length_append,h1]
 simp [h] at h2
 omega
theorem bare_head {l:List Nat} (h:l.length = 20):(bareD l).length = 1 ∨ (bareD l)[0]? ≠ some 0:=by
 obtain ⟨k,h1,h2⟩:=drop_zeros (l.take 19)
 unfold bareD
 cases hd:(l.take 19).dropWhile (· == 0) with
 | nil => exact .inl (by simp [h])
 | cons d t => exact .inr (by simp;exact h2 d t hd)
theorem trim_dig:∀ l:List Nat,(∀ d ∈ l,d ≤ 9) → Lib.trimLeftB (l.map dg) 48 = (l.dropWhile (· == 0)).map dg
 | [],_ => rfl
 | d :: l,h => by
  have hd:=h d (by simp)
  have ih:=trim_dig l (fun x hx => h x (by simp [hx]))
  unfold Lib.trimLeftB at *
  rw [List.map_cons,List.dropWhile_cons,List.dropWhile_cons]
  have e:(dg d == 48) = (d == 0):=by
   rw [Bool.eq_iff_iff]
   simp only [beq_iff_eq]
   constructor
   ·intro h3;exact dg_inj hd (by omega) h3
   ·intro h3;rw [h3];rfl
  rw [e]
  split
  ·exact ih
  ·rfl
def RetTok (c i a t E:Nat) (w:World) (e:Ending) (w':World):Prop:=e = .returned (.tuple #[.agg #[c,i,a,t],E]) ∧ Below w.heap.size w w'
theorem parse_len (s:ByteArray) (w:World) (h20:¬ s.size = 20) :
 Calls Tryz.prog 180 #[.string s] w (RetTok 0 0 0 0 6 w):=by
 have H:=Mem.init w
 replace H:=H.al w.heap.size #[(),(),(),()] (273) |>.gen
 simp only [List.nil_append] at H
 obtain ⟨W0,hW0,H⟩:=H
 have Lrs:=H.c4 0 rfl
 have hszI:((s.size:Int) != 20) = true:=by simp;omega
 go_enter Tryz.func180,Tryz.ntmps180
 go_wp2
 replace H:=H.set 0 rfl 0 () |>.set 0 rfl 1 () |>.set 0 rfl 2 () |>.set 0 rfl 3 () |>.gen
 simp only [List.set_cons_zero,List.setIfInBounds_toArray,List.set_cons_succ] at H
 obtain ⟨wz,hwz,H⟩:=H
 rw [hwz]
 clear hwz
 clear Lrs
 obtain ⟨rslt,rs0,-,rs1,-,rs2,-,rs3,-⟩:=H.c4 0 rfl
 refine bodyPost_ret (v:=.tuple #[.agg #[(),(),(),()],.int .i64 6]) (by simp [results,Tryz.results180,go_sem,rs0,rs1,rs2,rs3];done) rfl ?_
 exact ⟨rfl,H.below⟩
theorem tfield_ok (x0 x1 x2 lo m lo2 V g:Nat) (w:World) (a0:x0 < 4294967296) (a1:x1 < 4294967296) (a2:x2 < 4294967296) (h1:1 ≤ m) (h2:m ≤ 32) (h3:lo + m ≤ 96) (hl:lo + m = lo2) (hV:bitsN (val3 x0 x1 x2) lo m = V) (hg:Blk w g 3 #[lo]) :
 Calls Tryz.prog 187 #[.agg #[.int .u32 ↑x0,.int .u32 ↑x1,.int .u32 ↑x2],.pointer (some ⟨g,0,none⟩),m] w fun e w' => e = .returned (.int .i64 ↑V) ∧ Mem w [g] w' [.blk g 3 #[lo2]]:=by
 have hB:=fun W => bits_ok x0 x1 x2 lo m W a0 a1 a2 h1 (by omega) h3
 have hlt:=bitsN_lt (val3 x0 x1 x2) lo m
 rw [hV] at hB hlt
 have hV9:(V:Int) ≤ 4294967295:=by
  have:(2:Nat) ^ m ≤ 2 ^ 32:=Nat.pow_le_pow_right (by omega) h2
  omega
 have hlI:(lo:Int) + (m:Int) = (lo2:Int):=by omega
 have hl2:(lo2:Int) ≤ 96:=by omega
 clear hV hlt a0 a1 a2 h1 h2 h3 hl
 have H:Mem (w) [g] (w) [.blk (g) 3 #[lo]]:=Mem.init1 hg
 replace H:=H.al w.heap.size #[.int .u32 ↑x0,.int .u32 ↑x1,.int .u32 ↑x2] (288) |>.gen
 simp only [List.cons_append,List.nil_append] at H
 obtain ⟨W0,hW0,H⟩:=H
 obtain ⟨atlt,at0,-⟩:=H.c1 0 rfl
 obtain ⟨bxlt,bx0,-,bx1,-,bx2,-⟩:=H.c3 1 rfl
 have Natbx:=H.ne2 0 1 rfl rfl rfl
 clear hg
 go_enter Tryz.func187,Tryz.ntmps187
 go_wp2
 clear hW0
 go_region_held3 (fun w' => w'.cell? ⟨w.heap.size,0,none⟩ = some (.int .u32 ↑x0) ∧ w'.cell? ⟨w.heap.size,1,none⟩ = some (.int .u32 ↑x1) ∧ w'.cell? ⟨w.heap.size,2,none⟩ = some (.int .u32 ↑x2) ∧ w'.cell? ⟨g,0,none⟩ = some (.int .i64 ↑lo)) (first | go_keep | fail) ((go_at_call 188;(with_reducible refine (hB _).mono ?_);rintro e wa ⟨rfl,hba⟩;have c0:=(hba.cell (p:=⟨w.heap.size,0,none⟩) bxlt).trans bx0;have c1:=(hba.cell (p:=⟨w.heap.size,1,none⟩) bxlt).trans bx1;have c2:=(hba.cell (p:=⟨w.heap.size,2,none⟩) bxlt).trans bx2;have c3:=(hba.cell (p:=⟨g,0,none⟩) atlt).trans at0))
 replace H:=Mem.call (Mem.drew H) hba
 clear atlt at0 bxlt bx0 bx1 bx2 Natbx
 have Lat:=H.c1 0 rfl
 have Lbx:=H.c3 1 rfl
 have Natbx:=H.ne2 0 1 rfl rfl rfl
 clear hba c0 c1 c2 c3 hB
 go_wp2
 replace H:=H.set 0 rfl 0 lo2 |>.gen
 simp only [List.set_cons_zero,List.setIfInBounds_toArray] at H
 obtain ⟨wb,hwb,H⟩:=H
 rw [hwb]
 clear hwb
 go_ret
 exact ⟨rfl,Mem.drop_ 1 H⟩
theorem big_y {y0 y1 y2 D:Nat} (k0:y0 < 4294967296) (k1:y1 < 4294967296) (h:val3 y0 y1 y2 = D) (hb:73786976294838206464 ≤ D):4 ≤ y2:=by unfold val3 at h;omega
theorem small_y {y0 y1 y2 D:Nat} (h:val3 y0 y1 y2 = D) (hb:D < 73786976294838206464):y2 < 4:=by unfold val3 at h;omega
theorem over_div {x r D:Nat} (h:x * 97 + r = D) (hr:r < 97):x = D / 97 ∧ D % 97 = r:=by omega
theorem lt_of20 {l:List Nat} (hl:∀ d ∈ l,d ≤ 9) (h20:l.length = 20):val10 l < 79228162514264337593543950336:=by
 have h:=val10_lt hl
 rw [h20] at h
 have e:(10:Nat) ^ 20 = 100000000000000000000:=by decide
 rw [e] at h
 omega
theorem parse_ok (l:List Nat) (w:World) (hl:∀ d ∈ l,d ≤ 9) (h20:l.length = 20) (c i a t E:Nat) (hR:Hid (parseS (val10 l) = (c,i,a,t,E))) :
 Calls Tryz.prog 180 #[.string (dstr l)] w (RetTok c i a t E w):=by
 have hsz:=dstr_size l
 rw [h20] at hsz
 obtain ⟨Z,hZ⟩:∃ Z,(l.take 19).dropWhile (· == 0) = Z:=⟨_,rfl⟩
 have hZl:Z.length ≤ 19:=by
  rw [← hZ]
  have h2:=(List.dropWhile_sublist (· == 0) (l:=l.take 19)).length_le
  simp [h20] at h2;omega
 have hTr:∀ W,Calls Tryz.prog 185 #[.string ((dstr l).extract 0 19),.string ⟨#[48]⟩] W fun e w' => e = .returned (.string (dstr Z)) ∧ w' = W:=fun W => by
  have h:=Tryz.strings_TrimLeft_one ((dstr l).extract 0 19) 48 (by decide) W
  rw [dstr_extract,dstr_toList,trim_dig _ (fun d hd => hl d (List.mem_of_mem_take (by simpa using hd))),show (List.drop 0 l).take (19 - 0) = l.take 19 by simp,hZ] at h
  rw [dstr_extract,show (List.drop 0 l).take (19 - 0) = l.take 19 by simp]
  exact h
 have hcat:dstr Z ++ (dstr l).extract 19 20 = dstr (bareD l):=by
  rw [dstr_extract,← dstr_append]
  unfold bareD
  rw [hZ]
  congr 2
  exact List.take_of_length_le (by simp [h20])
 have HC:=Lib.hid hcat
 obtain ⟨b1,b2⟩:=bare_len h20
 have hRd:=fun W => wread_ok (bareD l) W (bare_mem hl) b1 (by omega) (bare_head h20) (by rw [bare_val];exact lt_of20 hl h20)
 rw [bare_val] at hRd
 obtain ⟨D,hD⟩:∃ D,val10 l = D:=⟨_,rfl⟩
 rw [hD] at hRd hR
 have hS:=@ByteArray.size_append
 have hzs:=dstr_size Z
 have hzI:(Z.length:Int) ≤ 19:=by omega
 have hxs:((dstr l).extract 19 20).size = 1:=by simp [hsz]
 clear hZ hcat hD b1 b2 hZl
 have H:=Mem.init w
 replace H:=Mem.alloc H (w.heap.size) (by first | (simp;done) | (simp;omega)) #[(),(),(),()] 273
 replace H:Mem (w) [] _ [.blk (w.heap.size) 273 #[(),(),(),()],.obj (w.heap.size + 1) (.stringIter (dstr l) 0)]:=Mem.iter H (w.heap.size + 1) (by first | (simp;done) | (simp;omega)) (dstr l)
 have H20:=Lib.hid h20
 clear h20
 go_enter Tryz.func180,Tryz.ntmps180
 go_wp2
 go_loopw [] (fun wr => ∃ k:Nat,k ≤ 20 ∧ Mem w [] wr [.blk w.heap.size 273 #[(),(),(),()],.obj (w.heap.size + 1) (.stringIter (dstr l) k)]) (fun wr => 20 - wr.iterPos (w.heap.size + 1))
 case atStart => exact ⟨0,by omega,H⟩
 case round =>
  obtain ⟨k,hk,HM⟩:=hrel
  clear H
  have H:Mem (w) [] (wr) [.blk (w.heap.size) 273 #[(),(),(),()],.obj (w.heap.size + 1) (.stringIter (dstr l) k)]:=HM
  clear HM
  have hit:=H.obj_ 1 rfl
  by_cases hlt:k < 20
  ·have hb:=dstr_byte hl k (by omega)
   have hd:=hl (l[k]'(by rw [H20.out];exact hlt)) (List.getElem_mem _)
   have hnx:=fun ty => Lib.run_next_ascii_at (P:=Tryz.prog) wr (w.heap.size + 1) (dstr l) k ty hit (by omega) (by omega)
   rw [hb] at hnx
   obtain ⟨d,hdd⟩:∃ d,l[k]'(by rw [H20.out];exact hlt) = d:=⟨_,rfl⟩
   rw [hdd] at hnx hd
   have g3:(48:Int) ≤ ((48 + d:Nat):Int):=by omega
   have g4:((48 + d:Nat):Int) ≤ 57:=by omega
   have HIT:=Lib.hid hit
   clear hb hit hdd
   replace H:Mem (w) [] _ [.blk (w.heap.size) 273 #[(),(),(),()],.obj (w.heap.size + 1) (.stringIter (dstr l) (k + 1))]:=Mem.next 1 H rfl (k + 1)
   go_wp2
   go_roundw
   case rel => exact ⟨k + 1,by omega,H⟩
   case measure =>
    have h9:=iterPos_of (H.obj_ 1 rfl)
    have h8:=iterPos_of HIT.out
    omega
  ·skip
   have hnx:=fun ty => Lib.run_next_end_at (P:=Tryz.prog) wr (w.heap.size + 1) (dstr l) k ty hit (by omega)
   clear hit hlt hk hl
   go_wp2
   go_quiet ((go_at_call 185;exact Calls.quiet_of_same (hTr _)))
   rw [HC.out]
   replace H:=H.drewN nq |>.gen
   obtain ⟨wq,hwq,H⟩:=H
   rw [hwq]
   clear hwq
   clear hS hzs hzI hxs hTr hsz hnx
   go_wp2_with fail
   refine (hRd _).mono ?_
   rintro e wa ⟨y0,y1,y2,k0,k1,k2,hy,rfl,hba⟩
   replace H:=Mem.call H hba
   have Lrs:=H.c4 0 rfl
   clear hba hRd HC
   have hR1:=hR.out
   unfold parseS at hR1
   by_cases hbig:73786976294838206464 ≤ D
   ·rw [if_pos hbig] at hR1
    simp only [Prod.mk.injEq] at hR1
    obtain ⟨rfl,rfl,rfl,rfl,rfl⟩:=hR1
    have h4:(4:Int) ≤ (y2:Int):=by have:=big_y k0 k1 hy.out hbig;omega
    clear hR hy k0 k1 k2 hbig
    go_wp2
    replace H:=H.set 0 rfl 0 () |>.set 0 rfl 1 () |>.set 0 rfl 2 () |>.set 0 rfl 3 () |>.al wa.heap.size #[.int .u32 ↑y0,.int .u32 ↑y1,.int .u32 ↑y2] (288) |>.gen
    simp only [List.set_cons_zero,List.setIfInBounds_toArray,List.set_cons_succ,List.cons_append,List.nil_append] at H
    obtain ⟨wb,hwb,H⟩:=H
    rw [hwb]
    clear hwb
    clear Lrs
    obtain ⟨rslt,rs0,-,rs1,-,rs2,-,rs3,-⟩:=H.c4 0 rfl
    refine bodyPost_ret (v:=.tuple #[.agg #[(),(),(),()],.int .i64 2]) (by simp [results,Tryz.results180,go_sem,rs0,rs1,rs2,rs3];done) rfl ?_
    exact ⟨rfl,H.below⟩
   ·skip
    rw [if_neg hbig] at hR1
    have h4:decide ((4:Int) ≤ (y2:Int)) = false:=by have:=small_y hy.out (by omega);simp;omega
    have hOv:=fun W => over_is y0 y1 y2 97 W k0 k1 k2 (by omega) (by omega)
    rw [hy.out] at hOv
    clear hy k0 k1 k2 hbig
    go_wp2_with fail
    replace H:=H.al wa.heap.size #[.int .u32 ↑y0,.int .u32 ↑y1,.int .u32 ↑y2] (288) |>.gen
    simp only [List.cons_append,List.nil_append] at H
    obtain ⟨wb,hwb,H⟩:=H
    rw [hwb]
    clear hwb
    refine (hOv _).mono ?_
    rintro e wc ⟨q0,q1,q2,r,l0,l1,l2,hr97,hq,rfl,hbc⟩
    replace H:=Mem.call H hbc
    clear Lrs
    have Lrs:=H.c4 0 rfl
    have Lw7:=H.c3 2 rfl
    have Nrsw7:=H.ne2 0 2 rfl rfl rfl
    obtain ⟨hqd,hqr⟩:=over_div hq.out hr97
    rw [hqr] at hR1
    clear hbc hOv h4 hR hq hr97
    by_cases hr0:r = 0
    ·subst hr0
     obtain ⟨Q,hQ⟩:∃ Q,D / 97 = Q:=⟨_,rfl⟩
     rw [hQ] at hR1 hqd
     obtain ⟨vt,hvt⟩:∃ v,bitsN Q 0 16 = v:=⟨_,rfl⟩
     obtain ⟨va,hva⟩:∃ v,bitsN Q 16 21 = v:=⟨_,rfl⟩
     obtain ⟨vi,hvi⟩:∃ v,bitsN Q 37 20 = v:=⟨_,rfl⟩
     obtain ⟨vc,hvc⟩:∃ v,bitsN Q 57 2 = v:=⟨_,rfl⟩
     obtain ⟨vx,hvx⟩:∃ v,bitsN Q 59 32 = v:=⟨_,rfl⟩
     have hf0:=fun g W h => tfield_ok q0 q1 q2 0 16 16 vt g W l0 l1 l2 (by omega) (by omega) (by omega) (by omega) (by rw [hqd];exact hvt) h
     have hf1:=fun g W h => tfield_ok q0 q1 q2 16 21 37 va g W l0 l1 l2 (by omega) (by omega) (by omega) (by omega) (by rw [hqd];exact hva) h
     have hf2:=fun g W h => tfield_ok q0 q1 q2 37 20 57 vi g W l0 l1 l2 (by omega) (by omega) (by omega) (by omega) (by rw [hqd];exact hvi) h
     have hf3:=fun g W h => tfield_ok q0 q1 q2 57 2 59 vc g W l0 l1 l2 (by omega) (by omega) (by omega) (by omega) (by rw [hqd];exact hvc) h
     have hBt:=fun W => bits_ok q0 q1 q2 59 32 W l0 l1 l2 (by omega) (by omega) (by omega)
     rw [hqd,hvx] at hBt
     obtain ⟨f,hf⟩:∃ f,tfault (vc:Int) (vi:Int) (va:Int) (vt:Int) = f:=⟨_,rfl⟩
     rw [hvt,hva,hvi,hvc,hvx,hf,if_neg (by omega)] at hR1
     have hFl:=fun W => fault_is (Lib.hid hf) W
     clear hvt hva hvi hvc hvx hqd hQ l0 l1 l2 hqr hf
     have HR1:=Lib.hid hR1
     clear hR1
     simp only [Int.natCast_zero] at *
     go_wp2_with fail
     replace H:=H.al wc.heap.size #[.int .u32 ↑q0,.int .u32 ↑q1,.int .u32 ↑q2] (288) |>.al (wc.heap.size + 1) #[(),(),(),()] (273) |>.al (wc.heap.size + 1 + 1) #[()] (3) |>.gen
     simp only [List.cons_append,List.nil_append] at H
     obtain ⟨wd,hwd,H⟩:=H
     rw [hwd]
     clear hwd
     refine (hf0 _ _ (H.blk 5 rfl)).mono ?_
     rintro e d0 ⟨rfl,hK⟩
     replace H:Mem (w) [] (d0) [.blk (w.heap.size) 273 #[(),(),(),()],.obj (w.heap.size + 1) (.stringIter (dstr l) k),.blk (wa.heap.size) 288 #[.int .u32 ↑y0,.int .u32 ↑y1,.int .u32 ↑y2],.blk (wc.heap.size) 288 #[.int .u32 ↑q0,.int .u32 ↑q1,.int .u32 ↑q2],.blk (wc.heap.size + 1) 273 #[(),(),(),()],.blk (wc.heap.size + 1 + 1) 3 #[.int .i64 ↑16]]:=Mem.joinAt 5 H rfl hK
     clear Lrs Lw7 Nrsw7
     have Lrs:=H.c4 0 rfl
     have Lq9:=H.c3 3 rfl
     have Lt12:=H.c4 4 rfl
     have La13:=H.c1 5 rfl
     have Nrsq9:=H.ne2 0 3 rfl rfl rfl
     have Nrst12:=H.ne2 0 4 rfl rfl rfl
     have Nrsa13:=H.ne2 0 5 rfl rfl rfl
     have Nq9t12:=H.ne2 3 4 rfl rfl rfl
     have Nq9a13:=H.ne2 3 5 rfl rfl rfl
     have Nt12a13:=H.ne2 4 5 rfl rfl rfl
     clear hK hf0
     go_wp2_with fail
     replace H:=H.set 4 rfl 3 vt |>.gen
     simp only [List.set_cons_zero,List.set_cons_succ,List.setIfInBounds_toArray] at H
     obtain ⟨w0,hw0,H⟩:=H
     rw [hw0]
     clear hw0
     refine (hf1 _ _ (H.blk 5 rfl)).mono ?_
     rintro e d1 ⟨rfl,hK⟩
     replace H:Mem (w) [] (d1) [.blk (w.heap.size) 273 #[(),(),(),()],.obj (w.heap.size + 1) (.stringIter (dstr l) k),.blk (wa.heap.size) 288 #[.int .u32 ↑y0,.int .u32 ↑y1,.int .u32 ↑y2],.blk (wc.heap.size) 288 #[.int .u32 ↑q0,.int .u32 ↑q1,.int .u32 ↑q2],.blk (wc.heap.size + 1) 273 #[(),(),(),vt],.blk (wc.heap.size + 1 + 1) 3 #[.int .i64 ↑37]]:=Mem.joinAt 5 H rfl hK
     clear Lrs Lq9 Lt12 La13 Nrsq9 Nrst12 Nrsa13 Nq9t12 Nq9a13 Nt12a13
     have Lrs:=H.c4 0 rfl
     have Lq9:=H.c3 3 rfl
     have Lt12:=H.c4 4 rfl
     have La13:=H.c1 5 rfl
     have Nrsq9:=H.ne2 0 3 rfl rfl rfl
     have Nrst12:=H.ne2 0 4 rfl rfl rfl
     have Nrsa13:=H.ne2 0 5 rfl rfl rfl
     have Nq9t12:=H.ne2 3 4 rfl rfl rfl
     have Nq9a13:=H.ne2 3 5 rfl rfl rfl
     have Nt12a13:=H.ne2 4 5 rfl rfl rfl
     clear hK hf1
     go_wp2_with fail
     replace H:=H.set 4 rfl 2 va |>.gen
     simp only [List.set_cons_zero,List.set_cons_succ,List.setIfInBounds_toArray] at H
     obtain ⟨w1,hw1,H⟩:=H
     rw [hw1]
     clear hw1
     refine (hf2 _ _ (H.blk 5 rfl)).mono ?_
     rintro e d2 ⟨rfl,hK⟩
     replace H:Mem (w) [] (d2) [.blk (w.heap.size) 273 #[(),(),(),()],.obj (w.heap.size + 1) (.stringIter (dstr l) k),.blk (wa.heap.size) 288 #[.int .u32 ↑y0,.int .u32 ↑y1,.int .u32 ↑y2],.blk (wc.heap.size) 288 #[.int .u32 ↑q0,.int .u32 ↑q1,.int .u32 ↑q2],.blk (wc.heap.size + 1) 273 #[(),(),va,vt],.blk (wc.heap.size + 1 + 1) 3 #[.int .i64 ↑57]]:=Mem.joinAt 5 H rfl hK
     clear Lrs Lq9 Lt12 La13 Nrsq9 Nrst12 Nrsa13 Nq9t12 Nq9a13 Nt12a13
     have Lrs:=H.c4 0 rfl
     have Lq9:=H.c3 3 rfl
     have Lt12:=H.c4 4 rfl
     have La13:=H.c1 5 rfl
     have Nrsq9:=H.ne2 0 3 rfl rfl rfl
     have Nrst12:=H.ne2 0 4 rfl rfl rfl
     have Nrsa13:=H.ne2 0 5 rfl rfl rfl
     have Nq9t12:=H.ne2 3 4 rfl rfl rfl
     have Nq9a13:=H.ne2 3 5 rfl rfl rfl
     have Nt12a13:=H.ne2 4 5 rfl rfl rfl
     clear hK hf2
     go_wp2_with fail
     replace H:=H.set 4 rfl 1 vi |>.gen
     simp only [List.set_cons_zero,List.set_cons_succ,List.setIfInBounds_toArray] at H
     obtain ⟨w2,hw2,H⟩:=H
     rw [hw2]
     clear hw2
     refine (hf3 _ _ (H.blk 5 rfl)).mono ?_
     rintro e d3 ⟨rfl,hK⟩
     replace H:Mem (w) [] (d3) [.blk (w.heap.size) 273 #[(),(),(),()],.obj (w.heap.size + 1) (.stringIter (dstr l) k),.blk (wa.heap.size) 288 #[.int .u32 ↑y0,.int .u32 ↑y1,.int .u32 ↑y2],.blk (wc.heap.size) 288 #[.int .u32 ↑q0,.int .u32 ↑q1,.int .u32 ↑q2],.blk (wc.heap.size + 1) 273 #[(),vi,va,vt],.blk (wc.heap.size + 1 + 1) 3 #[.int .i64 ↑59]]:=Mem.joinAt 5 H rfl hK
     clear Lrs Lq9 Lt12 La13 Nrsq9 Nrst12 Nrsa13 Nq9t12 Nq9a13 Nt12a13
     have Lrs:=H.c4 0 rfl
     have Lq9:=H.c3 3 rfl
     have Lt12:=H.c4 4 rfl
     have La13:=H.c1 5 rfl
     have Nrsq9:=H.ne2 0 3 rfl rfl rfl
     have Nrst12:=H.ne2 0 4 rfl rfl rfl
     have Nrsa13:=H.ne2 0 5 rfl rfl rfl
     have Nq9t12:=H.ne2 3 4 rfl rfl rfl
     have Nq9a13:=H.ne2 3 5 rfl rfl rfl
     have Nt12a13:=H.ne2 4 5 rfl rfl rfl
     clear hK hf3
     go_wp2_with fail
     replace H:=H.set 4 rfl 0 vc |>.gen
     simp only [List.set_cons_zero,List.set_cons_succ,List.setIfInBounds_toArray] at H
     obtain ⟨w3,hw3,H⟩:=H
     rw [hw3]
     clear hw3
     refine (hBt _).mono ?_
     rintro e we ⟨rfl,hbe⟩
     replace H:=Mem.call H hbe
     clear Lrs Lq9 Lt12 La13 Nrsq9 Nrst12 Nrsa13 Nq9t12 Nq9a13 Nt12a13
     have Lrs:=H.c4 0 rfl
     have Lq9:=H.c3 3 rfl
     have Lt12:=H.c4 4 rfl
     have Nrsq9:=H.ne2 0 3 rfl rfl rfl
     have Nrst12:=H.ne2 0 4 rfl rfl rfl
     have Nq9t12:=H.ne2 3 4 rfl rfl rfl
     clear hbe hBt
     by_cases hx0:vx = 0
     ·subst hx0
      by_cases hf0:f = 0
      ·subst hf0
       have hR2:=HR1.out
       rw [if_neg (by simp)] at hR2
       simp only [Prod.mk.injEq] at hR2
       obtain ⟨rfl,rfl,rfl,rfl,rfl⟩:=hR2
       clear HR1
       go_wp2_with fail
       refine (hFl _).mono ?_
       rintro e wf ⟨rfl,hbf⟩
       replace H:=Mem.call H hbf
       clear Lrs Lq9 Lt12 Nrsq9 Nrst12 Nq9t12
       have Lrs:=H.c4 0 rfl
       have Lt12:=H.c4 4 rfl
       have Nrst12:=H.ne2 0 4 rfl rfl rfl
       clear hbf hFl
       go_wp2
       replace H:=H.set 0 rfl 0 vc |>.set 0 rfl 1 vi |>.set 0 rfl 2 va |>.set 0 rfl 3 vt |>.gen
       simp only [List.set_cons_zero,List.setIfInBounds_toArray,List.set_cons_succ] at H
       obtain ⟨wg,hwg,H⟩:=H
       rw [hwg]
       clear hwg
       clear Lrs Lt12 Nrst12
       obtain ⟨rslt,rs0,-,rs1,-,rs2,-,rs3,-⟩:=H.c4 0 rfl
       refine bodyPost_ret (v:=.tuple #[.agg #[vc,vi,va,vt],()]) (by simp [results,Tryz.results180,go_sem,rs0,rs1,rs2,rs3];done) rfl ?_
       exact ⟨rfl,H.below⟩
      ·skip
       have hR2:=HR1.out
       rw [if_pos (.inr hf0)] at hR2
       simp only [Prod.mk.injEq] at hR2
       obtain ⟨rfl,rfl,rfl,rfl,rfl⟩:=hR2
       have hfb:(f != 0) = true:=by simp;exact hf0
       have hfc:(f == 0) = false:=by simp;exact hf0
       clear HR1 hf0
       go_wp2_with fail
       refine (hFl _).mono ?_
       rintro e wf ⟨rfl,hbf⟩
       replace H:=Mem.call H hbf
       clear Lrs Lq9 Lt12 Nrsq9 Nrst12 Nq9t12
       have Lrs:=H.c4 0 rfl
       have Lt12:=H.c4 4 rfl
       have Nrst12:=H.ne2 0 4 rfl rfl rfl
       clear hbf hFl
       go_wp2
       replace H:=H.set 0 rfl 0 () |>.set 0 rfl 1 () |>.set 0 rfl 2 () |>.set 0 rfl 3 () |>.gen
       simp only [List.set_cons_zero,List.setIfInBounds_toArray,List.set_cons_succ] at H
       obtain ⟨wg,hwg,H⟩:=H
       rw [hwg]
       clear hwg
       clear Lrs Lt12 Nrst12
       obtain ⟨rslt,rs0,-,rs1,-,rs2,-,rs3,-⟩:=H.c4 0 rfl
       refine bodyPost_ret (v:=.tuple #[.agg #[(),(),(),()],.int .i64 2]) (by simp [results,Tryz.results180,go_sem,rs0,rs1,rs2,rs3];done) rfl ?_
       exact ⟨rfl,H.below⟩
     ·skip
      have hR2:=HR1.out
      rw [if_pos (.inl hx0)] at hR2
      simp only [Prod.mk.injEq] at hR2
      obtain ⟨rfl,rfl,rfl,rfl,rfl⟩:=hR2
      have hxb:((vx:Int) != 0) = true:=by simp;exact hx0
      have hxc:((vx:Int) == 0) = false:=by simp;exact hx0
      clear HR1 hx0 hFl
      go_wp2
      replace H:=H.set 0 rfl 0 () |>.set 0 rfl 1 () |>.set 0 rfl 2 () |>.set 0 rfl 3 () |>.gen
      simp only [List.set_cons_zero,List.setIfInBounds_toArray,List.set_cons_succ] at H
      obtain ⟨wg,hwg,H⟩:=H
      rw [hwg]
      clear hwg
      clear Lrs Lq9 Lt12 Nrsq9 Nrst12 Nq9t12
      obtain ⟨rslt,rs0,-,rs1,-,rs2,-,rs3,-⟩:=H.c4 0 rfl
      refine bodyPost_ret (v:=.tuple #[.agg #[(),(),(),()],.int .i64 2]) (by simp [results,Tryz.results180,go_sem,rs0,rs1,rs2,rs3];done) rfl ?_
      exact ⟨rfl,H.below⟩
    ·skip
     rw [if_pos hr0] at hR1
     simp only [Prod.mk.injEq] at hR1
     obtain ⟨rfl,rfl,rfl,rfl,rfl⟩:=hR1
     have hrb:((r:Int) != 0) = true:=by simp;exact hr0
     have hrc:((r:Int) == 0) = false:=by simp;exact hr0
     clear hr0 hqr hqd l0 l1 l2
     go_wp2
     replace H:=H.set 0 rfl 0 () |>.set 0 rfl 1 () |>.set 0 rfl 2 () |>.set 0 rfl 3 () |>.al wc.heap.size #[.int .u32 ↑q0,.int .u32 ↑q1,.int .u32 ↑q2] (288) |>.gen
     simp only [List.set_cons_zero,List.setIfInBounds_toArray,List.set_cons_succ,List.cons_append,List.nil_append] at H
     obtain ⟨wd,hwd,H⟩:=H
     rw [hwd]
     clear hwd
     clear Lrs Lw7 Nrsw7
     obtain ⟨rslt,rs0,-,rs1,-,rs2,-,rs3,-⟩:=H.c4 0 rfl
     refine bodyPost_ret (v:=.tuple #[.agg #[(),(),(),()],.int .i64 8]) (by simp [results,Tryz.results180,go_sem,rs0,rs1,rs2,rs3];done) rfl ?_
     exact ⟨rfl,H.below⟩
end Go.Proofs.YtfgiehkfcoodbaaGreat
