/- words.Read: the wide number that decimal digits tell. -/
import Derived.Test.YtfgiehkfcoodbaaGreatM0
import Derived.Test.YtfgiehkfcoodbaaGreatM23
import Derived.Test.YtfgiehkfcoodbaaGreatM17
import Derived.Test.YtfgiehkfcoodbaaGreatM24
import Derived.Test.YtfgiehkfcoodbaaGreatM9
namespace Go.Proofs.YtfgiehkfcoodbaaGreat
open Go.RowKit
set_option linter.unusedVariables false
set_option maxRecDepth 100000
set_option maxHeartbeats 16000000
theorem val10_take_le {l:List Nat} (k:Nat):val10 (l.take k) ≤ val10 l:=by
 have h:val10 l = val10 (l.take k ++ l.drop k):=by rw [List.take_append_drop]
 rw [h,val10_append]
 have:val10 (l.take k) * 1 ≤ val10 (l.take k) * 10 ^ (l.drop k).length:=Nat.mul_le_mul_left _ (Nat.pos_of_ne_zero (by simp))
 omega
theorem rd_c {x c V d T N:Nat} (h:x + c * 79228162514264337593543950336 = V * 10) (h1:T = V * 10 + d) (h2:T ≤ N) (h3:N < 79228162514264337593543950336):c = 0:=by omega
theorem rd_p {x n:Nat} (h:x + 0 * 79228162514264337593543950336 = n):x = n:=by omega
theorem rd_f {x f U V d T N:Nat} (h:x + f * 79228162514264337593543950336 = U + d) (h0:U = V * 10) (h1:T = V * 10 + d) (h2:T ≤ N) (h3:N < 79228162514264337593543950336):f = 0:=by omega
theorem rd_q {x U V d T:Nat} (h:x + 0 * 79228162514264337593543950336 = U + d) (h0:U = V * 10) (h1:T = V * 10 + d):x = T:=by omega
def IsRead (n:Nat) (w:World) (e:Ending) (w':World):Prop :=
 ∃ y0 y1 y2:Nat,y0 < 4294967296 ∧ y1 < 4294967296 ∧ y2 < 4294967296 ∧ Hid (val3 y0 y1 y2 = n) ∧ e = .returned (.tuple #[.agg #[.int .u32 y0,.int .u32 y1,.int .u32 y2],()]) ∧ Below w.heap.size w w'
theorem wread_ok (l:List Nat) (w:World) (hl:∀ d ∈ l,d ≤ 9) (h0:0 < l.length) (h1:l.length ≤ 40) (hh:l.length = 1 ∨ l[0]? ≠ some 0) (hv:val10 l < 79228162514264337593543950336) :
 Calls Tryz.prog 186 #[.string (dstr l)] w (IsRead (val10 l) w):=by
 have hsz:=dstr_size l
 have hne:=dstr_empty h0
 obtain ⟨N,hN⟩:∃ N,val10 l = N:=⟨_,rfl⟩
 have HN:=Lib.hid hN
 have hb0:=dstr_byte hl 0 (by rw [hsz];exact h0)
 obtain ⟨d0,hd0⟩:∃ d,l[0] = d:=⟨_,rfl⟩
 rw [hd0] at hb0
 have hfirst:(decide ((1:Int) < (l.length:Int)) = false ∧ (48 + (d0:Int) == 48) = true) ∨ ((48 + (d0:Int) == 48) = false ∧ 1 ≤ d0):=by
  by_cases h:d0 = 0
  ·rcases hh with h2 | h2
   ·exact .inl ⟨by simp;omega,by simp;omega⟩
   ·exact absurd (by rw [List.getElem?_eq_getElem h0,hd0,h]) h2
  ·exact .inr ⟨by simp;omega,by omega⟩
 clear hd0
 rw [hN] at hv ⊢
 have HV:=Lib.hid hv
 clear hN hv hh
 have H:=Mem.init w
 replace H:=Mem.alloc H (w.heap.size) (by first | (simp;done) | (simp;omega)) #[.int .u32 0,.int .u32 0,.int .u32 0] 288
 replace H:=Mem.alloc H (w.heap.size + 1) (by first | (simp;done) | (simp;omega)) #[.int .u32 0,.int .u32 0,.int .u32 0] 288
 replace H:Mem (w) [] _ [.blk (w.heap.size) 288 #[.int .u32 0,.int .u32 0,.int .u32 0],.blk (w.heap.size + 1) 288 #[.int .u32 0,.int .u32 0,.int .u32 0],.obj (w.heap.size + 1 + 1) (.stringIter (dstr l) 0)]:=Mem.iter H (w.heap.size + 1 + 1) (by first | (simp;done) | (simp;omega)) (dstr l)
 have hlenI:(l.length:Int) ≤ 40:=by omega
 rcases hfirst with ⟨hf,hd1⟩ | ⟨hf,hd1⟩
 all_goals
  go_enter Tryz.func186,Tryz.ntmps186
  go_wp2
  clear hb0 hne hlenI hf hd1
  go_loopw [5] (fun v wr => ∃ (k y0 y1 y2:Nat),k ≤ l.length ∧ y0 < 4294967296 ∧ y1 < 4294967296 ∧ y2 < 4294967296 ∧ Hid (val3 y0 y1 y2 = val10 (l.take k)) ∧ v = .bool false ∧ Mem w [] wr [.blk w.heap.size 288 #[.int .u32 0,.int .u32 0,.int .u32 0],.blk (w.heap.size + 1) 288 #[.int .u32 ↑y0,.int .u32 ↑y1,.int .u32 ↑y2],.obj (w.heap.size + 1 + 1) (.stringIter (dstr l) k)]) (fun _ wr => l.length - wr.iterPos (w.heap.size + 1 + 1))
  case atStart => exact ⟨0,0,0,0,by omega,by omega,by omega,by omega,rfl,rfl,H⟩
  case round =>
   obtain ⟨k,y0,y1,y2,hk,k0,k1,k2,hy,rfl,HM⟩:=hrel
   clear H
   have H:Mem (w) [] (wr) [.blk (w.heap.size) 288 #[.int .u32 0,.int .u32 0,.int .u32 0],.blk (w.heap.size + 1) 288 #[.int .u32 ↑y0,.int .u32 ↑y1,.int .u32 ↑y2],.obj (w.heap.size + 1 + 1) (.stringIter (dstr l) k)]:=HM
   clear HM
   have hit:=H.obj_ 2 rfl
   by_cases hlt:k < l.length
   ·have hb:=dstr_byte hl k (by rw [hsz];exact hlt)
    have hd:=hl l[k] (List.getElem_mem _)
    have hnx:=fun ty => Lib.run_next_ascii_at (P:=Tryz.prog) wr (w.heap.size + 1 + 1) (dstr l) k ty hit (by rw [hsz];exact hlt) (by rw [hb];omega)
    rw [hb] at hnx
    have hts:val10 (l.take (k + 1)) = val10 (l.take k) * 10 + l[k]:=by rw [List.take_succ_eq_append_getElem hlt,val10_snoc]
    have hle:=val10_take_le (l:=l) (k + 1)
    obtain ⟨d,hdd⟩:∃ d,l[k] = d:=⟨_,rfl⟩
    rw [hdd] at hnx hd hts
    obtain ⟨T,hT⟩:∃ T,val10 (l.take (k + 1)) = T:=⟨_,rfl⟩
    rw [HN.out,hT] at hle
    rw [hT] at hts
    rw [← hy.out] at hts
    have HT:=Lib.hid hT
    have HS:=Lib.hid hts
    have HL:=Lib.hid hle
    have hdI:(d:Int) ≤ 9:=by omega
    have hti:=fun W => times_is y0 y1 y2 10 W k0 k1 k2 (by omega)
    obtain ⟨V,hV⟩:∃ V,val3 y0 y1 y2 = V:=⟨_,rfl⟩
    rw [hV] at hti
    rw [hV] at HS
    have hg1:(48:Int) ≤ ((48 + d:Nat):Int):=by omega
    have hg2:((48 + d:Nat):Int) ≤ 57:=by omega
    clear hb hdd hT hts hle hV hy k0 k1 k2
    have HIT:=Lib.hid hit
    clear hit
    replace H:Mem (w) [] _ [.blk (w.heap.size) 288 #[.int .u32 0,.int .u32 0,.int .u32 0],.blk (w.heap.size + 1) 288 #[.int .u32 ↑y0,.int .u32 ↑y1,.int .u32 ↑y2],.obj (w.heap.size + 1 + 1) (.stringIter (dstr l) (k + 1))]:=Mem.next 2 H rfl (k + 1)
    have Lrs:=H.c3 0 rfl
    have Lwd:=H.c3 1 rfl
    have Nrswd:=H.ne2 0 1 rfl rfl rfl
    go_wp2_with fail
    refine (hti _).mono ?_
    rintro e wa ⟨p0,p1,p2,c,l0,l1,l2,lc,hp,rfl,hba⟩
    have hc0:c = 0:=rd_c hp.out HS.out HL.out HV.out
    subst hc0
    have HP:=Lib.hid (rd_p hp.out)
    have hpi:=fun W => plus_is p0 p1 p2 d W l0 l1 l2 (by omega)
    obtain ⟨U,hU⟩:∃ U,val3 p0 p1 p2 = U:=⟨_,rfl⟩
    rw [hU] at hpi HP
    replace H:=Mem.call H hba
    clear Lrs Lwd Nrswd
    have Lrs:=H.c3 0 rfl
    have Lwd:=H.c3 1 rfl
    have Nrswd:=H.ne2 0 1 rfl rfl rfl
    clear hba hti hp l0 l1 l2 lc hU
    go_wp2_with fail
    replace H:=H.al wa.heap.size #[.int .u32 ↑p0,.int .u32 ↑p1,.int .u32 ↑p2] (288) |>.gen
    simp only [List.cons_append,List.nil_append] at H
    obtain ⟨wb,hwb,H⟩:=H
    rw [hwb]
    clear hwb
    rw [show (48 + (d:Int) - 48) = (d:Int) by omega]
    with_reducible refine (hpi _).mono ?_
    rintro e wc ⟨q0,q1,q2,f,l0,l1,l2,lf,hq,rfl,hbc⟩
    have hf0:f = 0:=rd_f hq.out HP.out HS.out HL.out HV.out
    subst hf0
    have HQ:=Lib.hid (rd_q hq.out HP.out HS.out)
    replace H:=Mem.call H hbc
    clear Lrs Lwd Nrswd
    have Lrs:=H.c3 0 rfl
    have Lwd:=H.c3 1 rfl
    have Lnx:=H.c3 3 rfl
    have Nrswd:=H.ne2 0 1 rfl rfl rfl
    have Nrsnx:=H.ne2 0 3 rfl rfl rfl
    have Nwdnx:=H.ne2 1 3 rfl rfl rfl
    clear hbc hpi hq lf
    go_wp2
    replace H:=H.set 3 rfl 0 (.int .u32 ↑q0) |>.set 3 rfl 1 (.int .u32 ↑q1) |>.set 3 rfl 2 (.int .u32 ↑q2) |>.set 1 rfl 0 (.int .u32 ↑q0) |>.set 1 rfl 1 (.int .u32 ↑q1) |>.set 1 rfl 2 (.int .u32 ↑q2) |>.gen
    simp only [List.set_cons_zero,List.set_cons_succ,List.setIfInBounds_toArray] at H
    obtain ⟨wd,hwd,H⟩:=H
    rw [hwd]
    clear hwd
    go_roundw
    case rel => exact ⟨k + 1,q0,q1,q2,by omega,l0,l1,l2,by rw [HT.out];exact HQ,rfl,Mem.drop_ 3 H⟩
    case measure =>
     have h9:=iterPos_of (H.obj_ 2 rfl)
     have h8:=iterPos_of HIT.out
     omega
   ·have hnx:=fun ty => Lib.run_next_end_at (P:=Tryz.prog) wr (w.heap.size + 1 + 1) (dstr l) k ty hit (by rw [hsz];exact hlt)
    have hkl:k = l.length:=by omega
    rw [hkl,List.take_length,HN.out] at hy
    clear hkl
    skip
    have Lrs:=H.c3 0 rfl
    have Lwd:=H.c3 1 rfl
    have Nrswd:=H.ne2 0 1 rfl rfl rfl
    clear hit
    go_wp2
    replace H:=H.set 0 rfl 0 (.int .u32 ↑y0) |>.set 0 rfl 1 (.int .u32 ↑y1) |>.set 0 rfl 2 (.int .u32 ↑y2) |>.gen
    simp only [List.set_cons_zero,List.setIfInBounds_toArray,List.set_cons_succ] at H
    obtain ⟨we,hwe,H⟩:=H
    rw [hwe]
    clear hwe
    clear Lrs Lwd Nrswd
    obtain ⟨rslt,rs0,-,rs1,-,rs2,-⟩:=H.c3 0 rfl
    refine bodyPost_ret (v:=.tuple #[.agg #[.int .u32 ↑y0,.int .u32 ↑y1,.int .u32 ↑y2],()]) (by simp [results,Tryz.results186,go_sem,rs0,rs1,rs2];done) rfl ?_
    exact ⟨y0,y1,y2,k0,k1,k2,hy,rfl,H.below⟩
end Go.Proofs.YtfgiehkfcoodbaaGreat
