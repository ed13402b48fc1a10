/- account.Owe: one debt more. -/
import Derived.Test.YtfgiehkfcoodbaaGreatM0
import Derived.Test.YtfgiehkfcoodbaaGreatM19
import Derived.Test.YtfgiehkfcoodbaaGreatM17
import Derived.Deep.RegionLaw
import Derived.Test.YtfgiehkfcoodbaaGreatM18
namespace Go.Proofs.YtfgiehkfcoodbaaGreat
open Go.RowKit
set_option linter.unusedVariables false
set_option maxRecDepth 100000
set_option maxHeartbeats 16000000
section
variable {P:Program}
theorem step_pushN {ops:Array Oper} {o:Oper} {a:Act} {K:Act → World → Prop} {Q:Exit → Act → World → Prop} {F:Prop} {t e:TypeId} {size bytes:Nat} (E:Elem P t e size bytes) (hgd:o.guard = none) (s x:Operand)
 (ho:o.op = .call { callee:=.builtin .append,args:=#[s,x],argTypes:=#[t,t] })
 (W:World) (base:Nat) (v:Value) (n:Nat) (xs:List Value) (hs:a.eval s = v) (hown:W.ownsRow base e size v n xs) (B:Nat) (A:Option Addr) (m c:Nat) (news:List Value)
 (hx:a.eval x = .slice A m c) (hr:Rd W B size A m news) (h1:∀ u ∈ news,u.oneCell' = true) (hbytes:(n + m) * bytes ≤ 140737488355328) (hmax:n + m ≤ maxLen) (w0:World) (hw0:Below base w0 W) (hbase0:base ≤ w0.heap.size)
 (h:∀ A' c' w',w'.ownsRow base e size (.slice A' (n + m) c') (n + m) (xs ++ news) → Below base w0 w' → K (a.put o.dst (.slice A' (n + m) c')) w') :
 if Region.wanted o (yielded ops a.tmps) = true then Oper.wp P o a W K Q else F:=by
 have hbase:base ≤ W.heap.size:=Nat.le_trans hbase0 hw0.size
 rcases A with _ | ad
 ·have hm:m = 0:=by
   rcases Nat.eq_zero_or_pos m with h0 | h0
   ·exact h0
   ·obtain ⟨b,off,h,_⟩:=hr.2 h0
    cases h
  subst hm
  have hn:news = []:=List.eq_nil_of_length_eq_zero (by simpa using hr.1)
  subst hn
  obtain ⟨A',c',rfl⟩:=own_slice hown
  have hh:=h A' c' W (by simpa using hown) hw0
  have hrun:=run_append_empty (P:=P) (ty:=o.type) E hown c
  have hw:Region.wanted o (yielded ops a.tmps) = true:=by simp [Region.wanted,hgd]
  rw [if_pos hw]
  unfold Oper.wp
  simp [execOp,ho,resolve,invoke,builtin,hs,hx,hrun,Result.andThen]
  exact hh
 ·obtain ⟨i,z,hi,hz,hsize,hby,hzs⟩:=E.info
  have hcells:∀ j u,news[j]? = some u → W.cell? (ad.add j) = some u:=by
   intro j u hu
   rcases Nat.eq_zero_or_pos m with h0 | h0
   ·subst h0
    have hn:news = []:=List.eq_nil_of_length_eq_zero (by simpa using hr.1)
    subst hn
    simp at hu
   ·obtain ⟨b,off,h,_,hc⟩:=hr.2 h0
    injection h with h
    subst h
    rw [add_none]
    exact hc j u hu
  have hw:Region.wanted o (yielded ops a.tmps) = true:=by simp [Region.wanted,hgd]
  rw [if_pos hw]
  refine wp_append_own W s x t ho base e i z size bytes E.und hi hz hsize hby hzs E.pos v n xs hs hown ad m c news hx hr.1 hcells h1 hmax hbytes hbase ?_
  intro v' w' ho' hg _
  obtain ⟨A',c',rfl⟩:=own_slice ho'
  exact h A' c' w' ho' (hw0.grown hg hbase (fun k hk => (hown.lt k hk).1))
end
def RetOwe (E me rev next month bought:Nat) (free:Int) (l:List (Nat × Nat)) (w:World) (e:Ending) (w':World):Prop :=
 ∃ (A2:Option Addr) (c2:Nat),e = .returned (.tuple #[.agg #[me,rev,next,month,bought,free,.slice A2 l.length c2],E]) ∧ w'.ownsRow w.heap.size 90 2 (.slice A2 l.length c2) l.length (drs l) ∧ Below w.heap.size w w'
theorem owe_full (me rev next month bought ow bp:Nat) (free:Int) (A:Option Addr) (c:Nat) (l:List (Nat × Nat)) (w:World) (hv:IsDs w (.slice A 8 c) l) (hl:DOk l) (ha:AOk me rev next month bought free) (h1:1 ≤ ow) (h2:ow ≤ 1000000000) (h3:bp ≤ 10000) :
 Calls Tryz.prog 91 #[.agg #[me,rev,next,month,bought,free,.slice A 8 c],.agg #[ow,bp]] w (RetOwe 16 0 0 0 0 0 0 [] w):=by
 have hM:=fun W h => amay_ok me rev next month bought free A 8 c l W h hl ha
 clear ha hl
 have H:=Mem.init w
 replace H:=H.al w.heap.size #[me,rev,next,month,bought,free,.slice A 8 c] (64) |>.al (w.heap.size + 1) #[ow,bp] (90) |>.al (w.heap.size + 1 + 1) #[(),(),(),(),(),(),.slice none 0 0] (64) |>.gen
 simp only [List.nil_append,List.cons_append] at H
 obtain ⟨W0,hW0,H⟩:=H
 have hv0:=hv.below H.below
 clear hv
 have La:=H.c7 0 rfl
 go_enter Tryz.func91,Tryz.ntmps91
 go_wp2_with fail
 refine (hM _ hv0).mono ?_
 rintro e w1 ⟨rfl,hb1⟩
 replace H:=Mem.call H hb1
 clear La
 have La:=H.c7 0 rfl
 have Ld:=H.c2 1 rfl
 have Lx:=H.c7 2 rfl
 have Nad:=H.ne2 0 1 rfl rfl rfl
 have Nax:=H.ne2 0 2 rfl rfl rfl
 have Ndx:=H.ne2 1 2 rfl rfl rfl
 clear hM hb1 hW0 hv0
 go_wp2_with (go_at_call 62;refine (within_yes _ _ _ _ (by omega) (by omega)).mono ?_;rintro e w' ⟨rfl,rfl⟩)
 replace H:=H.set 2 rfl 0 () |>.set 2 rfl 1 () |>.set 2 rfl 2 () |>.set 2 rfl 3 () |>.set 2 rfl 4 () |>.set 2 rfl 5 () |>.set 2 rfl 6 (.slice none 0 0) |>.gen
 simp only [List.set_cons_zero,List.set_cons_succ,List.setIfInBounds_toArray] at H
 obtain ⟨W5,hW5,H⟩:=H
 rw [hW5]
 clear hW5
 clear La Ld Lx Nad Nax Ndx
 obtain ⟨xlt,x0,-,x1,-,x2,-,x3,-,x4,-,x5,-,x6,-⟩:=H.c7 2 rfl
 refine bodyPost_ret (v:=.tuple #[.agg #[(),(),(),(),(),(),.slice none 0 0],.int .i64 16]) (by simp [results,Tryz.results91,go_sem,x0,x1,x2,x3,x4,x5,x6];done) rfl ?_
 exact ⟨none,0,rfl,World.ownsRow_nil _ _ _ _,H.below⟩
theorem owe_more (me rev next month bought ow bp n1:Nat) (free:Int) (A:Option Addr) (n c:Nat) (l:List (Nat × Nat)) (w:World) (hv:IsDs w (.slice A n c) l) (hl:DOk l) (ha:AOk me rev next month bought free) (h1:1 ≤ ow) (h2:ow ≤ 1000000000) (h3:bp ≤ 10000) (h8:l.length < 8) :
 Calls Tryz.prog 91 #[.agg #[me,rev,next,month,bought,free,.slice A n c],.agg #[ow,bp]] w (RetOwe 0 me rev next month bought free (l ++ [(ow,bp)]) w):=by
 have hM:=fun W h => amay_ok me rev next month bought free A n c l W h hl ha
 obtain ⟨A',c',hAc⟩:∃ A' c',(Value.slice A n c) = .slice A' l.length c':=by obtain ⟨X,y,h,_⟩:=hv;exact ⟨X,y,h⟩
 rw [hAc] at hv hM ⊢
 have g8:((l.length:Int) == 8) = false:=by simp;omega
 have gn8:¬ (l.length:Int) = 8:=by omega
 clear ha hl hAc
 have H:=Mem.init w
 replace H:=H.al w.heap.size #[me,rev,next,month,bought,free,.slice A' l.length c'] (64) |>.al (w.heap.size + 1) #[ow,bp] (90) |>.al (w.heap.size + 1 + 1) #[(),(),(),(),(),(),.slice none 0 0] (64) |>.gen
 simp only [List.nil_append,List.cons_append] at H
 obtain ⟨W0,hW0,H⟩:=H
 have hv0:=hv.below H.below
 clear hv
 have La:=H.c7 0 rfl
 go_enter Tryz.func91,Tryz.ntmps91
 go_wp2_with fail
 refine (hM _ hv0).mono ?_
 rintro e w1 ⟨rfl,hb1⟩
 have hv1:=hv0.below hb1
 replace H:=Mem.call H hb1
 clear La
 obtain ⟨alt,a0,-,a1,-,a2,-,a3,-,a4,-,a5,-,a6,-⟩:=H.c7 0 rfl
 obtain ⟨dlt,d0,-,d1,-⟩:=H.c2 1 rfl
 have Lx:=H.c7 2 rfl
 have Nad:=H.ne2 0 1 rfl rfl rfl
 have Nax:=H.ne2 0 2 rfl rfl rfl
 have Ndx:=H.ne2 1 2 rfl rfl rfl
 clear hM hb1 hW0 hv0
 have hrd:Rd w1 w1.heap.size 2 A' l.length (drs l):=by obtain ⟨X,y,h,_,_,h3⟩:=hv1;injection h with h _ _;subst h;exact h3
 go_upto_region 7 with (go_at_call 62;refine (within_yes _ _ _ _ (by omega) (by omega)).mono ?_;rintro e w' ⟨rfl,rfl⟩)
 have a6v:=a6
 have hneD:∀ k:Nat,w1.heap.size ≤ k → k ≠ w.heap.size ∧ k ≠ w.heap.size + 1 ∧ w.heap.size ≠ k ∧ w.heap.size + 1 ≠ k:=fun k hk => by have h1:=alt;have h2:=dlt;omega
 have n0:=(hneD w1.heap.size (Nat.le_refl _))
 obtain ⟨nA,nB,nC,nD⟩:=n0
 have hone:∀ u ∈ [Value.int .i64 ↑ow,Value.int .i64 ↑bp],u.oneCell' = true:=fun u hu => by simp at hu;rcases hu with rfl | rfl <;> rfl
 have hq1:(0 + l.length) * 16 ≤ 140737488355328:=by omega
 have hq2:0 + l.length ≤ maxLen:=by unfold maxLen;omega
 have hq3:(l.length + 1) * 16 ≤ 140737488355328:=by omega
 have hq4:l.length + 1 ≤ maxLen:=by unfold maxLen;omega
 have hrdA:Rd w1.drew w1.heap.size 2 A' l.length (drs l):=hrd
 have hrdB:Rd (w1.alloc (.cells #[ow,bp] 90)).drew w1.heap.size 2 A' l.length (drs l):=hrd.below (w':=(w1.alloc (.cells #[ow,bp] 90)).drew) (below_ad (Below.refl _ _) (Nat.le_refl _) _)
 have V0:Below w1.heap.size w1 w1.drew:=below_draws (Below.refl _ _) 1
 have V1:Below w1.heap.size w1 (w1.alloc (.cells #[ow,bp] 90)).drew:=below_ad (Below.refl _ _) (Nat.le_refl _) _
 have hsz1:w1.heap.size + 1 ≤ (w1.alloc (.cells #[ow,bp] 90)).drew.heap.size:=by simp
 have VB:Blk (w1.alloc (.cells #[ow,bp] 90)).drew w1.heap.size 90 #[ow,bp]:=(show Blk (w1.alloc (.cells #[ow,bp] 90)) w1.heap.size 90 #[ow,bp] from Blk.new _ _ _)
 go_cut [] (fun wx => ∃ (A2:Option Addr) (c2:Nat),Mem (w) [] (wx) [.blk (w.heap.size) 64 #[me,rev,next,month,bought,free,.slice A2 (l.length + 1) c2],.blk (w.heap.size + 1) 90 #[ow,bp],.blk (w.heap.size + 1 + 1) 64 #[(),(),(),(),(),(),.slice none 0 0],.row (w1.heap.size) (90) (2) (.slice A2 (l.length + 1) c2) (l.length + 1) (drs l ++ [.int .i64 ↑ow,.int .i64 ↑bp])])
 case first =>
  go_region_law (first | ((refine step_pushN el_d (by rfl) (.const (.slice none 0 0)) (.tmp 27) (by rfl) w1.drew w1.heap.size _ 0 [] (by rfl) (World.ownsRow_nil _ _ _ _) w1.heap.size A' l.length c' (drs l) (by rfl) hrdA (drs_one l) hq1 hq2 w1 V0 (Nat.le_refl _) ?_);intro A1 c1 wx hown1 hbx;have hown1:=(show wx.ownsRow w1.heap.size 90 2 (.slice A1 l.length c1) l.length (drs l) by simpa only [Nat.zero_add,List.nil_append] using hown1);have sz:=hbx.size;have m1:wx.heap.size ≠ w.heap.size:=(by have:=alt;omega);have m2:wx.heap.size ≠ w.heap.size + 1:=(by have:=dlt;omega);have m3:w.heap.size ≠ wx.heap.size:=(Ne.symm m1);have m4:w.heap.size + 1 ≠ wx.heap.size:=(Ne.symm m2);have s0:=(hbx.cell (p:=⟨w.heap.size,6,none⟩) alt).trans a6;have s1:=(hbx.cell (p:=⟨w.heap.size + 1,0,none⟩) dlt).trans d0;have s2:=(hbx.cell (p:=⟨w.heap.size + 1,1,none⟩) dlt).trans d1) | ((refine step_pushN el_d (by rfl) (.const (.slice none 0 0)) (.tmp 27) (by rfl) (w1.alloc (.cells #[ow,bp] 90)).drew (w1.heap.size + 1) _ 0 [] (by rfl) (World.ownsRow_nil _ _ _ _) w1.heap.size A' l.length c' (drs l) (by rfl) hrdB (drs_one l) hq1 hq2 (w1.alloc (.cells #[ow,bp] 90)).drew (Below.refl _ _) hsz1 ?_);intro A1 c1 wx hown1 hbz;have hown1:=(show wx.ownsRow (w1.heap.size + 1) 90 2 (.slice A1 l.length c1) l.length (drs l) by simpa only [Nat.zero_add,List.nil_append] using hown1);have hbx:=V1.trans (hbz.mono (Nat.le_succ _));have hdb:=Blk.below VB hbz (Nat.lt_succ_self _);have sz:=hbx.size;have m1:wx.heap.size ≠ w.heap.size:=(by have:=alt;omega);have m2:wx.heap.size ≠ w.heap.size + 1:=(by have:=dlt;omega);have m3:w.heap.size ≠ wx.heap.size:=(Ne.symm m1);have m4:w.heap.size + 1 ≠ wx.heap.size:=(Ne.symm m2);have s0:=(hbx.cell (p:=⟨w.heap.size,6,none⟩) alt).trans a6;have s1:=(hbx.cell (p:=⟨w.heap.size + 1,0,none⟩) dlt).trans d0;have s2:=(hbx.cell (p:=⟨w.heap.size + 1,1,none⟩) dlt).trans d1) | ((refine step_push el_d (by rfl) (.tmp 28) (.tmp 30) (by rfl) _ (w1.heap.size) (wx.heap.size) _ l.length _ [.int .i64 ↑ow,.int .i64 ↑bp] (by rfl) (hown1.alloc _) (by rfl) (heap_alloc_new wx _) rfl hone hq3 hq4 (w1) (hbx.alloc hbx.size _) (Nat.le_refl _) ?_);intro A2 c2 wy hown2 hby;skip;have s0:=(hby.cell (p:=⟨w.heap.size,6,none⟩) alt).trans a6;have s1:=(hby.cell (p:=⟨w.heap.size + 1,0,none⟩) dlt).trans d0;have s2:=(hby.cell (p:=⟨w.heap.size + 1,1,none⟩) dlt).trans d1;have sf:=((Mem.call H hby).blk 0 rfl).frozen 6;have ylt:=Nat.lt_of_lt_of_le alt hby.size) | ((refine step_push el_d (by rfl) (.tmp 28) (.tmp 30) (by rfl) _ (w1.heap.size + 1) (w1.heap.size) _ l.length _ [.int .i64 ↑ow,.int .i64 ↑bp] (by rfl) (hown1) (by rfl) (hdb) rfl hone hq3 hq4 ((w1.alloc (.cells #[ow,bp] 90)).drew) (hbz) (hsz1) ?_);intro A2 c2 wy hown2 hby;have hown2:=own_mono hown2 (Nat.le_succ _);have hby:=V1.trans (hby.mono (Nat.le_succ _));have s0:=(hby.cell (p:=⟨w.heap.size,6,none⟩) alt).trans a6;have s1:=(hby.cell (p:=⟨w.heap.size + 1,0,none⟩) dlt).trans d0;have s2:=(hby.cell (p:=⟨w.heap.size + 1,1,none⟩) dlt).trans d1;have sf:=((Mem.call H hby).blk 0 rfl).frozen 6;have ylt:=Nat.lt_of_lt_of_le alt hby.size))
  all_goals
   go_wp2_with fail
   go_meet
   have HH:=Mem.row H hby hown2 (Nat.le_refl _)
   first
   | exact ⟨A2,c2,Mem.set 0 HH rfl 6 (.slice A2 (l.length + 1) c2)⟩
   | skip
 case rest =>
  obtain ⟨A2,c2,H⟩:=hcut
  have H:Mem (w) [] (wc) [.blk (w.heap.size) 64 #[me,rev,next,month,bought,free,.slice A2 (l.length + 1) c2],.blk (w.heap.size + 1) 90 #[ow,bp],.blk (w.heap.size + 1 + 1) 64 #[(),(),(),(),(),(),.slice none 0 0],.row (w1.heap.size) (90) (2) (.slice A2 (l.length + 1) c2) (l.length + 1) (drs l ++ [.int .i64 ↑ow,.int .i64 ↑bp])]:=H
  clear alt a0 a1 a2 a3 a4 a5 a6 dlt d0 d1 Lx Nad Nax Ndx
  have La:=H.c7 0 rfl
  have Lx:=H.c7 2 rfl
  have Nax:=H.ne2 0 2 rfl rfl rfl
  go_wp2
  replace H:=H.set 2 rfl 0 me |>.set 2 rfl 1 rev |>.set 2 rfl 2 next |>.set 2 rfl 3 month |>.set 2 rfl 4 bought |>.set 2 rfl 5 free |>.set 2 rfl 6 (.slice A2 (l.length + 1) c2) |>.gen
  simp only [List.set_cons_zero,List.set_cons_succ,List.setIfInBounds_toArray] at H
  obtain ⟨W5,hW5,H⟩:=H
  rw [hW5]
  clear hW5
  clear La Lx Nax
  obtain ⟨xlt,x0,-,x1,-,x2,-,x3,-,x4,-,x5,-,x6,-⟩:=H.c7 2 rfl
  refine bodyPost_ret (v:=.tuple #[.agg #[me,rev,next,month,bought,free,.slice A2 (l.length + 1) c2],()]) (by simp [results,Tryz.results91,go_sem,x0,x1,x2,x3,x4,x5,x6];done) rfl ?_
  have hl1:(l ++ [(ow,bp)]).length = l.length + 1:=by simp
  have hd1:drs (l ++ [(ow,bp)]) = drs l ++ [.int .i64 ↑ow,.int .i64 ↑bp]:=by rw [drs_append];rfl
  unfold RetOwe
  rw [hl1,hd1]
  exact ⟨A2,c2,rfl,H.ownb 3 rfl,H.below⟩
end Go.Proofs.YtfgiehkfcoodbaaGreat
namespace Go.Proofs.YtfgiehkfcoodbaaGreat
open Go.RowKit
set_option linter.unusedVariables false
set_option maxRecDepth 100000
set_option maxHeartbeats 16000000
def RetDI (E me rev next month bought:Nat) (free:Int) (l:List (Nat × Nat)) (id te de fe pr ch un:Nat) (w:World) (e:Ending) (w':World):Prop :=
 ∃ (A2:Option Addr) (c2:Nat),e = .returned (.tuple #[.agg #[me,rev,next,month,bought,free,.slice A2 l.length c2],.agg #[id,te,de,fe,pr,ch,un],E]) ∧ w'.ownsRow w.heap.size 90 2 (.slice A2 l.length c2) l.length (drs l) ∧ Below w.heap.size w w'
theorem triple {E E':Nat} {a a':Acc} {b b':Bil} (h:(E,a,b) = (E',a',b')):E = E' ∧ a = a' ∧ b = b':=by
 injection h with h1 h;injection h with h2 h3;exact ⟨h1,h2,h3⟩
theorem acc_inj {a b c d e a' b' c' d' e':Nat} {f f':Int} {l l':List (Nat × Nat)} (h:Acc.mk a b c d e f l = Acc.mk a' b' c' d' e' f' l'):a = a' ∧ b = b' ∧ c = c' ∧ d = d' ∧ e = e' ∧ f = f' ∧ l = l':=by
 injection h with h1 h2 h3 h4 h5 h6 h7;exact ⟨h1,h2,h3,h4,h5,h6,h7⟩
theorem bil_inj {a b c d e f g a' b' c' d' e' f' g':Nat} (h:Bil.mk a b c d e f g = Bil.mk a' b' c' d' e' f' g'):a = a' ∧ b = b' ∧ c = c' ∧ d = d' ∧ e = e' ∧ f = f' ∧ g = g':=by
 injection h with h1 h2 h3 h4 h5 h6 h7;exact ⟨h1,h2,h3,h4,h5,h6,h7⟩
theorem sell_all (me rev next month bought:Nat) (free:Int) (A:Option Addr) (n c:Nat) (l:List (Nat × Nat)) (At:Option Addr) (nt ct fx fb db al:Nat) (tl:List (Nat × Nat)) (t m E me2 rev2 next2 month2 bought2:Nat) (free2:Int) (l2:List (Nat × Nat)) (id te de fe pr ch un:Nat) (w:World)
 (hv:IsDs w (.slice A n c) l) (hl:DOk l) (ha:AOk me rev next month bought free) (hv2:IsDs w (.slice At nt ct) tl) (hl2:TOk tl) (ht:TmOk fx fb db al) (h1:1 ≤ t) (h9:t ≤ 100000000) (hm:m ≤ 2399) (hnx:next ≤ 1048575)
 (hR:Hid (sellP ⟨tl,fx,fb,db,al⟩ ⟨me,rev,next,month,bought,free,l⟩ t m = (E,⟨me2,rev2,next2,month2,bought2,free2,l2⟩,⟨id,te,de,fe,pr,ch,un⟩))) :
 Calls Tryz.prog 20 #[.agg #[me,rev,next,month,bought,free,.slice A n c],.agg #[.slice At nt ct,fx,fb,db,al],t,m] w (RetDI E me2 rev2 next2 month2 bought2 free2 l2 id te de fe pr ch un w):=by
 have h:=hR.out
 clear hR
 unfold sellP at h
 dsimp only at h
 by_cases g1:m < month
 ·rw [if_pos g1] at h
  obtain ⟨rfl,ea,eb⟩:=triple h
  obtain ⟨rfl,rfl,rfl,rfl,rfl,rfl,rfl⟩:=acc_inj ea
  obtain ⟨rfl,rfl,rfl,rfl,rfl,rfl,rfl⟩:=bil_inj eb
  refine (sellX_early me rev next month bought free A n c l At nt ct fx fb db al tl m (t:Int) w hv hl ha hv2 hl2 ht hm g1).mono ?_
  rintro e w' ⟨rfl,hb⟩
  exact ⟨none,0,rfl,World.ownsRow_nil _ _ _ _,hb⟩
 ·rw [if_neg g1] at h
  have hr:=rolled_P (b:=bought) (l:=l) (show month ≤ m by omega)
  generalize rollP month bought l m = r at h hr
  obtain ⟨b2,lr⟩:=r
  dsimp only at h hr
  generalize hrc:recov (t * db / 10000) lr = rc at h
  obtain ⟨paid,out⟩:=rc
  dsimp only at h
  have hb2:b2 ≤ 10000000:=by have:=ha.h6;rcases hr with ⟨_,h,_⟩ | ⟨_,h,_⟩ <;> omega
  have hS3:(t:Int) * (db:Int) / 10000 = ((t * db / 10000:Nat):Int):=by rw [← Int.natCast_mul];rfl
  have hS5:(t:Int) * (fb:Int) / 10000 = ((t * fb / 10000:Nat):Int):=by rw [← Int.natCast_mul];rfl
  generalize hSS:t * db / 10000 = S at h hrc hS3
  generalize hff:t * fb / 10000 = f0 at h hS5
  obtain ⟨F,hF⟩:∃ F,fx + f0 = F:=⟨_,rfl⟩
  rw [hF] at h
  have hno:∀ li:Int,li = (t:Int) - (paid:Int) - (F:Int) → (li < 0 ∨ ∃ left:Nat,li = (left:Int) ∧ most (pcs tl b2) left 0 0 = (0,0)) → (19,acc0,bil0) = (E,Acc.mk me2 rev2 next2 month2 bought2 free2 l2,Bil.mk id te de fe pr ch un) →
   Calls Tryz.prog 20 #[.agg #[me,rev,next,month,bought,free,.slice A n c],.agg #[.slice At nt ct,fx,fb,db,al],t,m] w (RetDI E me2 rev2 next2 month2 bought2 free2 l2 id te de fe pr ch un w):=by
   intro li e1 e2 h
   obtain ⟨rfl,ea,eb⟩:=triple h
   obtain ⟨rfl,rfl,rfl,rfl,rfl,rfl,rfl⟩:=acc_inj ea
   obtain ⟨rfl,rfl,rfl,rfl,rfl,rfl,rfl⟩:=bil_inj eb
   refine (sellX_no me rev next month bought free A n c l At nt ct fx fb db al tl m b2 lr t S paid f0 F li out w hv hl ha hv2 hl2 ht hr hm ⟨h1,h9,hS3,hrc,hS5,hF.symm,e1,e2⟩).mono ?_
   rintro e w' ⟨rfl,hb⟩
   exact ⟨none,0,rfl,World.ownsRow_nil _ _ _ _,hb⟩
  by_cases g2:t < paid + F
  ·rw [if_pos g2] at h
   exact hno _ rfl (.inl (by omega)) h
  ·rw [if_neg g2] at h
   generalize hmo:most (pcs tl b2) (t - paid - F) 0 0 = mo at h
   obtain ⟨U,P⟩:=mo
   dsimp only at h
   have hML:=most_law hl2 hb2 hmo
   by_cases g3:U = 0
   ·subst g3
    rw [if_pos rfl] at h
    have hP:=hML.1
    rw [cost_zero] at hP
    subst hP
    exact hno _ rfl (.inr ⟨t - paid - F,by omega,hmo⟩) h
   ·rw [if_neg g3] at h
    obtain ⟨rfl,ea,eb⟩:=triple h
    obtain ⟨rfl,rfl,rfl,rfl,rfl,rfl,rfl⟩:=acc_inj ea
    obtain ⟨rfl,rfl,rfl,rfl,rfl,rfl,rfl⟩:=bil_inj eb
    refine (sellX_yes me rev next month bought free A n c l At nt ct fx fb db al tl m b2 lr t S paid f0 F (t - paid - F) U P out (next + 1) (b2 + U) (t - paid - F - P) w hv hl ha hv2 hl2 ht hr hm ⟨h1,h9,hS3,hrc,hS5,hF.symm,by omega,hmo⟩ (by omega) hnx (Lib.hid rfl) (Lib.hid rfl) (Lib.hid (by have:=hML.2.1;omega))).mono ?_
    rintro e w' ⟨A2,c2,rfl,ho,hb⟩
    exact ⟨A2,c2,rfl,ho,hb⟩
theorem grant_all (me rev next month bought:Nat) (free:Int) (A:Option Addr) (n c:Nat) (l:List (Nat × Nat)) (At:Option Addr) (nt ct fx fb db al:Nat) (tl:List (Nat × Nat)) (m E me2 rev2 next2 month2 bought2:Nat) (free2:Int) (l2:List (Nat × Nat)) (id te de fe pr ch un:Nat) (w:World)
 (hv:IsDs w (.slice A n c) l) (hl:DOk l) (ha:AOk me rev next month bought free) (hv2:IsDs w (.slice At nt ct) tl) (hl2:TOk tl) (ht:TmOk fx fb db al) (hm:m ≤ 2399) (hnx:next ≤ 1048575)
 (hR:Hid (grantP ⟨tl,fx,fb,db,al⟩ ⟨me,rev,next,month,bought,free,l⟩ m = (E,⟨me2,rev2,next2,month2,bought2,free2,l2⟩,⟨id,te,de,fe,pr,ch,un⟩))) :
 Calls Tryz.prog 99 #[.agg #[me,rev,next,month,bought,free,.slice A n c],.agg #[.slice At nt ct,fx,fb,db,al],m] w (RetDI E me2 rev2 next2 month2 bought2 free2 l2 id te de fe pr ch un w):=by
 have h:=hR.out
 clear hR
 unfold grantP at h
 dsimp only at h
 by_cases g1:m < month
 ·rw [if_pos g1] at h
  obtain ⟨rfl,ea,eb⟩:=triple h
  obtain ⟨rfl,rfl,rfl,rfl,rfl,rfl,rfl⟩:=acc_inj ea
  obtain ⟨rfl,rfl,rfl,rfl,rfl,rfl,rfl⟩:=bil_inj eb
  refine (grant_early me rev next month bought free A n c l At nt ct fx fb db al tl m w hv hl ha hv2 hl2 ht hm g1).mono ?_
  rintro e w' ⟨rfl,hb⟩
  exact ⟨none,0,rfl,World.ownsRow_nil _ _ _ _,hb⟩
 ·rw [if_neg g1] at h
  have hr:=rolled_P (b:=bought) (l:=l) (show month ≤ m by omega)
  generalize rollP month bought l m = r at h hr
  obtain ⟨b2,lr⟩:=r
  dsimp only at h hr
  by_cases g2:al = 0
  ·subst g2
   rw [if_pos rfl] at h
   obtain ⟨rfl,ea,eb⟩:=triple h
   obtain ⟨rfl,rfl,rfl,rfl,rfl,rfl,rfl⟩:=acc_inj ea
   obtain ⟨rfl,rfl,rfl,rfl,rfl,rfl,rfl⟩:=bil_inj eb
   refine (grant_none me rev next month bought free A n c l At nt ct fx fb db tl m b2 lr w hv hl ha hv2 hl2 ht hr hm).mono ?_
   rintro e w' ⟨rfl,hb⟩
   exact ⟨none,0,rfl,World.ownsRow_nil _ _ _ _,hb⟩
  ·rw [if_neg g2] at h
   by_cases g3:free = (m:Int)
   ·rw [if_pos g3] at h
    subst g3
    obtain ⟨rfl,ea,eb⟩:=triple h
    obtain ⟨rfl,rfl,rfl,rfl,rfl,rfl,rfl⟩:=acc_inj ea
    obtain ⟨rfl,rfl,rfl,rfl,rfl,rfl,rfl⟩:=bil_inj eb
    refine (grant_twice me rev next month bought A n c l At nt ct fx fb db al tl m b2 lr w hv hl ha hv2 hl2 ht hr hm (by omega)).mono ?_
    rintro e w' ⟨rfl,hb⟩
    exact ⟨none,0,rfl,World.ownsRow_nil _ _ _ _,hb⟩
   ·rw [if_neg g3] at h
    obtain ⟨rfl,ea,eb⟩:=triple h
    obtain ⟨rfl,rfl,rfl,rfl,rfl,rfl,rfl⟩:=acc_inj ea
    obtain ⟨rfl,rfl,rfl,rfl,rfl,rfl,rfl⟩:=bil_inj eb
    refine (grant_own me rev next month bought free A n c l At nt ct fx fb db al tl m b2 (next + 1) lr w hv hl ha hv2 hl2 ht hr hm (by omega) g3 hnx (Lib.hid rfl)).mono ?_
    rintro e w' ⟨A2,c2,rfl,hd,hb⟩
    exact ⟨A2,c2,rfl,hd,hb⟩
theorem rekey_all (me rev next month bought:Nat) (free:Int) (A:Option Addr) (n c:Nat) (l:List (Nat × Nat)) (E me2 rev2 next2 month2 bought2:Nat) (free2:Int) (l2:List (Nat × Nat)) (id te de fe pr ch un:Nat) (w:World)
 (hv:IsDs w (.slice A n c) l) (hl:DOk l) (ha:AOk me rev next month bought free) (hnx:next ≤ 1048575)
 (hR:Hid (rekeyP ⟨me,rev,next,month,bought,free,l⟩ = (E,⟨me2,rev2,next2,month2,bought2,free2,l2⟩,⟨id,te,de,fe,pr,ch,un⟩))) :
 Calls Tryz.prog 100 #[.agg #[me,rev,next,month,bought,free,.slice A n c]] w (RetDI E me2 rev2 next2 month2 bought2 free2 l2 id te de fe pr ch un w):=by
 have h:=hR.out
 clear hR
 unfold rekeyP at h
 dsimp only at h
 by_cases g1:rev = 15
 ·subst g1
  rw [if_pos rfl] at h
  obtain ⟨rfl,ea,eb⟩:=triple h
  obtain ⟨rfl,rfl,rfl,rfl,rfl,rfl,rfl⟩:=acc_inj ea
  obtain ⟨rfl,rfl,rfl,rfl,rfl,rfl,rfl⟩:=bil_inj eb
  refine (rekey_no me next month bought free A n c l w hv hl ha).mono ?_
  rintro e w' ⟨A2,c2,rfl,ho,hb⟩
  exact ⟨A2,c2,rfl,ho,hb⟩
 ·rw [if_neg g1] at h
  obtain ⟨rfl,ea,eb⟩:=triple h
  obtain ⟨rfl,rfl,rfl,rfl,rfl,rfl,rfl⟩:=acc_inj ea
  obtain ⟨rfl,rfl,rfl,rfl,rfl,rfl,rfl⟩:=bil_inj eb
  refine (rekey_yes me rev next month bought (rev + 1) (next + 1) free A n c l w hv hl ha (by have:=ha.h2;omega) hnx (Lib.hid rfl) (Lib.hid rfl)).mono ?_
  rintro e w' ⟨A2,c2,rfl,ho,hb⟩
  exact ⟨A2,c2,rfl,ho,hb⟩
def RetOI (E me rev next month bought:Nat) (free:Int) (l:List (Nat × Nat)) (w:World) (e:Ending) (w':World):Prop :=
 ∃ (A2:Option Addr) (c2:Nat),e = .returned (.tuple #[.agg #[me,rev,next,month,bought,free,.slice A2 l.length c2],E]) ∧ w'.ownsRow w.heap.size 90 2 (.slice A2 l.length c2) l.length (drs l) ∧ Below w.heap.size w w'
theorem owe_all (me rev next month bought ow bp:Nat) (free:Int) (A:Option Addr) (n c:Nat) (l:List (Nat × Nat)) (E me2 rev2 next2 month2 bought2:Nat) (free2:Int) (l2:List (Nat × Nat)) (w:World) (hv:IsDs w (.slice A n c) l) (hl:DOk l) (ha:AOk me rev next month bought free) (h1:1 ≤ ow) (h2:ow ≤ 1000000000) (h3:bp ≤ 10000)
 (hR:Hid (oweP ⟨me,rev,next,month,bought,free,l⟩ ow bp = (E,⟨me2,rev2,next2,month2,bought2,free2,l2⟩))) :
 Calls Tryz.prog 91 #[.agg #[me,rev,next,month,bought,free,.slice A n c],.agg #[ow,bp]] w (RetOI E me2 rev2 next2 month2 bought2 free2 l2 w):=by
 have h:=hR.out
 clear hR
 unfold oweP at h
 dsimp only at h
 by_cases g1:l.length = 8
 ·rw [if_pos g1] at h
  injection h with e1 ea
  subst e1
  obtain ⟨rfl,rfl,rfl,rfl,rfl,rfl,rfl⟩:=acc_inj ea
  have hn:n = 8:=by obtain ⟨X,y,h,_⟩:=hv;injection h with _ h _;omega
  subst hn
  refine (owe_full me rev next month bought ow bp free A c l w hv hl ha h1 h2 h3).mono ?_
  rintro e w' ⟨A2,c2,rfl,ho,hb⟩
  exact ⟨A2,c2,rfl,ho,hb⟩
 ·rw [if_neg g1] at h
  injection h with e1 ea
  subst e1
  obtain ⟨rfl,rfl,rfl,rfl,rfl,rfl,rfl⟩:=acc_inj ea
  refine (owe_more me rev next month bought ow bp 0 free A n c l w hv hl ha h1 h2 h3 (by have:=hl.1;omega)).mono ?_
  rintro e w' ⟨A2,c2,rfl,ho,hb⟩
  exact ⟨A2,c2,rfl,ho,hb⟩
theorem vsellw_ok (gt g1 g2:Nat) (me rev next month bought:Nat) (free:Int) (A:Option Addr) (n c:Nat) (l:List (Nat × Nat)) (At:Option Addr) (nt ct fx fb db al:Nat) (tl:List (Nat × Nat)) (t m E me2 rev2 next2 month2 bought2:Nat) (free2:Int) (l2:List (Nat × Nat)) (id te de fe pr ch un:Nat) (w:World)
 (hv:IsDs w (.slice A n c) l) (hl:DOk l) (ha:AOk me rev next month bought free) (hv2:IsDs w (.slice At nt ct) tl) (hl2:TOk tl) (ht:TmOk fx fb db al) (h1:1 ≤ t) (h9:t ≤ 100000000) (hm:m ≤ 2399) (hnx:next ≤ 1048575)
 (hR:Hid (sellP ⟨tl,fx,fb,db,al⟩ ⟨me,rev,next,month,bought,free,l⟩ t m = (E,⟨me2,rev2,next2,month2,bought2,free2,l2⟩,⟨id,te,de,fe,pr,ch,un⟩)))
 (c0:w.cell? ⟨gt,0,none⟩ = some (.slice At nt ct)) (c1:w.cell? ⟨gt,1,none⟩ = some (.int .i64 ↑fx)) (c2:w.cell? ⟨gt,2,none⟩ = some (.int .i64 ↑fb)) (c3:w.cell? ⟨gt,3,none⟩ = some (.int .i64 ↑db)) (c4:w.cell? ⟨gt,4,none⟩ = some (.int .i64 ↑al)) (k1:w.cell? ⟨g1,0,none⟩ = some (.int .i64 ↑t)) (k2:w.cell? ⟨g2,0,none⟩ = some (.int .i64 ↑m)) :
 Calls Tryz.prog 137 #[.agg #[me,rev,next,month,bought,free,.slice A n c],.pointer (some ⟨gt,0,none⟩),.pointer (some ⟨g1,0,none⟩),.pointer (some ⟨g2,0,none⟩)] w (RetDI E me2 rev2 next2 month2 bought2 free2 l2 id te de fe pr ch un w):=by
 have hSl:=fun W h h2 => sell_all me rev next month bought free A n c l At nt ct fx fb db al tl t m E me2 rev2 next2 month2 bought2 free2 l2 id te de fe pr ch un W h hl ha h2 hl2 ht h1 h9 hm hnx hR
 unfold RetDI at hSl
 have gl:=World.block_lt_of_cell? w _ c0
 have gl1:=World.block_lt_of_cell? w _ k1
 have gl2:=World.block_lt_of_cell? w _ k2
 have H:=Mem.init w
 replace H:=H.al w.heap.size #[me,rev,next,month,bought,free,.slice A n c] (64) |>.al (w.heap.size + 1) #[(),(),(),(),(),(),.slice none 0 0] (64) |>.al (w.heap.size + 1 + 1) #[(),(),(),(),(),(),()] (47) |>.gen
 simp only [List.nil_append,List.cons_append] at H
 obtain ⟨W0,hW0,H⟩:=H
 have hv0:=hv.below H.below
 have hv20:=hv2.below H.below
 have d0:=(H.below.cell (p:=⟨gt,0,none⟩) gl).trans c0
 have d1:=(H.below.cell (p:=⟨gt,1,none⟩) gl).trans c1
 have d2:=(H.below.cell (p:=⟨gt,2,none⟩) gl).trans c2
 have d3:=(H.below.cell (p:=⟨gt,3,none⟩) gl).trans c3
 have d4:=(H.below.cell (p:=⟨gt,4,none⟩) gl).trans c4
 have e1:=(H.below.cell (p:=⟨g1,0,none⟩) gl1).trans k1
 have e2:=(H.below.cell (p:=⟨g2,0,none⟩) gl2).trans k2
 clear c0 c1 c2 c3 c4 k1 k2 hR ha hl hl2 ht h1 h9 hm hnx gl gl1 gl2 hv hv2
 have La:=H.c7 0 rfl
 go_enter Tryz.func137,Tryz.ntmps137
 go_wp2_with fail
 refine (hSl _ hv0 hv20).mono ?_
 rintro e w1 ⟨A2,b2,rfl,hown,hb1⟩
 replace H:Mem (w) [] (w1) [.blk (w.heap.size) 64 #[me,rev,next,month,bought,free,.slice A n c],.blk (w.heap.size + 1) 64 #[(),(),(),(),(),(),.slice none 0 0],.blk (w.heap.size + 1 + 1) 47 #[(),(),(),(),(),(),()],.row (W0.heap.size) (90) (2) (.slice A2 l2.length b2) (l2.length) (drs l2)]:=Mem.row H hb1 hown (Nat.le_refl _)
 clear hSl hown hb1 hW0 hv0 hv20 d0 d1 d2 d3 d4 e1 e2
 clear La
 have Lra:=H.c7 1 rfl
 have Lrb:=H.c7 2 rfl
 have Nrarb:=H.ne2 1 2 rfl rfl rfl
 go_wp2
 replace H:=H.set 1 rfl 0 me2 |>.set 1 rfl 1 rev2 |>.set 1 rfl 2 next2 |>.set 1 rfl 3 month2 |>.set 1 rfl 4 bought2 |>.set 1 rfl 5 free2 |>.set 1 rfl 6 (.slice A2 l2.length b2) |>.set 2 rfl 0 id |>.set 2 rfl 1 te |>.set 2 rfl 2 de |>.set 2 rfl 3 fe |>.set 2 rfl 4 pr |>.set 2 rfl 5 ch |>.set 2 rfl 6 un |>.gen
 simp only [List.set_cons_zero,List.set_cons_succ,List.setIfInBounds_toArray] at H
 obtain ⟨W5,hW5,H⟩:=H
 rw [hW5]
 clear hW5
 clear Lra Lrb Nrarb
 obtain ⟨ralt,ra0,-,ra1,-,ra2,-,ra3,-,ra4,-,ra5,-,ra6,-⟩:=H.c7 1 rfl
 obtain ⟨rblt,rb0,-,rb1,-,rb2,-,rb3,-,rb4,-,rb5,-,rb6,-⟩:=H.c7 2 rfl
 have Nrarb:=H.ne2 1 2 rfl rfl rfl
 refine bodyPost_ret (v:=.tuple #[.agg #[me2,rev2,next2,month2,bought2,free2,.slice A2 l2.length b2],.agg #[id,te,de,fe,pr,ch,un],E]) (by simp [results,Tryz.results137,go_sem,ra0,ra1,ra2,ra3,ra4,ra5,ra6,rb0,rb1,rb2,rb3,rb4,rb5,rb6];done) rfl ?_
 exact ⟨A2,b2,rfl,H.ownb 3 rfl,H.below⟩
theorem vgrantw_ok (gt g1:Nat) (me rev next month bought:Nat) (free:Int) (A:Option Addr) (n c:Nat) (l:List (Nat × Nat)) (At:Option Addr) (nt ct fx fb db al:Nat) (tl:List (Nat × Nat)) (m E me2 rev2 next2 month2 bought2:Nat) (free2:Int) (l2:List (Nat × Nat)) (id te de fe pr ch un:Nat) (w:World)
 (hv:IsDs w (.slice A n c) l) (hl:DOk l) (ha:AOk me rev next month bought free) (hv2:IsDs w (.slice At nt ct) tl) (hl2:TOk tl) (ht:TmOk fx fb db al) (hm:m ≤ 2399) (hnx:next ≤ 1048575)
 (hR:Hid (grantP ⟨tl,fx,fb,db,al⟩ ⟨me,rev,next,month,bought,free,l⟩ m = (E,⟨me2,rev2,next2,month2,bought2,free2,l2⟩,⟨id,te,de,fe,pr,ch,un⟩)))
 (c0:w.cell? ⟨gt,0,none⟩ = some (.slice At nt ct)) (c1:w.cell? ⟨gt,1,none⟩ = some (.int .i64 ↑fx)) (c2:w.cell? ⟨gt,2,none⟩ = some (.int .i64 ↑fb)) (c3:w.cell? ⟨gt,3,none⟩ = some (.int .i64 ↑db)) (c4:w.cell? ⟨gt,4,none⟩ = some (.int .i64 ↑al)) (k1:w.cell? ⟨g1,0,none⟩ = some (.int .i64 ↑m)) :
 Calls Tryz.prog 138 #[.agg #[me,rev,next,month,bought,free,.slice A n c],.pointer (some ⟨gt,0,none⟩),.pointer (some ⟨g1,0,none⟩)] w (RetDI E me2 rev2 next2 month2 bought2 free2 l2 id te de fe pr ch un w):=by
 have hSl:=fun W h h2 => grant_all me rev next month bought free A n c l At nt ct fx fb db al tl m E me2 rev2 next2 month2 bought2 free2 l2 id te de fe pr ch un W h hl ha h2 hl2 ht hm hnx hR
 unfold RetDI at hSl
 have gl:=World.block_lt_of_cell? w _ c0
 have gl1:=World.block_lt_of_cell? w _ k1
 have H:=Mem.init w
 replace H:=H.al w.heap.size #[me,rev,next,month,bought,free,.slice A n c] (64) |>.al (w.heap.size + 1) #[(),(),(),(),(),(),.slice none 0 0] (64) |>.al (w.heap.size + 1 + 1) #[(),(),(),(),(),(),()] (47) |>.gen
 simp only [List.nil_append,List.cons_append] at H
 obtain ⟨W0,hW0,H⟩:=H
 have hv0:=hv.below H.below
 have hv20:=hv2.below H.below
 have d0:=(H.below.cell (p:=⟨gt,0,none⟩) gl).trans c0
 have d1:=(H.below.cell (p:=⟨gt,1,none⟩) gl).trans c1
 have d2:=(H.below.cell (p:=⟨gt,2,none⟩) gl).trans c2
 have d3:=(H.below.cell (p:=⟨gt,3,none⟩) gl).trans c3
 have d4:=(H.below.cell (p:=⟨gt,4,none⟩) gl).trans c4
 have e1:=(H.below.cell (p:=⟨g1,0,none⟩) gl1).trans k1
 clear c0 c1 c2 c3 c4 k1 hR ha hl hl2 ht hm hnx gl gl1 hv hv2
 have La:=H.c7 0 rfl
 go_enter Tryz.func138,Tryz.ntmps138
 go_wp2_with fail
 refine (hSl _ hv0 hv20).mono ?_
 rintro e w1 ⟨A2,b2,rfl,hown,hb1⟩
 replace H:Mem (w) [] (w1) [.blk (w.heap.size) 64 #[me,rev,next,month,bought,free,.slice A n c],.blk (w.heap.size + 1) 64 #[(),(),(),(),(),(),.slice none 0 0],.blk (w.heap.size + 1 + 1) 47 #[(),(),(),(),(),(),()],.row (W0.heap.size) (90) (2) (.slice A2 l2.length b2) (l2.length) (drs l2)]:=Mem.row H hb1 hown (Nat.le_refl _)
 clear hSl hown hb1 hW0 hv0 hv20 d0 d1 d2 d3 d4 e1
 clear La
 have Lra:=H.c7 1 rfl
 have Lrb:=H.c7 2 rfl
 have Nrarb:=H.ne2 1 2 rfl rfl rfl
 go_wp2
 replace H:=H.set 1 rfl 0 me2 |>.set 1 rfl 1 rev2 |>.set 1 rfl 2 next2 |>.set 1 rfl 3 month2 |>.set 1 rfl 4 bought2 |>.set 1 rfl 5 free2 |>.set 1 rfl 6 (.slice A2 l2.length b2) |>.set 2 rfl 0 id |>.set 2 rfl 1 te |>.set 2 rfl 2 de |>.set 2 rfl 3 fe |>.set 2 rfl 4 pr |>.set 2 rfl 5 ch |>.set 2 rfl 6 un |>.gen
 simp only [List.set_cons_zero,List.set_cons_succ,List.setIfInBounds_toArray] at H
 obtain ⟨W5,hW5,H⟩:=H
 rw [hW5]
 clear hW5
 clear Lra Lrb Nrarb
 obtain ⟨ralt,ra0,-,ra1,-,ra2,-,ra3,-,ra4,-,ra5,-,ra6,-⟩:=H.c7 1 rfl
 obtain ⟨rblt,rb0,-,rb1,-,rb2,-,rb3,-,rb4,-,rb5,-,rb6,-⟩:=H.c7 2 rfl
 have Nrarb:=H.ne2 1 2 rfl rfl rfl
 refine bodyPost_ret (v:=.tuple #[.agg #[me2,rev2,next2,month2,bought2,free2,.slice A2 l2.length b2],.agg #[id,te,de,fe,pr,ch,un],E]) (by simp [results,Tryz.results138,go_sem,ra0,ra1,ra2,ra3,ra4,ra5,ra6,rb0,rb1,rb2,rb3,rb4,rb5,rb6];done) rfl ?_
 exact ⟨A2,b2,rfl,H.ownb 3 rfl,H.below⟩
end Go.Proofs.YtfgiehkfcoodbaaGreat
