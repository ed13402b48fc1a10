/- (book.keeper).sell. -/
import Derived.Test.YtfgiehkfcoodbaaGreatM0
import Derived.Test.YtfgiehkfcoodbaaGreatM19
import Derived.Test.YtfgiehkfcoodbaaGreatM20
import Derived.Test.YtfgiehkfcoodbaaGreatM21
import Derived.Test.YtfgiehkfcoodbaaGreatM17
import Derived.Deep.RegionLaw
import Derived.BigRegion
namespace Go.Proofs.YtfgiehkfcoodbaaGreat
open Go.RowKit
set_option linter.unusedVariables false
set_option maxRecDepth 100000
set_option maxHeartbeats 16000000
def sos (l:List So):List Value:=l.flatMap fun s => [Value.int .i64 ↑s.id,.int .i64 ↑s.cls,.int .i64 ↑s.am,.int .i64 ↑s.tag,.int .i64 ↑s.rev]
theorem sos_append (a b:List So):sos (a ++ b) = sos a ++ sos b:=by simp [sos]
section
variable {P:Program}
theorem step_pushM {w0:World} {G:List Nat} {L:List Chunk} {ops:Array Oper} {o:Oper} {a:Act} {K:Act → World → Prop} {Q:Exit → Act → World → Prop} {F:Prop} {t e:TypeId} {size bytes:Nat} (E:Elem P t e size bytes) (hgd:o.guard = none) (s x:Operand)
 (ho:o.op = .call { callee:=.builtin .append,args:=#[s,x],argTypes:=#[t,t] })
 (i:Nat) (W:World) (H:Mem w0 G W L) (base g:Nat) (v:Value) (n:Nat) (xs news:List Value) (hi:L[i]? = some (.row base e size v n xs)) (hs:a.eval s = v) (hx:a.eval x = .slice (some ⟨g,0,none⟩) 1 1) (hg:W.heap[g]? = some (.cells ⟨news⟩ e (0,0)))
 (hl:news.length = size) (h1:∀ u ∈ news,u.oneCell' = true) (hbytes:(n + 1) * bytes ≤ 140737488355328) (hmax:n + 1 ≤ maxLen) (hbase:base ≤ W.heap.size)
 (h:∀ A' c' w',Mem w0 G w' (L.set i (.row base e size (.slice A' (n + 1) c') (n + 1) (xs ++ news))) → K (a.put o.dst (.slice A' (n + 1) c')) w') :
 if Region.wanted o (yielded ops a.tmps) = true then Oper.wp P o a W K Q else F:=by
 obtain ⟨j,z,hj,hz,hsize,hby,hzs⟩:=E.info
 have hown:=H.own_ i hi
 refine step_append_lies W hgd s x t ho base e j z size bytes E.und hj hz hsize hby hzs E.pos v n xs hs hown ⟨g,0,none⟩ 1 1 news hx (by omega) ?_ h1 (by omega) hmax hbytes hbase _ rfl ?_
 ·intro j u hj
  exact World.news_of_block hg j u hj
 ·intro g' c' w' ho' hgr hwh hlt
  refine h _ _ _ (Mem.push i H hi hgr ho' (fun k hk => ?_))
  have hk':g' = k:=by simpa [Value.ownBlock] using hk
  subst hk'
  rcases hwh with h | h
  ·exact .inl h
  ·exact .inr (by omega)
end
theorem so_info:(Tryz.prog.info? 192).map (fun i => (i.zero,i.size,i.bytes)) = some (some (.agg #[(),(),(),(),()]),5,40):=by kernel_rfl
theorem el_so:Elem Tryz.prog 65 192 5 40:=elem_of Tryz.underlying65 so_info rfl (by omega)
theorem bill_eql (a b c d e f g a' b' c' d' e' f' g':Int) (W:World) :
 (Op.equalIn 10000 47 (.agg #[a,b,c,d,e,f,g]) (.agg #[a',b',c',d',e',f',g'])).run Tryz.prog W = .ok (a == a' && (b == b' && (c == c' && (d == d' && (e == e' && (f == f' && g == g')))))) W:=by
 have h:=eq_is (P:=Tryz.prog) (t:=47) [.int .i64 a,.int .i64 b,.int .i64 c,.int .i64 d,.int .i64 e,.int .i64 f,.int .i64 g] [.int .i64 a',.int .i64 b',.int .i64 c',.int .i64 d',.int .i64 e',.int .i64 f',.int .i64 g'] W (by kernel_rfl) (mkv_struct Tryz.underlying47)
 simpa [cellsEq,leafEq] using h
theorem bill_same (a b c d e f g a' b' c' d' e' f' g':Nat) (v:Bool) (hv:decide (a = a' ∧ b = b' ∧ c = c' ∧ d = d' ∧ e = e' ∧ f = f' ∧ g = g') = v) (W:World) :
 (Op.equalIn 10000 47 (.agg #[a,b,c,d,e,f,g]) (.agg #[.int .i64 (a':Int),.int .i64 (b':Int),.int .i64 (c':Int),.int .i64 (d':Int),.int .i64 (e':Int),.int .i64 (f':Int),.int .i64 (g':Int)])).run Tryz.prog W = .ok v W:=by
 rw [bill_eql,← hv]
 congr 1
 rw [Bool.eq_iff_iff]
 simp only [Bool.and_eq_true,beq_iff_eq,decide_eq_true_eq,Int.natCast_inj]
theorem ksell2_ok (g o kb bd:Nat) (cur:Array Value) (R M:Value) (me rev next month bought:Nat) (free:Int) (l:List (Nat × Nat)) (Ad:Option Addr) (cd:Nat) (s:List So) (As:Option Addr) (cs:Nat) (At:Option Addr) (nt ct fx fb db al:Nat) (tl:List (Nat × Nat)) (k vme mo id te de fe pr ch un tg ow bp:Nat) (X:List Chunk) (w0 w:World)
 (H:Mem w0 [] w (.blk g 67 cur :: .blk kb 189 #[R,.slice At nt ct,fx,fb,db,al,M] :: .row bd 90 2 (.slice Ad l.length cd) l.length (drs l) :: .row w0.heap.size 192 5 (.slice As s.length cs) s.length (sos s) :: X))
 (ce0:cur[o]? = some (.int .i64 ↑me)) (ce1:cur[o + 1]? = some (.int .i64 ↑rev)) (ce2:cur[o + 2]? = some (.int .i64 ↑next)) (ce3:cur[o + 3]? = some (.int .i64 ↑month)) (ce4:cur[o + 4]? = some (.int .i64 ↑bought)) (ce5:cur[o + 5]? = some (.int .i64 free)) (ce6:cur[o + 6]? = some (.slice Ad l.length cd)) (ce7:cur[o + 7]? = some (.slice As s.length cs))
 (hvt:IsDs w0 (.slice At nt ct) tl) (hT:TOk tl) (hTm:TmOk fx fb db al) (ha:AOk me rev next month bought free) (hl:DOk l) (hnx:next ≤ 1048575) (hk:k = 2) (ht1:1 ≤ te) (ht9:te ≤ 100000000) (hmo:mo ≤ 2399) (hsl:s.length ≤ 1000) (me2 rev2 next2 month2 bought2:Nat) (free2:Int) (l2:List (Nat × Nat)) (hR:Hid (sellP ⟨tl,fx,fb,db,al⟩ ⟨me,rev,next,month,bought,free,l⟩ te mo = (0,⟨me2,rev2,next2,month2,bought2,free2,l2⟩,⟨id,te,de,fe,pr,ch,un⟩))) :
 Calls Tryz.prog 90 #[.pointer (some ⟨kb,0,none⟩),.pointer (some ⟨g,o,none⟩),.agg #[k,vme,mo,id,te,de,fe,pr,ch,un,tg,ow,bp]] w fun e w' => ∃ (A2:Option Addr) (d2 base:Nat) (A3:Option Addr) (d3:Nat),e = .returned (.tuple #[]) ∧ Mem w0 [] w' (.blk g 67 ((((((((cur.setIfInBounds (o) (.int .i64 ↑me2)).setIfInBounds (o + 1) (.int .i64 ↑rev2)).setIfInBounds (o + 2) (.int .i64 ↑next2)).setIfInBounds (o + 3) (.int .i64 ↑month2)).setIfInBounds (o + 4) (.int .i64 ↑bought2)).setIfInBounds (o + 5) (.int .i64 free2)).setIfInBounds (o + 6) (.slice A2 l2.length d2)).setIfInBounds (o + 7) (.slice A3 (s.length + 1) d3)) :: .blk kb 189 #[R,.slice At nt ct,fx,fb,db,al,M] :: .row base 90 2 (.slice A2 l2.length d2) l2.length (drs l2) :: .row w0.heap.size 192 5 (.slice A3 (s.length + 1) d3) (s.length + 1) (sos s ++ [.int .i64 ↑id,.int .i64 0,.int .i64 ↑un,.int .i64 ↑tg,.int .i64 ↑rev]) :: X):=by
 subst hk
 have hSl:=fun W h h2 => sell_all me rev next month bought free Ad l.length cd l At nt ct fx fb db al tl te mo 0 me2 rev2 next2 month2 bought2 free2 l2 id te de fe pr ch un W h hl ha h2 hT hTm ht1 ht9 hmo hnx hR
 unfold RetDI at hSl
 have H:Mem (w0) [] (w) (.blk (g) 67 (cur) :: .blk (kb) 189 #[R,.slice At nt ct,fx,fb,db,al,M] :: .row (bd) (90) (2) (.slice Ad l.length cd) (l.length) (drs l) :: .row (w0.heap.size) (192) (5) (.slice As s.length cs) (s.length) (sos s) :: X):=H
 have q0:=((H.blk 0 rfl).cell (o)).trans ce0
 have q1:=((H.blk 0 rfl).cell (o + 1)).trans ce1
 have q2:=((H.blk 0 rfl).cell (o + 2)).trans ce2
 have q3:=((H.blk 0 rfl).cell (o + 3)).trans ce3
 have q4:=((H.blk 0 rfl).cell (o + 4)).trans ce4
 have q5:=((H.blk 0 rfl).cell (o + 5)).trans ce5
 have q6:=((H.blk 0 rfl).cell (o + 6)).trans ce6
 have hgl:=H.lt 0 rfl
 have Lkp:=H.c7 1 rfl
 go_enter Tryz.func90,Tryz.ntmps90
 go_upto_region 4 with fail
 obtain ⟨W1,hW1⟩:∃ W1,(((w).alloc (.cells #[.int .i64 2,vme,mo,id,te,de,fe,pr,ch,un,tg,ow,bp] 92)).alloc (.cells #[(),(),(),(),(),(),.slice none 0 0] 64)).alloc (.cells #[(),(),(),(),(),(),()] 47) = W1:=⟨_,rfl⟩
 replace H:=Mem.allocF H (w.heap.size) (by first | (simp;done) | (simp;omega)) #[.int .i64 2,vme,mo,id,te,de,fe,pr,ch,un,tg,ow,bp] 92
 replace H:=Mem.allocF H (w.heap.size + 1) (by first | (simp;done) | (simp;omega)) #[(),(),(),(),(),(),.slice none 0 0] 64
 replace H:=Mem.allocF H (w.heap.size + 1 + 1) (by first | (simp;done) | (simp;omega)) #[(),(),(),(),(),(),()] 47
 rw [hW1] at H ⊢
 clear hW1
 clear q0 q1 q2 q3 q4 q5 q6 hgl
 have q1:=((H.blk 3 rfl).cell (o + 1)).trans ce1
 have hgl:=H.lt 3 rfl
 clear Lkp
 have Lev:=H.c13 2 rfl
 go_region
 obtain ⟨W2,hW2⟩:∃ W2,((W1).alloc (.cells #[id,(),un,tg,rev] 192)).drew = W2:=⟨_,rfl⟩
 replace H:=Mem.allocF H (W1.heap.size) (by first | (simp;done) | (simp;omega)) #[id,(),un,tg,rev] 192
 replace H:=H.drew
 rw [hW2] at H ⊢
 clear hW2
 clear Lev
 have Lev:=H.c13 3 rfl
 clear q1 hgl
 go_upto_region 7 with fail
 have q0:W2.cell? ⟨g,o,none⟩ = _:=((H.blk 4 rfl).cell (o)).trans ce0
 have q1:W2.cell? ⟨g,o + 1,none⟩ = _:=((H.blk 4 rfl).cell (o + 1)).trans ce1
 have q2:W2.cell? ⟨g,o + 2,none⟩ = _:=((H.blk 4 rfl).cell (o + 2)).trans ce2
 have q3:W2.cell? ⟨g,o + 3,none⟩ = _:=((H.blk 4 rfl).cell (o + 3)).trans ce3
 have q4:W2.cell? ⟨g,o + 4,none⟩ = _:=((H.blk 4 rfl).cell (o + 4)).trans ce4
 have q5:W2.cell? ⟨g,o + 5,none⟩ = _:=((H.blk 4 rfl).cell (o + 5)).trans ce5
 have q6:W2.cell? ⟨g,o + 6,none⟩ = _:=((H.blk 4 rfl).cell (o + 6)).trans ce6
 have hgl:=H.lt 4 rfl
 have hg1:g ≠ w.heap.size + 1:=fun e => H.ne 4 2 rfl rfl (by decide) e
 have hg1':w.heap.size + 1 ≠ g:=fun e => hg1 e.symm
 have hg2:g ≠ w.heap.size + 1 + 1:=fun e => H.ne 4 1 rfl rfl (by decide) e
 have hg2':w.heap.size + 1 + 1 ≠ g:=fun e => hg2 e.symm
 clear Lev
 obtain ⟨evlt,ev0,-,ev1,-,ev2,-,ev3,-,ev4,-,ev5,-,ev6,-,ev7,-,ev8,-,ev9,-,ev10,-,ev11,-,ev12,-⟩:=H.c13 3 rfl
 obtain ⟨kplt,kp0,-,kp1,-,kp2,-,kp3,-,kp4,-,kp5,-,kp6,-⟩:=H.c7 5 rfl
 have La:=H.c7 2 rfl
 have Lb:=H.c7 1 rfl
 have Nevkp:=H.ne2 3 5 rfl rfl rfl
 have Neva:=H.ne2 3 2 rfl rfl rfl
 have Nevb:=H.ne2 3 1 rfl rfl rfl
 have Nkpa:=H.ne2 5 2 rfl rfl rfl
 have Nkpb:=H.ne2 5 1 rfl rfl rfl
 have Nab:=H.ne2 2 1 rfl rfl rfl
 have hds:=isds_own (l:=l) rfl (H.own_ 6 rfl)
 have hts:=hvt.below H.below
 have V0:Below W2.heap.size W2 W2.drew:=below_draws (Below.refl _ _) 1
 go_region_held3 (fun w' => w'.cell? ⟨g,o,none⟩ = some (.int .i64 ↑me) ∧ w'.cell? ⟨g,o + 1,none⟩ = some (.int .i64 ↑rev) ∧ w'.cell? ⟨g,o + 2,none⟩ = some (.int .i64 ↑next) ∧ w'.cell? ⟨g,o + 3,none⟩ = some (.int .i64 ↑month) ∧ w'.cell? ⟨g,o + 4,none⟩ = some (.int .i64 ↑bought) ∧ w'.cell? ⟨g,o + 5,none⟩ = some (.int .i64 free) ∧ w'.cell? ⟨g,o + 6,none⟩ = some (.slice Ad l.length cd) ∧ w'.cell? ⟨kb,1,none⟩ = some (.slice At nt ct) ∧ w'.cell? ⟨kb,2,none⟩ = some (.int .i64 ↑fx) ∧ w'.cell? ⟨kb,3,none⟩ = some (.int .i64 ↑fb) ∧ w'.cell? ⟨kb,4,none⟩ = some (.int .i64 ↑db) ∧ w'.cell? ⟨kb,5,none⟩ = some (.int .i64 ↑al) ∧ w'.cell? ⟨w.heap.size,4,none⟩ = some (.int .i64 ↑te) ∧ w'.cell? ⟨w.heap.size,2,none⟩ = some (.int .i64 ↑mo))
  (first | with_reducible exact ⟨s0,s1,s2,s3,s4,s5,s6,s7,s8,s9,s10,s11,s12,s13⟩ | go_keep | fail)
  (first | (go_at_call 20;(with_reducible refine (hSl W2.drew (hds.below V0) (hts.below V0)).mono ?_);rintro e we ⟨A2,c2,rfl,hown,hbe⟩;have hWe:=V0.trans (hbe.mono V0.size);have s0:=(hWe.cell (p:=⟨g,o,none⟩) hgl).trans q0;have s1:=(hWe.cell (p:=⟨g,o + 1,none⟩) hgl).trans q1;have s2:=(hWe.cell (p:=⟨g,o + 2,none⟩) hgl).trans q2;have s3:=(hWe.cell (p:=⟨g,o + 3,none⟩) hgl).trans q3;have s4:=(hWe.cell (p:=⟨g,o + 4,none⟩) hgl).trans q4;have s5:=(hWe.cell (p:=⟨g,o + 5,none⟩) hgl).trans q5;have s6:=(hWe.cell (p:=⟨g,o + 6,none⟩) hgl).trans q6;have s7:=(hWe.cell (p:=⟨kb,1,none⟩) kplt).trans kp1;have s8:=(hWe.cell (p:=⟨kb,2,none⟩) kplt).trans kp2;have s9:=(hWe.cell (p:=⟨kb,3,none⟩) kplt).trans kp3;have s10:=(hWe.cell (p:=⟨kb,4,none⟩) kplt).trans kp4;have s11:=(hWe.cell (p:=⟨kb,5,none⟩) kplt).trans kp5;have s12:=(hWe.cell (p:=⟨w.heap.size,4,none⟩) evlt).trans ev4;have s13:=(hWe.cell (p:=⟨w.heap.size,2,none⟩) evlt).trans ev2;have HE:=Mem.rowF H.drew hbe hown (Nat.le_refl _);have az0:=(HE.blk 3 rfl).cell 0;have azf0:=(HE.blk 3 rfl).frozen 0;have az1:=(HE.blk 3 rfl).cell 1;have azf1:=(HE.blk 3 rfl).frozen 1;have az2:=(HE.blk 3 rfl).cell 2;have azf2:=(HE.blk 3 rfl).frozen 2;have az3:=(HE.blk 3 rfl).cell 3;have azf3:=(HE.blk 3 rfl).frozen 3;have az4:=(HE.blk 3 rfl).cell 4;have azf4:=(HE.blk 3 rfl).frozen 4;have az5:=(HE.blk 3 rfl).cell 5;have azf5:=(HE.blk 3 rfl).frozen 5;have az6:=(HE.blk 3 rfl).cell 6;have azf6:=(HE.blk 3 rfl).frozen 6;have azlt:=HE.lt 3 rfl;have bz0:=(HE.blk 2 rfl).cell 0;have bzf0:=(HE.blk 2 rfl).frozen 0;have bz1:=(HE.blk 2 rfl).cell 1;have bzf1:=(HE.blk 2 rfl).frozen 1;have bz2:=(HE.blk 2 rfl).cell 2;have bzf2:=(HE.blk 2 rfl).frozen 2;have bz3:=(HE.blk 2 rfl).cell 3;have bzf3:=(HE.blk 2 rfl).frozen 3;have bz4:=(HE.blk 2 rfl).cell 4;have bzf4:=(HE.blk 2 rfl).frozen 4;have bz5:=(HE.blk 2 rfl).cell 5;have bzf5:=(HE.blk 2 rfl).frozen 5;have bz6:=(HE.blk 2 rfl).cell 6;have bzf6:=(HE.blk 2 rfl).frozen 6;have bzlt:=HE.lt 2 rfl;have zne1:=HE.ne 3 2 rfl rfl (by decide);have zne2:=HE.ne 2 3 rfl rfl (by decide)))
 clear s0 s1 s2 s3 s4 s5 s6 s7 s8 s9 s10 s11 s12 s13 q0 q1 q2 q3 q4 q5 q6 hgl hg1 hg1' hg2 hg2'
 replace H:Mem (w0) [] (we) (.row (W2.heap.size) (90) (2) (.slice A2 l2.length c2) (l2.length) (drs l2) :: .blk (W1.heap.size) 192 #[id,(),un,tg,rev] :: .blk (w.heap.size + 1 + 1) 47 #[(),(),(),(),(),(),()] :: .blk (w.heap.size + 1) 64 #[(),(),(),(),(),(),.slice none 0 0] :: .blk (w.heap.size) 92 #[.int .i64 2,vme,mo,id,te,de,fe,pr,ch,un,tg,ow,bp] :: .blk (g) 67 (cur) :: .blk (kb) 189 #[R,.slice At nt ct,fx,fb,db,al,M] :: .row (bd) (90) (2) (.slice Ad l.length cd) (l.length) (drs l) :: .row (w0.heap.size) (192) (5) (.slice As s.length cs) (s.length) (sos s) :: X):=Mem.rowF H hWe hown (Nat.le_refl _)
 clear HE az0 az1 az2 az3 az4 az5 az6 bz0 bz1 bz2 bz3 bz4 bz5 bz6 azf0 azf1 azf2 azf3 azf4 azf5 azf6 bzf0 bzf1 bzf2 bzf3 bzf4 bzf5 bzf6 azlt bzlt zne1 zne2 hds hts hSl hWe hbe hown V0
 obtain ⟨W3,hW3⟩:∃ W3,((((((((((((((we).setCell ⟨w.heap.size + 1,0,none⟩ (.int .i64 ↑me2)).setCell ⟨w.heap.size + 1,1,none⟩ (.int .i64 ↑rev2)).setCell ⟨w.heap.size + 1,2,none⟩ (.int .i64 ↑next2)).setCell ⟨w.heap.size + 1,3,none⟩ (.int .i64 ↑month2)).setCell ⟨w.heap.size + 1,4,none⟩ (.int .i64 ↑bought2)).setCell ⟨w.heap.size + 1,5,none⟩ (.int .i64 free2)).setCell ⟨w.heap.size + 1,6,none⟩ (.slice A2 l2.length c2)).setCell ⟨w.heap.size + 1 + 1,0,none⟩ (.int .i64 ↑id)).setCell ⟨w.heap.size + 1 + 1,1,none⟩ (.int .i64 ↑te)).setCell ⟨w.heap.size + 1 + 1,2,none⟩ (.int .i64 ↑de)).setCell ⟨w.heap.size + 1 + 1,3,none⟩ (.int .i64 ↑fe)).setCell ⟨w.heap.size + 1 + 1,4,none⟩ (.int .i64 ↑pr)).setCell ⟨w.heap.size + 1 + 1,5,none⟩ (.int .i64 ↑ch)).setCell ⟨w.heap.size + 1 + 1,6,none⟩ (.int .i64 ↑un) = W3:=⟨_,rfl⟩
 replace H:=Mem.set 3 H rfl (0) (.int .i64 ↑me2)
 replace H:=Mem.set 3 H rfl (1) (.int .i64 ↑rev2)
 replace H:=Mem.set 3 H rfl (2) (.int .i64 ↑next2)
 replace H:=Mem.set 3 H rfl (3) (.int .i64 ↑month2)
 replace H:=Mem.set 3 H rfl (4) (.int .i64 ↑bought2)
 replace H:=Mem.set 3 H rfl (5) (.int .i64 free2)
 replace H:=Mem.set 3 H rfl (6) (.slice A2 l2.length c2)
 replace H:=Mem.set 2 H rfl (0) (.int .i64 ↑id)
 replace H:=Mem.set 2 H rfl (1) (.int .i64 ↑te)
 replace H:=Mem.set 2 H rfl (2) (.int .i64 ↑de)
 replace H:=Mem.set 2 H rfl (3) (.int .i64 ↑fe)
 replace H:=Mem.set 2 H rfl (4) (.int .i64 ↑pr)
 replace H:=Mem.set 2 H rfl (5) (.int .i64 ↑ch)
 replace H:=Mem.set 2 H rfl (6) (.int .i64 ↑un)
 simp only [List.set_cons_zero,List.set_cons_succ,List.setIfInBounds_toArray] at H
 rw [hW3] at H ⊢
 clear hW3
 have hbq:=fun W => bill_same id te de fe pr ch un id te de fe pr ch un true (by simp) W
 have q0:W3.cell? ⟨g,o,none⟩ = _:=((H.blk 5 rfl).cell (o)).trans ce0
 have qf0:W3.frozen? ⟨g,o,none⟩ = false:=(H.blk 5 rfl).frozen (o + 0)
 have q1:W3.cell? ⟨g,o + 1,none⟩ = _:=((H.blk 5 rfl).cell (o + 1)).trans ce1
 have qf1:W3.frozen? ⟨g,o + 1,none⟩ = false:=(H.blk 5 rfl).frozen (o + 1)
 have q2:W3.cell? ⟨g,o + 2,none⟩ = _:=((H.blk 5 rfl).cell (o + 2)).trans ce2
 have qf2:W3.frozen? ⟨g,o + 2,none⟩ = false:=(H.blk 5 rfl).frozen (o + 2)
 have q3:W3.cell? ⟨g,o + 3,none⟩ = _:=((H.blk 5 rfl).cell (o + 3)).trans ce3
 have qf3:W3.frozen? ⟨g,o + 3,none⟩ = false:=(H.blk 5 rfl).frozen (o + 3)
 have q4:W3.cell? ⟨g,o + 4,none⟩ = _:=((H.blk 5 rfl).cell (o + 4)).trans ce4
 have qf4:W3.frozen? ⟨g,o + 4,none⟩ = false:=(H.blk 5 rfl).frozen (o + 4)
 have q5:W3.cell? ⟨g,o + 5,none⟩ = _:=((H.blk 5 rfl).cell (o + 5)).trans ce5
 have qf5:W3.frozen? ⟨g,o + 5,none⟩ = false:=(H.blk 5 rfl).frozen (o + 5)
 have q6:W3.cell? ⟨g,o + 6,none⟩ = _:=((H.blk 5 rfl).cell (o + 6)).trans ce6
 have qf6:W3.frozen? ⟨g,o + 6,none⟩ = false:=(H.blk 5 rfl).frozen (o + 6)
 have q7:W3.cell? ⟨g,o + 7,none⟩ = _:=((H.blk 5 rfl).cell (o + 7)).trans ce7
 have qf7:W3.frozen? ⟨g,o + 7,none⟩ = false:=(H.blk 5 rfl).frozen (o + 7)
 have hgl:=H.lt 5 rfl
 have hg1:g ≠ w.heap.size + 1:=fun e => H.ne 5 3 rfl rfl (by decide) e
 have hg1':w.heap.size + 1 ≠ g:=fun e => hg1 e.symm
 clear evlt ev0 ev1 ev2 ev3 ev4 ev5 ev6 ev7 ev8 ev9 ev10 ev11 ev12 kplt kp0 kp1 kp2 kp3 kp4 kp5 kp6 La Lb Nevkp Neva Nevb Nkpa Nkpb Nab
 have Lev:=H.c13 4 rfl
 have La:=H.c7 3 rfl
 have Lb:=H.c7 2 rfl
 have Neva:=H.ne2 4 3 rfl rfl rfl
 have Nevb:=H.ne2 4 2 rfl rfl rfl
 have Nab:=H.ne2 3 2 rfl rfl rfl
 go_wp2_with (go_at_call 46;(with_reducible refine (want_ok _ _).mono ?_);rintro e w' ⟨rfl,rfl⟩)
 clear Lev La Lb Neva Nevb Nab
 clear q0 q1 q2 q3 q4 q5 q6 qf0 qf1 qf2 qf3 qf4 qf5 qf6 qf7 hg1 hg1' hbq
 obtain ⟨W4,hW4⟩:∃ W4,(((((((W3).setCell ⟨g,o,none⟩ (.int .i64 ↑me2)).setCell ⟨g,o + 1,none⟩ (.int .i64 ↑rev2)).setCell ⟨g,o + 2,none⟩ (.int .i64 ↑next2)).setCell ⟨g,o + 3,none⟩ (.int .i64 ↑month2)).setCell ⟨g,o + 4,none⟩ (.int .i64 ↑bought2)).setCell ⟨g,o + 5,none⟩ (.int .i64 free2)).setCell ⟨g,o + 6,none⟩ (.slice A2 l2.length c2) = W4:=⟨_,rfl⟩
 replace H:=Mem.set 5 H rfl (o) (.int .i64 ↑me2)
 replace H:=Mem.set 5 H rfl (o + 1) (.int .i64 ↑rev2)
 replace H:=Mem.set 5 H rfl (o + 2) (.int .i64 ↑next2)
 replace H:=Mem.set 5 H rfl (o + 3) (.int .i64 ↑month2)
 replace H:=Mem.set 5 H rfl (o + 4) (.int .i64 ↑bought2)
 replace H:=Mem.set 5 H rfl (o + 5) (.int .i64 free2)
 replace H:=Mem.set 5 H rfl (o + 6) (.slice A2 l2.length c2)
 simp only [List.set_cons_zero,List.set_cons_succ] at H
 rw [hW4] at H ⊢
 clear hW4
 have hcu7:∀ v0 v1 v2 v3 v4 v5 v6:Value,(((((((cur.setIfInBounds (o) v0).setIfInBounds (o + 1) v1).setIfInBounds (o + 2) v2).setIfInBounds (o + 3) v3).setIfInBounds (o + 4) v4).setIfInBounds (o + 5) v5).setIfInBounds (o + 6) v6)[o + 7]? = some (.slice As s.length cs):=by
  intro v0 v1 v2 v3 v4 v5 v6
  simp [ce7]
 have hone:∀ u ∈ [Value.int .i64 ↑id,.int .i64 0,.int .i64 ↑un,.int .i64 ↑tg,.int .i64 ↑rev],u.oneCell' = true:=fun u hu => by simp at hu;rcases hu with rfl | rfl | rfl | rfl | rfl <;> rfl
 have hq3:(s.length + 1) * 40 ≤ 140737488355328:=by omega
 have hq4:s.length + 1 ≤ maxLen:=by unfold maxLen;omega
 have q7:W4.cell? ⟨g,o + 7,none⟩ = _:=((H.blk 5 rfl).cell (o + 7)).trans (hcu7 _ _ _ _ _ _ _)
 have hgl:=H.lt 5 rfl
 have hg3:g ≠ W1.heap.size:=fun e => H.ne 5 1 rfl rfl (by decide) e
 have hg3':W1.heap.size ≠ g:=fun e => hg3 e.symm
 have hg4:g ≠ W4.heap.size:=Nat.ne_of_lt hgl
 have hg4':W4.heap.size ≠ g:=fun e => hg4 e.symm
 have Lso:=H.c5 1 rfl
 go_region_law (first | ((refine step_pushM el_so (by rfl) (.tmp 95) (.tmp 97) (by rfl) 9 _ (Mem.allocF H _ rfl #[id,(),un,tg,rev] 192) w0.heap.size _ _ s.length _ [.int .i64 ↑id,.int .i64 0,.int .i64 ↑un,.int .i64 ↑tg,.int .i64 ↑rev] rfl (by rfl) (by rfl) (heap_alloc_new _ _) rfl hone hq3 hq4 (by have:=H.below.size;simp;omega) ?_);intro A3 d3 wy HY;have y7:=((HY.blk 6 rfl).cell (o + 7)).trans (hcu7 _ _ _ _ _ _ _);have yf7:=(HY.blk 6 rfl).frozen (o + 7);have ylt:=HY.lt 6 rfl) | ((refine step_pushM el_so (by rfl) (.tmp 95) (.tmp 97) (by rfl) 9 _ ((Mem.allocF H _ rfl #[id,(),un,tg,rev] 192).drew) w0.heap.size _ _ s.length _ [.int .i64 ↑id,.int .i64 0,.int .i64 ↑un,.int .i64 ↑tg,.int .i64 ↑rev] rfl (by rfl) (by rfl) (heap_alloc_new _ _) rfl hone hq3 hq4 (by have:=H.below.size;simp;omega) ?_);intro A3 d3 wy HY;have y7:=((HY.blk 6 rfl).cell (o + 7)).trans (hcu7 _ _ _ _ _ _ _);have yf7:=(HY.blk 6 rfl).frozen (o + 7);have ylt:=HY.lt 6 rfl))
 all_goals
  go_wp2
  go_end0
  exact ⟨A2,c2,W2.heap.size,A3,d3,rfl,Mem.perm ((List.Perm.swap _ _ _).trans (List.Perm.cons _ (List.Perm.swap _ _ _))) (Mem.drop_ 0 (Mem.drop_ 2 (Mem.drop_ 3 (Mem.drop_ 4 (Mem.drop_ 5 (Mem.drop_ 8 (Mem.set 6 HY rfl (o + 7) (.slice A3 (s.length + 1) d3))))))))⟩
end Go.Proofs.YtfgiehkfcoodbaaGreat
namespace Go.Proofs.YtfgiehkfcoodbaaGreat
open Go.RowKit
set_option linter.unusedVariables false
set_option maxRecDepth 100000
set_option maxHeartbeats 16000000
theorem ksell3_ok (g o kb bd:Nat) (cur:Array Value) (R M:Value) (me rev next month bought:Nat) (free:Int) (l:List (Nat × Nat)) (Ad:Option Addr) (cd:Nat) (s:List So) (As:Option Addr) (cs:Nat) (At:Option Addr) (nt ct fx fb db al:Nat) (tl:List (Nat × Nat)) (k vme mo id te de fe pr ch un tg ow bp:Nat) (X:List Chunk) (w0 w:World)
 (H:Mem w0 [] w (.blk g 67 cur :: .blk kb 189 #[R,.slice At nt ct,fx,fb,db,al,M] :: .row bd 90 2 (.slice Ad l.length cd) l.length (drs l) :: .row w0.heap.size 192 5 (.slice As s.length cs) s.length (sos s) :: X))
 (ce0:cur[o]? = some (.int .i64 ↑me)) (ce1:cur[o + 1]? = some (.int .i64 ↑rev)) (ce2:cur[o + 2]? = some (.int .i64 ↑next)) (ce3:cur[o + 3]? = some (.int .i64 ↑month)) (ce4:cur[o + 4]? = some (.int .i64 ↑bought)) (ce5:cur[o + 5]? = some (.int .i64 free)) (ce6:cur[o + 6]? = some (.slice Ad l.length cd)) (ce7:cur[o + 7]? = some (.slice As s.length cs))
 (hvt:IsDs w0 (.slice At nt ct) tl) (hT:TOk tl) (hTm:TmOk fx fb db al) (ha:AOk me rev next month bought free) (hl:DOk l) (hnx:next ≤ 1048575) (hk:k = 3) (hmo:mo ≤ 2399) (hsl:s.length ≤ 1000) (me2 rev2 next2 month2 bought2:Nat) (free2:Int) (l2:List (Nat × Nat)) (hR:Hid (grantP ⟨tl,fx,fb,db,al⟩ ⟨me,rev,next,month,bought,free,l⟩ mo = (0,⟨me2,rev2,next2,month2,bought2,free2,l2⟩,⟨id,te,de,fe,pr,ch,un⟩))) :
 Calls Tryz.prog 90 #[.pointer (some ⟨kb,0,none⟩),.pointer (some ⟨g,o,none⟩),.agg #[k,vme,mo,id,te,de,fe,pr,ch,un,tg,ow,bp]] w fun e w' => ∃ (A2:Option Addr) (d2 base:Nat) (A3:Option Addr) (d3:Nat),e = .returned (.tuple #[]) ∧ Mem w0 [] w' (.blk g 67 ((((((((cur.setIfInBounds (o) (.int .i64 ↑me2)).setIfInBounds (o + 1) (.int .i64 ↑rev2)).setIfInBounds (o + 2) (.int .i64 ↑next2)).setIfInBounds (o + 3) (.int .i64 ↑month2)).setIfInBounds (o + 4) (.int .i64 ↑bought2)).setIfInBounds (o + 5) (.int .i64 free2)).setIfInBounds (o + 6) (.slice A2 l2.length d2)).setIfInBounds (o + 7) (.slice A3 (s.length + 1) d3)) :: .blk kb 189 #[R,.slice At nt ct,fx,fb,db,al,M] :: .row base 90 2 (.slice A2 l2.length d2) l2.length (drs l2) :: .row w0.heap.size 192 5 (.slice A3 (s.length + 1) d3) (s.length + 1) (sos s ++ [.int .i64 ↑id,.int .i64 0,.int .i64 ↑un,.int .i64 ↑tg,.int .i64 ↑rev]) :: X):=by
 subst hk
 have hSl:=fun W h h2 => grant_all me rev next month bought free Ad l.length cd l At nt ct fx fb db al tl mo 0 me2 rev2 next2 month2 bought2 free2 l2 id te de fe pr ch un W h hl ha h2 hT hTm hmo hnx hR
 unfold RetDI at hSl
 have H:Mem (w0) [] (w) (.blk (g) 67 (cur) :: .blk (kb) 189 #[R,.slice At nt ct,fx,fb,db,al,M] :: .row (bd) (90) (2) (.slice Ad l.length cd) (l.length) (drs l) :: .row (w0.heap.size) (192) (5) (.slice As s.length cs) (s.length) (sos s) :: X):=H
 have q0:=((H.blk 0 rfl).cell (o)).trans ce0
 have q1:=((H.blk 0 rfl).cell (o + 1)).trans ce1
 have q2:=((H.blk 0 rfl).cell (o + 2)).trans ce2
 have q3:=((H.blk 0 rfl).cell (o + 3)).trans ce3
 have q4:=((H.blk 0 rfl).cell (o + 4)).trans ce4
 have q5:=((H.blk 0 rfl).cell (o + 5)).trans ce5
 have q6:=((H.blk 0 rfl).cell (o + 6)).trans ce6
 have hgl:=H.lt 0 rfl
 have Lkp:=H.c7 1 rfl
 go_enter Tryz.func90,Tryz.ntmps90
 go_upto_region 4 with fail
 obtain ⟨W1,hW1⟩:∃ W1,(((w).alloc (.cells #[.int .i64 3,vme,mo,id,te,de,fe,pr,ch,un,tg,ow,bp] 92)).alloc (.cells #[(),(),(),(),(),(),.slice none 0 0] 64)).alloc (.cells #[(),(),(),(),(),(),()] 47) = W1:=⟨_,rfl⟩
 replace H:=Mem.allocF H (w.heap.size) (by first | (simp;done) | (simp;omega)) #[.int .i64 3,vme,mo,id,te,de,fe,pr,ch,un,tg,ow,bp] 92
 replace H:=Mem.allocF H (w.heap.size + 1) (by first | (simp;done) | (simp;omega)) #[(),(),(),(),(),(),.slice none 0 0] 64
 replace H:=Mem.allocF H (w.heap.size + 1 + 1) (by first | (simp;done) | (simp;omega)) #[(),(),(),(),(),(),()] 47
 rw [hW1] at H ⊢
 clear hW1
 clear q0 q1 q2 q3 q4 q5 q6 hgl
 have q1:=((H.blk 3 rfl).cell (o + 1)).trans ce1
 have hgl:=H.lt 3 rfl
 clear Lkp
 have Lev:=H.c13 2 rfl
 go_region
 obtain ⟨W2,hW2⟩:∃ W2,((W1).alloc (.cells #[id,(),un,tg,rev] 192)).drew = W2:=⟨_,rfl⟩
 replace H:=Mem.allocF H (W1.heap.size) (by first | (simp;done) | (simp;omega)) #[id,(),un,tg,rev] 192
 replace H:=H.drew
 rw [hW2] at H ⊢
 clear hW2
 clear Lev
 have Lev:=H.c13 3 rfl
 clear q1 hgl
 go_upto_region 9 with fail
 have q0:W2.cell? ⟨g,o,none⟩ = _:=((H.blk 4 rfl).cell (o)).trans ce0
 have q1:W2.cell? ⟨g,o + 1,none⟩ = _:=((H.blk 4 rfl).cell (o + 1)).trans ce1
 have q2:W2.cell? ⟨g,o + 2,none⟩ = _:=((H.blk 4 rfl).cell (o + 2)).trans ce2
 have q3:W2.cell? ⟨g,o + 3,none⟩ = _:=((H.blk 4 rfl).cell (o + 3)).trans ce3
 have q4:W2.cell? ⟨g,o + 4,none⟩ = _:=((H.blk 4 rfl).cell (o + 4)).trans ce4
 have q5:W2.cell? ⟨g,o + 5,none⟩ = _:=((H.blk 4 rfl).cell (o + 5)).trans ce5
 have q6:W2.cell? ⟨g,o + 6,none⟩ = _:=((H.blk 4 rfl).cell (o + 6)).trans ce6
 have hgl:=H.lt 4 rfl
 have hg1:g ≠ w.heap.size + 1:=fun e => H.ne 4 2 rfl rfl (by decide) e
 have hg1':w.heap.size + 1 ≠ g:=fun e => hg1 e.symm
 have hg2:g ≠ w.heap.size + 1 + 1:=fun e => H.ne 4 1 rfl rfl (by decide) e
 have hg2':w.heap.size + 1 + 1 ≠ g:=fun e => hg2 e.symm
 clear Lev
 obtain ⟨evlt,ev0,-,ev1,-,ev2,-,ev3,-,ev4,-,ev5,-,ev6,-,ev7,-,ev8,-,ev9,-,ev10,-,ev11,-,ev12,-⟩:=H.c13 3 rfl
 obtain ⟨kplt,kp0,-,kp1,-,kp2,-,kp3,-,kp4,-,kp5,-,kp6,-⟩:=H.c7 5 rfl
 have La:=H.c7 2 rfl
 have Lb:=H.c7 1 rfl
 have Nevkp:=H.ne2 3 5 rfl rfl rfl
 have Neva:=H.ne2 3 2 rfl rfl rfl
 have Nevb:=H.ne2 3 1 rfl rfl rfl
 have Nkpa:=H.ne2 5 2 rfl rfl rfl
 have Nkpb:=H.ne2 5 1 rfl rfl rfl
 have Nab:=H.ne2 2 1 rfl rfl rfl
 have hds:=isds_own (l:=l) rfl (H.own_ 6 rfl)
 have hts:=hvt.below H.below
 have V0:Below W2.heap.size W2 W2.drew:=below_draws (Below.refl _ _) 1
 go_region_held3 (fun w' => w'.cell? ⟨g,o,none⟩ = some (.int .i64 ↑me) ∧ w'.cell? ⟨g,o + 1,none⟩ = some (.int .i64 ↑rev) ∧ w'.cell? ⟨g,o + 2,none⟩ = some (.int .i64 ↑next) ∧ w'.cell? ⟨g,o + 3,none⟩ = some (.int .i64 ↑month) ∧ w'.cell? ⟨g,o + 4,none⟩ = some (.int .i64 ↑bought) ∧ w'.cell? ⟨g,o + 5,none⟩ = some (.int .i64 free) ∧ w'.cell? ⟨g,o + 6,none⟩ = some (.slice Ad l.length cd) ∧ w'.cell? ⟨kb,1,none⟩ = some (.slice At nt ct) ∧ w'.cell? ⟨kb,2,none⟩ = some (.int .i64 ↑fx) ∧ w'.cell? ⟨kb,3,none⟩ = some (.int .i64 ↑fb) ∧ w'.cell? ⟨kb,4,none⟩ = some (.int .i64 ↑db) ∧ w'.cell? ⟨kb,5,none⟩ = some (.int .i64 ↑al) ∧ w'.cell? ⟨w.heap.size,2,none⟩ = some (.int .i64 ↑mo))
  (first | with_reducible exact ⟨s0,s1,s2,s3,s4,s5,s6,s7,s8,s9,s10,s11,s13⟩ | go_keep | fail)
  (first | (go_at_call 99;(with_reducible refine (hSl W2.drew (hds.below V0) (hts.below V0)).mono ?_);rintro e we ⟨A2,c2,rfl,hown,hbe⟩;have hWe:=V0.trans (hbe.mono V0.size);have s0:=(hWe.cell (p:=⟨g,o,none⟩) hgl).trans q0;have s1:=(hWe.cell (p:=⟨g,o + 1,none⟩) hgl).trans q1;have s2:=(hWe.cell (p:=⟨g,o + 2,none⟩) hgl).trans q2;have s3:=(hWe.cell (p:=⟨g,o + 3,none⟩) hgl).trans q3;have s4:=(hWe.cell (p:=⟨g,o + 4,none⟩) hgl).trans q4;have s5:=(hWe.cell (p:=⟨g,o + 5,none⟩) hgl).trans q5;have s6:=(hWe.cell (p:=⟨g,o + 6,none⟩) hgl).trans q6;have s7:=(hWe.cell (p:=⟨kb,1,none⟩) kplt).trans kp1;have s8:=(hWe.cell (p:=⟨kb,2,none⟩) kplt).trans kp2;have s9:=(hWe.cell (p:=⟨kb,3,none⟩) kplt).trans kp3;have s10:=(hWe.cell (p:=⟨kb,4,none⟩) kplt).trans kp4;have s11:=(hWe.cell (p:=⟨kb,5,none⟩) kplt).trans kp5;have s13:=(hWe.cell (p:=⟨w.heap.size,2,none⟩) evlt).trans ev2;have HE:=Mem.rowF H.drew hbe hown (Nat.le_refl _);have az0:=(HE.blk 3 rfl).cell 0;have azf0:=(HE.blk 3 rfl).frozen 0;have az1:=(HE.blk 3 rfl).cell 1;have azf1:=(HE.blk 3 rfl).frozen 1;have az2:=(HE.blk 3 rfl).cell 2;have azf2:=(HE.blk 3 rfl).frozen 2;have az3:=(HE.blk 3 rfl).cell 3;have azf3:=(HE.blk 3 rfl).frozen 3;have az4:=(HE.blk 3 rfl).cell 4;have azf4:=(HE.blk 3 rfl).frozen 4;have az5:=(HE.blk 3 rfl).cell 5;have azf5:=(HE.blk 3 rfl).frozen 5;have az6:=(HE.blk 3 rfl).cell 6;have azf6:=(HE.blk 3 rfl).frozen 6;have azlt:=HE.lt 3 rfl;have bz0:=(HE.blk 2 rfl).cell 0;have bzf0:=(HE.blk 2 rfl).frozen 0;have bz1:=(HE.blk 2 rfl).cell 1;have bzf1:=(HE.blk 2 rfl).frozen 1;have bz2:=(HE.blk 2 rfl).cell 2;have bzf2:=(HE.blk 2 rfl).frozen 2;have bz3:=(HE.blk 2 rfl).cell 3;have bzf3:=(HE.blk 2 rfl).frozen 3;have bz4:=(HE.blk 2 rfl).cell 4;have bzf4:=(HE.blk 2 rfl).frozen 4;have bz5:=(HE.blk 2 rfl).cell 5;have bzf5:=(HE.blk 2 rfl).frozen 5;have bz6:=(HE.blk 2 rfl).cell 6;have bzf6:=(HE.blk 2 rfl).frozen 6;have bzlt:=HE.lt 2 rfl;have zne1:=HE.ne 3 2 rfl rfl (by decide);have zne2:=HE.ne 2 3 rfl rfl (by decide)))
 clear s0 s1 s2 s3 s4 s5 s6 s7 s8 s9 s10 s11 s13 q0 q1 q2 q3 q4 q5 q6 hgl hg1 hg1' hg2 hg2'
 replace H:Mem (w0) [] (we) (.row (W2.heap.size) (90) (2) (.slice A2 l2.length c2) (l2.length) (drs l2) :: .blk (W1.heap.size) 192 #[id,(),un,tg,rev] :: .blk (w.heap.size + 1 + 1) 47 #[(),(),(),(),(),(),()] :: .blk (w.heap.size + 1) 64 #[(),(),(),(),(),(),.slice none 0 0] :: .blk (w.heap.size) 92 #[.int .i64 3,vme,mo,id,te,de,fe,pr,ch,un,tg,ow,bp] :: .blk (g) 67 (cur) :: .blk (kb) 189 #[R,.slice At nt ct,fx,fb,db,al,M] :: .row (bd) (90) (2) (.slice Ad l.length cd) (l.length) (drs l) :: .row (w0.heap.size) (192) (5) (.slice As s.length cs) (s.length) (sos s) :: X):=Mem.rowF H hWe hown (Nat.le_refl _)
 clear HE az0 az1 az2 az3 az4 az5 az6 bz0 bz1 bz2 bz3 bz4 bz5 bz6 azf0 azf1 azf2 azf3 azf4 azf5 azf6 bzf0 bzf1 bzf2 bzf3 bzf4 bzf5 bzf6 azlt bzlt zne1 zne2 hds hts hSl hWe hbe hown V0
 obtain ⟨W3,hW3⟩:∃ W3,((((((((((((((we).setCell ⟨w.heap.size + 1,0,none⟩ (.int .i64 ↑me2)).setCell ⟨w.heap.size + 1,1,none⟩ (.int .i64 ↑rev2)).setCell ⟨w.heap.size + 1,2,none⟩ (.int .i64 ↑next2)).setCell ⟨w.heap.size + 1,3,none⟩ (.int .i64 ↑month2)).setCell ⟨w.heap.size + 1,4,none⟩ (.int .i64 ↑bought2)).setCell ⟨w.heap.size + 1,5,none⟩ (.int .i64 free2)).setCell ⟨w.heap.size + 1,6,none⟩ (.slice A2 l2.length c2)).setCell ⟨w.heap.size + 1 + 1,0,none⟩ (.int .i64 ↑id)).setCell ⟨w.heap.size + 1 + 1,1,none⟩ (.int .i64 ↑te)).setCell ⟨w.heap.size + 1 + 1,2,none⟩ (.int .i64 ↑de)).setCell ⟨w.heap.size + 1 + 1,3,none⟩ (.int .i64 ↑fe)).setCell ⟨w.heap.size + 1 + 1,4,none⟩ (.int .i64 ↑pr)).setCell ⟨w.heap.size + 1 + 1,5,none⟩ (.int .i64 ↑ch)).setCell ⟨w.heap.size + 1 + 1,6,none⟩ (.int .i64 ↑un) = W3:=⟨_,rfl⟩
 replace H:=Mem.set 3 H rfl (0) (.int .i64 ↑me2)
 replace H:=Mem.set 3 H rfl (1) (.int .i64 ↑rev2)
 replace H:=Mem.set 3 H rfl (2) (.int .i64 ↑next2)
 replace H:=Mem.set 3 H rfl (3) (.int .i64 ↑month2)
 replace H:=Mem.set 3 H rfl (4) (.int .i64 ↑bought2)
 replace H:=Mem.set 3 H rfl (5) (.int .i64 free2)
 replace H:=Mem.set 3 H rfl (6) (.slice A2 l2.length c2)
 replace H:=Mem.set 2 H rfl (0) (.int .i64 ↑id)
 replace H:=Mem.set 2 H rfl (1) (.int .i64 ↑te)
 replace H:=Mem.set 2 H rfl (2) (.int .i64 ↑de)
 replace H:=Mem.set 2 H rfl (3) (.int .i64 ↑fe)
 replace H:=Mem.set 2 H rfl (4) (.int .i64 ↑pr)
 replace H:=Mem.set 2 H rfl (5) (.int .i64 ↑ch)
 replace H:=Mem.set 2 H rfl (6) (.int .i64 ↑un)
 simp only [List.set_cons_zero,List.set_cons_succ,List.setIfInBounds_toArray] at H
 rw [hW3] at H ⊢
 clear hW3
 have hbq:=fun W => bill_same id te de fe pr ch un id te de fe pr ch un true (by simp) W
 have q0:W3.cell? ⟨g,o,none⟩ = _:=((H.blk 5 rfl).cell (o)).trans ce0
 have qf0:W3.frozen? ⟨g,o,none⟩ = false:=(H.blk 5 rfl).frozen (o + 0)
 have q1:W3.cell? ⟨g,o + 1,none⟩ = _:=((H.blk 5 rfl).cell (o + 1)).trans ce1
 have qf1:W3.frozen? ⟨g,o + 1,none⟩ = false:=(H.blk 5 rfl).frozen (o + 1)
 have q2:W3.cell? ⟨g,o + 2,none⟩ = _:=((H.blk 5 rfl).cell (o + 2)).trans ce2
 have qf2:W3.frozen? ⟨g,o + 2,none⟩ = false:=(H.blk 5 rfl).frozen (o + 2)
 have q3:W3.cell? ⟨g,o + 3,none⟩ = _:=((H.blk 5 rfl).cell (o + 3)).trans ce3
 have qf3:W3.frozen? ⟨g,o + 3,none⟩ = false:=(H.blk 5 rfl).frozen (o + 3)
 have q4:W3.cell? ⟨g,o + 4,none⟩ = _:=((H.blk 5 rfl).cell (o + 4)).trans ce4
 have qf4:W3.frozen? ⟨g,o + 4,none⟩ = false:=(H.blk 5 rfl).frozen (o + 4)
 have q5:W3.cell? ⟨g,o + 5,none⟩ = _:=((H.blk 5 rfl).cell (o + 5)).trans ce5
 have qf5:W3.frozen? ⟨g,o + 5,none⟩ = false:=(H.blk 5 rfl).frozen (o + 5)
 have q6:W3.cell? ⟨g,o + 6,none⟩ = _:=((H.blk 5 rfl).cell (o + 6)).trans ce6
 have qf6:W3.frozen? ⟨g,o + 6,none⟩ = false:=(H.blk 5 rfl).frozen (o + 6)
 have q7:W3.cell? ⟨g,o + 7,none⟩ = _:=((H.blk 5 rfl).cell (o + 7)).trans ce7
 have qf7:W3.frozen? ⟨g,o + 7,none⟩ = false:=(H.blk 5 rfl).frozen (o + 7)
 have hgl:=H.lt 5 rfl
 have hg1:g ≠ w.heap.size + 1:=fun e => H.ne 5 3 rfl rfl (by decide) e
 have hg1':w.heap.size + 1 ≠ g:=fun e => hg1 e.symm
 clear evlt ev0 ev1 ev2 ev3 ev4 ev5 ev6 ev7 ev8 ev9 ev10 ev11 ev12 kplt kp0 kp1 kp2 kp3 kp4 kp5 kp6 La Lb Nevkp Neva Nevb Nkpa Nkpb Nab
 have Lev:=H.c13 4 rfl
 have La:=H.c7 3 rfl
 have Lb:=H.c7 2 rfl
 have Neva:=H.ne2 4 3 rfl rfl rfl
 have Nevb:=H.ne2 4 2 rfl rfl rfl
 have Nab:=H.ne2 3 2 rfl rfl rfl
 go_wp2_with (go_at_call 46;(with_reducible refine (want_ok _ _).mono ?_);rintro e w' ⟨rfl,rfl⟩)
 clear Lev La Lb Neva Nevb Nab
 clear q0 q1 q2 q3 q4 q5 q6 qf0 qf1 qf2 qf3 qf4 qf5 qf6 qf7 hg1 hg1' hbq
 obtain ⟨W4,hW4⟩:∃ W4,(((((((W3).setCell ⟨g,o,none⟩ (.int .i64 ↑me2)).setCell ⟨g,o + 1,none⟩ (.int .i64 ↑rev2)).setCell ⟨g,o + 2,none⟩ (.int .i64 ↑next2)).setCell ⟨g,o + 3,none⟩ (.int .i64 ↑month2)).setCell ⟨g,o + 4,none⟩ (.int .i64 ↑bought2)).setCell ⟨g,o + 5,none⟩ (.int .i64 free2)).setCell ⟨g,o + 6,none⟩ (.slice A2 l2.length c2) = W4:=⟨_,rfl⟩
 replace H:=Mem.set 5 H rfl (o) (.int .i64 ↑me2)
 replace H:=Mem.set 5 H rfl (o + 1) (.int .i64 ↑rev2)
 replace H:=Mem.set 5 H rfl (o + 2) (.int .i64 ↑next2)
 replace H:=Mem.set 5 H rfl (o + 3) (.int .i64 ↑month2)
 replace H:=Mem.set 5 H rfl (o + 4) (.int .i64 ↑bought2)
 replace H:=Mem.set 5 H rfl (o + 5) (.int .i64 free2)
 replace H:=Mem.set 5 H rfl (o + 6) (.slice A2 l2.length c2)
 simp only [List.set_cons_zero,List.set_cons_succ] at H
 rw [hW4] at H ⊢
 clear hW4
 have hcu7:∀ v0 v1 v2 v3 v4 v5 v6:Value,(((((((cur.setIfInBounds (o) v0).setIfInBounds (o + 1) v1).setIfInBounds (o + 2) v2).setIfInBounds (o + 3) v3).setIfInBounds (o + 4) v4).setIfInBounds (o + 5) v5).setIfInBounds (o + 6) v6)[o + 7]? = some (.slice As s.length cs):=by
  intro v0 v1 v2 v3 v4 v5 v6
  simp [ce7]
 have hone:∀ u ∈ [Value.int .i64 ↑id,.int .i64 0,.int .i64 ↑un,.int .i64 ↑tg,.int .i64 ↑rev],u.oneCell' = true:=fun u hu => by simp at hu;rcases hu with rfl | rfl | rfl | rfl | rfl <;> rfl
 have hq3:(s.length + 1) * 40 ≤ 140737488355328:=by omega
 have hq4:s.length + 1 ≤ maxLen:=by unfold maxLen;omega
 have q7:W4.cell? ⟨g,o + 7,none⟩ = _:=((H.blk 5 rfl).cell (o + 7)).trans (hcu7 _ _ _ _ _ _ _)
 have hgl:=H.lt 5 rfl
 have hg3:g ≠ W1.heap.size:=fun e => H.ne 5 1 rfl rfl (by decide) e
 have hg3':W1.heap.size ≠ g:=fun e => hg3 e.symm
 have hg4:g ≠ W4.heap.size:=Nat.ne_of_lt hgl
 have hg4':W4.heap.size ≠ g:=fun e => hg4 e.symm
 have Lso:=H.c5 1 rfl
 go_region_law (first | ((refine step_pushM el_so (by rfl) (.tmp 95) (.tmp 97) (by rfl) 9 _ (Mem.allocF H _ rfl #[id,(),un,tg,rev] 192) w0.heap.size _ _ s.length _ [.int .i64 ↑id,.int .i64 0,.int .i64 ↑un,.int .i64 ↑tg,.int .i64 ↑rev] rfl (by rfl) (by rfl) (heap_alloc_new _ _) rfl hone hq3 hq4 (by have:=H.below.size;simp;omega) ?_);intro A3 d3 wy HY;have y7:=((HY.blk 6 rfl).cell (o + 7)).trans (hcu7 _ _ _ _ _ _ _);have yf7:=(HY.blk 6 rfl).frozen (o + 7);have ylt:=HY.lt 6 rfl) | ((refine step_pushM el_so (by rfl) (.tmp 95) (.tmp 97) (by rfl) 9 _ ((Mem.allocF H _ rfl #[id,(),un,tg,rev] 192).drew) w0.heap.size _ _ s.length _ [.int .i64 ↑id,.int .i64 0,.int .i64 ↑un,.int .i64 ↑tg,.int .i64 ↑rev] rfl (by rfl) (by rfl) (heap_alloc_new _ _) rfl hone hq3 hq4 (by have:=H.below.size;simp;omega) ?_);intro A3 d3 wy HY;have y7:=((HY.blk 6 rfl).cell (o + 7)).trans (hcu7 _ _ _ _ _ _ _);have yf7:=(HY.blk 6 rfl).frozen (o + 7);have ylt:=HY.lt 6 rfl))
 all_goals
  go_wp2
  go_end0
  exact ⟨A2,c2,W2.heap.size,A3,d3,rfl,Mem.perm ((List.Perm.swap _ _ _).trans (List.Perm.cons _ (List.Perm.swap _ _ _))) (Mem.drop_ 0 (Mem.drop_ 2 (Mem.drop_ 3 (Mem.drop_ 4 (Mem.drop_ 5 (Mem.drop_ 8 (Mem.set 6 HY rfl (o + 7) (.slice A3 (s.length + 1) d3))))))))⟩
theorem ksell4_ok (g o kb bd:Nat) (cur:Array Value) (R M:Value) (me rev next month bought:Nat) (free:Int) (l:List (Nat × Nat)) (Ad:Option Addr) (cd:Nat) (s:List So) (As:Option Addr) (cs:Nat) (At:Option Addr) (nt ct fx fb db al:Nat) (tl:List (Nat × Nat)) (k vme mo id te de fe pr ch un tg ow bp:Nat) (X:List Chunk) (w0 w:World)
 (H:Mem w0 [] w (.blk g 67 cur :: .blk kb 189 #[R,.slice At nt ct,fx,fb,db,al,M] :: .row bd 90 2 (.slice Ad l.length cd) l.length (drs l) :: .row w0.heap.size 192 5 (.slice As s.length cs) s.length (sos s) :: X))
 (ce0:cur[o]? = some (.int .i64 ↑me)) (ce1:cur[o + 1]? = some (.int .i64 ↑rev)) (ce2:cur[o + 2]? = some (.int .i64 ↑next)) (ce3:cur[o + 3]? = some (.int .i64 ↑month)) (ce4:cur[o + 4]? = some (.int .i64 ↑bought)) (ce5:cur[o + 5]? = some (.int .i64 free)) (ce6:cur[o + 6]? = some (.slice Ad l.length cd)) (ce7:cur[o + 7]? = some (.slice As s.length cs))
 (hvt:IsDs w0 (.slice At nt ct) tl) (hT:TOk tl) (hTm:TmOk fx fb db al) (ha:AOk me rev next month bought free) (hl:DOk l) (hnx:next ≤ 1048575) (hk:k = 4) (hsl:s.length ≤ 1000) (me2 rev2 next2 month2 bought2:Nat) (free2:Int) (l2:List (Nat × Nat)) (hR:Hid (rekeyP ⟨me,rev,next,month,bought,free,l⟩ = (0,⟨me2,rev2,next2,month2,bought2,free2,l2⟩,⟨id,te,de,fe,pr,ch,un⟩))) :
 Calls Tryz.prog 90 #[.pointer (some ⟨kb,0,none⟩),.pointer (some ⟨g,o,none⟩),.agg #[k,vme,mo,id,te,de,fe,pr,ch,un,tg,ow,bp]] w fun e w' => ∃ (A2:Option Addr) (d2 base:Nat) (A3:Option Addr) (d3:Nat),e = .returned (.tuple #[]) ∧ Mem w0 [] w' (.blk g 67 ((((((((cur.setIfInBounds (o) (.int .i64 ↑me2)).setIfInBounds (o + 1) (.int .i64 ↑rev2)).setIfInBounds (o + 2) (.int .i64 ↑next2)).setIfInBounds (o + 3) (.int .i64 ↑month2)).setIfInBounds (o + 4) (.int .i64 ↑bought2)).setIfInBounds (o + 5) (.int .i64 free2)).setIfInBounds (o + 6) (.slice A2 l2.length d2)).setIfInBounds (o + 7) (.slice A3 (s.length + 1) d3)) :: .blk kb 189 #[R,.slice At nt ct,fx,fb,db,al,M] :: .row base 90 2 (.slice A2 l2.length d2) l2.length (drs l2) :: .row w0.heap.size 192 5 (.slice A3 (s.length + 1) d3) (s.length + 1) (sos s ++ [.int .i64 ↑id,.int .i64 2,.int .i64 ↑rev2,.int .i64 ↑tg,.int .i64 ↑rev]) :: X):=by
 subst hk
 have hSl:=fun W h => rekey_all me rev next month bought free Ad l.length cd l 0 me2 rev2 next2 month2 bought2 free2 l2 id te de fe pr ch un W h hl ha hnx hR
 unfold RetDI at hSl
 have H:Mem (w0) [] (w) (.blk (g) 67 (cur) :: .blk (kb) 189 #[R,.slice At nt ct,fx,fb,db,al,M] :: .row (bd) (90) (2) (.slice Ad l.length cd) (l.length) (drs l) :: .row (w0.heap.size) (192) (5) (.slice As s.length cs) (s.length) (sos s) :: X):=H
 have q0:=((H.blk 0 rfl).cell (o)).trans ce0
 have q1:=((H.blk 0 rfl).cell (o + 1)).trans ce1
 have q2:=((H.blk 0 rfl).cell (o + 2)).trans ce2
 have q3:=((H.blk 0 rfl).cell (o + 3)).trans ce3
 have q4:=((H.blk 0 rfl).cell (o + 4)).trans ce4
 have q5:=((H.blk 0 rfl).cell (o + 5)).trans ce5
 have q6:=((H.blk 0 rfl).cell (o + 6)).trans ce6
 have hgl:=H.lt 0 rfl
 have Lkp:=H.c7 1 rfl
 go_enter Tryz.func90,Tryz.ntmps90
 go_upto_region 4 with fail
 obtain ⟨W1,hW1⟩:∃ W1,(((w).alloc (.cells #[.int .i64 4,vme,mo,id,te,de,fe,pr,ch,un,tg,ow,bp] 92)).alloc (.cells #[(),(),(),(),(),(),.slice none 0 0] 64)).alloc (.cells #[(),(),(),(),(),(),()] 47) = W1:=⟨_,rfl⟩
 replace H:=Mem.allocF H (w.heap.size) (by first | (simp;done) | (simp;omega)) #[.int .i64 4,vme,mo,id,te,de,fe,pr,ch,un,tg,ow,bp] 92
 replace H:=Mem.allocF H (w.heap.size + 1) (by first | (simp;done) | (simp;omega)) #[(),(),(),(),(),(),.slice none 0 0] 64
 replace H:=Mem.allocF H (w.heap.size + 1 + 1) (by first | (simp;done) | (simp;omega)) #[(),(),(),(),(),(),()] 47
 rw [hW1] at H ⊢
 clear hW1
 clear q0 q1 q2 q3 q4 q5 q6 hgl
 have q1:=((H.blk 3 rfl).cell (o + 1)).trans ce1
 have hgl:=H.lt 3 rfl
 clear Lkp
 have Lev:=H.c13 2 rfl
 go_region
 obtain ⟨W2,hW2⟩:∃ W2,((W1).alloc (.cells #[id,(),un,tg,rev] 192)).drew = W2:=⟨_,rfl⟩
 replace H:=Mem.allocF H (W1.heap.size) (by first | (simp;done) | (simp;omega)) #[id,(),un,tg,rev] 192
 replace H:=H.drew
 rw [hW2] at H ⊢
 clear hW2
 clear Lev
 have Lev:=H.c13 3 rfl
 clear q1 hgl
 have q0:W2.cell? ⟨g,o,none⟩ = _:=((H.blk 4 rfl).cell (o)).trans ce0
 have q1:W2.cell? ⟨g,o + 1,none⟩ = _:=((H.blk 4 rfl).cell (o + 1)).trans ce1
 have q2:W2.cell? ⟨g,o + 2,none⟩ = _:=((H.blk 4 rfl).cell (o + 2)).trans ce2
 have q3:W2.cell? ⟨g,o + 3,none⟩ = _:=((H.blk 4 rfl).cell (o + 3)).trans ce3
 have q4:W2.cell? ⟨g,o + 4,none⟩ = _:=((H.blk 4 rfl).cell (o + 4)).trans ce4
 have q5:W2.cell? ⟨g,o + 5,none⟩ = _:=((H.blk 4 rfl).cell (o + 5)).trans ce5
 have q6:W2.cell? ⟨g,o + 6,none⟩ = _:=((H.blk 4 rfl).cell (o + 6)).trans ce6
 have hgl:=H.lt 4 rfl
 have hg1:g ≠ w.heap.size + 1:=fun e => H.ne 4 2 rfl rfl (by decide) e
 have hg1':w.heap.size + 1 ≠ g:=fun e => hg1 e.symm
 have hg2:g ≠ w.heap.size + 1 + 1:=fun e => H.ne 4 1 rfl rfl (by decide) e
 have hg2':w.heap.size + 1 + 1 ≠ g:=fun e => hg2 e.symm
 clear Lev
 have Lev:=H.c13 3 rfl
 have Lkp:=H.c7 5 rfl
 have La:=H.c7 2 rfl
 have Lb:=H.c7 1 rfl
 have Nevkp:=H.ne2 3 5 rfl rfl rfl
 have Neva:=H.ne2 3 2 rfl rfl rfl
 have Nevb:=H.ne2 3 1 rfl rfl rfl
 have Nkpa:=H.ne2 5 2 rfl rfl rfl
 have Nkpb:=H.ne2 5 1 rfl rfl rfl
 have Nab:=H.ne2 2 1 rfl rfl rfl
 have hds:=isds_own (l:=l) rfl (H.own_ 6 rfl)
 go_wp2_with fail
 refine (hSl W2 hds).mono ?_
 rintro e we ⟨A2,c2,rfl,hown,hbe⟩
 clear q0 q1 q2 q3 q4 q5 q6 hgl hg1 hg1' hg2 hg2' hSl hds
 replace H:Mem (w0) [] (we) (.row (W2.heap.size) (90) (2) (.slice A2 l2.length c2) (l2.length) (drs l2) :: .blk (W1.heap.size) 192 #[id,(),un,tg,rev] :: .blk (w.heap.size + 1 + 1) 47 #[(),(),(),(),(),(),()] :: .blk (w.heap.size + 1) 64 #[(),(),(),(),(),(),.slice none 0 0] :: .blk (w.heap.size) 92 #[.int .i64 4,vme,mo,id,te,de,fe,pr,ch,un,tg,ow,bp] :: .blk (g) 67 (cur) :: .blk (kb) 189 #[R,.slice At nt ct,fx,fb,db,al,M] :: .row (bd) (90) (2) (.slice Ad l.length cd) (l.length) (drs l) :: .row (w0.heap.size) (192) (5) (.slice As s.length cs) (s.length) (sos s) :: X):=Mem.rowF H hbe hown (Nat.le_refl _)
 clear hbe hown
 clear Lev Lkp La Lb Nevkp Neva Nevb Nkpa Nkpb Nab
 have La:=H.c7 3 rfl
 have Lb:=H.c7 2 rfl
 have Lso:=H.c5 1 rfl
 have Lev:=H.c13 4 rfl
 have Nab:=H.ne2 3 2 rfl rfl rfl
 have Naso:=H.ne2 3 1 rfl rfl rfl
 have Naev:=H.ne2 3 4 rfl rfl rfl
 have Nbso:=H.ne2 2 1 rfl rfl rfl
 have Nbev:=H.ne2 2 4 rfl rfl rfl
 have Nsoev:=H.ne2 1 4 rfl rfl rfl
 go_wp2_with fail
 obtain ⟨W3a,hW3a⟩:∃ W3a,((((((((((((((we).setCell ⟨w.heap.size + 1,0,none⟩ (.int .i64 ↑me2)).setCell ⟨w.heap.size + 1,1,none⟩ (.int .i64 ↑rev2)).setCell ⟨w.heap.size + 1,2,none⟩ (.int .i64 ↑next2)).setCell ⟨w.heap.size + 1,3,none⟩ (.int .i64 ↑month2)).setCell ⟨w.heap.size + 1,4,none⟩ (.int .i64 ↑bought2)).setCell ⟨w.heap.size + 1,5,none⟩ (.int .i64 free2)).setCell ⟨w.heap.size + 1,6,none⟩ (.slice A2 l2.length c2)).setCell ⟨w.heap.size + 1 + 1,0,none⟩ (.int .i64 ↑id)).setCell ⟨w.heap.size + 1 + 1,1,none⟩ (.int .i64 ↑te)).setCell ⟨w.heap.size + 1 + 1,2,none⟩ (.int .i64 ↑de)).setCell ⟨w.heap.size + 1 + 1,3,none⟩ (.int .i64 ↑fe)).setCell ⟨w.heap.size + 1 + 1,4,none⟩ (.int .i64 ↑pr)).setCell ⟨w.heap.size + 1 + 1,5,none⟩ (.int .i64 ↑ch)).setCell ⟨w.heap.size + 1 + 1,6,none⟩ (.int .i64 ↑un) = W3a:=⟨_,rfl⟩
 replace H:=Mem.set 3 H rfl (0) (.int .i64 ↑me2)
 replace H:=Mem.set 3 H rfl (1) (.int .i64 ↑rev2)
 replace H:=Mem.set 3 H rfl (2) (.int .i64 ↑next2)
 replace H:=Mem.set 3 H rfl (3) (.int .i64 ↑month2)
 replace H:=Mem.set 3 H rfl (4) (.int .i64 ↑bought2)
 replace H:=Mem.set 3 H rfl (5) (.int .i64 free2)
 replace H:=Mem.set 3 H rfl (6) (.slice A2 l2.length c2)
 replace H:=Mem.set 2 H rfl (0) (.int .i64 ↑id)
 replace H:=Mem.set 2 H rfl (1) (.int .i64 ↑te)
 replace H:=Mem.set 2 H rfl (2) (.int .i64 ↑de)
 replace H:=Mem.set 2 H rfl (3) (.int .i64 ↑fe)
 replace H:=Mem.set 2 H rfl (4) (.int .i64 ↑pr)
 replace H:=Mem.set 2 H rfl (5) (.int .i64 ↑ch)
 replace H:=Mem.set 2 H rfl (6) (.int .i64 ↑un)
 simp only [List.set_cons_zero,List.set_cons_succ,List.setIfInBounds_toArray] at H
 rw [hW3a] at H ⊢
 clear hW3a
 clear La Lb Lso Lev Nab Naso Naev Nbso Nbev Nsoev
 have La:=H.c7 3 rfl
 have Lb:=H.c7 2 rfl
 have Lso:=H.c5 1 rfl
 have Nab:=H.ne2 3 2 rfl rfl rfl
 have Naso:=H.ne2 3 1 rfl rfl rfl
 have Nbso:=H.ne2 2 1 rfl rfl rfl
 go_region
 obtain ⟨W3,hW3⟩:∃ W3,(((W3a).setCell ⟨W1.heap.size,1,none⟩ (.int .i64 2)).setCell ⟨W1.heap.size,2,none⟩ (.int .i64 ↑rev2)).drew = W3:=⟨_,rfl⟩
 replace H:=Mem.set 1 H rfl (1) (.int .i64 2)
 replace H:=Mem.set 1 H rfl (2) (.int .i64 ↑rev2)
 simp only [List.set_cons_zero,List.set_cons_succ,List.setIfInBounds_toArray] at H
 replace H:=H.drew
 rw [hW3] at H ⊢
 clear hW3
 have hbq:=fun W => bill_same id te de fe pr ch un id te de fe pr ch un true (by simp) W
 have q0:W3.cell? ⟨g,o,none⟩ = _:=((H.blk 5 rfl).cell (o)).trans ce0
 have qf0:W3.frozen? ⟨g,o,none⟩ = false:=(H.blk 5 rfl).frozen (o + 0)
 have q1:W3.cell? ⟨g,o + 1,none⟩ = _:=((H.blk 5 rfl).cell (o + 1)).trans ce1
 have qf1:W3.frozen? ⟨g,o + 1,none⟩ = false:=(H.blk 5 rfl).frozen (o + 1)
 have q2:W3.cell? ⟨g,o + 2,none⟩ = _:=((H.blk 5 rfl).cell (o + 2)).trans ce2
 have qf2:W3.frozen? ⟨g,o + 2,none⟩ = false:=(H.blk 5 rfl).frozen (o + 2)
 have q3:W3.cell? ⟨g,o + 3,none⟩ = _:=((H.blk 5 rfl).cell (o + 3)).trans ce3
 have qf3:W3.frozen? ⟨g,o + 3,none⟩ = false:=(H.blk 5 rfl).frozen (o + 3)
 have q4:W3.cell? ⟨g,o + 4,none⟩ = _:=((H.blk 5 rfl).cell (o + 4)).trans ce4
 have qf4:W3.frozen? ⟨g,o + 4,none⟩ = false:=(H.blk 5 rfl).frozen (o + 4)
 have q5:W3.cell? ⟨g,o + 5,none⟩ = _:=((H.blk 5 rfl).cell (o + 5)).trans ce5
 have qf5:W3.frozen? ⟨g,o + 5,none⟩ = false:=(H.blk 5 rfl).frozen (o + 5)
 have q6:W3.cell? ⟨g,o + 6,none⟩ = _:=((H.blk 5 rfl).cell (o + 6)).trans ce6
 have qf6:W3.frozen? ⟨g,o + 6,none⟩ = false:=(H.blk 5 rfl).frozen (o + 6)
 have q7:W3.cell? ⟨g,o + 7,none⟩ = _:=((H.blk 5 rfl).cell (o + 7)).trans ce7
 have qf7:W3.frozen? ⟨g,o + 7,none⟩ = false:=(H.blk 5 rfl).frozen (o + 7)
 have hgl:=H.lt 5 rfl
 have hg1:g ≠ w.heap.size + 1:=fun e => H.ne 5 3 rfl rfl (by decide) e
 have hg1':w.heap.size + 1 ≠ g:=fun e => hg1 e.symm
 clear La Lb Lso Nab Naso Nbso
 have Lev:=H.c13 4 rfl
 have La:=H.c7 3 rfl
 have Lb:=H.c7 2 rfl
 have Neva:=H.ne2 4 3 rfl rfl rfl
 have Nevb:=H.ne2 4 2 rfl rfl rfl
 have Nab:=H.ne2 3 2 rfl rfl rfl
 go_wp2_with (go_at_call 46;(with_reducible refine (want_ok _ _).mono ?_);rintro e w' ⟨rfl,rfl⟩)
 clear Lev La Lb Neva Nevb Nab
 clear q0 q1 q2 q3 q4 q5 q6 qf0 qf1 qf2 qf3 qf4 qf5 qf6 qf7 hg1 hg1' hbq
 obtain ⟨W4,hW4⟩:∃ W4,(((((((W3).setCell ⟨g,o,none⟩ (.int .i64 ↑me2)).setCell ⟨g,o + 1,none⟩ (.int .i64 ↑rev2)).setCell ⟨g,o + 2,none⟩ (.int .i64 ↑next2)).setCell ⟨g,o + 3,none⟩ (.int .i64 ↑month2)).setCell ⟨g,o + 4,none⟩ (.int .i64 ↑bought2)).setCell ⟨g,o + 5,none⟩ (.int .i64 free2)).setCell ⟨g,o + 6,none⟩ (.slice A2 l2.length c2) = W4:=⟨_,rfl⟩
 replace H:=Mem.set 5 H rfl (o) (.int .i64 ↑me2)
 replace H:=Mem.set 5 H rfl (o + 1) (.int .i64 ↑rev2)
 replace H:=Mem.set 5 H rfl (o + 2) (.int .i64 ↑next2)
 replace H:=Mem.set 5 H rfl (o + 3) (.int .i64 ↑month2)
 replace H:=Mem.set 5 H rfl (o + 4) (.int .i64 ↑bought2)
 replace H:=Mem.set 5 H rfl (o + 5) (.int .i64 free2)
 replace H:=Mem.set 5 H rfl (o + 6) (.slice A2 l2.length c2)
 simp only [List.set_cons_zero,List.set_cons_succ] at H
 rw [hW4] at H ⊢
 clear hW4
 have hcu7:∀ v0 v1 v2 v3 v4 v5 v6:Value,(((((((cur.setIfInBounds (o) v0).setIfInBounds (o + 1) v1).setIfInBounds (o + 2) v2).setIfInBounds (o + 3) v3).setIfInBounds (o + 4) v4).setIfInBounds (o + 5) v5).setIfInBounds (o + 6) v6)[o + 7]? = some (.slice As s.length cs):=by
  intro v0 v1 v2 v3 v4 v5 v6
  simp [ce7]
 have hone:∀ u ∈ [Value.int .i64 ↑id,.int .i64 2,.int .i64 ↑rev2,.int .i64 ↑tg,.int .i64 ↑rev],u.oneCell' = true:=fun u hu => by simp at hu;rcases hu with rfl | rfl | rfl | rfl | rfl <;> rfl
 have hq3:(s.length + 1) * 40 ≤ 140737488355328:=by omega
 have hq4:s.length + 1 ≤ maxLen:=by unfold maxLen;omega
 have q7:W4.cell? ⟨g,o + 7,none⟩ = _:=((H.blk 5 rfl).cell (o + 7)).trans (hcu7 _ _ _ _ _ _ _)
 have hgl:=H.lt 5 rfl
 have hg3:g ≠ W1.heap.size:=fun e => H.ne 5 1 rfl rfl (by decide) e
 have hg3':W1.heap.size ≠ g:=fun e => hg3 e.symm
 have hg4:g ≠ W4.heap.size:=Nat.ne_of_lt hgl
 have hg4':W4.heap.size ≠ g:=fun e => hg4 e.symm
 have Lso:=H.c5 1 rfl
 go_region_law (first | ((refine step_pushM el_so (by rfl) (.tmp 95) (.tmp 97) (by rfl) 9 _ (Mem.allocF H _ rfl #[id,.int .i64 2,rev2,tg,rev] 192) w0.heap.size _ _ s.length _ [.int .i64 ↑id,.int .i64 2,.int .i64 ↑rev2,.int .i64 ↑tg,.int .i64 ↑rev] rfl (by rfl) (by rfl) (heap_alloc_new _ _) rfl hone hq3 hq4 (by have:=H.below.size;simp;omega) ?_);intro A3 d3 wy HY;have y7:=((HY.blk 6 rfl).cell (o + 7)).trans (hcu7 _ _ _ _ _ _ _);have yf7:=(HY.blk 6 rfl).frozen (o + 7);have ylt:=HY.lt 6 rfl) | ((refine step_pushM el_so (by rfl) (.tmp 95) (.tmp 97) (by rfl) 9 _ ((Mem.allocF H _ rfl #[id,.int .i64 2,rev2,tg,rev] 192).drew) w0.heap.size _ _ s.length _ [.int .i64 ↑id,.int .i64 2,.int .i64 ↑rev2,.int .i64 ↑tg,.int .i64 ↑rev] rfl (by rfl) (by rfl) (heap_alloc_new _ _) rfl hone hq3 hq4 (by have:=H.below.size;simp;omega) ?_);intro A3 d3 wy HY;have y7:=((HY.blk 6 rfl).cell (o + 7)).trans (hcu7 _ _ _ _ _ _ _);have yf7:=(HY.blk 6 rfl).frozen (o + 7);have ylt:=HY.lt 6 rfl))
 all_goals
  go_wp2
  go_end0
  exact ⟨A2,c2,W2.heap.size,A3,d3,rfl,Mem.perm ((List.Perm.swap _ _ _).trans (List.Perm.cons _ (List.Perm.swap _ _ _))) (Mem.drop_ 0 (Mem.drop_ 2 (Mem.drop_ 3 (Mem.drop_ 4 (Mem.drop_ 5 (Mem.drop_ 8 (Mem.set 6 HY rfl (o + 7) (.slice A3 (s.length + 1) d3))))))))⟩
theorem ksell2_no (g o kb bd:Nat) (cur:Array Value) (R M:Value) (me rev next month bought:Nat) (free:Int) (l:List (Nat × Nat)) (Ad:Option Addr) (cd:Nat) (s:List So) (As:Option Addr) (cs:Nat) (At:Option Addr) (nt ct fx fb db al:Nat) (tl:List (Nat × Nat)) (k vme mo id te de fe pr ch un tg ow bp:Nat) (X:List Chunk) (w0 w:World)
 (H:Mem w0 [] w (.blk g 67 cur :: .blk kb 189 #[R,.slice At nt ct,fx,fb,db,al,M] :: .row bd 90 2 (.slice Ad l.length cd) l.length (drs l) :: .row w0.heap.size 192 5 (.slice As s.length cs) s.length (sos s) :: X))
 (ce0:cur[o]? = some (.int .i64 ↑me)) (ce1:cur[o + 1]? = some (.int .i64 ↑rev)) (ce2:cur[o + 2]? = some (.int .i64 ↑next)) (ce3:cur[o + 3]? = some (.int .i64 ↑month)) (ce4:cur[o + 4]? = some (.int .i64 ↑bought)) (ce5:cur[o + 5]? = some (.int .i64 free)) (ce6:cur[o + 6]? = some (.slice Ad l.length cd)) (ce7:cur[o + 7]? = some (.slice As s.length cs))
 (hvt:IsDs w0 (.slice At nt ct) tl) (hT:TOk tl) (hTm:TmOk fx fb db al) (ha:AOk me rev next month bought free) (hl:DOk l) (hnx:next ≤ 1048575) (hk:k = 2) (ht1:1 ≤ te) (ht9:te ≤ 100000000) (hmo:mo ≤ 2399) (hsl:s.length ≤ 1000) (C E me2 rev2 next2 month2 bought2:Nat) (free2:Int) (l2:List (Nat × Nat)) (x1 x2 x3 x4 x5 x6 x7:Nat) (hR:Hid (sellP ⟨tl,fx,fb,db,al⟩ ⟨me,rev,next,month,bought,free,l⟩ te mo = (E,⟨me2,rev2,next2,month2,bought2,free2,l2⟩,⟨x1,x2,x3,x4,x5,x6,x7⟩))) (hbad:Hid ((E ≠ 0 ∧ C = E) ∨ (E = 0 ∧ C = 8 ∧ ¬ (x1 = id ∧ x2 = te ∧ x3 = de ∧ x4 = fe ∧ x5 = pr ∧ x6 = ch ∧ x7 = un)))) :
 Calls Tryz.prog 90 #[.pointer (some ⟨kb,0,none⟩),.pointer (some ⟨g,o,none⟩),.agg #[k,vme,mo,id,te,de,fe,pr,ch,un,tg,ow,bp]] w fun e w' => e = .panicked (thrown (C:Int)) ∧ Mem w0 [] w' (.blk g 67 cur :: .blk kb 189 #[R,.slice At nt ct,fx,fb,db,al,M] :: .row bd 90 2 (.slice Ad l.length cd) l.length (drs l) :: .row w0.heap.size 192 5 (.slice As s.length cs) s.length (sos s) :: X):=by
 subst hk
 have hSl:=fun W h h2 => sell_all me rev next month bought free Ad l.length cd l At nt ct fx fb db al tl te mo E me2 rev2 next2 month2 bought2 free2 l2 x1 x2 x3 x4 x5 x6 x7 W h hl ha h2 hT hTm ht1 ht9 hmo hnx hR
 unfold RetDI at hSl
 have H:Mem (w0) [] (w) (.blk (g) 67 (cur) :: .blk (kb) 189 #[R,.slice At nt ct,fx,fb,db,al,M] :: .row (bd) (90) (2) (.slice Ad l.length cd) (l.length) (drs l) :: .row (w0.heap.size) (192) (5) (.slice As s.length cs) (s.length) (sos s) :: X):=H
 have q0:=((H.blk 0 rfl).cell (o)).trans ce0
 have q1:=((H.blk 0 rfl).cell (o + 1)).trans ce1
 have q2:=((H.blk 0 rfl).cell (o + 2)).trans ce2
 have q3:=((H.blk 0 rfl).cell (o + 3)).trans ce3
 have q4:=((H.blk 0 rfl).cell (o + 4)).trans ce4
 have q5:=((H.blk 0 rfl).cell (o + 5)).trans ce5
 have q6:=((H.blk 0 rfl).cell (o + 6)).trans ce6
 have hgl:=H.lt 0 rfl
 have Lkp:=H.c7 1 rfl
 go_enter Tryz.func90,Tryz.ntmps90
 go_upto_region 4 with fail
 obtain ⟨W1,hW1⟩:∃ W1,(((w).alloc (.cells #[.int .i64 2,vme,mo,id,te,de,fe,pr,ch,un,tg,ow,bp] 92)).alloc (.cells #[(),(),(),(),(),(),.slice none 0 0] 64)).alloc (.cells #[(),(),(),(),(),(),()] 47) = W1:=⟨_,rfl⟩
 replace H:=Mem.allocF H (w.heap.size) (by first | (simp;done) | (simp;omega)) #[.int .i64 2,vme,mo,id,te,de,fe,pr,ch,un,tg,ow,bp] 92
 replace H:=Mem.allocF H (w.heap.size + 1) (by first | (simp;done) | (simp;omega)) #[(),(),(),(),(),(),.slice none 0 0] 64
 replace H:=Mem.allocF H (w.heap.size + 1 + 1) (by first | (simp;done) | (simp;omega)) #[(),(),(),(),(),(),()] 47
 rw [hW1] at H ⊢
 clear hW1
 clear q0 q1 q2 q3 q4 q5 q6 hgl
 have q1:=((H.blk 3 rfl).cell (o + 1)).trans ce1
 have hgl:=H.lt 3 rfl
 clear Lkp
 have Lev:=H.c13 2 rfl
 go_region
 obtain ⟨W2,hW2⟩:∃ W2,((W1).alloc (.cells #[id,(),un,tg,rev] 192)).drew = W2:=⟨_,rfl⟩
 replace H:=Mem.allocF H (W1.heap.size) (by first | (simp;done) | (simp;omega)) #[id,(),un,tg,rev] 192
 replace H:=H.drew
 rw [hW2] at H ⊢
 clear hW2
 clear Lev
 have Lev:=H.c13 3 rfl
 clear q1 hgl
 go_upto_region 7 with fail
 have q0:W2.cell? ⟨g,o,none⟩ = _:=((H.blk 4 rfl).cell (o)).trans ce0
 have q1:W2.cell? ⟨g,o + 1,none⟩ = _:=((H.blk 4 rfl).cell (o + 1)).trans ce1
 have q2:W2.cell? ⟨g,o + 2,none⟩ = _:=((H.blk 4 rfl).cell (o + 2)).trans ce2
 have q3:W2.cell? ⟨g,o + 3,none⟩ = _:=((H.blk 4 rfl).cell (o + 3)).trans ce3
 have q4:W2.cell? ⟨g,o + 4,none⟩ = _:=((H.blk 4 rfl).cell (o + 4)).trans ce4
 have q5:W2.cell? ⟨g,o + 5,none⟩ = _:=((H.blk 4 rfl).cell (o + 5)).trans ce5
 have q6:W2.cell? ⟨g,o + 6,none⟩ = _:=((H.blk 4 rfl).cell (o + 6)).trans ce6
 have hgl:=H.lt 4 rfl
 have hg1:g ≠ w.heap.size + 1:=fun e => H.ne 4 2 rfl rfl (by decide) e
 have hg1':w.heap.size + 1 ≠ g:=fun e => hg1 e.symm
 have hg2:g ≠ w.heap.size + 1 + 1:=fun e => H.ne 4 1 rfl rfl (by decide) e
 have hg2':w.heap.size + 1 + 1 ≠ g:=fun e => hg2 e.symm
 clear Lev
 obtain ⟨evlt,ev0,-,ev1,-,ev2,-,ev3,-,ev4,-,ev5,-,ev6,-,ev7,-,ev8,-,ev9,-,ev10,-,ev11,-,ev12,-⟩:=H.c13 3 rfl
 obtain ⟨kplt,kp0,-,kp1,-,kp2,-,kp3,-,kp4,-,kp5,-,kp6,-⟩:=H.c7 5 rfl
 have La:=H.c7 2 rfl
 have Lb:=H.c7 1 rfl
 have Nevkp:=H.ne2 3 5 rfl rfl rfl
 have Neva:=H.ne2 3 2 rfl rfl rfl
 have Nevb:=H.ne2 3 1 rfl rfl rfl
 have Nkpa:=H.ne2 5 2 rfl rfl rfl
 have Nkpb:=H.ne2 5 1 rfl rfl rfl
 have Nab:=H.ne2 2 1 rfl rfl rfl
 have hds:=isds_own (l:=l) rfl (H.own_ 6 rfl)
 have hts:=hvt.below H.below
 have V0:Below W2.heap.size W2 W2.drew:=below_draws (Below.refl _ _) 1
 go_region_held3 (fun w' => w'.cell? ⟨g,o,none⟩ = some (.int .i64 ↑me) ∧ w'.cell? ⟨g,o + 1,none⟩ = some (.int .i64 ↑rev) ∧ w'.cell? ⟨g,o + 2,none⟩ = some (.int .i64 ↑next) ∧ w'.cell? ⟨g,o + 3,none⟩ = some (.int .i64 ↑month) ∧ w'.cell? ⟨g,o + 4,none⟩ = some (.int .i64 ↑bought) ∧ w'.cell? ⟨g,o + 5,none⟩ = some (.int .i64 free) ∧ w'.cell? ⟨g,o + 6,none⟩ = some (.slice Ad l.length cd) ∧ w'.cell? ⟨kb,1,none⟩ = some (.slice At nt ct) ∧ w'.cell? ⟨kb,2,none⟩ = some (.int .i64 ↑fx) ∧ w'.cell? ⟨kb,3,none⟩ = some (.int .i64 ↑fb) ∧ w'.cell? ⟨kb,4,none⟩ = some (.int .i64 ↑db) ∧ w'.cell? ⟨kb,5,none⟩ = some (.int .i64 ↑al) ∧ w'.cell? ⟨w.heap.size,4,none⟩ = some (.int .i64 ↑te) ∧ w'.cell? ⟨w.heap.size,2,none⟩ = some (.int .i64 ↑mo))
  (first | with_reducible exact ⟨s0,s1,s2,s3,s4,s5,s6,s7,s8,s9,s10,s11,s12,s13⟩ | go_keep | fail)
  (first | (go_at_call 20;(with_reducible refine (hSl W2.drew (hds.below V0) (hts.below V0)).mono ?_);rintro e we ⟨A2,c2,rfl,hown,hbe⟩;have hWe:=V0.trans (hbe.mono V0.size);have s0:=(hWe.cell (p:=⟨g,o,none⟩) hgl).trans q0;have s1:=(hWe.cell (p:=⟨g,o + 1,none⟩) hgl).trans q1;have s2:=(hWe.cell (p:=⟨g,o + 2,none⟩) hgl).trans q2;have s3:=(hWe.cell (p:=⟨g,o + 3,none⟩) hgl).trans q3;have s4:=(hWe.cell (p:=⟨g,o + 4,none⟩) hgl).trans q4;have s5:=(hWe.cell (p:=⟨g,o + 5,none⟩) hgl).trans q5;have s6:=(hWe.cell (p:=⟨g,o + 6,none⟩) hgl).trans q6;have s7:=(hWe.cell (p:=⟨kb,1,none⟩) kplt).trans kp1;have s8:=(hWe.cell (p:=⟨kb,2,none⟩) kplt).trans kp2;have s9:=(hWe.cell (p:=⟨kb,3,none⟩) kplt).trans kp3;have s10:=(hWe.cell (p:=⟨kb,4,none⟩) kplt).trans kp4;have s11:=(hWe.cell (p:=⟨kb,5,none⟩) kplt).trans kp5;have s12:=(hWe.cell (p:=⟨w.heap.size,4,none⟩) evlt).trans ev4;have s13:=(hWe.cell (p:=⟨w.heap.size,2,none⟩) evlt).trans ev2;have HE:=Mem.rowF H.drew hbe hown (Nat.le_refl _);have az0:=(HE.blk 3 rfl).cell 0;have azf0:=(HE.blk 3 rfl).frozen 0;have az1:=(HE.blk 3 rfl).cell 1;have azf1:=(HE.blk 3 rfl).frozen 1;have az2:=(HE.blk 3 rfl).cell 2;have azf2:=(HE.blk 3 rfl).frozen 2;have az3:=(HE.blk 3 rfl).cell 3;have azf3:=(HE.blk 3 rfl).frozen 3;have az4:=(HE.blk 3 rfl).cell 4;have azf4:=(HE.blk 3 rfl).frozen 4;have az5:=(HE.blk 3 rfl).cell 5;have azf5:=(HE.blk 3 rfl).frozen 5;have az6:=(HE.blk 3 rfl).cell 6;have azf6:=(HE.blk 3 rfl).frozen 6;have azlt:=HE.lt 3 rfl;have bz0:=(HE.blk 2 rfl).cell 0;have bzf0:=(HE.blk 2 rfl).frozen 0;have bz1:=(HE.blk 2 rfl).cell 1;have bzf1:=(HE.blk 2 rfl).frozen 1;have bz2:=(HE.blk 2 rfl).cell 2;have bzf2:=(HE.blk 2 rfl).frozen 2;have bz3:=(HE.blk 2 rfl).cell 3;have bzf3:=(HE.blk 2 rfl).frozen 3;have bz4:=(HE.blk 2 rfl).cell 4;have bzf4:=(HE.blk 2 rfl).frozen 4;have bz5:=(HE.blk 2 rfl).cell 5;have bzf5:=(HE.blk 2 rfl).frozen 5;have bz6:=(HE.blk 2 rfl).cell 6;have bzf6:=(HE.blk 2 rfl).frozen 6;have bzlt:=HE.lt 2 rfl;have zne1:=HE.ne 3 2 rfl rfl (by decide);have zne2:=HE.ne 2 3 rfl rfl (by decide)))
 clear s0 s1 s2 s3 s4 s5 s6 s7 s8 s9 s10 s11 s12 s13 q0 q1 q2 q3 q4 q5 q6 hgl hg1 hg1' hg2 hg2'
 replace H:Mem (w0) [] (we) (.row (W2.heap.size) (90) (2) (.slice A2 l2.length c2) (l2.length) (drs l2) :: .blk (W1.heap.size) 192 #[id,(),un,tg,rev] :: .blk (w.heap.size + 1 + 1) 47 #[(),(),(),(),(),(),()] :: .blk (w.heap.size + 1) 64 #[(),(),(),(),(),(),.slice none 0 0] :: .blk (w.heap.size) 92 #[.int .i64 2,vme,mo,id,te,de,fe,pr,ch,un,tg,ow,bp] :: .blk (g) 67 (cur) :: .blk (kb) 189 #[R,.slice At nt ct,fx,fb,db,al,M] :: .row (bd) (90) (2) (.slice Ad l.length cd) (l.length) (drs l) :: .row (w0.heap.size) (192) (5) (.slice As s.length cs) (s.length) (sos s) :: X):=Mem.rowF H hWe hown (Nat.le_refl _)
 clear HE az0 az1 az2 az3 az4 az5 az6 bz0 bz1 bz2 bz3 bz4 bz5 bz6 azf0 azf1 azf2 azf3 azf4 azf5 azf6 bzf0 bzf1 bzf2 bzf3 bzf4 bzf5 bzf6 azlt bzlt zne1 zne2 hds hts hSl hWe hbe hown V0
 obtain ⟨W3,hW3⟩:∃ W3,((((((((((((((we).setCell ⟨w.heap.size + 1,0,none⟩ (.int .i64 ↑me2)).setCell ⟨w.heap.size + 1,1,none⟩ (.int .i64 ↑rev2)).setCell ⟨w.heap.size + 1,2,none⟩ (.int .i64 ↑next2)).setCell ⟨w.heap.size + 1,3,none⟩ (.int .i64 ↑month2)).setCell ⟨w.heap.size + 1,4,none⟩ (.int .i64 ↑bought2)).setCell ⟨w.heap.size + 1,5,none⟩ (.int .i64 free2)).setCell ⟨w.heap.size + 1,6,none⟩ (.slice A2 l2.length c2)).setCell ⟨w.heap.size + 1 + 1,0,none⟩ (.int .i64 ↑x1)).setCell ⟨w.heap.size + 1 + 1,1,none⟩ (.int .i64 ↑x2)).setCell ⟨w.heap.size + 1 + 1,2,none⟩ (.int .i64 ↑x3)).setCell ⟨w.heap.size + 1 + 1,3,none⟩ (.int .i64 ↑x4)).setCell ⟨w.heap.size + 1 + 1,4,none⟩ (.int .i64 ↑x5)).setCell ⟨w.heap.size + 1 + 1,5,none⟩ (.int .i64 ↑x6)).setCell ⟨w.heap.size + 1 + 1,6,none⟩ (.int .i64 ↑x7) = W3:=⟨_,rfl⟩
 replace H:=Mem.set 3 H rfl (0) (.int .i64 ↑me2)
 replace H:=Mem.set 3 H rfl (1) (.int .i64 ↑rev2)
 replace H:=Mem.set 3 H rfl (2) (.int .i64 ↑next2)
 replace H:=Mem.set 3 H rfl (3) (.int .i64 ↑month2)
 replace H:=Mem.set 3 H rfl (4) (.int .i64 ↑bought2)
 replace H:=Mem.set 3 H rfl (5) (.int .i64 free2)
 replace H:=Mem.set 3 H rfl (6) (.slice A2 l2.length c2)
 replace H:=Mem.set 2 H rfl (0) (.int .i64 ↑x1)
 replace H:=Mem.set 2 H rfl (1) (.int .i64 ↑x2)
 replace H:=Mem.set 2 H rfl (2) (.int .i64 ↑x3)
 replace H:=Mem.set 2 H rfl (3) (.int .i64 ↑x4)
 replace H:=Mem.set 2 H rfl (4) (.int .i64 ↑x5)
 replace H:=Mem.set 2 H rfl (5) (.int .i64 ↑x6)
 replace H:=Mem.set 2 H rfl (6) (.int .i64 ↑x7)
 simp only [List.set_cons_zero,List.set_cons_succ,List.setIfInBounds_toArray] at H
 rw [hW3] at H ⊢
 clear hW3
 have hgl:=H.lt 5 rfl
 clear evlt ev0 ev1 ev2 ev3 ev4 ev5 ev6 ev7 ev8 ev9 ev10 ev11 ev12 kplt kp0 kp1 kp2 kp3 kp4 kp5 kp6 La Lb Nevkp Neva Nevb Nkpa Nkpb Nab
 have Lev:=H.c13 4 rfl
 have La:=H.c7 3 rfl
 have Lb:=H.c7 2 rfl
 have Neva:=H.ne2 4 3 rfl rfl rfl
 have Nevb:=H.ne2 4 2 rfl rfl rfl
 have Nab:=H.ne2 3 2 rfl rfl rfl
 rcases hbad.out with ⟨hE,rfl⟩ | ⟨rfl,rfl,hne⟩
 ·have hEb:((C:Int) == 0) = false:=by simp;omega
  have hEn:¬ (C:Int) = 0:=by omega
  clear hE hR hbad
  go_wp2_with (go_at_call 46;(with_reducible refine (want_no _ _).mono ?_);rintro e w' ⟨rfl,rfl⟩)
  exact ⟨rfl,rfl,Mem.drop_ 0 (Mem.drop_ 1 (Mem.drop_ 2 (Mem.drop_ 3 (Mem.drop_ 4 H))))⟩
 ·have hbq:=fun W => bill_same x1 x2 x3 x4 x5 x6 x7 id te de fe pr ch un false (decide_eq_false hne) W
  clear hne hR hbad
  go_wp2_with (first | (go_at_call 46;(with_reducible refine (want_ok _ _).mono ?_);rintro e w' ⟨rfl,rfl⟩) | (go_at_call 46;(with_reducible refine (want_no _ _).mono ?_);rintro e w' ⟨rfl,rfl⟩))
  exact ⟨rfl,rfl,Mem.drop_ 0 (Mem.drop_ 1 (Mem.drop_ 2 (Mem.drop_ 3 (Mem.drop_ 4 H))))⟩
end Go.Proofs.YtfgiehkfcoodbaaGreat
