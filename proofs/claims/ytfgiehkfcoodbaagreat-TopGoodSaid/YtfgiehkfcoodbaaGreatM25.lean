/- (book.keeper).keep: a meter is registered. -/
import Derived.Test.YtfgiehkfcoodbaaGreatM0
import Derived.Test.YtfgiehkfcoodbaaGreatM22
import Derived.Test.YtfgiehkfcoodbaaGreatM24
import Derived.Test.YtfgiehkfcoodbaaGreatM17
import Derived.Test.YtfgiehkfcoodbaaGreatM19
namespace Go.Proofs.YtfgiehkfcoodbaaGreat
open Go.RowKit
set_option linter.unusedVariables false
set_option maxRecDepth 100000
set_option maxHeartbeats 16000000
theorem cu_info:(Tryz.prog.info? 67).map (fun i => (i.zero,i.size,i.bytes)) = some (some (.agg #[(),(),(),(),(),(),.slice none 0 0,.slice none 0 0]),8,96):=by kernel_rfl
theorem el_cu:Elem Tryz.prog 54 67 8 96:=elem_of Tryz.underlying54 cu_info rfl (by omega)
theorem keep_new (kb pb me n clock mn:Nat) (es:Array MapEntry) (D:DataW Unit) (B:List Cu) (AR:Option Addr) (cR:Nat) (T1 T2 T3 T4 T5:Value) (cells:List Value) (X:List Chunk) (w0 w:World)
 (H:Mem w0 [] w (.blk kb 189 #[.slice AR B.length cR,T1,T2,T3,T4,T5,.map (some pb)] :: .obj pb (.map es clock) :: .row w0.heap.size 67 8 (.slice AR B.length cR) B.length cells :: X))
 (hF:MapF es clock mn D) (hP:PlIs D B) (hm:me ≤ 49) (hn:place B me = none) (hl:B.length ≤ 1000) (hmn:mn ≤ 1000) :
 Calls Tryz.prog 77 #[.pointer (some ⟨kb,0,none⟩),.agg #[.int .i64 1,me,(),(),(),(),(),(),(),(),(),(),()]] w fun e w' => ∃ (AR':Option Addr) (cR':Nat) (es':Array MapEntry) (clock':Nat) (D':DataW Unit),e = .returned (.tuple #[]) ∧ MapF es' clock' (mn + 1) D' ∧ PlIs D' (B ++ [⟨openP me,[]⟩]) ∧
  Mem w0 [] w' (.blk kb 189 #[.slice AR' (B.length + 1) cR',T1,T2,T3,T4,T5,.map (some pb)] :: .obj pb (.map es' clock') :: .row w0.heap.size 67 8 (.slice AR' (B.length + 1) cR') (B.length + 1) (cells ++ [.int .i64 ↑me,.int .i64 0,.int .i64 1,.int .i64 0,.int .i64 0,.int .i64 (-1),.slice none 0 0,.slice none 0 0]) :: X):=by
 have hC:=fun W => check_is 1 (me:Int) 0 0 0 0 0 0 0 0 0 0 0 W
 have hok:evOk 1 (me:Int) 0 0 0 0 0 0 0 0 0 0 0:=by unfold evOk;omega
 have hO:=fun W => aopen_ok me W hm
 have H:Mem (w0) [] (w) (.blk (kb) 189 #[.slice AR B.length cR,T1,T2,T3,T4,T5,.map (some pb)] :: .obj (pb) (.map es clock) :: .row (w0.heap.size) (67) (8) (.slice AR B.length cR) (B.length) (cells) :: X):=H
 go_enter Tryz.func77,Tryz.ntmps77
 go_wp2_with fail
 obtain ⟨W1,hW1⟩:∃ W1,(w).alloc (.cells #[.int .i64 1,me,(),(),(),(),(),(),(),(),(),(),()] 92) = W1:=⟨_,rfl⟩
 replace H:=Mem.allocF H (w.heap.size) (by first | (simp;done) | (simp;omega)) #[.int .i64 1,me,(),(),(),(),(),(),(),(),(),(),()] 92
 rw [hW1] at H ⊢
 clear hW1
 refine (hC _).mono ?_
 rintro e wa ⟨⟨_,rfl⟩ | ⟨hno,_⟩,hba⟩
 rotate_left
 ·exact absurd hok hno
 replace H:=Mem.call H hba
 have Lev:=H.c13 0 rfl
 have Lkp:=H.c7 1 rfl
 have Nevkp:=H.ne2 0 1 rfl rfl rfl
 clear hC hok hba
 have hlk1:=place_look hF hP hm wa.drew pb (H.obj_ 2 rfl)
 have hlk2:=place_look hF hP hm wa pb (H.obj_ 2 rfl)
 rw [hn] at hlk1 hlk2
 simp only [Option.getD_none,Option.isSome_none,Int.cast_ofNat_Int] at hlk1 hlk2
 go_upto_region 2 with fail
 go_region
 obtain ⟨W2,hW2⟩:∃ W2,(wa).drew = W2:=⟨_,rfl⟩
 replace H:=H.drew
 rw [hW2] at H ⊢
 clear hW2
 clear Lev Lkp Nevkp
 have Lev:=H.c13 0 rfl
 have Lkp:=H.c7 1 rfl
 have Nevkp:=H.ne2 0 1 rfl rfl rfl
 clear hlk1 hlk2
 go_wp2_with (go_at_call 46;(with_reducible refine (want_ok _ _).mono ?_);rintro e w' ⟨rfl,rfl⟩)
 refine (hO _).mono ?_
 rintro e wb ⟨rfl,hbb⟩
 replace H:=Mem.call H hbb
 clear Lev Lkp Nevkp
 have Lev:=H.c13 0 rfl
 have Lkp:=H.c7 1 rfl
 have Nevkp:=H.ne2 0 1 rfl rfl rfl
 clear hO hbb
 go_upto_region 6 with fail
 obtain ⟨W3,hW3⟩:∃ W3,(wb).alloc (.cells #[me,(),.int .i64 1,(),(),.int .i64 (-1),.slice none 0 0] 64) = W3:=⟨_,rfl⟩
 replace H:=Mem.allocF H (wb.heap.size) (by first | (simp;done) | (simp;omega)) #[me,(),.int .i64 1,(),(),.int .i64 (-1),.slice none 0 0] 64
 rw [hW3] at H ⊢
 clear hW3
 obtain ⟨w5,es',clock',D',hup,hb5,hF5,hP5,hg5⟩:=place_put (c:=⟨openP me,[]⟩) hF hP hm hn hl (by unfold maxLen;omega) W3.drew pb (H.obj_ 3 rfl)
 have hup:(Instr.mapUpdate 187 (.map (some pb)) (.int .i64 ↑me) (.int .i64 ↑B.length)).run Tryz.prog W3.drew = .ok () w5:=hup
 clear Lev Lkp Nevkp
 have Lev:=H.c13 1 rfl
 have Lkp:=H.c7 2 rfl
 have Nevkp:=H.ne2 1 2 rfl rfl rfl
 go_region
 have H5:=Mem.turn (i:=3) H.drew rfl hg5 (c':=.obj pb (.map es' clock')) hb5 (fun k hk => .inl hk)
 have H:Mem (w0) [] (w5) (.blk (wb.heap.size) 64 #[me,(),.int .i64 1,(),(),.int .i64 (-1),.slice none 0 0] :: .blk (w.heap.size) 92 #[.int .i64 1,me,(),(),(),(),(),(),(),(),(),(),()] :: .blk (kb) 189 #[.slice AR B.length cR,T1,T2,T3,T4,T5,.map (some pb)] :: .obj (pb) (.map es' clock') :: .row (w0.heap.size) (67) (8) (.slice AR B.length cR) (B.length) (cells) :: X):=H5
 clear H5 hup hb5 hg5
 have hone:∀ u ∈ [Value.int .i64 ↑me,.int .i64 0,.int .i64 1,.int .i64 0,.int .i64 0,.int .i64 (-1),.slice none 0 0,.slice none 0 0],u.oneCell' = true:=fun u hu => by simp at hu;rcases hu with rfl | rfl | rfl | rfl | rfl | rfl <;> rfl
 have hq3:(B.length + 1) * 96 ≤ 140737488355328:=by omega
 have hq4:B.length + 1 ≤ maxLen:=by unfold maxLen;omega
 clear Lev Lkp Nevkp
 have Lac:=H.c7 0 rfl
 have Lkp:=H.c7 2 rfl
 have Nackp:=H.ne2 0 2 rfl rfl rfl
 go_upto_region 7 with fail
 go_region_law (first | ((refine step_pushM el_cu (by rfl) (.tmp 52) (.tmp 55) (by rfl) 5 _ (Mem.allocF H _ rfl #[me,(),.int .i64 1,(),(),.int .i64 (-1),.slice none 0 0,.slice none 0 0] 67) w0.heap.size _ _ B.length _ [.int .i64 ↑me,.int .i64 0,.int .i64 1,.int .i64 0,.int .i64 0,.int .i64 (-1),.slice none 0 0,.slice none 0 0] rfl (by rfl) (by rfl) (heap_alloc_new _ _) rfl hone hq3 hq4 (by have:=H.below.size;simp;omega) ?_);intro A3 d3 wy HY;have y0:=(HY.blk 3 rfl).cell 0;have yf0:=(HY.blk 3 rfl).frozen 0;have ylt:=HY.lt 3 rfl) | ((refine step_pushM el_cu (by rfl) (.tmp 52) (.tmp 55) (by rfl) 5 _ ((Mem.allocF H _ rfl #[me,(),.int .i64 1,(),(),.int .i64 (-1),.slice none 0 0,.slice none 0 0] 67).drew) w0.heap.size _ _ B.length _ [.int .i64 ↑me,.int .i64 0,.int .i64 1,.int .i64 0,.int .i64 0,.int .i64 (-1),.slice none 0 0,.slice none 0 0] rfl (by rfl) (by rfl) (heap_alloc_new _ _) rfl hone hq3 hq4 (by have:=H.below.size;simp;omega) ?_);intro A3 d3 wy HY;have y0:=(HY.blk 3 rfl).cell 0;have yf0:=(HY.blk 3 rfl).frozen 0;have ylt:=HY.lt 3 rfl))
 all_goals
  go_wp2
  refine bodyPost_ret (v:=.tuple #[]) (by simp [results,Tryz.results77,go_sem];done) rfl ?_
  exact ⟨rfl,A3,d3,es',clock',D',hF5,hP5,Mem.drop_ 0 (Mem.drop_ 1 (Mem.drop_ 2 (Mem.set 3 HY rfl 0 (.slice A3 (B.length + 1) d3))))⟩
theorem permA {a b c d e f:Chunk} {X:List Chunk}:(a :: b :: c :: d :: e :: f :: X).Perm (d :: b :: e :: f :: a :: c :: X):=by
 refine (List.perm_middle (l₁:=[a,b,c]) (a:=d) (l₂:=e :: f :: X)).trans (List.Perm.cons _ ?_)
 refine (List.Perm.swap b a _).trans (List.Perm.cons _ ?_)
 refine (List.perm_middle (l₁:=[a,c]) (a:=e) (l₂:=f :: X)).trans (List.Perm.cons _ ?_)
 exact List.perm_middle (l₁:=[a,c]) (a:=f) (l₂:=X)
theorem permB {a b c d e:Chunk} {X:List Chunk}:(a :: b :: c :: d :: e :: X).Perm (b :: e :: a :: c :: d :: X):=by
 refine (List.Perm.swap b a _).trans (List.Perm.cons _ ?_)
 exact List.perm_middle (l₁:=[a,c,d]) (a:=e) (l₂:=X)
theorem keep_deed (kb pb bd i clock mn:Nat) (es:Array MapEntry) (D:DataW Unit) (B:List Cu) (AR:Option Addr) (cR:Nat) (T1 T2 T3 T4 T5:Value) (pre post:List Value) (a0 a1 a2 a3 a4 a5 a6 a7:Value) (l l2:List (Nat × Nat)) (Ad:Option Addr) (cd:Nat) (s:List So) (As:Option Addr) (cs:Nat) (k vme mo id te de fe pr ch un tg ow bp:Nat) (news:List Value) (me2 rev2 next2 month2 bought2:Nat) (free2:Int) (X:List Chunk) (w0 w:World)
 (H:Mem w0 [] w (.blk kb 189 #[.slice AR B.length cR,T1,T2,T3,T4,T5,.map (some pb)] :: .obj pb (.map es clock) :: .row w0.heap.size 67 8 (.slice AR B.length cR) B.length (pre ++ ([a0,a1,a2,a3,a4,a5,a6,a7] ++ post)) :: .row bd 90 2 (.slice Ad l.length cd) l.length (drs l) :: .row w0.heap.size 192 5 (.slice As s.length cs) s.length (sos s) :: X))
 (hF:MapF es clock mn D) (hP:PlIs D B) (hm:vme ≤ 49) (hn:place B vme = some i) (hi:i < B.length) (hpre:pre.length = i * 8) (hl:B.length ≤ 1000) (hok:evOk k vme mo id te de fe pr ch un tg ow bp) (hk1:k ≠ 1) (hk5:k ≠ 5)
 (hS:∀ (g:Nat) (cur:Array Value) (Y:List Chunk) (W:World),Mem w0 [] W (.blk g 67 cur :: .blk kb 189 #[.slice AR B.length cR,T1,T2,T3,T4,T5,.map (some pb)] :: .row bd 90 2 (.slice Ad l.length cd) l.length (drs l) :: .row w0.heap.size 192 5 (.slice As s.length cs) s.length (sos s) :: Y) →
  cur[i * 8]? = some a0 → cur[i * 8 + 1]? = some a1 → cur[i * 8 + 2]? = some a2 → cur[i * 8 + 3]? = some a3 → cur[i * 8 + 4]? = some a4 → cur[i * 8 + 5]? = some a5 → cur[i * 8 + 6]? = some a6 → cur[i * 8 + 7]? = some a7 →
  Calls Tryz.prog 90 #[.pointer (some ⟨kb,0,none⟩),.pointer (some ⟨g,i * 8,none⟩),.agg #[k,vme,mo,id,te,de,fe,pr,ch,un,tg,ow,bp]] W fun e w' => ∃ (A2:Option Addr) (d2 base:Nat) (A3:Option Addr) (d3:Nat),e = .returned (.tuple #[]) ∧ Mem w0 [] w' (.blk g 67 ((((((((cur.setIfInBounds (i * 8) (.int .i64 ↑me2)).setIfInBounds (i * 8 + 1) (.int .i64 ↑rev2)).setIfInBounds (i * 8 + 2) (.int .i64 ↑next2)).setIfInBounds (i * 8 + 3) (.int .i64 ↑month2)).setIfInBounds (i * 8 + 4) (.int .i64 ↑bought2)).setIfInBounds (i * 8 + 5) (.int .i64 free2)).setIfInBounds (i * 8 + 6) (.slice A2 l2.length d2)).setIfInBounds (i * 8 + 7) (.slice A3 (s.length + 1) d3)) :: .blk kb 189 #[.slice AR B.length cR,T1,T2,T3,T4,T5,.map (some pb)] :: .row base 90 2 (.slice A2 l2.length d2) l2.length (drs l2) :: .row w0.heap.size 192 5 (.slice A3 (s.length + 1) d3) (s.length + 1) (sos s ++ news) :: Y)) :
 Calls Tryz.prog 77 #[.pointer (some ⟨kb,0,none⟩),.agg #[k,vme,mo,id,te,de,fe,pr,ch,un,tg,ow,bp]] w fun e w' => ∃ (A2:Option Addr) (d2 base:Nat) (A3:Option Addr) (d3:Nat),e = .returned (.tuple #[]) ∧
  Mem w0 [] w' (.blk kb 189 #[.slice AR B.length cR,T1,T2,T3,T4,T5,.map (some pb)] :: .obj pb (.map es clock) :: .row w0.heap.size 67 8 (.slice AR B.length cR) B.length (pre ++ ([.int .i64 ↑me2,.int .i64 ↑rev2,.int .i64 ↑next2,.int .i64 ↑month2,.int .i64 ↑bought2,.int .i64 free2,.slice A2 l2.length d2,.slice A3 (s.length + 1) d3] ++ post)) :: .row base 90 2 (.slice A2 l2.length d2) l2.length (drs l2) :: .row w0.heap.size 192 5 (.slice A3 (s.length + 1) d3) (s.length + 1) (sos s ++ news) :: X):=by
 have hC:=fun W => check_is (k:Int) (vme:Int) (mo:Int) (id:Int) (te:Int) (de:Int) (fe:Int) (pr:Int) (ch:Int) (un:Int) (tg:Int) (ow:Int) (bp:Int) W
 have hxl:=(H.own_ 2 rfl).1
 obtain ⟨g,cap,cur,hv,hbg,hnc,hcm,hcs,htk,H0⟩:=Mem.toArr 2 H rfl (by omega)
 injection hv with e1 _ e3
 subst e1 e3
 have hcur:cur.toList = pre ++ ([a0,a1,a2,a3,a4,a5,a6,a7] ++ (post ++ cur.toList.drop (B.length * 8))):=by
  have h:=(List.take_append_drop (B.length * 8) cur.toList).symm
  rw [htk,List.append_assoc,List.append_assoc] at h
  exact h
 obtain ⟨c0,c1,c2,c3,c4,c5,c6,c7⟩:=get8 hpre hcur
 have hS':=fun Y W h => hS g cur Y W h c0 c1 c2 c3 c4 c5 c6 c7
 have k1:((k:Int) == 1) = false:=by simp;omega
 have k5:((k:Int) == 5) = false:=by simp;omega
 have k1n:¬ (k:Int) = 1:=by omega
 have k5n:¬ (k:Int) = 5:=by omega
 have i1:(i:Int) < (B.length:Int):=by omega
 have HT:=Lib.hid (show pre.length = i * 8 ∧ (pre ++ ([a0,a1,a2,a3,a4,a5,a6,a7] ++ post)).length = B.length * 8 ∧ w0.heap.size ≤ g ∧ B.length ≤ cR ∧ cR ≤ maxLen ∧ cur.size = cR * 8 ∧ cur.toList = pre ++ ([a0,a1,a2,a3,a4,a5,a6,a7] ++ (post ++ cur.toList.drop (B.length * 8))) from ⟨hpre,hxl,hbg,hnc,hcm,hcs,hcur⟩)
 clear hS c0 c1 c2 c3 c4 c5 c6 c7 hcur htk hcs hcm hnc hbg hxl hpre H hk1 hk5
 have H:Mem (w0) [] (w) (.blk (kb) 189 #[.slice (some ⟨g,0,none⟩) B.length cR,T1,T2,T3,T4,T5,.map (some pb)] :: .obj (pb) (.map es clock) :: .blk (g) 67 (cur) :: .row (bd) (90) (2) (.slice Ad l.length cd) (l.length) (drs l) :: .row (w0.heap.size) (192) (5) (.slice As s.length cs) (s.length) (sos s) :: X):=H0
 go_enter Tryz.func77,Tryz.ntmps77
 go_wp2_with fail
 obtain ⟨W1,hW1⟩:∃ W1,(w).alloc (.cells #[k,vme,mo,id,te,de,fe,pr,ch,un,tg,ow,bp] 92) = W1:=⟨_,rfl⟩
 replace H:=Mem.allocF H (w.heap.size) (by first | (simp;done) | (simp;omega)) #[k,vme,mo,id,te,de,fe,pr,ch,un,tg,ow,bp] 92
 rw [hW1] at H ⊢
 clear hW1
 refine (hC _).mono ?_
 rintro e wa ⟨⟨_,rfl⟩ | ⟨hno,_⟩,hba⟩
 rotate_left
 ·exact absurd hok hno
 replace H:=Mem.call H hba
 have Lev:=H.c13 0 rfl
 have Lkp:=H.c7 1 rfl
 have Nevkp:=H.ne2 0 1 rfl rfl rfl
 clear hC hok hba
 have hlk1:=place_look hF hP hm wa.drew pb (H.obj_ 2 rfl)
 have hlk2:=place_look hF hP hm wa pb (H.obj_ 2 rfl)
 rw [hn] at hlk1 hlk2
 simp only [Option.getD_some,Option.isSome_some] at hlk1 hlk2
 go_upto_region 2 with fail
 go_region
 obtain ⟨W2,hW2⟩:∃ W2,(wa).drew = W2:=⟨_,rfl⟩
 replace H:=H.drew
 rw [hW2] at H ⊢
 clear hW2
 clear Lev Lkp Nevkp
 have Lev:=H.c13 0 rfl
 have Lkp:=H.c7 1 rfl
 have Nevkp:=H.ne2 0 1 rfl rfl rfl
 clear hlk1 hlk2
 go_wp2_with (go_at_call 46;(with_reducible refine (want_ok _ _).mono ?_);rintro e w' ⟨rfl,rfl⟩)
 refine (hS' _ _ (Mem.perm permA H)).mono ?_
 rintro e wb ⟨A2,d2,base,A3,d3,rfl,HB⟩
 clear hS'
 clear Lev Lkp Nevkp
 go_wp2
 refine bodyPost_ret (v:=.tuple #[]) (by simp [results,Tryz.results77,go_sem];done) rfl ?_
 obtain ⟨hpre,hxl,hbg,hnc,hcm,hcs,hcur⟩:=HT.out
 have h8:=set8 (v0:=.int .i64 ↑me2) (v1:=.int .i64 ↑rev2) (v2:=.int .i64 ↑next2) (v3:=.int .i64 ↑month2) (v4:=.int .i64 ↑bought2) (v5:=.int .i64 free2) (v6:=.slice A2 l2.length d2) (v7:=.slice A3 (s.length + 1) d3) hpre hcur
 have HB2:=Mem.perm permB (Mem.drop_ 4 HB)
 have hlen:(pre ++ ([Value.int .i64 ↑me2,.int .i64 ↑rev2,.int .i64 ↑next2,.int .i64 ↑month2,.int .i64 ↑bought2,.int .i64 free2,.slice A2 l2.length d2,.slice A3 (s.length + 1) d3] ++ post)).length = B.length * 8:=by
  rw [← hxl];simp
 refine ⟨A2,d2,base,A3,d3,rfl,Mem.toRow (n:=B.length) (cap:=cR) 2 HB2 rfl hbg hnc hcm (by simpa using hcs) ?_ hlen⟩
 rw [h8]
 generalize cur.toList.drop (B.length * 8) = d
 rw [← hlen]
 have e:∀ (p q r d:List Value),p ++ (q ++ (r ++ d)) = (p ++ (q ++ r)) ++ d:=fun p q r d => by simp only [List.append_assoc]
 rw [e]
 exact List.take_left
theorem keep_bad (kb pb bd i clock mn:Nat) (es:Array MapEntry) (D:DataW Unit) (B:List Cu) (AR:Option Addr) (cR:Nat) (T1 T2 T3 T4 T5:Value) (pre post:List Value) (a0 a1 a2 a3 a4 a5 a6 a7:Value) (l:List (Nat × Nat)) (Ad:Option Addr) (cd:Nat) (s:List So) (As:Option Addr) (cs:Nat) (k vme mo id te de fe pr ch un tg ow bp:Nat) (C:Nat) (X:List Chunk) (w0 w:World)
 (H:Mem w0 [] w (.blk kb 189 #[.slice AR B.length cR,T1,T2,T3,T4,T5,.map (some pb)] :: .obj pb (.map es clock) :: .row w0.heap.size 67 8 (.slice AR B.length cR) B.length (pre ++ ([a0,a1,a2,a3,a4,a5,a6,a7] ++ post)) :: .row bd 90 2 (.slice Ad l.length cd) l.length (drs l) :: .row w0.heap.size 192 5 (.slice As s.length cs) s.length (sos s) :: X))
 (hF:MapF es clock mn D) (hP:PlIs D B) (hm:vme ≤ 49) (hn:place B vme = some i) (hi:i < B.length) (hpre:pre.length = i * 8) (hl:B.length ≤ 1000) (hok:evOk k vme mo id te de fe pr ch un tg ow bp) (hk1:k ≠ 1) (hk5:k ≠ 5)
 (hS:∀ (g:Nat) (cur:Array Value) (Y:List Chunk) (W:World),Mem w0 [] W (.blk g 67 cur :: .blk kb 189 #[.slice AR B.length cR,T1,T2,T3,T4,T5,.map (some pb)] :: .row bd 90 2 (.slice Ad l.length cd) l.length (drs l) :: .row w0.heap.size 192 5 (.slice As s.length cs) s.length (sos s) :: Y) →
  cur[i * 8]? = some a0 → cur[i * 8 + 1]? = some a1 → cur[i * 8 + 2]? = some a2 → cur[i * 8 + 3]? = some a3 → cur[i * 8 + 4]? = some a4 → cur[i * 8 + 5]? = some a5 → cur[i * 8 + 6]? = some a6 → cur[i * 8 + 7]? = some a7 →
  Calls Tryz.prog 90 #[.pointer (some ⟨kb,0,none⟩),.pointer (some ⟨g,i * 8,none⟩),.agg #[k,vme,mo,id,te,de,fe,pr,ch,un,tg,ow,bp]] W fun e w' => e = .panicked (thrown (C:Int)) ∧ Mem w0 [] w' (.blk g 67 cur :: .blk kb 189 #[.slice AR B.length cR,T1,T2,T3,T4,T5,.map (some pb)] :: .row bd 90 2 (.slice Ad l.length cd) l.length (drs l) :: .row w0.heap.size 192 5 (.slice As s.length cs) s.length (sos s) :: Y)) :
 Calls Tryz.prog 77 #[.pointer (some ⟨kb,0,none⟩),.agg #[k,vme,mo,id,te,de,fe,pr,ch,un,tg,ow,bp]] w fun e w' => e = .panicked (thrown (C:Int)) ∧
  Mem w0 [] w' (.blk kb 189 #[.slice AR B.length cR,T1,T2,T3,T4,T5,.map (some pb)] :: .obj pb (.map es clock) :: .row w0.heap.size 67 8 (.slice AR B.length cR) B.length (pre ++ ([a0,a1,a2,a3,a4,a5,a6,a7] ++ post)) :: .row bd 90 2 (.slice Ad l.length cd) l.length (drs l) :: .row w0.heap.size 192 5 (.slice As s.length cs) s.length (sos s) :: X):=by
 have hC:=fun W => check_is (k:Int) (vme:Int) (mo:Int) (id:Int) (te:Int) (de:Int) (fe:Int) (pr:Int) (ch:Int) (un:Int) (tg:Int) (ow:Int) (bp:Int) W
 have hxl:=(H.own_ 2 rfl).1
 obtain ⟨g,cap,cur,hv,hbg,hnc,hcm,hcs,htk,H0⟩:=Mem.toArr 2 H rfl (by omega)
 injection hv with e1 _ e3
 subst e1 e3
 have hcur:cur.toList = pre ++ ([a0,a1,a2,a3,a4,a5,a6,a7] ++ (post ++ cur.toList.drop (B.length * 8))):=by
  have h:=(List.take_append_drop (B.length * 8) cur.toList).symm
  rw [htk,List.append_assoc,List.append_assoc] at h
  exact h
 obtain ⟨c0,c1,c2,c3,c4,c5,c6,c7⟩:=get8 hpre hcur
 have hS':=fun Y W h => hS g cur Y W h c0 c1 c2 c3 c4 c5 c6 c7
 have k1:((k:Int) == 1) = false:=by simp;omega
 have k5:((k:Int) == 5) = false:=by simp;omega
 have k1n:¬ (k:Int) = 1:=by omega
 have k5n:¬ (k:Int) = 5:=by omega
 have i1:(i:Int) < (B.length:Int):=by omega
 have HT:=Lib.hid (show pre.length = i * 8 ∧ (pre ++ ([a0,a1,a2,a3,a4,a5,a6,a7] ++ post)).length = B.length * 8 ∧ w0.heap.size ≤ g ∧ B.length ≤ cR ∧ cR ≤ maxLen ∧ cur.size = cR * 8 ∧ cur.toList = pre ++ ([a0,a1,a2,a3,a4,a5,a6,a7] ++ (post ++ cur.toList.drop (B.length * 8))) from ⟨hpre,hxl,hbg,hnc,hcm,hcs,hcur⟩)
 clear hS c0 c1 c2 c3 c4 c5 c6 c7 hcur htk hcs hcm hnc hbg hxl hpre H hk1 hk5
 have H:Mem (w0) [] (w) (.blk (kb) 189 #[.slice (some ⟨g,0,none⟩) B.length cR,T1,T2,T3,T4,T5,.map (some pb)] :: .obj (pb) (.map es clock) :: .blk (g) 67 (cur) :: .row (bd) (90) (2) (.slice Ad l.length cd) (l.length) (drs l) :: .row (w0.heap.size) (192) (5) (.slice As s.length cs) (s.length) (sos s) :: X):=H0
 go_enter Tryz.func77,Tryz.ntmps77
 go_wp2_with fail
 obtain ⟨W1,hW1⟩:∃ W1,(w).alloc (.cells #[k,vme,mo,id,te,de,fe,pr,ch,un,tg,ow,bp] 92) = W1:=⟨_,rfl⟩
 replace H:=Mem.allocF H (w.heap.size) (by first | (simp;done) | (simp;omega)) #[k,vme,mo,id,te,de,fe,pr,ch,un,tg,ow,bp] 92
 rw [hW1] at H ⊢
 clear hW1
 refine (hC _).mono ?_
 rintro e wa ⟨⟨_,rfl⟩ | ⟨hno,_⟩,hba⟩
 rotate_left
 ·exact absurd hok hno
 replace H:=Mem.call H hba
 have Lev:=H.c13 0 rfl
 have Lkp:=H.c7 1 rfl
 have Nevkp:=H.ne2 0 1 rfl rfl rfl
 clear hC hok hba
 have hlk1:=place_look hF hP hm wa.drew pb (H.obj_ 2 rfl)
 have hlk2:=place_look hF hP hm wa pb (H.obj_ 2 rfl)
 rw [hn] at hlk1 hlk2
 simp only [Option.getD_some,Option.isSome_some] at hlk1 hlk2
 go_upto_region 2 with fail
 go_region
 obtain ⟨W2,hW2⟩:∃ W2,(wa).drew = W2:=⟨_,rfl⟩
 replace H:=H.drew
 rw [hW2] at H ⊢
 clear hW2
 clear Lev Lkp Nevkp
 have Lev:=H.c13 0 rfl
 have Lkp:=H.c7 1 rfl
 have Nevkp:=H.ne2 0 1 rfl rfl rfl
 clear hlk1 hlk2
 go_wp2_with (go_at_call 46;(with_reducible refine (want_ok _ _).mono ?_);rintro e w' ⟨rfl,rfl⟩)
 refine (hS' _ _ (Mem.perm permA H)).mono ?_
 rintro e wb ⟨rfl,HB⟩
 clear hS'
 clear Lev Lkp Nevkp
 obtain ⟨hpre,hxl,hbg,hnc,hcm,hcs,hcur⟩:=HT.out
 have HB2:=Mem.perm permB (Mem.drop_ 4 HB)
 refine ⟨rfl,rfl,Mem.toRow (n:=B.length) (cap:=cR) 2 HB2 rfl hbg hnc hcm hcs ?_ hxl⟩
 rw [hcur]
 generalize cur.toList.drop (B.length * 8) = d
 rw [← hxl]
 have e:∀ (p q r d:List Value),p ++ (q ++ (r ++ d)) = (p ++ (q ++ r)) ++ d:=fun p q r d => by simp only [List.append_assoc]
 rw [e]
 exact List.take_left
theorem set7 {cur:Array Value} {pre post:List Value} {a0 a1 a2 a3 a4 a5 a6 a7 v0 v1 v2 v3 v4 v5 v6:Value} {o:Nat} (ho:pre.length = o) (h:cur.toList = pre ++ ([a0,a1,a2,a3,a4,a5,a6,a7] ++ post)) :
 (((((((cur.setIfInBounds (o) v0).setIfInBounds (o + 1) v1).setIfInBounds (o + 2) v2).setIfInBounds (o + 3) v3).setIfInBounds (o + 4) v4).setIfInBounds (o + 5) v5).setIfInBounds (o + 6) v6).toList = pre ++ ([v0,v1,v2,v3,v4,v5,v6,a7] ++ post):=by
 subst ho
 simp only [Array.toList_setIfInBounds,h]
 simp
theorem permC {a b c d e:Chunk} {X:List Chunk}:(a :: b :: c :: d :: e :: X).Perm (b :: c :: d :: a :: e :: X) :=
 (List.perm_middle (l₁:=[b,c,d]) (a:=a) (l₂:=e :: X)).symm
theorem keep_charge (kb pb bd i clock mn:Nat) (es:Array MapEntry) (D:DataW Unit) (B:List Cu) (AR:Option Addr) (cR:Nat) (T1 T2 T3 T4 T5:Value) (pre post:List Value) (me rev next month bought:Nat) (free:Int) (l:List (Nat × Nat)) (Ad:Option Addr) (cd:Nat) (s:List So) (As:Option Addr) (cs:Nat) (vme ow bp:Nat) (me2 rev2 next2 month2 bought2:Nat) (free2:Int) (l2:List (Nat × Nat)) (X:List Chunk) (w0 w:World)
 (H:Mem w0 [] w (.blk kb 189 #[.slice AR B.length cR,T1,T2,T3,T4,T5,.map (some pb)] :: .obj pb (.map es clock) :: .row w0.heap.size 67 8 (.slice AR B.length cR) B.length (pre ++ ([Value.int .i64 ↑me,.int .i64 ↑rev,.int .i64 ↑next,.int .i64 ↑month,.int .i64 ↑bought,.int .i64 free,.slice Ad l.length cd,.slice As s.length cs] ++ post)) :: .row bd 90 2 (.slice Ad l.length cd) l.length (drs l) :: .row w0.heap.size 192 5 (.slice As s.length cs) s.length (sos s) :: X))
 (hF:MapF es clock mn D) (hP:PlIs D B) (hm:vme ≤ 49) (hn:place B vme = some i) (hi:i < B.length) (hpre:pre.length = i * 8) (hl:B.length ≤ 1000) (ho1:1 ≤ ow) (ho9:ow ≤ 1000000000) (hbp:bp ≤ 10000) (ha:AOk me rev next month bought free) (hd:DOk l) (hR:Hid (oweP ⟨me,rev,next,month,bought,free,l⟩ ow bp = (0,⟨me2,rev2,next2,month2,bought2,free2,l2⟩))) :
 Calls Tryz.prog 77 #[.pointer (some ⟨kb,0,none⟩),.agg #[.int .i64 5,vme,(),(),(),(),(),(),(),(),(),ow,bp]] w fun e w' => ∃ (A2:Option Addr) (d2 base:Nat),e = .returned (.tuple #[]) ∧
  Mem w0 [] w' (.blk kb 189 #[.slice AR B.length cR,T1,T2,T3,T4,T5,.map (some pb)] :: .obj pb (.map es clock) :: .row w0.heap.size 67 8 (.slice AR B.length cR) B.length (pre ++ ([Value.int .i64 ↑me2,.int .i64 ↑rev2,.int .i64 ↑next2,.int .i64 ↑month2,.int .i64 ↑bought2,.int .i64 free2,.slice A2 l2.length d2,.slice As s.length cs] ++ post)) :: .row base 90 2 (.slice A2 l2.length d2) l2.length (drs l2) :: .row w0.heap.size 192 5 (.slice As s.length cs) s.length (sos s) :: X):=by
 have hC:=fun W => check_is 5 (vme:Int) 0 0 0 0 0 0 0 0 0 (ow:Int) (bp:Int) W
 have hok:evOk 5 (vme:Int) 0 0 0 0 0 0 0 0 0 (ow:Int) (bp:Int):=by unfold evOk;omega
 have hxl:=(H.own_ 2 rfl).1
 obtain ⟨g,cap,cur,hv,hbg,hnc,hcm,hcs,htk,H0⟩:=Mem.toArr 2 H rfl (by omega)
 injection hv with e1 _ e3
 subst e1 e3
 have hcur:cur.toList = pre ++ ([Value.int .i64 ↑me,.int .i64 ↑rev,.int .i64 ↑next,.int .i64 ↑month,.int .i64 ↑bought,.int .i64 free,.slice Ad l.length cd,.slice As s.length cs] ++ (post ++ cur.toList.drop (B.length * 8))):=by
  have h:=(List.take_append_drop (B.length * 8) cur.toList).symm
  rw [htk,List.append_assoc,List.append_assoc] at h
  exact h
 obtain ⟨c0,c1,c2,c3,c4,c5,c6,c7⟩:=get8 hpre hcur
 have hOw:=fun W h => owe_all me rev next month bought ow bp free Ad l.length cd l 0 me2 rev2 next2 month2 bought2 free2 l2 W h hd ha ho1 ho9 hbp hR
 unfold RetOI at hOw
 simp only [Int.cast_ofNat_Int] at hOw
 have i1:(i:Int) < (B.length:Int):=by omega
 have HT:=Lib.hid (show pre.length = i * 8 ∧ (pre ++ ([Value.int .i64 ↑me,.int .i64 ↑rev,.int .i64 ↑next,.int .i64 ↑month,.int .i64 ↑bought,.int .i64 free,.slice Ad l.length cd,.slice As s.length cs] ++ post)).length = B.length * 8 ∧ w0.heap.size ≤ g ∧ B.length ≤ cR ∧ cR ≤ maxLen ∧ cur.size = cR * 8 ∧ cur.toList = pre ++ ([Value.int .i64 ↑me,.int .i64 ↑rev,.int .i64 ↑next,.int .i64 ↑month,.int .i64 ↑bought,.int .i64 free,.slice Ad l.length cd,.slice As s.length cs] ++ (post ++ cur.toList.drop (B.length * 8))) from ⟨hpre,hxl,hbg,hnc,hcm,hcs,hcur⟩)
 clear hcur htk hcs hcm hnc hbg hxl hpre H
 have H:Mem (w0) [] (w) (.blk (kb) 189 #[.slice (some ⟨g,0,none⟩) B.length cR,T1,T2,T3,T4,T5,.map (some pb)] :: .obj (pb) (.map es clock) :: .blk (g) 67 (cur) :: .row (bd) (90) (2) (.slice Ad l.length cd) (l.length) (drs l) :: .row (w0.heap.size) (192) (5) (.slice As s.length cs) (s.length) (sos s) :: X):=H0
 go_enter Tryz.func77,Tryz.ntmps77
 go_wp2_with fail
 obtain ⟨W1,hW1⟩:∃ W1,(w).alloc (.cells #[.int .i64 5,vme,(),(),(),(),(),(),(),(),(),ow,bp] 92) = W1:=⟨_,rfl⟩
 replace H:=Mem.allocF H (w.heap.size) (by first | (simp;done) | (simp;omega)) #[.int .i64 5,vme,(),(),(),(),(),(),(),(),(),ow,bp] 92
 rw [hW1] at H ⊢
 clear hW1
 refine (hC _).mono ?_
 rintro e wa ⟨⟨_,rfl⟩ | ⟨hno,_⟩,hba⟩
 rotate_left
 ·exact absurd hok hno
 replace H:=Mem.call H hba
 have Lev:=H.c13 0 rfl
 have Lkp:=H.c7 1 rfl
 have Nevkp:=H.ne2 0 1 rfl rfl rfl
 clear hC hok hba
 have hlk1:=place_look hF hP hm wa.drew pb (H.obj_ 2 rfl)
 have hlk2:=place_look hF hP hm wa pb (H.obj_ 2 rfl)
 rw [hn] at hlk1 hlk2
 simp only [Option.getD_some,Option.isSome_some] at hlk1 hlk2
 go_upto_region 2 with fail
 go_region
 obtain ⟨W2,hW2⟩:∃ W2,(wa).drew = W2:=⟨_,rfl⟩
 replace H:=H.drew
 rw [hW2] at H ⊢
 clear hW2
 clear Lev Lkp Nevkp
 obtain ⟨evlt,ev0,-,ev1,-,ev2,-,ev3,-,ev4,-,ev5,-,ev6,-,ev7,-,ev8,-,ev9,-,ev10,-,ev11,-,ev12,-⟩:=H.c13 0 rfl
 have Lkp:=H.c7 1 rfl
 have Nevkp:=H.ne2 0 1 rfl rfl rfl
 clear hlk1 hlk2
 have hds:=isds_own (l:=l) rfl (H.own_ 4 rfl)
 go_upto_region 12 with (go_at_call 46;(with_reducible refine (want_ok _ _).mono ?_);rintro e w' ⟨rfl,rfl⟩)
 have q0:W2.cell? ⟨g,i * 8,none⟩ = _:=((H.blk 3 rfl).cell (i * 8)).trans c0
 have q1:W2.cell? ⟨g,i * 8 + 1,none⟩ = _:=((H.blk 3 rfl).cell (i * 8 + 1)).trans c1
 have q2:W2.cell? ⟨g,i * 8 + 2,none⟩ = _:=((H.blk 3 rfl).cell (i * 8 + 2)).trans c2
 have q3:W2.cell? ⟨g,i * 8 + 3,none⟩ = _:=((H.blk 3 rfl).cell (i * 8 + 3)).trans c3
 have q4:W2.cell? ⟨g,i * 8 + 4,none⟩ = _:=((H.blk 3 rfl).cell (i * 8 + 4)).trans c4
 have q5:W2.cell? ⟨g,i * 8 + 5,none⟩ = _:=((H.blk 3 rfl).cell (i * 8 + 5)).trans c5
 have q6:W2.cell? ⟨g,i * 8 + 6,none⟩ = _:=((H.blk 3 rfl).cell (i * 8 + 6)).trans c6
 have hgl:=H.lt 3 rfl
 obtain ⟨o,ho⟩:∃ o,i * 8 = o:=⟨_,rfl⟩
 rw [ho] at q0 q1 q2 q3 q4 q5 q6 HT
 simp only [ho]
 have HT2:=Lib.hid ho
 clear ho
 rw [HT2.out] at c0 c1 c2 c3 c4 c5 c6 c7
 have HC:=Lib.hid (And.intro c0 (And.intro c1 (And.intro c2 (And.intro c3 (And.intro c4 (And.intro c5 c6))))))
 clear c0 c1 c2 c3 c4 c5 c6 c7
 obtain ⟨LL,hLL⟩:∃ LL:List Chunk,(.blk (w.heap.size) 92 #[.int .i64 5,vme,(),(),(),(),(),(),(),(),(),ow,bp] :: .blk (kb) 189 #[.slice (some ⟨g,0,none⟩) B.length cR,T1,T2,T3,T4,T5,.map (some pb)] :: .obj (pb) (.map es clock) :: .blk (g) 67 (cur) :: .row (bd) (90) (2) (.slice Ad l.length cd) (l.length) (drs l) :: .row (w0.heap.size) (192) (5) (.slice As s.length cs) (s.length) (sos s) :: X) = LL:=⟨_,rfl⟩
 rw [hLL] at H
 go_cut [9,10] (fun p0 p1 wx => ∃ (na:Nat) (A2:Option Addr) (d2:Nat) (base:Nat),p0 = .pointer (some ⟨na,0,none⟩) ∧ p1 = .int .i64 0 ∧ Mem (w0) [] wx (LL ++ (.blk na 64 #[me2,rev2,next2,month2,bought2,free2,.slice A2 l2.length d2] :: [.row (base) (90) (2) (.slice A2 l2.length d2) (l2.length) (drs l2)])) ∧ Below W2.heap.size W2 wx)
 case first =>
  obtain ⟨Sd,hSd⟩:∃ Sd:World → Prop,Sd = fun w' => w'.cell? ⟨w.heap.size,11,none⟩ = some (.int .i64 ↑ow) ∧ w'.cell? ⟨w.heap.size,12,none⟩ = some (.int .i64 ↑bp) ∧ w'.cell? ⟨g,o,none⟩ = some (.int .i64 ↑me) ∧ w'.cell? ⟨g,o + 1,none⟩ = some (.int .i64 ↑rev) ∧ w'.cell? ⟨g,o + 2,none⟩ = some (.int .i64 ↑next) ∧ w'.cell? ⟨g,o + 3,none⟩ = some (.int .i64 ↑month) ∧ w'.cell? ⟨g,o + 4,none⟩ = some (.int .i64 ↑bought) ∧ w'.cell? ⟨g,o + 5,none⟩ = some (.int .i64 free) ∧ w'.cell? ⟨g,o + 6,none⟩ = some (.slice Ad l.length cd):=⟨_,rfl⟩
  have hSk:∀ we,Below W2.heap.size W2 we → Sd we:=fun we hWe => by rw [hSd];exact ⟨(hWe.cell evlt).trans ev11,(hWe.cell evlt).trans ev12,(hWe.cell hgl).trans q0,(hWe.cell hgl).trans q1,(hWe.cell hgl).trans q2,(hWe.cell hgl).trans q3,(hWe.cell hgl).trans q4,(hWe.cell hgl).trans q5,(hWe.cell hgl).trans q6⟩
  have nz0a:W2.heap.size ≠ w.heap.size:=by have:=evlt;omega
  have nz0b:W2.heap.size + 1 ≠ w.heap.size:=by have:=evlt;omega
  have nz0c:w.heap.size ≠ W2.heap.size:=by have:=evlt;omega
  have nz0d:w.heap.size ≠ W2.heap.size + 1:=by have:=evlt;omega
  have nz1a:W2.heap.size ≠ g:=by have:=hgl;omega
  have nz1b:W2.heap.size + 1 ≠ g:=by have:=hgl;omega
  have nz1c:g ≠ W2.heap.size:=by have:=hgl;omega
  have nz1d:g ≠ W2.heap.size + 1:=by have:=hgl;omega
  have V0:Mem W2 [] (W2).drew []:=(Mem.init W2).drew
  have B0:=V0.below
  have V1:Mem W2 [] (W2.alloc (.cells #[(),(),(),(),(),(),.slice none 0 0] 64)).drew [.blk (W2.heap.size) 64 #[(),(),(),(),(),(),.slice none 0 0]]:=((Mem.init W2).alloc _ rfl #[(),(),(),(),(),(),.slice none 0 0] 64).drew
  have B1:=V1.below
  have V1b0:=V1.blk 0 rfl
  go_region_held3 (fun w' => w'.cell? ⟨w.heap.size,11,none⟩ = some (.int .i64 ↑ow) ∧ w'.cell? ⟨w.heap.size,12,none⟩ = some (.int .i64 ↑bp) ∧ w'.cell? ⟨g,o,none⟩ = some (.int .i64 ↑me) ∧ w'.cell? ⟨g,o + 1,none⟩ = some (.int .i64 ↑rev) ∧ w'.cell? ⟨g,o + 2,none⟩ = some (.int .i64 ↑next) ∧ w'.cell? ⟨g,o + 3,none⟩ = some (.int .i64 ↑month) ∧ w'.cell? ⟨g,o + 4,none⟩ = some (.int .i64 ↑bought) ∧ w'.cell? ⟨g,o + 5,none⟩ = some (.int .i64 free) ∧ w'.cell? ⟨g,o + 6,none⟩ = some (.slice Ad l.length cd)) (first | with_reducible exact ⟨s0,s1,s2,s3,s4,s5,s6,s7,s8⟩ | go_keep | fail) (first | (go_at_call 91;(with_reducible refine (hOw (W2).drew (hds.below B0)).mono ?_);rintro e we ⟨A2,d2,rfl,hown,hbe⟩;have hV:=V0;obtain ⟨bse,hK⟩:∃ bse:Nat,Mem (W2).drew [] we [.row (bse) (90) (2) (.slice A2 l2.length d2) (l2.length) (drs l2)]:=⟨_,Mem.row (Mem.init _) hbe hown (Nat.le_refl _)⟩;have hWe:Below W2.heap.size W2 we:=B0.trans (hbe.mono B0.size);have q:=hSk _ hWe;rw [hSd] at q;obtain ⟨s0,s1,s2,s3,s4,s5,s6,s7,s8⟩:=q;have sz:=hWe.size;have ez0a:we.heap.size ≠ w.heap.size:=(by have:=evlt;omega);have ez0b:we.heap.size + 1 ≠ w.heap.size:=(by have:=evlt;omega);have ez1a:we.heap.size ≠ g:=(by have:=hgl;omega);have ez1b:we.heap.size + 1 ≠ g:=(by have:=hgl;omega)) | (go_at_call 91;(with_reducible refine (hOw (W2.alloc (.cells #[(),(),(),(),(),(),.slice none 0 0] 64)).drew (hds.below B1)).mono ?_);rintro e we ⟨A2,d2,rfl,hown,hbe⟩;have hV:=V1;obtain ⟨bse,hK⟩:∃ bse:Nat,Mem (W2.alloc (.cells #[(),(),(),(),(),(),.slice none 0 0] 64)).drew [] we [.row (bse) (90) (2) (.slice A2 l2.length d2) (l2.length) (drs l2)]:=⟨_,Mem.row (Mem.init _) hbe hown (Nat.le_refl _)⟩;have hWe:Below W2.heap.size W2 we:=B1.trans (hbe.mono B1.size);have q:=hSk _ hWe;rw [hSd] at q;obtain ⟨s0,s1,s2,s3,s4,s5,s6,s7,s8⟩:=q;have sz:=hWe.size;have ez0a:we.heap.size ≠ w.heap.size:=(by have:=evlt;omega);have ez0b:we.heap.size + 1 ≠ w.heap.size:=(by have:=evlt;omega);have ez1a:we.heap.size ≠ g:=(by have:=hgl;omega);have ez1b:we.heap.size + 1 ≠ g:=(by have:=hgl;omega);have zb0:=Blk.below V1b0 hbe V1b0.lt;obtain ⟨zb0lt,zb0_0,zb0f0,zb0_1,zb0f1,zb0_2,zb0f2,zb0_3,zb0f3,zb0_4,zb0f4,zb0_5,zb0f5,zb0_6,zb0f6⟩:=(V1.call hbe).c7 0 rfl))
  all_goals
   go_wp2_with fail
   go_meet
   refine ⟨_,A2,d2,bse,rfl,rfl,?_⟩
   first
   | with_reducible exact ⟨cr1_a H hV hK,(cr1_a (Mem.init W2) hV hK).below⟩
   | (have h:=cr1_b (c:=#[me2,rev2,next2,month2,bought2,free2,.slice A2 l2.length d2]) (Mem.init W2) hV hK [(0,.int .i64 ↑me2),(1,.int .i64 ↑rev2),(2,.int .i64 ↑next2),(3,.int .i64 ↑month2),(4,.int .i64 ↑bought2),(5,.int .i64 free2),(6,.slice A2 l2.length d2)] (by simp only [List.foldl_cons,List.foldl_nil,List.setIfInBounds_toArray,List.set_cons_zero,List.set_cons_succ])
      simp only [sets,List.foldl_cons,List.foldl_nil,List.nil_append] at h
      with_reducible exact ⟨H.join h,h.below⟩)
 case rest =>
  obtain ⟨na,A2,d2,base,rfl,rfl,H,hCR⟩:=hcut
  replace H:=Mem.perm List.perm_append_comm H
  subst hLL
  replace H:Mem (w0) [] (wc) (.blk (na) 64 #[me2,rev2,next2,month2,bought2,free2,.slice A2 l2.length d2] :: .row (base) (90) (2) (.slice A2 l2.length d2) (l2.length) (drs l2) :: .blk (w.heap.size) 92 #[.int .i64 5,vme,(),(),(),(),(),(),(),(),(),ow,bp] :: .blk (kb) 189 #[.slice (some ⟨g,0,none⟩) B.length cR,T1,T2,T3,T4,T5,.map (some pb)] :: .obj (pb) (.map es clock) :: .blk (g) 67 (cur) :: .row (bd) (90) (2) (.slice Ad l.length cd) (l.length) (drs l) :: .row (w0.heap.size) (192) (5) (.slice As s.length cs) (s.length) (sos s) :: X):=H
  obtain ⟨c0,c1,c2,c3,c4,c5,c6⟩:=HC.out
  clear HC hgl q0 q1 q2 q3 q4 q5 q6 hOw hds
  have q0:wc.cell? ⟨g,o,none⟩ = _:=((H.blk 5 rfl).cell (o)).trans c0
  have qf0:wc.frozen? ⟨g,o,none⟩ = false:=(H.blk 5 rfl).frozen (o)
  have q1:wc.cell? ⟨g,o + 1,none⟩ = _:=((H.blk 5 rfl).cell (o + 1)).trans c1
  have qf1:wc.frozen? ⟨g,o + 1,none⟩ = false:=(H.blk 5 rfl).frozen (o + 1)
  have q2:wc.cell? ⟨g,o + 2,none⟩ = _:=((H.blk 5 rfl).cell (o + 2)).trans c2
  have qf2:wc.frozen? ⟨g,o + 2,none⟩ = false:=(H.blk 5 rfl).frozen (o + 2)
  have q3:wc.cell? ⟨g,o + 3,none⟩ = _:=((H.blk 5 rfl).cell (o + 3)).trans c3
  have qf3:wc.frozen? ⟨g,o + 3,none⟩ = false:=(H.blk 5 rfl).frozen (o + 3)
  have q4:wc.cell? ⟨g,o + 4,none⟩ = _:=((H.blk 5 rfl).cell (o + 4)).trans c4
  have qf4:wc.frozen? ⟨g,o + 4,none⟩ = false:=(H.blk 5 rfl).frozen (o + 4)
  have q5:wc.cell? ⟨g,o + 5,none⟩ = _:=((H.blk 5 rfl).cell (o + 5)).trans c5
  have qf5:wc.frozen? ⟨g,o + 5,none⟩ = false:=(H.blk 5 rfl).frozen (o + 5)
  have q6:wc.cell? ⟨g,o + 6,none⟩ = _:=((H.blk 5 rfl).cell (o + 6)).trans c6
  have qf6:wc.frozen? ⟨g,o + 6,none⟩ = false:=(H.blk 5 rfl).frozen (o + 6)
  have hgl:=H.lt 5 rfl
  have hg1:g ≠ na:=fun e => H.ne 5 0 rfl rfl (by decide) e
  have hg1':na ≠ g:=fun e => hg1 e.symm
  clear c0 c1 c2 c3 c4 c5 c6
  clear evlt ev0 ev1 ev2 ev3 ev4 ev5 ev6 ev7 ev8 ev9 ev10 ev11 ev12 Lkp Nevkp
  have Lna:=H.c7 0 rfl
  go_wp2_with (go_at_call 46;(with_reducible refine (want_ok _ _).mono ?_);rintro e w' ⟨rfl,rfl⟩)
  clear Lna
  clear q0 q1 q2 q3 q4 q5 q6 qf0 qf1 qf2 qf3 qf4 qf5 qf6 hg1 hg1' hgl
  obtain ⟨W4,hW4⟩:∃ W4,(((((((wc).setCell ⟨g,o,none⟩ (.int .i64 ↑me2)).setCell ⟨g,o + 1,none⟩ (.int .i64 ↑rev2)).setCell ⟨g,o + 2,none⟩ (.int .i64 ↑next2)).setCell ⟨g,o + 3,none⟩ (.int .i64 ↑month2)).setCell ⟨g,o + 4,none⟩ (.int .i64 ↑bought2)).setCell ⟨g,o + 5,none⟩ (.int .i64 free2)).setCell ⟨g,o + 6,none⟩ (.slice A2 l2.length d2) = W4:=⟨_,rfl⟩
  replace H:=Mem.set 5 H rfl (o) (.int .i64 ↑me2)
  replace H:=Mem.set 5 H rfl (o + 1) (.int .i64 ↑rev2)
  replace H:=Mem.set 5 H rfl (o + 2) (.int .i64 ↑next2)
  replace H:=Mem.set 5 H rfl (o + 3) (.int .i64 ↑month2)
  replace H:=Mem.set 5 H rfl (o + 4) (.int .i64 ↑bought2)
  replace H:=Mem.set 5 H rfl (o + 5) (.int .i64 free2)
  replace H:=Mem.set 5 H rfl (o + 6) (.slice A2 l2.length d2)
  simp only [List.set_cons_zero,List.set_cons_succ] at H
  rw [hW4] at H ⊢
  clear hW4
  go_end0
  obtain ⟨hpre,hxl,hbg,hnc,hcm,hcs,hcur⟩:=HT.out
  have h8:=set7 (v0:=.int .i64 ↑me2) (v1:=.int .i64 ↑rev2) (v2:=.int .i64 ↑next2) (v3:=.int .i64 ↑month2) (v4:=.int .i64 ↑bought2) (v5:=.int .i64 free2) (v6:=.slice A2 l2.length d2) hpre hcur
  have HB2:=Mem.perm permC (Mem.drop_ 0 (Mem.drop_ 2 (Mem.drop_ 6 H)))
  have hlen:(pre ++ ([Value.int .i64 ↑me2,.int .i64 ↑rev2,.int .i64 ↑next2,.int .i64 ↑month2,.int .i64 ↑bought2,.int .i64 free2,.slice A2 l2.length d2,.slice As s.length cs] ++ post)).length = B.length * 8:=by
   rw [← hxl];simp
  refine ⟨A2,d2,base,rfl,Mem.toRow (n:=B.length) (cap:=cR) 2 HB2 rfl hbg hnc hcm (by simpa using hcs) ?_ hlen⟩
  rw [h8]
  generalize cur.toList.drop (B.length * 8) = d
  rw [← hlen]
  have e:∀ (p q r d:List Value),p ++ (q ++ (r ++ d)) = (p ++ (q ++ r)) ++ d:=fun p q r d => by simp only [List.append_assoc]
  rw [e]
  exact List.take_left
structure Pl where
 Ad:Option Addr
 cd:Nat
 bd:Nat
 As:Option Addr
 cs:Nat
def cuCells (x:Cu × Pl):List Value:=[.int .i64 ↑x.1.a.me,.int .i64 ↑x.1.a.rev,.int .i64 ↑x.1.a.next,.int .i64 ↑x.1.a.month,.int .i64 ↑x.1.a.bought,.int .i64 x.1.a.free,.slice x.2.Ad x.1.a.l.length x.2.cd,.slice x.2.As x.1.s.length x.2.cs]
def custCells (Q:List (Cu × Pl)):List Value:=Q.flatMap cuCells
theorem custCells_len (Q:List (Cu × Pl)):(custCells Q).length = Q.length * 8:=by
 induction Q with
 | nil => rfl
 | cons x Q ih =>
  show (cuCells x ++ custCells Q).length = _
  rw [List.length_append,ih];simp only [cuCells,List.length_cons,List.length_nil];omega
theorem custCells_split (Q1 Q2:List (Cu × Pl)) (x:Cu × Pl):custCells (Q1 ++ x :: Q2) = custCells Q1 ++ (cuCells x ++ custCells Q2):=by simp [custCells]
theorem custCells_snoc (Q:List (Cu × Pl)) (x:Cu × Pl):custCells (Q ++ [x]) = custCells Q ++ cuCells x:=by simp [custCells]
theorem rows_perm {a b c r1 r2:Chunk} {R1 R2 Y:List Chunk}:(a :: b :: c :: ((R1 ++ ([r1,r2] ++ R2)) ++ Y)).Perm (a :: b :: c :: r1 :: r2 :: ((R1 ++ R2) ++ Y)):=by
 refine .cons _ (.cons _ (.cons _ ?_))
 have:=(List.perm_middle (l₁:=R1) (a:=r1) (l₂:=r2 :: R2)).trans (.cons _ (List.perm_middle (l₁:=R1) (a:=r2) (l₂:=R2)))
 exact this.append_right Y
theorem rows_new {a b c r1 r2:Chunk} {R Y:List Chunk}:(r1 :: r2 :: a :: b :: c :: (R ++ Y)).Perm (a :: b :: c :: ((R ++ [r1,r2]) ++ Y)):=by
 have h:(r1 :: r2 :: a :: b :: c :: (R ++ Y)).Perm (a :: b :: c :: r1 :: r2 :: (R ++ Y)):=by
  refine ((List.perm_middle (l₁:=[a,b,c]) (a:=r1) (l₂:=r2 :: (R ++ Y))).trans (.cons _ ?_)).symm
  exact List.perm_middle (l₁:=[a,b,c]) (a:=r2) (l₂:=R ++ Y)
 refine h.trans ?_
 have:=(rows_perm (a:=a) (b:=b) (c:=c) (r1:=r1) (r2:=r2) (R1:=R) (R2:=[]) (Y:=Y)).symm
 simpa using this
theorem split_at {Q:List (Cu × Pl)} {B:List Cu} (h:Q.map Prod.fst = B) {i:Nat} (hi:i < B.length):∃ Q1 p Q2,Q = Q1 ++ (B[i],p) :: Q2 ∧ Q1.length = i ∧ ∀ c' p',(Q1 ++ (c',p') :: Q2).map Prod.fst = B.set i c':=by
 subst h
 have hq:i < Q.length:=by simpa using hi
 refine ⟨Q.take i,Q[i].2,Q.drop (i + 1),?_,by simp;omega,fun c' p' => ?_⟩
 ·have e:((Q.map Prod.fst)[i],Q[i].2) = Q[i]:=by simp
  rw [e,List.getElem_cons_drop,List.take_append_drop]
 ·rw [List.map_append,List.map_cons,List.set_eq_take_append_cons_drop,if_pos (by simpa using hq),List.map_take,List.map_drop]
def cuRows (b0:Nat) (x:Cu × Pl):List Chunk:=[.row x.2.bd 90 2 (.slice x.2.Ad x.1.a.l.length x.2.cd) x.1.a.l.length (drs x.1.a.l),.row b0 192 5 (.slice x.2.As x.1.s.length x.2.cs) x.1.s.length (sos x.1.s)]
def custRows (b0:Nat) (Q:List (Cu × Pl)):List Chunk:=Q.flatMap (cuRows b0)
theorem custRows_split (b0:Nat) (Q1 Q2:List (Cu × Pl)) (x:Cu × Pl):custRows b0 (Q1 ++ x :: Q2) = custRows b0 Q1 ++ (cuRows b0 x ++ custRows b0 Q2):=by simp [custRows]
theorem custRows_snoc (b0:Nat) (Q:List (Cu × Pl)) (x:Cu × Pl):custRows b0 (Q ++ [x]) = custRows b0 Q ++ cuRows b0 x:=by simp [custRows]
def KpSt (T:Tm) (kb pb:Nat) (tv:Value) (Y:List Chunk) (w0 w:World) (B:List Cu):Prop :=
 ∃ (Q:List (Cu × Pl)) (AR:Option Addr) (cR:Nat) (es:Array MapEntry) (clock:Nat) (D:DataW Unit),Q.map Prod.fst = B ∧ MapF es clock B.length D ∧ PlIs D B ∧
  Mem w0 [] w (.blk kb 189 #[.slice AR B.length cR,tv,T.fx,T.fb,T.db,T.al,.map (some pb)] :: .obj pb (.map es clock) :: .row w0.heap.size 67 8 (.slice AR B.length cR) B.length (custCells Q) :: (custRows w0.heap.size Q ++ Y))
def evV (v:Ev):Value:=.agg #[v.k,v.me,v.mo,v.id,v.te,v.de,v.fe,v.pr,v.ch,v.un,v.tg,v.ow,v.bp]
theorem deed_sell (T:Tm) (hT:T.Ok) (kb bd i:Nat) (R M:Value) (c:Cu) (Ad:Option Addr) (cd:Nat) (As:Option Addr) (cs:Nat) (At:Option Addr) (nt ct:Nat) (w0:World) (hvt:IsDs w0 (.slice At nt ct) T.tl) (v:Ev) (hv:v.ok) (hk1:v.k ≠ 1) (hk5:v.k ≠ 5) (hc:c.a.Ok) (hnx:c.a.next ≤ 1048575) (hsl:c.s.length ≤ 1000) (hd:(deedP T c.a v).1 = 0) (hsm:(deedP T c.a v).2.2.same v)
 (g:Nat) (cur:Array Value) (Z:List Chunk) (W:World) (H:Mem w0 [] W (.blk g 67 cur :: .blk kb 189 #[R,.slice At nt ct,T.fx,T.fb,T.db,T.al,M] :: .row bd 90 2 (.slice Ad c.a.l.length cd) c.a.l.length (drs c.a.l) :: .row w0.heap.size 192 5 (.slice As c.s.length cs) c.s.length (sos c.s) :: Z))
 (e0:cur[i * 8]? = some (.int .i64 ↑c.a.me)) (e1:cur[i * 8 + 1]? = some (.int .i64 ↑c.a.rev)) (e2:cur[i * 8 + 2]? = some (.int .i64 ↑c.a.next)) (e3:cur[i * 8 + 3]? = some (.int .i64 ↑c.a.month)) (e4:cur[i * 8 + 4]? = some (.int .i64 ↑c.a.bought)) (e5:cur[i * 8 + 5]? = some (.int .i64 c.a.free)) (e6:cur[i * 8 + 6]? = some (.slice Ad c.a.l.length cd)) (e7:cur[i * 8 + 7]? = some (.slice As c.s.length cs)) :
 Calls Tryz.prog 90 #[.pointer (some ⟨kb,0,none⟩),.pointer (some ⟨g,i * 8,none⟩),evV v] W fun e w' => ∃ (A2:Option Addr) (d2 base:Nat) (A3:Option Addr) (d3:Nat),e = .returned (.tuple #[]) ∧ Mem w0 [] w' (.blk g 67 ((((((((cur.setIfInBounds (i * 8) (.int .i64 ((deedP T c.a v).2.1.me:Int))).setIfInBounds (i * 8 + 1) (.int .i64 ((deedP T c.a v).2.1.rev:Int))).setIfInBounds (i * 8 + 2) (.int .i64 ((deedP T c.a v).2.1.next:Int))).setIfInBounds (i * 8 + 3) (.int .i64 ((deedP T c.a v).2.1.month:Int))).setIfInBounds (i * 8 + 4) (.int .i64 ((deedP T c.a v).2.1.bought:Int))).setIfInBounds (i * 8 + 5) (.int .i64 (deedP T c.a v).2.1.free)).setIfInBounds (i * 8 + 6) (.slice A2 (deedP T c.a v).2.1.l.length d2)).setIfInBounds (i * 8 + 7) (.slice A3 (c.s.length + 1) d3)) :: .blk kb 189 #[R,.slice At nt ct,T.fx,T.fb,T.db,T.al,M] :: .row base 90 2 (.slice A2 (deedP T c.a v).2.1.l.length d2) (deedP T c.a v).2.1.l.length (drs (deedP T c.a v).2.1.l) :: .row w0.heap.size 192 5 (.slice A3 (c.s.length + 1) d3) (c.s.length + 1) (sos c.s ++ sos [soldP c.a.rev v (deedP T c.a v).2.1]) :: Z):=by
 obtain ⟨tl,fx,fb,db,al⟩:=T
 obtain ⟨⟨me,rev,next,month,bought,free,l⟩,s⟩:=c
 obtain ⟨k,vme,mo,id,te,de,fe,pr,ch,un,tg,ow,bp⟩:=v
 generalize hdd:deedP ⟨tl,fx,fb,db,al⟩ ⟨me,rev,next,month,bought,free,l⟩ ⟨k,vme,mo,id,te,de,fe,pr,ch,un,tg,ow,bp⟩ = dd at hd hsm ⊢
 obtain ⟨E,⟨me2,rev2,next2,month2,bought2,free2,l2⟩,⟨x1,x2,x3,x4,x5,x6,x7⟩⟩:=dd
 dsimp only at hd
 subst hd
 obtain ⟨s1,s2,s3,s4,s5,s6,s7⟩:=hsm
 dsimp only at s1 s2 s3 s4 s5 s6 s7
 subst s1 s2 s3 s4 s5 s6 s7
 have hb:=hv.bds
 have h2:=fun h => Ev.ok.two hv h
 dsimp only at hk1 hk5 hc hnx hsl H e0 e1 e2 e3 e4 e5 e6 e7 hvt hb h2
 unfold deedP at hdd
 dsimp only at hdd
 by_cases g2:k = 2
 ·rw [if_pos g2] at hdd
  have:=ksell2_ok g (i * 8) kb bd cur R M me rev next month bought free l Ad cd s As cs At nt ct fx fb db al tl k vme mo x1 x2 x3 x4 x5 x6 x7 tg ow bp Z w0 W H e0 e1 e2 e3 e4 e5 e6 e7 hvt hT.h1 hT.h2 hc.h1 hc.h2 hnx g2 (h2 g2).1 hb.2.2.1 hb.2.1 hsl me2 rev2 next2 month2 bought2 free2 l2 (Lib.hid hdd)
  subst g2
  exact this
 ·rw [if_neg g2] at hdd
  by_cases g3:k = 3
  ·rw [if_pos g3] at hdd
   have:=ksell3_ok g (i * 8) kb bd cur R M me rev next month bought free l Ad cd s As cs At nt ct fx fb db al tl k vme mo x1 x2 x3 x4 x5 x6 x7 tg ow bp Z w0 W H e0 e1 e2 e3 e4 e5 e6 e7 hvt hT.h1 hT.h2 hc.h1 hc.h2 hnx g3 hb.2.1 hsl me2 rev2 next2 month2 bought2 free2 l2 (Lib.hid hdd)
   subst g3
   exact this
  ·rw [if_neg g3] at hdd
   have g4:k = 4:=by omega
   have:=ksell4_ok g (i * 8) kb bd cur R M me rev next month bought free l Ad cd s As cs At nt ct fx fb db al tl k vme mo x1 x2 x3 x4 x5 x6 x7 tg ow bp Z w0 W H e0 e1 e2 e3 e4 e5 e6 e7 hvt hT.h1 hT.h2 hc.h1 hc.h2 hnx g4 hsl me2 rev2 next2 month2 bought2 free2 l2 (Lib.hid hdd)
   subst g4
   exact this
theorem keepE_ok (T:Tm) (hT:T.Ok) (kb pb:Nat) (At:Option Addr) (nt ct:Nat) (Y:List Chunk) (w0 w:World) (hvt:IsDs w0 (.slice At nt ct) T.tl) (B B2:List Cu) (n:Nat) (hB:BOk T B n) (hn:n ≤ 200) (v:Ev) (hv:v.ok) (hk:keepE T B v = (0,B2)) (hS:KpSt T kb pb (.slice At nt ct) Y w0 w B) :
 Calls Tryz.prog 77 #[.pointer (some ⟨kb,0,none⟩),evV v] w fun e w' => e = .returned (.tuple #[]) ∧ KpSt T kb pb (.slice At nt ct) Y w0 w' B2:=by
 obtain ⟨Q,AR,cR,es,clock,D,hQ,hF,hP,H⟩:=hS
 have hl:=hB.len
 have hbd:=hv.bds
 rcases keepE_ne hk with ⟨hk1,hp,rfl⟩ | ⟨hk1,i,hi,hp,hme,hc,rfl⟩
 ·have h:=keep_new kb pb v.me B.length clock B.length es D B AR cR (.slice At nt ct) (.int .i64 ↑T.fx) (.int .i64 ↑T.fb) (.int .i64 ↑T.db) (.int .i64 ↑T.al) (custCells Q) (custRows w0.heap.size Q ++ Y) w0 w H hF hP hbd.1 hp (by omega) (by omega)
  have e:=hv.one hk1
  have hV:evV v = .agg #[.int .i64 1,v.me,(),(),(),(),(),(),(),(),(),(),()]:=by rw [e];rfl
  rw [hV]
  refine h.mono ?_
  rintro e w' ⟨AR',cR',es',clock',D',rfl,hF',hP',H'⟩
  refine ⟨rfl,Q ++ [(⟨openP v.me,[]⟩,⟨none,0,0,none,0⟩)],AR',cR',es',clock',D',by simp [hQ],?_,hP',?_⟩
  ·simpa using hF'
  ·rw [custCells_snoc,custRows_snoc,List.length_append]
   have h1:=Mem.nilrowF (Mem.nilrowF H' w0.heap.size 192 5) 0 90 2
   exact Mem.perm rows_new h1
 ·obtain ⟨Q1,p,Q2,rfl,hQ1,hset⟩:=split_at hQ hi
  have hmem:B[i] ∈ B:=List.getElem_mem hi
  have hcok:=hB.h1 _ hmem
  have hsl:=hB.sold hmem
  generalize B[i] = c at H hme hc hmem hcok hsl hset
  rw [custCells_split,custRows_split] at H
  have H1:=Mem.perm rows_perm H
  have hpre:(custCells Q1).length = i * 8:=by rw [custCells_len,hQ1]
  have fin:∀ (w':World) (c':Cu) (p':Pl),c'.a.me = c.a.me →
   Mem w0 [] w' (.blk kb 189 #[.slice AR B.length cR,.slice At nt ct,T.fx,T.fb,T.db,T.al,.map (some pb)] :: .obj pb (.map es clock) :: .row w0.heap.size 67 8 (.slice AR B.length cR) B.length (custCells Q1 ++ (cuCells (c',p') ++ custCells Q2)) :: .row p'.bd 90 2 (.slice p'.Ad c'.a.l.length p'.cd) c'.a.l.length (drs c'.a.l) :: .row w0.heap.size 192 5 (.slice p'.As c'.s.length p'.cs) c'.s.length (sos c'.s) :: (custRows w0.heap.size Q1 ++ custRows w0.heap.size Q2 ++ Y)) →
   KpSt T kb pb (.slice At nt ct) Y w0 w' (B.set i c'):=by
   intro w' c' p' hm2 h
   have hpl:∀ me,place (B.set i c') me = place B me:=by
    intro me
    unfold place
    have e:∀ L:List Cu,L.findIdx? (fun c => c.a.me == me) = (L.map fun c => c.a.me).findIdx? (fun x => x == me):=fun L => by rw [List.findIdx?_map];rfl
    have e2:(B.set i c').map (fun c => c.a.me) = B.map fun c => c.a.me:=by
     obtain ⟨hi',hme'⟩:=place_some hp
     rw [List.map_set,hm2,hme]
     apply List.ext_getElem (by simp)
     intro j h1 h2
     rw [List.getElem_set]
     split
     ·rename_i e;subst e;simp [hme']
     ·rfl
    rw [e,e,e2]
   refine ⟨Q1 ++ (c',p') :: Q2,AR,cR,es,clock,D,hset c' p',by rw [List.length_set];exact hF,⟨hP.1,fun me hm => by rw [hpl];exact hP.2 me hm⟩,?_⟩
   rw [custCells_split,custRows_split,List.length_set]
   exact Mem.perm rows_perm.symm h
  by_cases hk5:v.k = 5
  ·unfold custP at hc
   rw [if_pos hk5] at hc
   by_cases g2:(oweP c.a v.ow v.bp).1 = 0
   ·rw [if_pos g2] at hc
    have hone:=hv.five hk5
    have hV:evV v = .agg #[.int .i64 5,v.me,(),(),(),(),(),(),(),(),(),v.ow,v.bp]:=by rw [hone.1];rfl
    rw [hV]
    have hcu:(custP T c v).2 = ⟨(oweP c.a v.ow v.bp).2,c.s⟩:=by unfold custP;rw [if_pos hk5,if_pos g2]
    rw [hcu]
    have hR:oweP c.a v.ow v.bp = (0,(oweP c.a v.ow v.bp).2):=by rw [← g2]
    have hmm:(oweP c.a v.ow v.bp).2.me = c.a.me:=by rw [(oweP_ne hR).1]
    generalize (oweP c.a v.ow v.bp).2 = a2 at hR hmm ⊢
    refine (keep_charge kb pb p.bd i clock B.length es D B AR cR (.slice At nt ct) (.int .i64 ↑T.fx) (.int .i64 ↑T.fb) (.int .i64 ↑T.db) (.int .i64 ↑T.al) (custCells Q1) (custCells Q2) c.a.me c.a.rev c.a.next c.a.month c.a.bought c.a.free c.a.l p.Ad p.cd c.s p.As p.cs v.me v.ow v.bp a2.me a2.rev a2.next a2.month a2.bought a2.free a2.l _ w0 w H1 hF hP hbd.1 hp hi hpre (by omega) hone.2 hbd.2.2.2.2.2.1 hbd.2.2.2.2.2.2.1 hcok.1.h1 hcok.1.h2 (Lib.hid hR)).mono ?_
    rintro e w' ⟨A2,d2,base,rfl,H'⟩
    exact ⟨rfl,fin w' ⟨a2,c.s⟩ ⟨A2,d2,base,p.As,p.cs⟩ hmm H'⟩
   ·rw [if_neg g2] at hc;injection hc with h _;exact absurd h g2
  ·unfold custP at hc
   rw [if_neg hk5] at hc
   by_cases g2:(deedP T c.a v).1 = 0
   ·rw [if_pos g2] at hc
    by_cases g3:(deedP T c.a v).2.2.same v
    ·have hcu:(custP T c v).2 = ⟨(deedP T c.a v).2.1,c.s ++ [soldP c.a.rev v (deedP T c.a v).2.1]⟩:=by unfold custP;rw [if_neg hk5,if_pos g2,if_pos g3]
     rw [hcu]
     have hR:deedP T c.a v = (0,(deedP T c.a v).2.1,(deedP T c.a v).2.2):=by rw [← g2]
     have hmm:=(deedP_law hT hcok.1 (by omega) hv hR).2.1
     have hS:=fun g cur Z W hM e0 e1 e2 e3 e4 e5 e6 e7 => deed_sell T hT kb p.bd i (.slice AR B.length cR) (.map (some pb)) c p.Ad p.cd p.As p.cs At nt ct w0 hvt v hv hk1 hk5 hcok.1 (by omega) (by omega) g2 g3 g cur Z W hM e0 e1 e2 e3 e4 e5 e6 e7
     generalize (deedP T c.a v).2.1 = a2 at hmm hS ⊢
     refine (keep_deed kb pb p.bd i clock B.length es D B AR cR (.slice At nt ct) (.int .i64 ↑T.fx) (.int .i64 ↑T.fb) (.int .i64 ↑T.db) (.int .i64 ↑T.al) (custCells Q1) (custCells Q2) _ _ _ _ _ _ _ _ c.a.l a2.l p.Ad p.cd c.s p.As p.cs v.k v.me v.mo v.id v.te v.de v.fe v.pr v.ch v.un v.tg v.ow v.bp (sos [soldP c.a.rev v a2]) a2.me a2.rev a2.next a2.month a2.bought a2.free _ w0 w H1 hF hP hbd.1 hp hi hpre (by omega) hv hk1 hk5 hS).mono ?_
     rintro e w' ⟨A2,d2,base,A3,d3,rfl,H'⟩
     refine ⟨rfl,fin w' ⟨a2,c.s ++ [soldP c.a.rev v a2]⟩ ⟨A2,d2,base,A3,d3⟩ hmm ?_⟩
     simp only [cuCells,List.length_append,List.length_cons,List.length_nil,Nat.zero_add,sos_append]
     exact H'
    ·rw [if_neg g3] at hc;injection hc with h _;exact absurd h (by decide)
   ·rw [if_neg g2] at hc;injection hc with h _;exact absurd h g2
def evCells (v:Ev):List Value:=[.int .i64 ↑v.k,.int .i64 ↑v.me,.int .i64 ↑v.mo,.int .i64 ↑v.id,.int .i64 ↑v.te,.int .i64 ↑v.de,.int .i64 ↑v.fe,.int .i64 ↑v.pr,.int .i64 ↑v.ch,.int .i64 ↑v.un,.int .i64 ↑v.tg,.int .i64 ↑v.ow,.int .i64 ↑v.bp]
def evs (L:List Ev):List Value:=(L.map evCells).flatten
theorem evs_len (L:List Ev):(evs L).length = L.length * 13:=by
 induction L with
 | nil => rfl
 | cons x Q ih =>
  show (evCells x ++ evs Q).length = _
  rw [List.length_append,ih];simp only [evCells,List.length_cons,List.length_nil];omega
theorem evs_append (a b:List Ev):evs (a ++ b) = evs a ++ evs b:=by simp [evs]
theorem evs_get {L:List Ev} {q:Nat} (h:q < L.length) {j:Nat} (hj:j < 13):(evs L)[q * 13 + j]? = (evCells L[q])[j]?:=by
 have:=flat_get (L.map evCells) (s:=13) (fun r hr => by obtain ⟨x,_,rfl⟩:=List.mem_map.1 hr;rfl) q (by simpa using h) j hj
 simpa [evs] using this
def IsEs (w:World) (v:Value) (L:List Ev):Prop :=
 ∃ (A:Option Addr) (c:Nat),v = .slice A L.length c ∧ L.length ≤ c ∧ c ≤ maxLen ∧ Rd w w.heap.size 13 A L.length (evs L)
theorem IsEs.below {w w':World} {v:Value} {l:List Ev} (h:IsEs w v l) (hb:Below w.heap.size w w'):IsEs w' v l:=by
 obtain ⟨A,c,h1,h2,h3,h5⟩:=h
 exact ⟨A,c,h1,h2,h3,(h5.below hb).more hb.size⟩
theorem ises_own {w:World} {base e:Nat} {A:Option Addr} {n c:Nat} {l:List Ev} (hn:l.length = n) (h:w.ownsRow base e 13 (.slice A n c) n (evs l)):IsEs w (.slice A n c) l:=by
 subst hn
 exact ⟨A,c,rfl,(own_cap2 h).1,(own_cap2 h).2,Rd.of_own h⟩
theorem IsEs.at_ {w:World} {A:Option Addr} {n c:Nat} {l:List Ev} (h:IsEs w (.slice A n c) l) {k:Nat} (hk:k < l.length) :
 ∃ b off,A = some ⟨b,off,none⟩ ∧ b < w.heap.size ∧ ∀ j u,(evCells l[k])[j]? = some u → w.cell? ⟨b,off + (k * 13 + j),none⟩ = some u:=by
 obtain ⟨A',c',e,_,_,hr⟩:=h
 injection e with e1 e2
 subst e1
 obtain ⟨b,off,rfl,hB,hc⟩:=hr.at_ (by omega)
 refine ⟨b,off,rfl,hB,fun j u hu => hc _ _ ?_⟩
 have hj:j < 13:=by
  have:=(List.getElem?_eq_some_iff.1 hu).1
  simpa [evCells] using this
 rw [evs_get hk hj];exact hu
theorem evs_take {L:List Ev} (q:Nat) (h:q ≤ L.length):(evs L).take (q * 13) = evs (L.take q):=by
 have e:=evs_append (L.take q) (L.drop q)
 rw [List.take_append_drop] at e
 rw [e]
 refine List.take_left' ?_
 rw [evs_len,List.length_take,Nat.min_eq_left h]
theorem IsEs.take {w:World} {A:Option Addr} {n c:Nat} {l:List Ev} (h:IsEs w (.slice A n c) l) {k:Nat} (hk:k ≤ l.length):IsEs w (.slice A k k) (l.take k):=by
 obtain ⟨A',c',e,h1,h2,hr⟩:=h
 injection e with e1 e2
 subst e1
 have hlen:(l.take k).length = k:=by rw [List.length_take,Nat.min_eq_left hk]
 refine ⟨A,k,by rw [hlen],by rw [hlen];exact Nat.le_refl _,by omega,?_⟩
 have:=hr.take hk
 rw [evs_take k hk] at this
 rw [hlen];exact this
def IsSs (w:World) (v:Value) (l:List So):Prop :=
 ∃ (A:Option Addr) (c:Nat),v = .slice A l.length c ∧ l.length ≤ c ∧ c ≤ maxLen ∧ Rd w w.heap.size 5 A l.length (sos l)
theorem IsSs.below {w w':World} {v:Value} {l:List So} (h:IsSs w v l) (hb:Below w.heap.size w w'):IsSs w' v l:=by
 obtain ⟨A,c,h1,h2,h3,h5⟩:=h
 exact ⟨A,c,h1,h2,h3,(h5.below hb).more hb.size⟩
theorem isss_own {w:World} {base e:Nat} {A:Option Addr} {n c:Nat} {l:List So} (hn:l.length = n) (h:w.ownsRow base e 5 (.slice A n c) n (sos l)):IsSs w (.slice A n c) l:=by
 subst hn
 exact ⟨A,c,rfl,(own_cap2 h).1,(own_cap2 h).2,Rd.of_own h⟩
theorem sos_get {l:List So} {q:Nat} (h:q < l.length) {j:Nat} (hj:j < 5):(sos l)[q * 5 + j]? = [Value.int .i64 (l[q].id:Int),.int .i64 (l[q].cls:Int),.int .i64 (l[q].am:Int),.int .i64 (l[q].tag:Int),.int .i64 (l[q].rev:Int)][j]?:=by
 have:=flat_get (l.map fun s:So => [Value.int .i64 ↑s.id,.int .i64 ↑s.cls,.int .i64 ↑s.am,.int .i64 ↑s.tag,.int .i64 ↑s.rev]) (s:=5) (fun r hr => by obtain ⟨x,_,rfl⟩:=List.mem_map.1 hr;rfl) q (by simpa using h) j hj
 have e:sos l = (l.map fun s:So => [Value.int .i64 ↑s.id,.int .i64 ↑s.cls,.int .i64 ↑s.am,.int .i64 ↑s.tag,.int .i64 ↑s.rev]).flatten:=by simp [sos,List.flatMap]
 rw [e,this,List.getElem_map]
theorem IsSs.at_ {w:World} {A:Option Addr} {n c:Nat} {l:List So} (h:IsSs w (.slice A n c) l) {k:Nat} (hk:k < l.length) :
 ∃ b off,A = some ⟨b,off,none⟩ ∧ b < w.heap.size ∧ w.cell? ⟨b,off + k * 5,none⟩ = some (.int .i64 (l[k].id:Int)) ∧ w.cell? ⟨b,off + k * 5 + 1,none⟩ = some (.int .i64 (l[k].cls:Int)) ∧ w.cell? ⟨b,off + k * 5 + 2,none⟩ = some (.int .i64 (l[k].am:Int)) ∧ w.cell? ⟨b,off + k * 5 + 3,none⟩ = some (.int .i64 (l[k].tag:Int)) ∧ w.cell? ⟨b,off + k * 5 + 4,none⟩ = some (.int .i64 (l[k].rev:Int)):=by
 obtain ⟨A',c',e,_,_,hr⟩:=h
 injection e with e1 e2
 subst e1
 obtain ⟨b,off,rfl,hB,hc⟩:=hr.at_ (by omega)
 exact ⟨b,off,rfl,hB,hc (k * 5) _ (sos_get hk (j:=0) (by omega)),hc (k * 5 + 1) _ (sos_get hk (j:=1) (by omega)),hc (k * 5 + 2) _ (sos_get hk (j:=2) (by omega)),hc (k * 5 + 3) _ (sos_get hk (j:=3) (by omega)),hc (k * 5 + 4) _ (sos_get hk (j:=4) (by omega))⟩
theorem IsSs.len {w:World} {A:Option Addr} {n c:Nat} {l:List So} (h:IsSs w (.slice A n c) l):n = l.length:=by
 obtain ⟨A',c',e,_⟩:=h
 injection e
def IsBk (w:World) (v:Value) (B:List Cu):Prop :=
 ∃ (A:Option Addr) (c:Nat) (Q:List (Cu × Pl)),v = .slice A B.length c ∧ B.length ≤ c ∧ c ≤ maxLen ∧ Q.map Prod.fst = B ∧ Rd w w.heap.size 8 A B.length (custCells Q) ∧
  ∀ x ∈ Q,IsDs w (.slice x.2.Ad x.1.a.l.length x.2.cd) x.1.a.l ∧ IsSs w (.slice x.2.As x.1.s.length x.2.cs) x.1.s
theorem IsBk.below {w w':World} {v:Value} {B:List Cu} (h:IsBk w v B) (hb:Below w.heap.size w w'):IsBk w' v B:=by
 obtain ⟨A,c,Q,h1,h2,h3,h4,h5,h6⟩:=h
 exact ⟨A,c,Q,h1,h2,h3,h4,(h5.below hb).more hb.size,fun x hx => ⟨(h6 x hx).1.below hb,(h6 x hx).2.below hb⟩⟩
theorem cust_get {Q:List (Cu × Pl)} {q:Nat} (h:q < Q.length) {j:Nat} (hj:j < 8):(custCells Q)[q * 8 + j]? = (cuCells Q[q])[j]?:=by
 have:=flat_get (Q.map cuCells) (s:=8) (fun r hr => by obtain ⟨x,_,rfl⟩:=List.mem_map.1 hr;rfl) q (by simpa using h) j hj
 have e:custCells Q = (Q.map cuCells).flatten:=by simp [custCells,List.flatMap]
 rw [e,this,List.getElem_map]
theorem IsBk.at_ {w:World} {A:Option Addr} {n c:Nat} {B:List Cu} (h:IsBk w (.slice A n c) B) {k:Nat} (hk:k < B.length) :
 ∃ b off,∃ (Ad:Option Addr) (cd:Nat) (As:Option Addr) (cs:Nat),A = some ⟨b,off,none⟩ ∧ b < w.heap.size ∧ IsDs w (.slice Ad B[k].a.l.length cd) B[k].a.l ∧ IsSs w (.slice As B[k].s.length cs) B[k].s ∧
  w.cell? ⟨b,off + k * 8,none⟩ = some (.int .i64 (B[k].a.me:Int)) ∧ w.cell? ⟨b,off + k * 8 + 1,none⟩ = some (.int .i64 (B[k].a.rev:Int)) ∧ w.cell? ⟨b,off + k * 8 + 2,none⟩ = some (.int .i64 (B[k].a.next:Int)) ∧ w.cell? ⟨b,off + k * 8 + 3,none⟩ = some (.int .i64 (B[k].a.month:Int)) ∧
  w.cell? ⟨b,off + k * 8 + 4,none⟩ = some (.int .i64 (B[k].a.bought:Int)) ∧ w.cell? ⟨b,off + k * 8 + 5,none⟩ = some (.int .i64 B[k].a.free) ∧ w.cell? ⟨b,off + k * 8 + 6,none⟩ = some (.slice Ad B[k].a.l.length cd) ∧ w.cell? ⟨b,off + k * 8 + 7,none⟩ = some (.slice As B[k].s.length cs):=by
 obtain ⟨A',c',Q,e,_,_,hQ,hr,hx⟩:=h
 injection e with e1 e2
 subst e1
 obtain ⟨b,off,rfl,hB,hc⟩:=hr.at_ (by omega)
 have hq:k < Q.length:=by rw [← hQ] at hk;simpa using hk
 have hxk:=hx _ (List.getElem_mem hq)
 have e:B[k] = Q[k].1:=by subst hQ;simp
 rw [e]
 exact ⟨b,off,_,_,_,_,rfl,hB,hxk.1,hxk.2,hc (k * 8) _ (cust_get hq (j:=0) (by omega)),hc (k * 8 + 1) _ (cust_get hq (j:=1) (by omega)),hc (k * 8 + 2) _ (cust_get hq (j:=2) (by omega)),hc (k * 8 + 3) _ (cust_get hq (j:=3) (by omega)),hc (k * 8 + 4) _ (cust_get hq (j:=4) (by omega)),hc (k * 8 + 5) _ (cust_get hq (j:=5) (by omega)),hc (k * 8 + 6) _ (cust_get hq (j:=6) (by omega)),hc (k * 8 + 7) _ (cust_get hq (j:=7) (by omega))⟩
theorem IsBk.len {w:World} {A:Option Addr} {n c:Nat} {l:List Cu} (h:IsBk w (.slice A n c) l):n = l.length:=by
 obtain ⟨A',c',Q,e,_⟩:=h
 injection e
def OwnBk (base:Nat) (w:World) (v:Value) (B:List Cu):Prop :=
 ∃ (A:Option Addr) (c:Nat) (Q:List (Cu × Pl)),v = .slice A B.length c ∧ Q.map Prod.fst = B ∧ w.ownsRow base 67 8 (.slice A B.length c) B.length (custCells Q) ∧
  ∀ x ∈ Q,w.ownsRow base 90 2 (.slice x.2.Ad x.1.a.l.length x.2.cd) x.1.a.l.length (drs x.1.a.l) ∧ w.ownsRow base 192 5 (.slice x.2.As x.1.s.length x.2.cs) x.1.s.length (sos x.1.s)
theorem OwnBk.is {base:Nat} {w:World} {v:Value} {B:List Cu} (h:OwnBk base w v B):IsBk w v B:=by
 obtain ⟨A,c,Q,rfl,hQ,ho,hx⟩:=h
 exact ⟨A,c,Q,rfl,(own_cap2 ho).1,(own_cap2 ho).2,hQ,Rd.of_own ho,fun x hm => ⟨isds_own rfl (hx x hm).1,isss_own rfl (hx x hm).2⟩⟩
theorem own_kept {base e size n:Nat} {v:Value} {xs:List Value} {w w':World} {row:Option Nat} (h:w.ownsRow base e size v n xs) (hg:w.grownBy w' row) (hr:∀ k,row = some k → k < base):w'.ownsRow base e size v n xs:=by
 refine World.ownsRow.kept h hg ?_
 cases hv:v.ownBlock with
 | none => exact .inl rfl
 | some k => exact .inr fun e => by have:=hr k e.symm;have:=(h.lt k hv).1;omega
theorem OwnBk.kept {base:Nat} {w w':World} {v:Value} {B:List Cu} {row:Option Nat} (h:OwnBk base w v B) (hg:w.grownBy w' row) (hr:∀ k,row = some k → k < base):OwnBk base w' v B:=by
 obtain ⟨A,c,Q,rfl,hQ,ho,hx⟩:=h
 exact ⟨A,c,Q,rfl,hQ,own_kept ho hg hr,fun x hm => ⟨own_kept (hx x hm).1 hg hr,own_kept (hx x hm).2 hg hr⟩⟩
theorem OwnBk.below {base:Nat} {w w':World} {v:Value} {B:List Cu} (h:OwnBk base w v B) (hb:Below w.heap.size w w'):OwnBk base w' v B:=h.kept (grown_of_below hb) (by simp)
theorem OwnBk.set_ {base:Nat} {w:World} {v:Value} {B:List Cu} (h:OwnBk base w v B) (k o:Nat) (x:Value) (hk:k < base):OwnBk base (w.setCell ⟨k,o,none⟩ x) v B :=
 h.kept (grown_setCell w ⟨k,o,none⟩ x) (fun j hj => by injection hj with e;subst e;exact hk)
theorem OwnBk.lower {base base':Nat} {w:World} {v:Value} {B:List Cu} (h:OwnBk base w v B) (hb:base' ≤ base):OwnBk base' w v B:=by
 obtain ⟨A,c,Q,rfl,hQ,ho,hx⟩:=h
 exact ⟨A,c,Q,rfl,hQ,own_mono ho hb,fun x hm => ⟨own_mono (hx x hm).1 hb,own_mono (hx x hm).2 hb⟩⟩
theorem OwnBk.slice {base:Nat} {w:World} {v:Value} {B:List Cu} (h:OwnBk base w v B):∃ A n c,v = .slice A n c:=by
 obtain ⟨A,c,Q,rfl,_⟩:=h
 exact ⟨A,_,c,rfl⟩
theorem Mem.ownm {w0 w:World} {L:List Chunk} {base:Nat} {e:TypeId} {size:Nat} {v:Value} {n:Nat} {xs:List Value} (H:Mem w0 [] w L) (hm:Chunk.row base e size v n xs ∈ L):w.ownsRow w0.heap.size e size v n xs:=by
 obtain ⟨i,hi⟩:=List.getElem?_of_mem hm
 exact Mem.ownb H i hi
theorem ownbk_mem {w0 w:World} {kb pb b0 b1:Nat} {cs:Array Value} {o:Obj} {AR:Option Addr} {cR:Nat} {B:List Cu} {Q:List (Cu × Pl)} {Y:List Chunk} (hQ:Q.map Prod.fst = B)
 (H:Mem w0 [] w (.blk kb 189 cs :: .obj pb o :: .row b1 67 8 (.slice AR B.length cR) B.length (custCells Q) :: (custRows b0 Q ++ Y))):OwnBk w0.heap.size w (.slice AR B.length cR) B:=by
 refine ⟨AR,cR,Q,rfl,hQ,Mem.ownb H 2 rfl,fun x hx => ⟨?_,?_⟩⟩
 ·refine Mem.ownm (base:=x.2.bd) H ?_
  refine .tail _ (.tail _ (.tail _ (List.mem_append_left _ ?_)))
  exact List.mem_flatMap.2 ⟨x,hx,by simp [cuRows]⟩
 ·refine Mem.ownm (base:=b0) H ?_
  refine .tail _ (.tail _ (.tail _ (List.mem_append_left _ ?_)))
  exact List.mem_flatMap.2 ⟨x,hx,by simp [cuRows]⟩
theorem keepE_no (T:Tm) (hT:T.Ok) (kb pb:Nat) (At:Option Addr) (nt ct:Nat) (Y:List Chunk) (w0 w:World) (hvt:IsDs w0 (.slice At nt ct) T.tl) (B:List Cu) (n:Nat) (hB:BOk T B n) (hn:n ≤ 200) (v:Ev) (hv:v.ok) (hk2:v.k = 2) (i:Nat) (hp:place B v.me = some i) (hk:(keepE T B v).1 ≠ 0) (hS:KpSt T kb pb (.slice At nt ct) Y w0 w B) :
 Calls Tryz.prog 77 #[.pointer (some ⟨kb,0,none⟩),evV v] w fun e w' => e = .panicked (thrown ((keepE T B v).1:Int)) ∧ KpSt T kb pb (.slice At nt ct) Y w0 w' B:=by
 obtain ⟨Q,AR,cR,es,clock,D,hQ,hF,hP,H⟩:=hS
 have hl:=hB.len
 have hbd:=hv.bds
 have h2:=hv.two hk2
 obtain ⟨hi,hme⟩:=place_some hp
 obtain ⟨Q1,p,Q2,rfl,hQ1,hset⟩:=split_at hQ hi
 have hmem:B[i] ∈ B:=List.getElem_mem hi
 have hcok:=hB.h1 _ hmem
 have hsl:=hB.sold hmem
 have hd:B.getD i cu0 = B[i]:=by simp [hi]
 have hk1:v.k ≠ 1:=by omega
 have hk5:v.k ≠ 5:=by omega
 have hcode:(keepE T B v).1 = (custP T B[i] v).1:=by
  unfold keepE
  rw [hp];dsimp only
  rw [if_neg hk1,hd]
  by_cases g:(custP T B[i] v).1 = 0
  ·rw [if_pos g,g]
  ·rw [if_neg g]
 rw [hcode] at hk ⊢
 generalize B[i] = c at H hme hmem hcok hsl hset hk hQ
 rw [custCells_split,custRows_split] at H
 have H1:=Mem.perm rows_perm H
 have hpre:(custCells Q1).length = i * 8:=by rw [custCells_len,hQ1]
 generalize hC:(custP T c v).1 = C at hk ⊢
 have hbad:((deedP T c.a v).1 ≠ 0 ∧ C = (deedP T c.a v).1) ∨ ((deedP T c.a v).1 = 0 ∧ C = 8 ∧ ¬ (deedP T c.a v).2.2.same v):=by
  unfold custP at hC
  rw [if_neg hk5] at hC
  by_cases g2:(deedP T c.a v).1 = 0
  ·rw [if_pos g2] at hC
   by_cases g3:(deedP T c.a v).2.2.same v
   ·rw [if_pos g3] at hC;exact absurd hC.symm hk
   ·rw [if_neg g3] at hC;exact .inr ⟨g2,hC.symm,g3⟩
  ·rw [if_neg g2] at hC;exact .inl ⟨g2,hC.symm⟩
 have hdd:deedP T c.a v = sellP T c.a v.te v.mo:=by unfold deedP;rw [if_pos hk2]
 rw [hdd] at hbad
 have hS:∀ (g:Nat) (cur:Array Value) (Z:List Chunk) (W:World),Mem w0 [] W (.blk g 67 cur :: .blk kb 189 #[.slice AR B.length cR,.slice At nt ct,T.fx,T.fb,T.db,T.al,.map (some pb)] :: .row p.bd 90 2 (.slice p.Ad c.a.l.length p.cd) c.a.l.length (drs c.a.l) :: .row w0.heap.size 192 5 (.slice p.As c.s.length p.cs) c.s.length (sos c.s) :: Z) →
  cur[i * 8]? = some (.int .i64 ↑c.a.me) → cur[i * 8 + 1]? = some (.int .i64 ↑c.a.rev) → cur[i * 8 + 2]? = some (.int .i64 ↑c.a.next) → cur[i * 8 + 3]? = some (.int .i64 ↑c.a.month) → cur[i * 8 + 4]? = some (.int .i64 ↑c.a.bought) → cur[i * 8 + 5]? = some (.int .i64 c.a.free) → cur[i * 8 + 6]? = some (.slice p.Ad c.a.l.length p.cd) → cur[i * 8 + 7]? = some (.slice p.As c.s.length p.cs) →
  Calls Tryz.prog 90 #[.pointer (some ⟨kb,0,none⟩),.pointer (some ⟨g,i * 8,none⟩),evV v] W fun e w' => e = .panicked (thrown (C:Int)) ∧ Mem w0 [] w' (.blk g 67 cur :: .blk kb 189 #[.slice AR B.length cR,.slice At nt ct,T.fx,T.fb,T.db,T.al,.map (some pb)] :: .row p.bd 90 2 (.slice p.Ad c.a.l.length p.cd) c.a.l.length (drs c.a.l) :: .row w0.heap.size 192 5 (.slice p.As c.s.length p.cs) c.s.length (sos c.s) :: Z):=by
  intro g cur Z W hM e0 e1 e2 e3 e4 e5 e6 e7
  generalize hr:sellP T c.a v.te v.mo = r at hbad
  obtain ⟨E,⟨me2,rev2,next2,month2,bought2,free2,l2⟩,⟨x1,x2,x3,x4,x5,x6,x7⟩⟩:=r
  exact ksell2_no g (i * 8) kb p.bd cur _ _ c.a.me c.a.rev c.a.next c.a.month c.a.bought c.a.free c.a.l p.Ad p.cd c.s p.As p.cs At nt ct T.fx T.fb T.db T.al T.tl v.k v.me v.mo v.id v.te v.de v.fe v.pr v.ch v.un v.tg v.ow v.bp Z w0 W hM e0 e1 e2 e3 e4 e5 e6 e7 hvt hT.h1 hT.h2 hcok.1.h1 hcok.1.h2 (by omega) hk2 h2.1 hbd.2.2.1 hbd.2.1 (by omega) C E me2 rev2 next2 month2 bought2 free2 l2 x1 x2 x3 x4 x5 x6 x7 (Lib.hid hr) (Lib.hid hbad)
 refine (keep_bad kb pb p.bd i clock B.length es D B AR cR (.slice At nt ct) (.int .i64 ↑T.fx) (.int .i64 ↑T.fb) (.int .i64 ↑T.db) (.int .i64 ↑T.al) (custCells Q1) (custCells Q2) _ _ _ _ _ _ _ _ c.a.l p.Ad p.cd c.s p.As p.cs v.k v.me v.mo v.id v.te v.de v.fe v.pr v.ch v.un v.tg v.ow v.bp C _ w0 w H1 hF hP hbd.1 hp hi hpre (by omega) hv hk1 hk5 hS).mono ?_
 rintro e w' ⟨rfl,H'⟩
 refine ⟨rfl,Q1 ++ (c,p) :: Q2,AR,cR,es,clock,D,hQ,hF,hP,?_⟩
 rw [custCells_split,custRows_split]
 exact Mem.perm rows_perm.symm H'
end Go.Proofs.YtfgiehkfcoodbaaGreat
