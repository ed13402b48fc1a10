/- disk: Replay. -/
import Derived.Test.YtfgiehkfcoodbaaGreatM0
import Derived.Test.YtfgiehkfcoodbaaGreatM7
import Derived.Deep.RegionLaw
import Derived.Test.YtfgiehkfcoodbaaGreatM6
namespace Go.Proofs.YtfgiehkfcoodbaaGreat
open Go.RowKit
set_option linter.unusedVariables false
set_option maxRecDepth 100000
set_option maxHeartbeats 16000000
section
variable {P:Program}
theorem step_clone {ops:Array Oper} {o:Oper} {a:Act} {K:Act → World → Prop} {Q:Exit → Act → World → Prop} {F:Prop} {t e:TypeId} {size bytes:Nat} (E:Elem P t e size bytes) (hgd:o.guard = none) (s x:Operand)
 (ho:o.op = .call { callee:=.builtin .append,args:=#[s,x],argTypes:=#[t,t] })
 (W:World) (hs:a.eval s = .slice none 0 0) (B:Nat) (A:Option Addr) (m c:Nat) (news:List Value) (hx:a.eval x = .slice A m c) (hr:Rd W B size A m news) (hm:0 < m)
 (h1:∀ u ∈ news,u.oneCell' = true) (hbytes:m * bytes ≤ 140737488355328) (hmax:m ≤ maxLen)
 (h:∀ A' c' w',w'.ownsRow W.heap.size e size (.slice A' m c') m news → Below W.heap.size W w' → K (a.put o.dst (.slice A' m c')) w') :
 if Region.wanted o (yielded ops a.tmps) = true then Oper.wp P o a W K Q else F:=by
 obtain ⟨i,z,hi,hz,hsize,hby,hzs⟩:=E.info
 obtain ⟨b,off,rfl,_,hc⟩:=hr.at_ hm
 refine step_append_lies W hgd s x t ho W.heap.size e i z size bytes E.und hi hz hsize hby hzs E.pos _ 0 [] hs (World.ownsRow_nil _ _ _ _) ⟨b,off,none⟩ m c news hx hr.1 ?_ h1 hm (by omega) (by rw [Nat.zero_add];exact hbytes) (Nat.le_refl _) _ rfl ?_
 ·intro j u hj
  rw [add_none]
  exact hc j u hj
 ·intro g cap w' ho' hgr _ _
  rw [Nat.zero_add,List.nil_append] at ho'
  rw [Nat.zero_add]
  exact h _ _ _ ho' ((Below.refl _ _).grown hgr (Nat.le_refl _) (fun k hk => by cases hk))
end
theorem OwnWs.set_ {w:World} {e t:TypeId} {v:Value} {xs:List Nat} {g:Nat} {cs:Array Value} (h:OwnWs w e v xs) (hB:w.heap[g]? = some (.cells cs t (0,0))) (hne:e ≠ t) (u:Value):OwnWs (w.setCell ⟨g,0,none⟩ u) e v xs:=by
 refine ⟨own_other h.1 ?_ u,h.2⟩
 rcases h.1.2 with ⟨rfl,_⟩ | ⟨g',cap,cur,rfl,_,hh,_⟩
 ·simp [Value.ownBlock]
 ·intro he
  have e3:g = g':=by simpa [Value.ownBlock] using he
  subst e3
  rw [hB] at hh
  injection hh with hh
  injection hh with _ ht
  exact hne ht.symm
theorem below_of_drew {B:Nat} {w w':World} (h:Below B w.drew w'):Below B w w':=⟨h.os,h.tape,h.output,h.size,h.block⟩
theorem Blk.ne_ {w:World} {g g':Nat} {t t':TypeId} {cs cs':Array Value} (h:Blk w g t cs) (h':w.heap[g']? = some (.cells cs' t' (0,0))) (hne:t ≠ t'):g ≠ g':=by
 rintro rfl
 unfold Blk at h
 rw [h] at h'
 injection h' with h'
 injection h' with _ ht
 exact hne ht
theorem own_blk_ne {w:World} {base g:Nat} {t e:TypeId} {cs:Array Value} {size n:Nat} {v:Value} {xs:List Value} (h:w.ownsRow base e size v n xs) (hg:Blk w g t cs) (hne:e ≠ t):some g ≠ v.ownBlock:=by
 rcases h.2 with ⟨rfl,_⟩ | ⟨g',cap,cur,rfl,_,hh,_⟩
 ·simp [Value.ownBlock]
 ·intro he
  have e3:g = g':=by simpa [Value.ownBlock] using he
  subst e3
  exact Blk.ne_ hg hh (fun e => hne e.symm) rfl
section
variable {P:Program}
theorem step_pushg {ops:Array Oper} {o:Oper} {a:Act} {K:Act → World → Prop} {Q:Exit → Act → World → Prop} {F:Prop} {t e:TypeId} {size bytes:Nat} (E:Elem P t e size bytes) (hgd:o.guard = none) (s x:Operand)
 (ho:o.op = .call { callee:=.builtin .append,args:=#[s,x],argTypes:=#[t,t] })
 (W:World) (base g:Nat) (v:Value) (n:Nat) (xs news:List Value) (hs:a.eval s = v) (hown:W.ownsRow base e size v n xs) (hx:a.eval x = .slice (some ⟨g,0,none⟩) 1 1) (hg:W.heap[g]? = some (.cells ⟨news⟩ e (0,0)))
 (hl:news.length = size) (h1:∀ u ∈ news,u.oneCell' = true) (hbytes:(n + 1) * bytes ≤ 140737488355328) (hmax:n + 1 ≤ maxLen) (hbase:base ≤ W.heap.size)
 (h:∀ A' c' w',w'.ownsRow base e size (.slice A' (n + 1) c') (n + 1) (xs ++ news) → W.grownBy w' v.ownBlock → Below base W w' → K (a.put o.dst (.slice A' (n + 1) c')) w') :
 if Region.wanted o (yielded ops a.tmps) = true then Oper.wp P o a W K Q else F:=by
 obtain ⟨i,z,hi,hz,hsize,hby,hzs⟩:=E.info
 refine step_append_lies W hgd s x t ho base e i z size bytes E.und hi hz hsize hby hzs E.pos v n xs hs hown ⟨g,0,none⟩ 1 1 news hx (by omega) ?_ h1 (by omega) hmax hbytes hbase _ rfl ?_
 ·intro j u hj
  exact World.news_of_block hg j u hj
 ·intro g' c' w' ho' hgr _ _
  exact h _ _ _ ho' hgr ((Below.refl _ _).grown hgr hbase (fun k hk => (hown.lt k hk).1))
end
theorem Blk.below' {w w':World} {B g:Nat} {t:TypeId} {cs:Array Value} (h:Blk w g t cs) (hb:Below B w w') (hg:g < B):Blk w' g t cs:=(hb.block g hg).trans h
def RepPost (base g:Nat) (n:Nat) (vs:List Value) (r:List Nat) (w:World) (e:Ending) (w':World):Prop :=
 ∃ A' c' v,e = .returned (.tuple #[]) ∧ Blk w' g 36 #[.slice A' (n + 1) c'] ∧ w'.ownsRow base 32 1 (.slice A' (n + 1) c') (n + 1) (vs ++ [v]) ∧ OwnWs w' 143 v r ∧
  (∀ v xs,OwnWs w 143 v xs → OwnWs w' 143 v xs) ∧ Below base w w' ∧ g < w'.heap.size
theorem replay_fn (u:Value) (r:List Nat) (base g n c:Nat) (A:Option Addr) (vs:List Value) (w:World) (hu:IsWs w u r) (hr:1 ≤ r.length) (hr2:r.length ≤ 64) (hn:n ≤ 2048)
 (hB:Blk w g 36 #[.slice A n c]) (hown:w.ownsRow base 32 1 (.slice A n c) n vs) (hbase:base ≤ g) :
 Calls Tryz.prog 43 #[u,.pointer (some ⟨g,0,none⟩)] w (RepPost base g n vs r w):=by
 obtain ⟨B,d,rfl,hd1,hd2,hx,hrd⟩:=hu
 have hc0:w.cell? ⟨g,0,none⟩ = some (.slice A n c):=hB.cell 0
 have hglt:=hB.lt
 have hm0:0 < r.length:=by omega
 have hone:∀ u ∈ ws r,u.oneCell' = true:=by intro u hu;simp [ws] at hu;obtain ⟨x,_,rfl⟩:=hu;rfl
 have hby:r.length * 4 ≤ 140737488355328:=by omega
 have hmx:r.length ≤ maxLen:=by unfold maxLen;omega
 have hby2:(n + 1) * 24 ≤ 140737488355328:=by omega
 have hmx2:n + 1 ≤ maxLen:=by unfold maxLen;omega
 have hbase':base ≤ w.heap.size:=by omega
 go_enter Tryz.func43,Tryz.ntmps43
 go_wp2_with fail
 go_region_law (first | ((refine step_clone el_u32 (by rfl) _ _ (by rfl) _ (by rfl) _ _ _ _ _ (by rfl) hrd hm0 hone hby hmx ?_;intro A1 c1 w1 hown1 hb1;have hownA:=(own_below hown (below_of_drew hb1)).alloc (.cells #[.slice A1 r.length c1] 32);have hB1:=(hB.below' (below_of_drew hb1) hglt);have hc1:=hB1.cell 0;have hB2:=hB1.alloc (.cells #[.slice A1 r.length c1] 32);have hc2:=hB2.cell 0;have hne:=own_blk_ne hownA hB2 (by decide);have hs1:=hb1.size)) | ((refine step_pushg el_ws (by rfl) _ _ (by rfl) _ base w1.heap.size _ n vs [.slice A1 r.length c1] (by rfl) hownA (by rfl) (heap_alloc_new w1 _) rfl (fun u hu => by simp at hu;subst hu;rfl) hby2 hmx2 (Nat.le_trans hbase' (Nat.le_trans hs1 (by simp))) ?_;intro A2 c2 w2 hown2 hgr2 hb2;have hc3:=(hB2.grown hgr2 hne).cell 0;have hf3:=(hB2.grown hgr2 hne).frozen 0)))
 all_goals
  go_end0
  have hB3:=hB2.grown hgr2 hne
  have k1:∀ v xs,OwnWs w1 143 v xs → OwnWs (w2.setCell ⟨g,0,none⟩ (.slice A2 (n + 1) c2)) 143 v xs:=fun v xs h => ((h.alloc _).grown hownA (by decide) hgr2).set_ hB3 (by decide) _
  refine ⟨A2,c2,_,rfl,?_,own_other hown2 (own_blk_ne hown2 hB3 (by decide)) _,k1 _ _ ⟨own_mono hown1 (Nat.zero_le _),hx⟩,fun v xs h => k1 v xs (h.below (below_of_drew hb1)),?_,?_⟩
  ·have h:=hB3.set_ 0 (.slice A2 (n + 1) c2)
   simpa using h
  ·exact ((((below_of_drew hb1).mono hbase').alloc (Nat.le_trans hbase' hs1) _).trans hb2).setCell hbase _
  ·have:=hB3.lt
   simpa [World.setCell] using this
theorem isws_mid {w:World} {b off n p:Nat} {c r:List Nat} (hc:∀ j u,(ws c)[j]? = some u → w.cell? ⟨b,off + j,none⟩ = some u) (hb:b < w.heap.size) (hx:∀ x ∈ c,x < 4294967296) (hr:(c.drop p).take n = r) (hn:r.length = n) (hm:n ≤ maxLen) :
 IsWs w (.slice (some ⟨b,off + p,none⟩) n n) r:=by
 subst hn
 refine ⟨_,_,rfl,Nat.le_refl _,hm,fun x h => hx x ?_,by rw [ws_length,Nat.mul_one],fun _ => ⟨b,off + p,rfl,hb,fun j u hu => ?_⟩⟩
 ·rw [← hr] at h
  exact List.mem_of_mem_drop (List.mem_of_mem_take h)
 ·have hj:=(List.getElem?_eq_some_iff.1 hu).1
  rw [ws_length] at hj
  rw [Nat.add_assoc]
  refine hc (p + j) _ ?_
  have e:r[j]? = c[p + j]?:=by
   rw [← hr,List.getElem?_take,if_pos (by omega),List.getElem?_drop]
  unfold ws at hu ⊢
  rw [List.getElem?_map] at hu ⊢
  rw [← e]
  exact hu
def RetWalk (base g:Nat) (l:List (List Nat)) (w:World) (e:Ending) (w':World):Prop :=
 ∃ A' c' vs,e = .returned (.tuple #[.int .i64 (enc l).length,()]) ∧ Blk w' g 36 #[.slice A' l.length c'] ∧ w'.ownsRow base 32 1 (.slice A' l.length c') l.length vs ∧ IsRo w' 143 vs l ∧ Below base w w'
theorem walk_rep (v:Value) (c:List Nat) (l:List (List Nat)) (w0 w:World) (g:Nat) (hv:IsWs w0 v c) (hb0:Below w0.heap.size w0 w) (hg:w0.heap.size ≤ g) (hB:Blk w g 36 #[.slice none 0 0]) (ht:IsTape c l) (h1:1 ≤ c.length) (h2:c.length ≤ 2048) :
 Calls Tryz.prog 42 #[v,.func (.func 43) #[] #[.pointer (some ⟨g,0,none⟩)]] w (RetWalk w0.heap.size g l w):=by
 obtain ⟨A,cp,rfl,hc1,hc2,hx,hr⟩:=hv
 have hcp:cp ≤ 9223372036854775807:=by unfold maxLen at hc2;omega
 obtain ⟨b,off,rfl,hlt,hcell⟩:=hr.at_ (by omega)
 have hle:=ht.le
 have hll:=enc_len_ge l
 clear hr
 go_enter Tryz.func42,Tryz.ntmps42
 go_wp2_with fail
 go_loopw [6] (fun a wr => ∃ (i p:Nat) (A':Option Addr) (c':Nat) (vs:List Value),i ≤ l.length ∧ a = .int .i64 p ∧ Hid ((enc (l.take i)).length = p) ∧ p ≤ c.length ∧ Blk wr g 36 #[.slice A' i c'] ∧ wr.ownsRow w0.heap.size 32 1 (.slice A' i c') i vs ∧ IsRo wr 143 vs (l.take i) ∧ Below w0.heap.size w wr) (fun a _ => c.length - (intOf a).toNat)
 case atStart => exact ⟨0,0,none,0,[],by omega,rfl,rfl,by omega,hB,World.ownsRow_nil _ _ _ _,isro_nil _ _,Below.refl _ _⟩
 case round =>
  obtain ⟨i,p,A',c',vs,hi,rfl,HP,hpc,hBr,hown,hro,hbr⟩:=hrel
  have hb:=hb0.trans hbr
  by_cases hil:i < l.length
  ·have hh:=ht.head hil
   have hf:=ht.fits hil
   obtain ⟨k1,k2,k3⟩:=ht.1 _ (List.getElem_mem hil)
   have HP2:Hid ((enc (l.take (i + 1))).length = p + 1 + l[i].length):=by
    show _ = _
    rw [enc_take_succ hil,List.length_append,HP.out];simp;omega
   rw [HP.out] at hh hf
   have hrec:=ht.rec_ hil
   rw [HP.out] at hrec
   clear HP
   have HTk:=Lib.hid (List.take_succ_eq_append_getElem hil)
   generalize l[i] = r at *
   obtain ⟨n,hn⟩:∃ n,r.length = n:=⟨_,rfl⟩
   rw [hn] at hh hf hrec k1 k2 HP2
   have hpl:p < c.length:=by omega
   have q1:wr.cell? ⟨b,off + p,none⟩ = some (.int .u32 n):=by
    obtain ⟨hp1,hp2⟩:=List.getElem?_eq_some_iff.1 hh
    have:=hcell p _ (ws_get hp1)
    rw [hp2] at this
    exact (hb.cell (p:=⟨b,off + p,none⟩) hlt).trans this
   have g1:((n:Int) != 0) = true:=by rw [bne_iff_ne];omega
   have Hn:=Lib.hid hn
   have Hr:=Lib.hid hrec
   clear hh ht hn hrec
   have hrc:=isws_mid (fun j u hu => (hb.cell (p:=⟨b,off + j,none⟩) hlt).trans (hcell j u hu)) (Nat.lt_of_lt_of_le hlt hb.size) hx Hr.out Hn.out (by unfold maxLen;omega)
   have hF:=fun W h1 h2 h3 => replay_fn (.slice (some ⟨b,off + (p + 1),none⟩) n n) r w0.heap.size g i c' A' vs W h1 (by rw [Hn.out];exact k1) (by rw [Hn.out];exact k2) (by omega) h2 h3 hg
   clear hcell
   go_wp2_with fail
   refine (hF _ hrc hBr hown).mono ?_
   rintro e w1 ⟨A2,c2,v2,rfl,hB2,hown2,hv2,hkeep,hb2,_⟩
   go_wp2
   go_roundw
   case rel => exact ⟨i + 1,p + 1 + n,A2,c2,_,by omega,by go_num,HP2,by omega,hB2,hown2,by rw [HTk.out];exact (hro.map hkeep).snoc hv2,hbr.trans hb2⟩
   case measure => (simp [intOf];try omega)
  ·obtain rfl:i = l.length:=by omega
   rw [List.take_length] at HP hro
   by_cases hpl:p < c.length
   ·have hh:=ht.end_ (by rw [HP.out];exact hpl)
    rw [HP.out] at hh
    have q1:wr.cell? ⟨b,off + p,none⟩ = some (.int .u32 0):=by
     obtain ⟨hp1,hp2⟩:=List.getElem?_eq_some_iff.1 hh
     have:=hcell p _ (ws_get hp1)
     rw [hp2] at this
     exact (hb.cell (p:=⟨b,off + p,none⟩) hlt).trans this
    clear hh hcell ht
    go_wp2
    go_ret2
    exact ⟨A',c',vs,by rw [HP.out];rfl,hBr,hown,hro,hbr⟩
   ·clear hcell ht
    go_wp2
    go_ret2
    exact ⟨A',c',vs,by rw [HP.out];rfl,hBr,hown,hro,hbr⟩
def RetRep (L:List (List Nat)) (w:World) (e:Ending) (w':World):Prop :=
 ∃ A c vs,e = .returned (.tuple #[.slice A L.length c,.int .i64 (enc L).length,()]) ∧ w'.ownsRow w.heap.size 32 1 (.slice A L.length c) L.length vs ∧ IsRo w' 143 vs L ∧ Below w.heap.size w w'
theorem RetRep.is {L:List (List Nat)} {w w':World} {A:Option Addr} {c:Nat} {vs:List Value} (h:w'.ownsRow w.heap.size 32 1 (.slice A L.length c) L.length vs) (hr:IsRo w' 143 vs L):IsRr w' (.slice A L.length c) L:=isrr_own rfl h hr.is
theorem replay_ok (v:Value) (c:List Nat) (l:List (List Nat)) (w:World) (hv:IsWs w v c) (ht:IsTape c l) (h1:1 ≤ c.length) (h2:c.length ≤ 2048) :
 Calls Tryz.prog 25 #[v] w (RetRep l w):=by
 have hW:=fun g W hb hg hB => walk_rep v c l w W g hv hb hg hB ht h1 h2
 obtain ⟨A,cp,rfl,_,_,_,_⟩:=hv
 clear ht h1 h2
 go_enter Tryz.func25,Tryz.ntmps25
 go_wp2_with fail
 refine (hW w.heap.size _ (below_a1 _ _) (Nat.le_refl _) (Blk.new _ _ _)).mono ?_
 rintro e w1 ⟨A2,c2,vs,rfl,hB2,hown2,hro2,hb2⟩
 have hc2:=hB2.cell 0
 have hz:=hB2.lt
 clear hW
 go_wp2
 go_ret3
 exact ⟨A2,c2,vs,rfl,hown2,hro2,(below_a1 _ _).trans hb2⟩
end Go.Proofs.YtfgiehkfcoodbaaGreat
namespace Go.Proofs.YtfgiehkfcoodbaaGreat
open Go.RowKit
set_option linter.unusedVariables false
set_option maxRecDepth 100000
set_option maxHeartbeats 16000000
theorem size_ok (n m:Nat) (w:World) (h1:1 ≤ n) (h2:n ≤ 64) (hm:Hid (m = 2 * (n + 1))):Calls Tryz.prog 84 #[m,n] w fun e w' => e = .returned (.bool true) ∧ w = w':=by
 have e:((m:Int) == 2 * ((n:Int) + 1)) = true:=by rw [beq_iff_eq,hm.out];omega
 go_enter Tryz.func84,Tryz.ntmps84
 go_wp2
 go_ret
 exact ⟨ret_true (by simp),rfl⟩
theorem mark0_ok (b off len c n m:Nat) (w:World) (hc:w.cell? ⟨b,off,none⟩ = some (.int .u32 m)) (hb:b < w.heap.size) (hlen:0 < len) (hn:n ≤ 64) :
 Calls Tryz.prog 94 #[.agg #[.slice (some ⟨b,off,none⟩) len c,n],()] w fun e w' => e = .returned (.int .u32 (slMk m)) ∧ Below w.heap.size w w':=by
 have hlen':(0:Int) < (len:Int):=by omega
 by_cases h3:3 < m
 ·have HM:=Lib.hid (show slMk m = 0 by unfold slMk;rw [if_pos h3])
  go_enter Tryz.func94,Tryz.ntmps94
  go_wp2
  go_ret
  exact ⟨by rw [HM.out];rfl,below_a1 _ _⟩
 ·have HM:=Lib.hid (show slMk m = m by unfold slMk;rw [if_neg h3])
  go_enter Tryz.func94,Tryz.ntmps94
  go_wp2
  go_ret
  exact ⟨by rw [HM.out];rfl,below_a1 _ _⟩
theorem mark1_ok (b off len c n m:Nat) (w:World) (hc:w.cell? ⟨b,off + (n + 1),none⟩ = some (.int .u32 m)) (hb:b < w.heap.size) (hlen:n + 1 < len) (hn:n ≤ 64) :
 Calls Tryz.prog 94 #[.agg #[.slice (some ⟨b,off,none⟩) len c,n],.int .i64 1] w fun e w' => e = .returned (.int .u32 (slMk m)) ∧ Below w.heap.size w w':=by
 have hlen':(n:Int) + 1 < (len:Int):=by omega
 by_cases h3:3 < m
 ·have HM:=Lib.hid (show slMk m = 0 by unfold slMk;rw [if_pos h3])
  go_enter Tryz.func94,Tryz.ntmps94
  go_wp2
  go_ret
  exact ⟨by rw [HM.out];rfl,below_a1 _ _⟩
 ·have HM:=Lib.hid (show slMk m = m by unfold slMk;rw [if_neg h3])
  go_enter Tryz.func94,Tryz.ntmps94
  go_wp2
  go_ret
  exact ⟨by rw [HM.out];rfl,below_a1 _ _⟩
theorem next_ok (m:Nat) (w:World) (hm:m ≤ 3):Calls Tryz.prog 95 #[.int .u32 m] w fun e w' => e = .returned (.int .u32 (slNx m)) ∧ w = w':=by
 go_enter Tryz.func95,Tryz.ntmps95
 go_wp2
 go_ret
 exact ⟨by unfold slNx;rfl,rfl⟩
theorem newer_ok (b off len c n m0 m1 s:Nat) (w:World) (hc0:w.cell? ⟨b,off,none⟩ = some (.int .u32 m0)) (hc1:w.cell? ⟨b,off + (n + 1),none⟩ = some (.int .u32 m1)) (hb:b < w.heap.size) (hlen:n + 1 < len) (hn:n ≤ 64)
 (hs:Hid (slNew (slMk m0) (slMk m1) = s)) (hs2:s < 2) :
 Calls Tryz.prog 85 #[.agg #[.slice (some ⟨b,off,none⟩) len c,n]] w fun e w' => e = .returned (.int .i64 s) ∧ Below w.heap.size w w':=by
 have hM0:∀ W,Below w.heap.size w W → _:=fun W hW => mark0_ok b off len c n m0 W ((hW.cell (p:=⟨b,off,none⟩) hb).trans hc0) (Nat.lt_of_lt_of_le hb hW.size) (by omega) hn
 have hM1:∀ W,Below w.heap.size w W → _:=fun W hW => mark1_ok b off len c n m1 W ((hW.cell (p:=⟨b,off + (n + 1),none⟩) hb).trans hc1) (Nat.lt_of_lt_of_le hb hW.size) hlen hn
 have ha:=slMk_le m0
 have hbb:=slMk_le m1
 generalize slMk m0 = x at *
 generalize slMk m1 = y at *
 have hb0:=fun o => below_a1 w o
 have n1:w.heap.size < (w.alloc (.cells #[.slice (some ⟨b,off,none⟩) len c,n] 203)).heap.size:=by simp
 have B0:Blk (w.alloc (.cells #[.slice (some ⟨b,off,none⟩) len c,n] 203)).drew w.heap.size 203 #[.slice (some ⟨b,off,none⟩) len c,n]:=Blk.new _ _ _
 have c0:=B0.cell 0
 have c1:=B0.cell 1
 clear hc0 hc1 B0
 go_enter Tryz.func85,Tryz.ntmps85
 go_wp2_with fail
 go_region_held3 (fun w' => w'.cell? ⟨w.heap.size,0,none⟩ = some (.slice (some ⟨b,off,none⟩) len c) ∧ w'.cell? ⟨w.heap.size,1,none⟩ = some (.int .i64 n)) (first | go_keep | exact ⟨(hb2.cell (p:=⟨w.heap.size,0,none⟩) n2).trans k0,(hb2.cell (p:=⟨w.heap.size,1,none⟩) n2).trans k1⟩ | exact ⟨k0,k1⟩ | fail) (first | (go_at_call 94;(with_reducible refine (hM0 _ (Below.drew (hb0 _))).mono ?_);rintro e w1 ⟨rfl,hb1⟩;have bb1:=(Below.drew (hb0 _)).step hb1;have n2:=Nat.lt_of_lt_of_le n1 hb1.size;have k0:=(hb1.cell (p:=⟨w.heap.size,0,none⟩) n1).trans c0;have k1:=(hb1.cell (p:=⟨w.heap.size,1,none⟩) n1).trans c1) | (go_at_call 94;(with_reducible refine (hM1 _ bb1).mono ?_);rintro e w2 ⟨rfl,hb2⟩;have bb2:=bb1.step hb2) | fail)
 all_goals
  clear hM0 hM1
  have hN:=fun W => next_ok y W hbb
  have hS:=hs.out
  unfold slNew at hS
  by_cases hx:x = 0
  ·have e1:((x:Int) == 0) = true:=beq_iff_eq.2 (by omega)
   have e2:((y:Int) == 0) = false:=beq_eq_false_iff_ne.2 (fun h => by
    rw [if_pos ⟨hx,by omega⟩] at hS;omega)
   have HS:Hid ((1:Int) = (s:Int)):=by
    show _ = _
    have:¬ (x = 0 ∧ y = 0):=fun h => by simp [h.2] at e2
    rw [if_neg this,if_pos hx] at hS;omega
   clear hx hS
   go_wp2
   go_ret
   exact ⟨by rw [← HS.out];rfl,bb2⟩
  ·have e1:((x:Int) == 0) = false:=beq_eq_false_iff_ne.2 (by omega)
   rw [if_neg (fun h => hx h.1),if_neg hx] at hS
   by_cases hy:y = 0
   ·have e2:((y:Int) == 0) = true:=beq_iff_eq.2 (by omega)
    have HS:Hid ((0:Int) = (s:Int)):=by
     show _ = _
     rw [if_pos (.inl hy)] at hS;omega
    clear hx hy hS
    go_wp2
    go_ret
    exact ⟨by rw [← HS.out];rfl,bb2⟩
   ·have e2:((y:Int) == 0) = false:=beq_eq_false_iff_ne.2 (by omega)
    by_cases hxy:x = y
    ·have e3:((x:Int) == (y:Int)) = true:=beq_iff_eq.2 (by omega)
     have HS:Hid ((0:Int) = (s:Int)):=by
      show _ = _
      rw [if_pos (.inr (.inl hxy))] at hS;omega
     clear hx hy hS hxy
     go_wp2
     go_ret
     exact ⟨by rw [← HS.out];rfl,bb2⟩
    ·have e3:((x:Int) == (y:Int)) = false:=beq_eq_false_iff_ne.2 (by omega)
     by_cases hnx:slNx y = x
     ·have e4:((slNx y:Nat) == (x:Int)) = true:=beq_iff_eq.2 (by omega)
      have HS:Hid ((0:Int) = (s:Int)):=by
       show _ = _
       rw [if_pos (.inr (.inr hnx))] at hS;omega
      clear hx hy hS hxy hnx
      go_wp2_with fail
      refine (hN _).mono ?_
      rintro e w3 ⟨rfl,rfl⟩
      go_wp2
      go_ret
      exact ⟨by rw [← HS.out];rfl,bb2⟩
     ·have e4:((slNx y:Nat) == (x:Int)) = false:=beq_eq_false_iff_ne.2 (by omega)
      have HS:Hid ((1:Int) = (s:Int)):=by
       show _ = _
       rw [if_neg (by omega)] at hS;omega
      clear hx hy hS hxy hnx
      go_wp2_with fail
      refine (hN _).mono ?_
      rintro e w3 ⟨rfl,rfl⟩
      go_wp2
      go_ret
      exact ⟨by rw [← HS.out];rfl,bb2⟩
theorem store_ok (v u:Value) (C rec old:List Nat) (n s:Nat) (w:World) (hv:IsWs w v C) (hu:IsWs w u rec) (hsl:IsSl C n old s) (hr:rec.length = n) (h1:1 ≤ n) (h2:n ≤ 64) :
 Calls Tryz.prog 192 #[v,u] w (RetWrOk (slW C n rec s) w):=by
 have hln:=hsl.len
 obtain ⟨m0,m1,c0,c1,hs,hs2⟩:=hsl.marks
 have hlt:∀ p ∈ slW C n rec s,p.2 < 4294967296:=halfW_lt (by obtain ⟨_,_,_,_,_,h,_⟩:=hu;exact h) (by have:=slNx_le (slMk (C.getD (s * (n + 1)) 0));omega)
 obtain ⟨A,cp,rfl,hc1,hc2,hx,hrd⟩:=hv
 obtain ⟨B,cq,rfl,hd1,hd2,hy,hrd2⟩:=hu
 obtain ⟨b,off,rfl,hb,hcell⟩:=hrd.at_ (by omega)
 obtain ⟨b2,o2,rfl,hb2,hcell2⟩:=hrd2.at_ (by omega)
 have q0:w.cell? ⟨b,off,none⟩ = some (.int .u32 m0):=by
  obtain ⟨hp1,hp2⟩:=List.getElem?_eq_some_iff.1 c0
  have:=hcell 0 _ (ws_get hp1)
  rw [hp2] at this
  exact this
 have q1:w.cell? ⟨b,off + (n + 1),none⟩ = some (.int .u32 m1):=by
  obtain ⟨hp1,hp2⟩:=List.getElem?_eq_some_iff.1 c1
  have:=hcell (n + 1) _ (ws_get hp1)
  rw [hp2] at this
  exact this
 have hslW:slW C n rec s = halfW ((1 - s) * (n + 1)) rec (slNx (slMk (if s = 0 then m0 else m1))):=by
  unfold slW
  congr 3
  rcases (show s = 0 ∨ s = 1 by omega) with rfl | rfl
  ·rw [List.getD_eq_getElem?_getD,show 0 * (n + 1) = 0 by omega,c0];rfl
  ·rw [List.getD_eq_getElem?_getD,show 1 * (n + 1) = n + 1 by omega,c1];rfl
 obtain ⟨N,hN⟩:∃ N,C.length = N:=⟨_,rfl⟩
 rw [hN] at hln
 rw [hN]
 have hNw:=fun W k0 k1 kb => newer_ok b off N cp n m0 m1 s W k0 k1 kb (by omega) h2 hs hs2
 have hsz:=fun W => size_ok n N W h1 h2 hln
 have HW:=Lib.hid hslW
 have HL:=Lib.hid hlt
 have hNn:n + 1 < N:=by omega
 rw [hr]
 have HR:=Lib.hid hr
 clear hln hslW hlt hcell hrd hrd2 c0 c1 hN hc1 hc2 hd2 hr
 rcases (show s = 0 ∨ s = 1 by omega) with rfl | rfl
 ·have hNw0:∀ W,Below w.heap.size w W → Calls Tryz.prog 85 #[.agg #[.slice (some ⟨b,off,none⟩) N cp,n]] W fun e w' => e = .returned (.int .i64 0) ∧ Below W.heap.size W w':=fun W hW => hNw W ((hW.cell (p:=⟨b,off,none⟩) hb).trans q0) ((hW.cell (p:=⟨b,off + (n + 1),none⟩) hb).trans q1) (Nat.lt_of_lt_of_le hb hW.size)
  have hMk:∀ W,Below w.heap.size w W → _:=fun W hW => mark0_ok b off N cp n m0 W ((hW.cell (p:=⟨b,off,none⟩) hb).trans q0) (Nat.lt_of_lt_of_le hb hW.size) (by omega) h2
  have hm3:=slMk_le m0
  rw [if_pos rfl] at HW
  clear hNw q0 q1
  generalize slMk m0 = mk at *
  have hNx:=fun W => next_ok mk W hm3
  have hx3:=slNx_le mk
  generalize slNx mk = nx at *
  obtain ⟨q,hq⟩:∃ q:Nat,(n:Int) + 1 = (q:Int):=⟨n + 1,by omega⟩
  have HQ:Hid (q = (1 - 0) * (n + 1)):=by show _ = _;omega
  rw [← HQ.out] at HW
  have hq64:q ≤ 65:=by omega
  obtain ⟨f,hfd⟩:∃ f:Nat → Nat × Nat,f = fun i => (q + 1 + i,rec.getD i 0):=⟨_,rfl⟩
  have hfk:∀ k (h:k < rec.length),f k = (q + 1 + k,rec[k]):=fun k h => by rw [hfd];simp [h]
  have HW2:Hid (halfW q rec nx = (q,0) :: ((List.range rec.length).map f ++ [(q,nx)])):=by rw [hfd];rfl
  clear hfd
  go_enter Tryz.func192,Tryz.ntmps192
  go_wp2_with fail
  refine (hsz _).mono ?_
  rintro e w' ⟨rfl,rfl⟩
  go_wp2_with fail
  refine (hNw0 _ (below_a1 _ _)).mono ?_
  rintro e wN ⟨rfl,hbN⟩
  have bN:=(below_a1 _ _).step hbN
  have hgN:w.heap.size < wN.heap.size:=by have:=hbN.size;simp at this;omega
  have p0:wN.cell? ⟨w.heap.size,0,none⟩ = some (.slice (some ⟨b,off,none⟩) N cp):=(hbN.cell (p:=⟨w.heap.size,0,none⟩) (by simp)).trans (by go_simp)
  have p1:wN.cell? ⟨w.heap.size,1,none⟩ = some (.int .i64 n):=(hbN.cell (p:=⟨w.heap.size,1,none⟩) (by simp)).trans (by go_simp)
  clear hbN hsz hNw0
  go_wp2_with fail
  go_loopw [37,10] (fun i v wr => ∃ (k:Nat) (A':Option Addr) (c':Nat),k ≤ n ∧ i = .int .i64 k ∧ v = .slice A' (k + 1) c' ∧ wr.ownsRow wN.heap.size 158 2 (.slice A' (k + 1) c') (k + 1) (wrs ((q,0) :: (List.range k).map f)) ∧ Below wN.heap.size wN wr) (fun i _ _ => n - (intOf i).toNat)
  case atStart => exact ⟨0,_,1,by omega,rfl,rfl,World.ownsRow_lit wN _ 1 (Nat.le_refl _) (by unfold maxLen;omega) rfl,below_a1 _ _⟩
  case round =>
   obtain ⟨k,A',c',hk,rfl,rfl,hown,hbr⟩:=hrel
   have hbs:=hbr.size
   have bR:=bN.trans (hbr.mono bN.size)
   by_cases hlt:k < n
   ·have hkr:k < rec.length:=by rw [HR.out];exact hlt
    have q1:wr.cell? ⟨b2,o2 + k,none⟩ = some (.int .u32 rec[k]):=(bR.cell (p:=⟨b2,o2 + k,none⟩) hb2).trans (hcell2 k _ (ws_get hkr))
    have HF:=Lib.hid (hfk k hkr)
    clear hcell2 hfk
    generalize rec[k] = x at *
    obtain ⟨z,hz⟩:∃ z:Nat,(q:Int) + 1 + (k:Int) = (z:Int):=⟨q + 1 + k,by omega⟩
    have HZ:=Lib.hid (show q + 1 + k = z by omega)
    have hone:∀ u ∈ [Value.int .i64 ↑z,.int .u32 ↑x],u.oneCell' = true:=one2 _ _ rfl rfl
    have HE:Hid (wrs ((q,0) :: (List.range (k + 1)).map f) = wrs ((q,0) :: (List.range k).map f) ++ [.int .i64 z,.int .u32 x]):=by
     show _ = _
     rw [List.range_succ,List.map_append,← List.cons_append,wrs_append]
     show _ ++ wrs [f k] = _
     rw [HF.out,HZ.out];rfl
    go_wp2_with (at_builtin;refine wpList_push el_wr rfl (.tmp 42) (.tmp 49) rfl wr wN.heap.size _ (k + 1) _ [.int .i64 z,.int .u32 x] rfl hown rfl rfl hone (by omega) (by unfold maxLen;omega) hbs ?_;intro A1 c1 w1 hown' hb' _)
    go_roundw
    case rel => exact ⟨k + 1,A1,c1,by omega,by go_num,rfl,by rw [HE.out];exact hown',hbr.trans hb'⟩
    case measure => (simp [intOf];try omega)
   ·obtain rfl:k = n:=by omega
    clear hcell2 hfk
    have p0:=(hbr.cell (p:=⟨w.heap.size,0,none⟩) hgN).trans p0
    have p1:=(hbr.cell (p:=⟨w.heap.size,1,none⟩) hgN).trans p1
    go_wp2_with fail
    refine (hMk _ bR).mono ?_
    rintro e wa ⟨rfl,hba⟩
    go_wp2_with fail
    refine (hNx _).mono ?_
    rintro e w' ⟨rfl,rfl⟩
    have hownA:=own_below hown hba
    have hsa:=Nat.le_trans hbs hba.size
    have hone2:∀ u ∈ [Value.int .i64 ↑q,.int .u32 ↑nx],u.oneCell' = true:=one2 _ _ rfl rfl
    go_wp2_with (at_builtin;refine wpList_push el_wr rfl (.tmp 52) (.tmp 59) rfl wa wN.heap.size _ (k + 1) _ [.int .i64 ↑q,.int .u32 nx] rfl hownA rfl rfl hone2 (by omega) (by unfold maxLen;omega) hsa ?_;intro A2 c2 w2 hown2 hb2 _)
    go_ret2
    have hx2:slW C k rec 0 = ((q,0) :: (List.range k).map f) ++ [(q,nx)]:=by rw [HW.out,HW2.out,HR.out,List.cons_append]
    have hl2:(slW C k rec 0).length = k + 1 + 1:=by rw [hx2];simp
    refine ⟨_,rfl,?_,(bR.step hba).trans (hb2.mono bN.size)⟩
    have hown3:w2.ownsRow wN.heap.size 158 2 (.slice A2 (k + 1 + 1) c2) (k + 1 + 1) (wrs (slW C k rec 0)):=by
     rw [hx2,wrs_append];exact hown2
    exact iswr_own hl2 HL.out hown3
 ·have hNw0:∀ W,Below w.heap.size w W → Calls Tryz.prog 85 #[.agg #[.slice (some ⟨b,off,none⟩) N cp,n]] W fun e w' => e = .returned (.int .i64 1) ∧ Below W.heap.size W w':=fun W hW => hNw W ((hW.cell (p:=⟨b,off,none⟩) hb).trans q0) ((hW.cell (p:=⟨b,off + (n + 1),none⟩) hb).trans q1) (Nat.lt_of_lt_of_le hb hW.size)
  have hMk:∀ W,Below w.heap.size w W → _:=fun W hW => mark1_ok b off N cp n m1 W ((hW.cell (p:=⟨b,off + (n + 1),none⟩) hb).trans q1) (Nat.lt_of_lt_of_le hb hW.size) hNn h2
  have hm3:=slMk_le m1
  rw [if_neg (by omega)] at HW
  clear hNw q0 q1
  generalize slMk m1 = mk at *
  have hNx:=fun W => next_ok mk W hm3
  have hx3:=slNx_le mk
  generalize slNx mk = nx at *
  have HQ:Hid (0 = (1 - 1) * (n + 1)):=by show _ = _;omega
  rw [← HQ.out] at HW
  have hq64:0 ≤ 65:=by omega
  obtain ⟨f,hfd⟩:∃ f:Nat → Nat × Nat,f = fun i => (0 + 1 + i,rec.getD i 0):=⟨_,rfl⟩
  have hfk:∀ k (h:k < rec.length),f k = (0 + 1 + k,rec[k]):=fun k h => by rw [hfd];simp [h]
  have HW2:Hid (halfW 0 rec nx = (0,0) :: ((List.range rec.length).map f ++ [(0,nx)])):=by rw [hfd];rfl
  clear hfd
  go_enter Tryz.func192,Tryz.ntmps192
  go_wp2_with fail
  refine (hsz _).mono ?_
  rintro e w' ⟨rfl,rfl⟩
  go_wp2_with fail
  refine (hNw0 _ (below_a1 _ _)).mono ?_
  rintro e wN ⟨rfl,hbN⟩
  have bN:=(below_a1 _ _).step hbN
  have hgN:w.heap.size < wN.heap.size:=by have:=hbN.size;simp at this;omega
  have p0:wN.cell? ⟨w.heap.size,0,none⟩ = some (.slice (some ⟨b,off,none⟩) N cp):=(hbN.cell (p:=⟨w.heap.size,0,none⟩) (by simp)).trans (by go_simp)
  have p1:wN.cell? ⟨w.heap.size,1,none⟩ = some (.int .i64 n):=(hbN.cell (p:=⟨w.heap.size,1,none⟩) (by simp)).trans (by go_simp)
  clear hbN hsz hNw0
  go_wp2_with fail
  go_loopw [37,10] (fun i v wr => ∃ (k:Nat) (A':Option Addr) (c':Nat),k ≤ n ∧ i = .int .i64 k ∧ v = .slice A' (k + 1) c' ∧ wr.ownsRow wN.heap.size 158 2 (.slice A' (k + 1) c') (k + 1) (wrs ((0,0) :: (List.range k).map f)) ∧ Below wN.heap.size wN wr) (fun i _ _ => n - (intOf i).toNat)
  case atStart => exact ⟨0,_,1,by omega,rfl,rfl,World.ownsRow_lit wN _ 1 (Nat.le_refl _) (by unfold maxLen;omega) rfl,below_a1 _ _⟩
  case round =>
   obtain ⟨k,A',c',hk,rfl,rfl,hown,hbr⟩:=hrel
   have hbs:=hbr.size
   have bR:=bN.trans (hbr.mono bN.size)
   by_cases hlt:k < n
   ·have hkr:k < rec.length:=by rw [HR.out];exact hlt
    have q1:wr.cell? ⟨b2,o2 + k,none⟩ = some (.int .u32 rec[k]):=(bR.cell (p:=⟨b2,o2 + k,none⟩) hb2).trans (hcell2 k _ (ws_get hkr))
    have HF:=Lib.hid (hfk k hkr)
    clear hcell2 hfk
    generalize rec[k] = x at *
    obtain ⟨z,hz⟩:∃ z:Nat,(1:Int) + (k:Int) = (z:Int):=⟨0 + 1 + k,by omega⟩
    have HZ:=Lib.hid (show 0 + 1 + k = z by omega)
    have hone:∀ u ∈ [Value.int .i64 ↑z,.int .u32 ↑x],u.oneCell' = true:=one2 _ _ rfl rfl
    have HE:Hid (wrs ((0,0) :: (List.range (k + 1)).map f) = wrs ((0,0) :: (List.range k).map f) ++ [.int .i64 z,.int .u32 x]):=by
     show _ = _
     rw [List.range_succ,List.map_append,← List.cons_append,wrs_append]
     show _ ++ wrs [f k] = _
     rw [HF.out,HZ.out];rfl
    go_wp2_with (at_builtin;refine wpList_push el_wr rfl (.tmp 42) (.tmp 49) rfl wr wN.heap.size _ (k + 1) _ [.int .i64 z,.int .u32 x] rfl hown rfl rfl hone (by omega) (by unfold maxLen;omega) hbs ?_;intro A1 c1 w1 hown' hb' _)
    go_roundw
    case rel => exact ⟨k + 1,A1,c1,by omega,by go_num,rfl,by rw [HE.out];exact hown',hbr.trans hb'⟩
    case measure => (simp [intOf];try omega)
   ·obtain rfl:k = n:=by omega
    clear hcell2 hfk
    have p0:=(hbr.cell (p:=⟨w.heap.size,0,none⟩) hgN).trans p0
    have p1:=(hbr.cell (p:=⟨w.heap.size,1,none⟩) hgN).trans p1
    go_wp2_with fail
    refine (hMk _ bR).mono ?_
    rintro e wa ⟨rfl,hba⟩
    go_wp2_with fail
    refine (hNx _).mono ?_
    rintro e w' ⟨rfl,rfl⟩
    have hownA:=own_below hown hba
    have hsa:=Nat.le_trans hbs hba.size
    have hone2:∀ u ∈ [Value.int .i64 ↑0,.int .u32 ↑nx],u.oneCell' = true:=one2 _ _ rfl rfl
    go_wp2_with (at_builtin;refine wpList_push el_wr rfl (.tmp 52) (.tmp 59) rfl wa wN.heap.size _ (k + 1) _ [.int .i64 ↑0,.int .u32 nx] rfl hownA rfl rfl hone2 (by omega) (by unfold maxLen;omega) hsa ?_;intro A2 c2 w2 hown2 hb2 _)
    go_ret2
    have hx2:slW C k rec 1 = ((0,0) :: (List.range k).map f) ++ [(0,nx)]:=by rw [HW.out,HW2.out,HR.out,List.cons_append]
    have hl2:(slW C k rec 1).length = k + 1 + 1:=by rw [hx2];simp
    refine ⟨_,rfl,?_,(bR.step hba).trans (hb2.mono bN.size)⟩
    have hown3:w2.ownsRow wN.heap.size 158 2 (.slice A2 (k + 1 + 1) c2) (k + 1 + 1) (wrs (slW C k rec 1)):=by
     rw [hx2,wrs_append];exact hown2
    exact iswr_own hl2 HL.out hown3
theorem sload_ok (v:Value) (C r:List Nat) (n s:Nat) (w:World) (hv:IsWs w v C) (hsl:IsSl C n r s) (h1:1 ≤ n) (h2:n ≤ 64) :
 Calls Tryz.prog 67 #[v,n] w (RetWsOk r w):=by
 have hln:=hsl.len
 have hrl:=hsl.rlen
 have hrec:=hsl.rec_
 obtain ⟨m0,m1,c0,c1,hs,hs2⟩:=hsl.marks
 obtain ⟨A,cp,rfl,hc1,hc2,hx,hrd⟩:=hv
 obtain ⟨b,off,rfl,hb,hcell⟩:=hrd.at_ (by omega)
 have hrx:∀ x ∈ r,x < 4294967296:=fun x h => hx x (by
  rw [← hrec] at h
  exact List.mem_of_mem_drop (List.mem_of_mem_take h))
 have hrc:∀ j u,(ws r)[j]? = some u → w.cell? ⟨b,off + (s * (n + 1) + 1) + j,none⟩ = some u:=fun j u hu => by
  have hj:=(List.getElem?_eq_some_iff.1 hu).1
  rw [ws_length,hrl] at hj
  rw [Nat.add_assoc]
  refine hcell _ _ ?_
  have e:r[j]? = C[s * (n + 1) + 1 + j]?:=by
   rw [← hrec,List.getElem?_take,if_pos hj,List.getElem?_drop]
  unfold ws at hu ⊢
  rw [List.getElem?_map] at hu ⊢
  rw [← e]
  exact hu
 have q0:w.cell? ⟨b,off,none⟩ = some (.int .u32 m0):=by
  obtain ⟨hp1,hp2⟩:=List.getElem?_eq_some_iff.1 c0
  have:=hcell 0 _ (ws_get hp1)
  rw [hp2] at this
  exact this
 have q1:w.cell? ⟨b,off + (n + 1),none⟩ = some (.int .u32 m1):=by
  obtain ⟨hp1,hp2⟩:=List.getElem?_eq_some_iff.1 c1
  have:=hcell (n + 1) _ (ws_get hp1)
  rw [hp2] at this
  exact this
 obtain ⟨N,hN⟩:∃ N,C.length = N:=⟨_,rfl⟩
 rw [hN] at hln
 rw [hN] at hc1 ⊢
 have hNw:=fun W k0 k1 kb => newer_ok b off N cp n m0 m1 s W k0 k1 kb (by omega) h2 hs hs2
 have hsz:=fun W => size_ok n N W h1 h2 hln
 have hNn:n + 1 + n < N:=by omega
 have hone:∀ u ∈ ws r,u.oneCell' = true:=by intro u hu;simp [ws] at hu;obtain ⟨x,_,rfl⟩:=hu;rfl
 have hby:(0 + n) * 4 ≤ 140737488355328:=by omega
 have hmx:0 + n ≤ maxLen:=by unfold maxLen;omega
 have hcp:cp ≤ 9223372036854775807:=by unfold maxLen at hc2;omega
 clear hln hcell hrd c0 c1 hN hc2 hrec
 rcases (show s = 0 ∨ s = 1 by omega) with rfl | rfl
 ·have hNw0:∀ W,Below w.heap.size w W → Calls Tryz.prog 85 #[.agg #[.slice (some ⟨b,off,none⟩) N cp,n]] W fun e w' => e = .returned (.int .i64 0) ∧ Below W.heap.size W w':=fun W hW => hNw W ((hW.cell (p:=⟨b,off,none⟩) hb).trans q0) ((hW.cell (p:=⟨b,off + (n + 1),none⟩) hb).trans q1) (Nat.lt_of_lt_of_le hb hW.size)
  rw [show 0 * (n + 1) + 1 = 1 by omega] at hrc
  clear hNw q0 q1
  go_enter Tryz.func67,Tryz.ntmps67
  go_wp2_with fail
  refine (hsz _).mono ?_
  rintro e w' ⟨rfl,rfl⟩
  go_wp2_with fail
  refine (hNw0 _ (below_a1 _ _)).mono ?_
  rintro e wN ⟨rfl,hbN⟩
  have bN:=(below_a1 _ _).step hbN
  have hgN:w.heap.size ≤ wN.heap.size:=bN.size
  have eM:(1 + n - 1) = n:=by omega
  have hRd:Rd wN w.heap.size 1 (some ⟨b,off + 1,none⟩) (1 + n - 1) (ws r):=⟨by rw [eM];rw [ws_length,Nat.mul_one];exact hrl,fun _ => ⟨b,off + 1,rfl,hb,fun j u hu => (bN.cell (p:=⟨b,off + 1 + j,none⟩) hb).trans (hrc j u hu)⟩⟩
  have HM:=Lib.hid (show 0 + (1 + n - 1) = n by omega)
  have hby:(0 + (1 + n - 1)) * 4 ≤ 140737488355328:=by omega
  have hmx:0 + (1 + n - 1) ≤ maxLen:=by unfold maxLen;omega
  clear eM
  clear hbN hsz hNw0 hrc
  go_wp2_with (at_builtin;go_loud (refine wpList_pushN el_u32 rfl (.const (.slice none 0 0)) (.tmp 31) rfl wN wN.heap.size _ 0 [] rfl (World.ownsRow_nil _ _ _ _) _ _ (1 + n - 1) _ (ws r) rfl hRd hone hby hmx wN (Below.refl _ _) (Nat.le_refl _) ?_);intro A1 c1 w1 hown1 hb1)
  go_ret2
  rw [HM.out,List.nil_append] at hown1
  exact ⟨_,rfl,by first | exact isws_own hrl hrx hown1 | (show IsWs w1 (.slice A1 (1 + n - 1) c1) r;rw [show (1 + n - 1) = n by omega];exact isws_own hrl hrx hown1),bN.step hb1⟩
 ·have hNw0:∀ W,Below w.heap.size w W → Calls Tryz.prog 85 #[.agg #[.slice (some ⟨b,off,none⟩) N cp,n]] W fun e w' => e = .returned (.int .i64 1) ∧ Below W.heap.size W w':=fun W hW => hNw W ((hW.cell (p:=⟨b,off,none⟩) hb).trans q0) ((hW.cell (p:=⟨b,off + (n + 1),none⟩) hb).trans q1) (Nat.lt_of_lt_of_le hb hW.size)
  rw [show 1 * (n + 1) + 1 = (n + 1 + 1) by omega] at hrc
  clear hNw q0 q1
  go_enter Tryz.func67,Tryz.ntmps67
  go_wp2_with fail
  refine (hsz _).mono ?_
  rintro e w' ⟨rfl,rfl⟩
  go_wp2_with fail
  refine (hNw0 _ (below_a1 _ _)).mono ?_
  rintro e wN ⟨rfl,hbN⟩
  have bN:=(below_a1 _ _).step hbN
  have hgN:w.heap.size ≤ wN.heap.size:=bN.size
  have eM:(n + 1 + 1 + n - (n + 1 + 1)) = n:=by omega
  have hRd:Rd wN w.heap.size 1 (some ⟨b,off + (n + 1 + 1),none⟩) (n + 1 + 1 + n - (n + 1 + 1)) (ws r):=⟨by rw [eM];rw [ws_length,Nat.mul_one];exact hrl,fun _ => ⟨b,off + (n + 1 + 1),rfl,hb,fun j u hu => (bN.cell (p:=⟨b,off + (n + 1 + 1) + j,none⟩) hb).trans (hrc j u hu)⟩⟩
  have HM:=Lib.hid (show 0 + (n + 1 + 1 + n - (n + 1 + 1)) = n by omega)
  have hby:(0 + (n + 1 + 1 + n - (n + 1 + 1))) * 4 ≤ 140737488355328:=by omega
  have hmx:0 + (n + 1 + 1 + n - (n + 1 + 1)) ≤ maxLen:=by unfold maxLen;omega
  clear eM
  clear hbN hsz hNw0 hrc
  go_wp2_with (at_builtin;go_loud (refine wpList_pushN el_u32 rfl (.const (.slice none 0 0)) (.tmp 31) rfl wN wN.heap.size _ 0 [] rfl (World.ownsRow_nil _ _ _ _) _ _ (n + 1 + 1 + n - (n + 1 + 1)) _ (ws r) rfl hRd hone hby hmx wN (Below.refl _ _) (Nat.le_refl _) ?_);intro A1 c1 w1 hown1 hb1)
  go_ret2
  rw [HM.out,List.nil_append] at hown1
  exact ⟨_,rfl,by first | exact isws_own hrl hrx hown1 | (show IsWs w1 (.slice A1 (n + 1 + 1 + n - (n + 1 + 1)) c1) r;rw [show (n + 1 + 1 + n - (n + 1 + 1)) = n by omega];exact isws_own hrl hrx hown1),bN.step hb1⟩

end Go.Proofs.YtfgiehkfcoodbaaGreat
