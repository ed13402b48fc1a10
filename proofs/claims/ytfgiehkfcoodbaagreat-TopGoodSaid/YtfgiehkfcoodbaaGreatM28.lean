/- Events as words on a tape; Decode and Encode by event. -/
import Derived.Test.YtfgiehkfcoodbaaGreatM0
import Derived.Test.YtfgiehkfcoodbaaGreatM25
import Derived.Test.YtfgiehkfcoodbaaGreatM26
import Derived.Test.YtfgiehkfcoodbaaGreatM27
import Derived.Test.YtfgiehkfcoodbaaGreatM9
namespace Go.Proofs.YtfgiehkfcoodbaaGreat
open Go.RowKit
set_option linter.unusedVariables false
set_option maxRecDepth 100000
set_option maxHeartbeats 16000000
def evW (v:Ev):List Nat:=[v.k,v.me,v.mo,v.id,v.te,v.de,v.fe,v.pr,v.ch,v.un,v.tg,v.ow,v.bp]
theorem Ev.ok.lt {v:Ev} (h:v.ok):∀ x ∈ evW v,x ≤ 1000000000:=by
 have hb:=evOk.bd h
 intro x hx
 simp only [evW,List.mem_cons,List.not_mem_nil,or_false] at hx
 omega
theorem Ev.ok.evl {v:Ev} (h:v.ok):∀ z ∈ evL v.k v.me v.mo v.id v.te v.de v.fe v.pr v.ch v.un v.tg v.ow v.bp,0 ≤ z ∧ z ≤ 4294967295:=by
 have hb:=evOk.bd h
 intro x hx
 simp only [evL,List.mem_cons,List.not_mem_nil,or_false] at hx
 omega
theorem evs_snoc (L:List Ev) (v:Ev):evs (L ++ [v]) = evs L ++ evCells v:=by simp [evs]
theorem evs_succ {L:List Ev} {q:Nat} (h:q < L.length):evs (L.take (q + 1)) = evs (L.take q) ++ evCells L[q]:=by
 rw [List.take_succ_eq_append_getElem h,evs_snoc]
theorem evCells_one (v:Ev):∀ u ∈ evCells v,u.oneCell' = true:=by
 intro u hu
 simp only [evCells,List.mem_cons,List.not_mem_nil,or_false] at hu
 rcases hu with rfl | rfl | rfl | rfl | rfl | rfl | rfl | rfl | rfl | rfl | rfl | rfl | rfl <;> rfl
structure Srv (T:Tm) (c:List Nat) (L:List Ev) (B:List Cu):Prop where
 tape:IsTape c (L.map evW)
 ok:∀ v ∈ L,v.ok
 run:runE T [] L = some B
 len:L.length ≤ 120
 h1:1 ≤ c.length
 h2:c.length ≤ 2048
theorem enc_evs (L:List Ev):(enc (L.map evW)).length = L.length * 14:=by
 induction L with
 | nil => rfl
 | cons v L ih =>
  show ((evW v).length :: evW v ++ enc (L.map evW)).length = _
  rw [List.length_append,ih];simp only [evW,List.length_cons,List.length_nil];omega
theorem ev_info:(Tryz.prog.info? 92).map (fun i => (i.zero,i.size,i.bytes)) = some (some (.agg #[(),(),(),(),(),(),(),(),(),(),(),(),()]),13,104):=by kernel_rfl
theorem el_ev:Elem Tryz.prog 160 92 13 104:=elem_of Tryz.underlying160 ev_info rfl (by omega)
theorem decode_v (v:Ev) (hok:v.ok) (A:Option Addr) (n c:Nat) (w:World) (hv:IsWs w (.slice A n c) (evW v)):Calls Tryz.prog 26 #[.slice A n c] w fun e w' => e = .returned (.tuple #[evV v,()]) ∧ Below w.heap.size w w':=by
 obtain ⟨A',c',e,_,_,_,hr⟩:=hv
 injection e with e1 e2 e3
 subst e1 e2 e3
 refine (decode_ev v.k v.me v.mo v.id v.te v.de v.fe v.pr v.ch v.un v.tg v.ow v.bp A c w hok.evl hr).mono ?_
 rintro e w' (⟨_,rfl,hb⟩ | ⟨hno,_⟩)
 ·exact ⟨rfl,hb⟩
 ·exact absurd hok hno
theorem encode_v (v:Ev) (hok:v.ok) (w:World):Calls Tryz.prog 126 #[evV v] w fun e w' => ∃ (A:Option Addr) (c:Nat),e = .returned (.tuple #[.slice A 13 c,()]) ∧ IsWs w' (.slice A 13 c) (evW v) ∧ Below w.heap.size w w':=by
 refine (encode_ok v.k v.me v.mo v.id v.te v.de v.fe v.pr v.ch v.un v.tg v.ow v.bp w).mono ?_
 rintro e w' (⟨_,A,c,rfl,ho,hb⟩ | ⟨hno,_⟩)
 ·exact ⟨A,c,rfl,isws_own rfl (fun x hx => by have:=hok.lt x hx;omega) ho,hb⟩
 ·exact absurd hok hno
end Go.Proofs.YtfgiehkfcoodbaaGreat
namespace Go.Proofs.YtfgiehkfcoodbaaGreat
open Go.RowKit Go.Maps
set_option linter.unusedVariables false
set_option maxRecDepth 100000
set_option maxHeartbeats 16000000
theorem runE_step {T:Tm} {L:List Ev} {m q:Nat} {B Bq:List Cu} (hm:m ≤ L.length) (h:runE T [] (L.take m) = some B) (hq:q < m) (h2:runE T [] (L.take q) = some Bq) :
 ∃ B',keepE T Bq (L[q]'(by omega)) = (0,B') ∧ runE T [] (L.take (q + 1)) = some B':=by
 have hql:q < L.length:=by omega
 have e:L.take m = L.take (q + 1) ++ (L.take m).drop (q + 1):=by
  have:=(List.take_append_drop (q + 1) (L.take m)).symm
  rwa [List.take_take,Nat.min_eq_left (by omega)] at this
 rw [e,runE_append] at h
 obtain ⟨B',h1,_⟩:=Option.bind_eq_some_iff.1 h
 have h3:=h1
 rw [List.take_succ_eq_append_getElem hql,runE_append] at h1
 obtain ⟨B1,h4,h5⟩:=Option.bind_eq_some_iff.1 h1
 rw [h2] at h4
 injection h4 with h4
 subst h4
 exact ⟨B',runE_one.1 h5,h3⟩
def RetOf (T:Tm) (L:List Ev) (m:Nat) (B:List Cu) (w:World) (e:Ending) (w':World):Prop :=
 ((m = L.length ∧ ∃ v,e = .returned (.tuple #[.agg #[v],(),()]) ∧ OwnBk w.heap.size w' v B) ∨
  (m < L.length ∧ e = .returned (.tuple #[.agg #[.slice none 0 0],m,.int .i64 ((keepE T B (L.getD m ⟨0,0,0,0,0,0,0,0,0,0,0,0,0⟩)).1:Int)]))) ∧ Below w.heap.size w w'
theorem mapF_nil:MapF #[] 0 0 (.map []):=by
 intro w b hb
 have h:=World.ownsMap_made (H:=Unit) w Tryz.prog 3 (plainElem Tryz.prog 3)
 obtain ⟨es,clock,h1,h2⟩:=h
 have h3:=heap_alloc_new w (.map #[] 0)
 rw [h3] at h1
 injection h1 with h1
 injection h1 with h1 h4
 subst h1 h4
 exact ⟨_,_,hb,h2⟩
theorem KpSt.alloc {T:Tm} {kb pb:Nat} {tv:Value} {Y:List Chunk} {w0 w:World} {B:List Cu} (h:KpSt T kb pb tv Y w0 w B) (cs:Array Value) (t:TypeId):KpSt T kb pb tv (Y ++ [.blk w.heap.size t cs]) w0 (w.alloc (.cells cs t)) B:=by
 obtain ⟨Q,AR,cR,es,clock,D,hQ,hF,hP,H⟩:=h
 refine ⟨Q,AR,cR,es,clock,D,hQ,hF,hP,?_⟩
 have:=Mem.alloc H _ rfl cs t
 simpa only [List.cons_append,List.append_assoc] using this
theorem KpSt.pop {T:Tm} {kb pb:Nat} {tv:Value} {Y:List Chunk} {c:Chunk} {w0 w:World} {B:List Cu} (h:KpSt T kb pb tv (Y ++ [c]) w0 w B):KpSt T kb pb tv Y w0 w B:=by
 obtain ⟨Q,AR,cR,es,clock,D,hQ,hF,hP,H⟩:=h
 refine ⟨Q,AR,cR,es,clock,D,hQ,hF,hP,Mem.sub H ?_⟩
 refine .cons_cons _ (.cons_cons _ (.cons_cons _ ?_))
 rw [← List.append_assoc]
 exact List.sublist_append_left _ _
theorem KpSt.below {T:Tm} {kb pb:Nat} {tv:Value} {Y:List Chunk} {w0 w:World} {B:List Cu} (h:KpSt T kb pb tv Y w0 w B):Below w0.heap.size w0 w:=by
 obtain ⟨Q,AR,cR,es,clock,D,hQ,hF,hP,H⟩:=h
 exact H.below
theorem of_perm {a b c d e f:Chunk}:[a,b,c,d,e,f].Perm [e,d,f,a,b,c]:=by
 refine (List.perm_middle (l₁:=[a,b,c,d]) (a:=e) (l₂:=[f])).trans (.cons _ ?_)
 refine (List.perm_middle (l₁:=[a,b,c]) (a:=d) (l₂:=[f])).trans (.cons _ ?_)
 exact List.perm_middle (l₁:=[a,b,c]) (a:=f) (l₂:=[])
theorem of_all (T:Tm) (hT:T.Ok) (At:Option Addr) (nt ct:Nat) (Ve:Value) (L:List Ev) (m:Nat) (B:List Cu) (w:World) (hvt:IsDs w (.slice At nt ct) T.tl) (hve:IsEs w Ve L) (hL:L.length ≤ 120) (hok:∀ v ∈ L,v.ok) (hm:m ≤ L.length) (hrun:runE T [] (L.take m) = some B)
 (hbad:∀ h:m < L.length,L[m].k = 2 ∧ (∃ i,place B L[m].me = some i) ∧ (keepE T B L[m]).1 ≠ 0) :
 Calls Tryz.prog 57 #[.agg #[.slice At nt ct,T.fx,T.fb,T.db,T.al],Ve] w (RetOf T L m B w):=by
 have hCk:=fun W h => acheck_ok At nt ct T.fx T.fb T.db T.al T.tl W h hT.h1 hT.h2
 have hmm:=@run_makeMap Tryz.prog
 have hmf:=mk_info
 have hve0:=hve
 obtain ⟨Ae,ce,rfl,hce1,hce2,_⟩:=hve
 obtain ⟨n,hn⟩:∃ n,L.length = n:=⟨_,rfl⟩
 rw [hn] at hve0 hce1 hL hm ⊢
 have HX:=Lib.hid (And.intro hve0 (And.intro hok (And.intro hrun (And.intro hbad (And.intro hn hm)))))
 clear hok hrun hbad hve0 hn hm hce1 hce2
 have hL1:¬ 120 < n:=by omega
 have H:=Mem.init w
 replace H:=H.al w.heap.size #[.slice At nt ct,T.fx,T.fb,T.db,T.al] (31) |>.al (w.heap.size + 1) #[.slice none 0 0] (56) |>.al (w.heap.size + 1 + 1) #[()] (45) |>.gen
 simp only [List.nil_append,List.cons_append] at H
 obtain ⟨W0,hW0,H⟩:=H
 have hvt0:=hvt.below H.below
 have Ltt:=H.c5 0 rfl
 go_enter_defers Tryz.func57,Tryz.ntmps57
 go_wp2_with fail
 refine (hCk _ hvt0).mono ?_
 rintro e w1 ⟨rfl,hb1⟩
 replace H:=Mem.call H hb1
 clear Ltt
 have Ltt:=H.c5 0 rfl
 have Lbk:=H.c1 1 rfl
 have Ler:=H.c1 2 rfl
 have Nttbk:=H.ne2 0 1 rfl rfl rfl
 have Ntter:=H.ne2 0 2 rfl rfl rfl
 have Nbker:=H.ne2 1 2 rfl rfl rfl
 clear hCk hb1 hW0 hvt0
 go_wp2
 obtain ⟨kb,hkb⟩:∃ kb,w1.heap.size + 1 = kb:=⟨_,rfl⟩
 obtain ⟨pb,hpb⟩:∃ pb,w1.heap.size = pb:=⟨_,rfl⟩
 obtain ⟨Y,hY⟩:∃ Y:List Chunk,[.blk w.heap.size 31 #[.slice At nt ct,T.fx,T.fb,T.db,T.al],.blk (w.heap.size + 1) 56 #[.slice none 0 0],.blk (w.heap.size + 1 + 1) 45 #[()]] = Y:=⟨_,rfl⟩
 obtain ⟨W,hW⟩:∃ W,(w1.alloc (.map #[] 0)).alloc (.cells #[.slice none 0 0,.slice At nt ct,T.fx,T.fb,T.db,T.al,.map (some w1.heap.size)] 189) = W:=⟨_,rfl⟩
 have hK0:KpSt T kb pb (.slice At nt ct) Y w W []:=by
  refine ⟨[],none,0,#[],0,.map [],rfl,mapF_nil,plIs_nil,?_⟩
  have h1:=Mem.nilrow (Mem.alloc (Mem.objNew H pb hpb (.map #[] 0)) kb (by simp;omega) #[.slice none 0 0,.slice At nt ct,T.fx,T.fb,T.db,T.al,.map (some pb)] 189) w.heap.size 67 8
  have h2:=Mem.perm of_perm h1
  rw [← hY,← hW,hpb]
  exact h2
 rw [hW,hkb]
 rw [hpb]
 clear hW H hmm hpb hkb
 go_loopw [28] (fun i wr => ∃ (q:Nat) (Bq:List Cu),q ≤ m ∧ i = .int .i64 ↑q ∧ runE T [] (L.take q) = some Bq ∧ KpSt T kb pb (.slice At nt ct) Y w wr Bq) (fun i _ => n - (intOf i).toNat)
 case atStart => exact ⟨0,[],by omega,rfl,rfl,hK0⟩
 case round =>
  obtain ⟨q,Bq,hqm,rfl,hrq,hK⟩:=hrel
  clear hK0 hmf
  by_cases hlt:q < n
  ·obtain ⟨hve,hok,hrun,hbad,hn,hm⟩:=HX.out
   obtain ⟨b,off,rfl,hB,hc⟩:=hve.at_ (k:=q) (by omega)
   have hvok:=hok L[q] (List.getElem_mem (by omega))
   have hb:=hK.below
   have hBk:BOk T Bq q:=by
    have:=runE_bok hT (L.take q) [] Bq 0 (bok_nil T) (by simp;omega) (fun v hv => hok v (List.mem_of_mem_take hv)) hrq
    rwa [List.length_take,Nat.min_eq_left (by omega),Nat.zero_add] at this
   have HS:=Lib.hid (And.intro hvok (And.intro hBk (fun h:q < m => runE_step (by omega) hrun h hrq)))
   have HB:=Lib.hid (fun h:q = m => (by subst h;exact (⟨by rw [hrq] at hrun;injection hrun,hbad (by omega)⟩:Bq = B ∧ _)))
   obtain ⟨v,hv⟩:∃ v,L[q] = v:=⟨_,rfl⟩
   rw [hv] at hc HS
   have c0:wr.cell? ⟨b,off + q * 13,none⟩ = some (.int .i64 ↑v.k):=(hb.cell (p:=⟨b,off + q * 13,none⟩) hB).trans (hc 0 _ rfl)
   have c1:wr.cell? ⟨b,off + q * 13 + 1,none⟩ = some (.int .i64 ↑v.me):=(hb.cell (p:=⟨b,off + q * 13 + 1,none⟩) hB).trans (hc 1 _ rfl)
   have c2:wr.cell? ⟨b,off + q * 13 + 2,none⟩ = some (.int .i64 ↑v.mo):=(hb.cell (p:=⟨b,off + q * 13 + 2,none⟩) hB).trans (hc 2 _ rfl)
   have c3:wr.cell? ⟨b,off + q * 13 + 3,none⟩ = some (.int .i64 ↑v.id):=(hb.cell (p:=⟨b,off + q * 13 + 3,none⟩) hB).trans (hc 3 _ rfl)
   have c4:wr.cell? ⟨b,off + q * 13 + 4,none⟩ = some (.int .i64 ↑v.te):=(hb.cell (p:=⟨b,off + q * 13 + 4,none⟩) hB).trans (hc 4 _ rfl)
   have c5:wr.cell? ⟨b,off + q * 13 + 5,none⟩ = some (.int .i64 ↑v.de):=(hb.cell (p:=⟨b,off + q * 13 + 5,none⟩) hB).trans (hc 5 _ rfl)
   have c6:wr.cell? ⟨b,off + q * 13 + 6,none⟩ = some (.int .i64 ↑v.fe):=(hb.cell (p:=⟨b,off + q * 13 + 6,none⟩) hB).trans (hc 6 _ rfl)
   have c7:wr.cell? ⟨b,off + q * 13 + 7,none⟩ = some (.int .i64 ↑v.pr):=(hb.cell (p:=⟨b,off + q * 13 + 7,none⟩) hB).trans (hc 7 _ rfl)
   have c8:wr.cell? ⟨b,off + q * 13 + 8,none⟩ = some (.int .i64 ↑v.ch):=(hb.cell (p:=⟨b,off + q * 13 + 8,none⟩) hB).trans (hc 8 _ rfl)
   have c9:wr.cell? ⟨b,off + q * 13 + 9,none⟩ = some (.int .i64 ↑v.un):=(hb.cell (p:=⟨b,off + q * 13 + 9,none⟩) hB).trans (hc 9 _ rfl)
   have c10:wr.cell? ⟨b,off + q * 13 + 10,none⟩ = some (.int .i64 ↑v.tg):=(hb.cell (p:=⟨b,off + q * 13 + 10,none⟩) hB).trans (hc 10 _ rfl)
   have c11:wr.cell? ⟨b,off + q * 13 + 11,none⟩ = some (.int .i64 ↑v.ow):=(hb.cell (p:=⟨b,off + q * 13 + 11,none⟩) hB).trans (hc 11 _ rfl)
   have c12:wr.cell? ⟨b,off + q * 13 + 12,none⟩ = some (.int .i64 ↑v.bp):=(hb.cell (p:=⟨b,off + q * 13 + 12,none⟩) hB).trans (hc 12 _ rfl)
   have hql:(q:Int) < (n:Int):=by omega
   clear hc hB hve hok hrun hbad hvok hBk hb
   go_wp2_with fail
   have hK1:=hK.alloc #[v.k,v.me,v.mo,v.id,v.te,v.de,v.fe,v.pr,v.ch,v.un,v.tg,v.ow,v.bp] 92
   clear c0 c1 c2 c3 c4 c5 c6 c7 c8 c9 c10 c11 c12
   obtain ⟨a1,a2,a3⟩:=HS.out
   by_cases hqm2:q < m
   ·obtain ⟨B',hk1,hk2⟩:=a3 hqm2
    rw [hv] at hk1
    refine (keepE_ok T hT kb pb At nt ct _ w _ hvt Bq B' q a2 (by omega) v a1 hk1 hK1).mono ?_
    rintro e wb ⟨rfl,hK2⟩
    have hK3:=hK2.pop
    go_wp2
    go_roundw
    case rel => exact ⟨q + 1,B',by omega,by go_num,hk2,hK3⟩
    case measure => simp [intOf];omega
   ·have hqe:q = m:=by omega
    obtain ⟨hBe,hk2,⟨i,hpl⟩,hcd⟩:=HB.out hqe
    have hve:L[m]'(by have:=HX.out.2.2.2.2.1;omega) = v:=by rw [← hv];simp only [hqe]
    rw [hv] at hk2 hpl hcd
    rw [← hBe] at hpl hcd
    refine (keepE_no T hT kb pb At nt ct _ w _ hvt Bq q a2 (by omega) v a1 hk2 i hpl hcd hK1).mono ?_
    rintro e wb ⟨rfl,hK2⟩
    have hK3:=hK2.pop
    obtain ⟨C,hC⟩:∃ C,(keepE T Bq v).1 = C:=⟨_,rfl⟩
    rw [hC] at hcd ⊢
    have hCi:¬ (C:Int) = 0:=by omega
    obtain ⟨Q,AR,cR,es,clock,D,hQ,hF,hP,H⟩:=hK3
    rw [← hY] at H
    have H2:=Mem.drop_ 0 (Mem.sub H ((List.sublist_append_right (custRows w.heap.size Q) _).trans ((List.sublist_cons_self _ _).trans ((List.sublist_cons_self _ _).trans (List.sublist_cons_self _ _)))))
    have HF:=Lib.hid (show m < L.length ∧ (keepE T B (L.getD m ⟨0,0,0,0,0,0,0,0,0,0,0,0,0⟩)).1 = C from by
     have hml:m < L.length:=by have:=HX.out.2.2.2.2.1;omega
     refine ⟨hml,?_⟩
     rw [← hC,hBe,List.getD_eq_getElem?_getD,List.getElem?_eq_getElem hml,Option.getD_some,hve])
    clear HX HS HB hK1 hK2 H hF hP hQ hpl hk2 hcd hC a1 a2 a3 hv hve hrq hK
    go_wp2
    have hl:=of_catch (i:=1) (j:=0) (C:Int) hCi [] (.slice none 0 0) H2 rfl rfl (by decide)
    refine leaves_cons (f:=76) (args:=#[.pointer (some ⟨w.heap.size + 1 + 1,0,none⟩),.pointer (some ⟨w.heap.size + 1,0,none⟩)]) (by simp) (by simp [go_sem]) ?_
    refine hl.mono ?_
    rintro e u' wy ⟨rfl,rfl,HY⟩
    have e0:wy.cell? ⟨w.heap.size + 1 + 1,0,none⟩ = some (.int .i64 ↑C):=(HY.blk 1 rfl).cell 0
    have y0:wy.cell? ⟨w.heap.size + 1,0,none⟩ = some (.slice none 0 0):=(HY.blk 0 rfl).cell 0
    simp [Go.Leaves,settle,results,Tryz.results57,go_sem,e0,y0]
    obtain ⟨f1,f2⟩:=HF.out
    refine ⟨.inr ⟨f1,?_⟩,HY.below⟩
    rw [f2]
  ·obtain ⟨hve,hok,hrun,hbad,hn,hm⟩:=HX.out
   have hqn:q = n:=by omega
   have hmn:m = n:=by omega
   have hBq:Bq = B:=by
    rw [hmn,← hqn,hrq] at hrun
    injection hrun
   have hql:¬ (q:Int) < (n:Int):=by omega
   subst hBq
   obtain ⟨Q,AR,cR,es,clock,D,hQ,hF,hP,H⟩:=hK
   rw [← hY] at H
   have H2:=Mem.perm (List.perm_append_comm (l₁:=_ :: _ :: _ :: custRows w.heap.size Q) (l₂:=_)) H
   have HF:=Lib.hid (show n = L.length by omega)
   clear HX hve hok hrun hbad hn hm hF hP hrq H
   have b0:wr.cell? ⟨w.heap.size + 1,0,none⟩ = some (.slice none 0 0):=(H2.blk 1 rfl).cell 0
   have bf0:wr.frozen? ⟨w.heap.size + 1,0,none⟩ = false:=(H2.blk 1 rfl).frozen 0
   have e0:wr.cell? ⟨w.heap.size + 1 + 1,0,none⟩ = some (.int .i64 0):=(H2.blk 2 rfl).cell 0
   have ef0:wr.frozen? ⟨w.heap.size + 1 + 1,0,none⟩ = false:=(H2.blk 2 rfl).frozen 0
   have k0:wr.cell? ⟨kb,0,none⟩ = some (.slice AR Bq.length cR):=(H2.blk 3 rfl).cell 0
   have blt:=H2.lt 1 rfl
   have elt:=H2.lt 2 rfl
   have klt:=H2.lt 3 rfl
   have hRow:=H2.own_ 5 rfl
   obtain ⟨nb,hnb⟩:∃ nb,Bq.length = nb:=⟨_,rfl⟩
   rw [hnb] at k0 H2 hRow
   have H3:=Mem.set 2 (Mem.set 1 H2 rfl 0 (.slice AR nb cR)) rfl 0 (.int .i64 0)
   go_wp2
   have hl:=of_idle (i:=2) (v:=w.heap.size + 1) H3 rfl
   refine leaves_cons (f:=76) (args:=#[.pointer (some ⟨w.heap.size + 1 + 1,0,none⟩),.pointer (some ⟨w.heap.size + 1,0,none⟩)]) (by simp) (by simp [go_sem]) ?_
   refine hl.mono ?_
   rintro e u' wy ⟨rfl,rfl,HY⟩
   have e1:wy.cell? ⟨w.heap.size + 1 + 1,0,none⟩ = some (.int .i64 0):=(HY.blk 2 rfl).cell 0
   have y1:wy.cell? ⟨w.heap.size + 1,0,none⟩ = some (.slice AR nb cR):=(HY.blk 1 rfl).cell 0
   simp [Go.Leaves,settle,results,Tryz.results57,go_sem,e1,y1]
   refine ⟨.inl ⟨HF.out,_,rfl,?_⟩,HY.below⟩
   have HZ:=Mem.perm (List.perm_append_comm (l₁:=[_,_,_]) (l₂:=_ :: _ :: _ :: custRows w.heap.size Q)) HY
   subst hnb
   exact ownbk_mem hQ HZ
end Go.Proofs.YtfgiehkfcoodbaaGreat
namespace Go.Proofs.YtfgiehkfcoodbaaGreat
open Go.RowKit
set_option linter.unusedVariables false
set_option maxRecDepth 100000
set_option maxHeartbeats 16000000
def RetShop (T:Tm) (tv cv:Value) (L:List Ev) (B:List Cu) (w:World) (e:Ending) (w':World):Prop :=
 ∃ (g:Nat) (u:Value),e = .returned (.tuple #[.pointer (some ⟨g,0,none⟩),()]) ∧ Mem w [] w' [.blk g 121 #[u,tv,T.fx,T.fb,T.db,T.al,cv,L.length]] ∧ OwnBk w.heap.size w' u B
theorem vopen_ok (T:Tm) (hT:T.Ok) (At:Option Addr) (nt ct:Nat) (cv:Value) (c:List Nat) (L:List Ev) (B:List Cu) (w:World) (hvt:IsDs w (.slice At nt ct) T.tl) (hc:IsWs w cv c) (hS:Srv T c L B) :
 Calls Tryz.prog 34 #[.agg #[.slice At nt ct,T.fx,T.fb,T.db,T.al],cv] w (RetShop T (.slice At nt ct) cv L B w):=by
 obtain ⟨Ac,nc,cc,rfl⟩:∃ Ac nc cc,cv = .slice Ac nc cc:=by obtain ⟨X,y,h,_⟩:=hc;exact ⟨X,_,y,h⟩
 have hRp:=fun W h => replay_ok (.slice Ac nc cc) c (L.map evW) W h hS.tape hS.h1 hS.h2
 have hOf:=fun Ve W h1 h2 => of_all T hT At nt ct Ve L L.length B W h1 h2 hS.len hS.ok (Nat.le_refl _) (by rw [List.take_length];exact hS.run) (fun h => absurd h (Nat.lt_irrefl _))
 have hl:=hS.len
 obtain ⟨n,hn⟩:∃ n,L.length = n:=⟨_,rfl⟩
 have HX:=Lib.hid (And.intro hS.ok hn)
 unfold RetRep at hRp
 simp only [List.length_map,hn] at hRp
 rw [hn] at hl
 clear hS
 have H:=Mem.init w
 replace H:=H.al w.heap.size #[.slice At nt ct,T.fx,T.fb,T.db,T.al] (31) |>.gen
 simp only [List.nil_append] at H
 obtain ⟨W0,hW0,H⟩:=H
 have hvt0:=hvt.below H.below
 have hc0:=hc.below H.below
 have Ltt:=H.c5 0 rfl
 go_enter Tryz.func34,Tryz.ntmps34
 go_wp2_with fail
 refine (hRp _ hc0).mono ?_
 rintro e w1 ⟨Ar,cr,vs,rfl,hro,hrs,hb1⟩
 have hrr:=RetRep.is (L:=L.map evW) (by simp only [List.length_map,hn];exact hro) hrs
 simp only [List.length_map,hn] at hrr
 have hvt1:=hvt0.below hb1
 replace H:=Mem.call H hb1
 clear hRp hro hrs hb1 hW0 hvt0 hc0
 go_wp2
 clear hn
 go_loopw [27,9] (fun i l wr => ∃ (q:Nat) (A':Option Addr) (c':Nat),q ≤ n ∧ i = .int .i64 ↑q ∧ l = .slice A' q c' ∧ Mem w1 [] wr [.row w1.heap.size 92 13 (.slice A' q c') q (evs (L.take q))]) (fun i _ _ => n - (intOf i).toNat)
 case atStart => exact ⟨0,none,0,by omega,rfl,rfl,Mem.nilrow (Mem.init w1) _ _ _⟩
 case round =>
  obtain ⟨q,A',c',hq,rfl,rfl,HM⟩:=hrel
  have hbq:=HM.below
  by_cases hlt:q < n
  ·clear H
   obtain ⟨hok,hn⟩:=HX.out
   have hrq:=hrr.below hbq
   obtain ⟨b,off,u,rfl,hB,hcu,hu⟩:=IsRr.at_ (k:=q) (l:=L.map evW) hrq (by rw [List.length_map];omega)
   have hvok:=hok L[q] (List.getElem_mem (by omega))
   have hsu:=evs_succ (L:=L) (q:=q) (by omega)
   rw [List.getElem_map] at hu
   have HS:=Lib.hid hsu
   generalize L[q] = v at hu hvok HS
   clear hsu
   obtain ⟨Au,nu,cpu,rfl⟩:∃ Au nu cpu,u = .slice Au nu cpu:=by obtain ⟨X,y,h,_⟩:=hu;exact ⟨X,_,y,h⟩
   have hD:=fun W h => decode_v v hvok Au nu cpu W h
   have hql:(q:Int) < (n:Int):=by omega
   have hone:=evCells_one v
   clear hok hn hvok hrq
   have H:Mem (w1) [] (wr) [.row (w1.heap.size) (92) (13) (.slice A' q c') (q) (evs (L.take q))]:=HM
   clear HM
   go_wp2_with fail
   refine (hD _ hu).mono ?_
   rintro e wd ⟨rfl,hbd⟩
   replace H:=Mem.call H hbd
   clear hD hu hcu hB hrr hbq
   unfold evV
   replace H:=H.al wd.heap.size #[v.k,v.me,v.mo,v.id,v.te,v.de,v.fe,v.pr,v.ch,v.un,v.tg,v.ow,v.bp] (92) |>.gen
   simp only [List.cons_append,List.nil_append] at H
   obtain ⟨wx,hwx,H⟩:=H
   clear Ltt
   have Lev:=H.c13 1 rfl
   go_wp2_with (at_builtin;refine wpList_pushM el_ev rfl (.tmp 39) (.tmp 41) rfl 0 H rfl rfl _ rfl rfl (news:=evCells v) rfl hone (by omega) (by unfold maxLen;omega) H.keep.size ?_;intro A3 c3 wy HY)
   go_roundw
   case rel =>
    refine ⟨q + 1,A3,c3,by omega,by go_num,rfl,?_⟩
    rw [HS.out]
    exact Mem.drop_ 1 HY
   case measure => simp [intOf];omega
  ·obtain ⟨hok,hn⟩:=HX.out
   have hqn:q = n:=by omega
   have hql:¬ (q:Int) < (n:Int):=by omega
   subst hqn
   rw [List.take_of_length_le (Nat.le_of_eq hn)] at HM
   have hwr:=HM.below.size
   have hwr:w.heap.size ≤ wr.heap.size:=Nat.le_trans H.below.size hwr
   have hve:=ises_own (l:=L) hn (HM.own_ 0 rfl)
   have hvtq:=hvt1.below hbq
   have hOf2:=hOf _ wr hvtq hve
   clear hOf hok hve hvtq hrr hvt1
   skip
   replace H:Mem (w) [] (wr) [.blk (w.heap.size) 31 #[.slice At nt ct,T.fx,T.fb,T.db,T.al],.row (w1.heap.size) (92) (13) (.slice A' q c') (q) (evs L)]:=Mem.join H HM
   clear HM hbq
   clear Ltt
   have Ltt:=H.c5 0 rfl
   go_wp2_with fail
   refine hOf2.mono ?_
   rintro e wo ⟨⟨_,u,rfl,hbk⟩ | ⟨hno,_⟩,hbo⟩
   rotate_left
   ·omega
   obtain ⟨Ab,nb,cb,rfl⟩:∃ Ab nb cb,u = .slice Ab nb cb:=hbk.slice
   replace H:=Mem.call H hbo
   clear hOf2 hbo
   replace H:=H.al wo.heap.size #[.slice Ab nb cb] (56) |>.gen
   simp only [List.cons_append,List.nil_append] at H
   obtain ⟨wp,hwp,H⟩:=H
   clear Ltt
   have Ltt:=H.c5 0 rfl
   have Lbk:=H.c1 2 rfl
   have Nttbk:=H.ne2 0 2 rfl rfl rfl
   have hbk2:OwnBk w.heap.size wp (.slice Ab nb cb) B:=by rw [← hwp];exact (hbk.below (below_a1 wo _)).lower hwr
   go_wp2
   refine bodyPost_ret (v:=.tuple #[.pointer (some ⟨wp.heap.size,0,none⟩),()]) (by simp [results,Tryz.results34,go_sem];done) rfl ?_
   unfold RetShop
   rw [hn]
   exact ⟨wp.heap.size,.slice Ab nb cb,rfl,Mem.drop_ 0 (Mem.drop_ 0 (Mem.drop_ 0 (Mem.alloc H _ rfl _ _))),hbk2.below (below_a1 _ _)⟩
theorem place_found {B:List Cu} {k me:Nat} (hk:k < B.length) (h:∀ j (hj:j < k),(B[j]'(by omega)).a.me ≠ me) (he:B[k].a.me = me):place B me = some k:=by
 unfold place
 rw [List.findIdx?_eq_some_iff_getElem]
 exact ⟨hk,by simpa using he,fun j hj => by simpa using h j hj⟩
theorem place_not {B:List Cu} {me:Nat} (h:∀ j (hj:j < B.length),B[j].a.me ≠ me):place B me = none:=by
 rw [place_none]
 intro c hc
 obtain ⟨j,hj,rfl⟩:=List.getElem_of_mem hc
 exact h j hj
def findV (B:List Cu) (me:Nat):Value:=match place B me with | some i => .tuple #[i,()] | none => .tuple #[(),.int .i64 18]
theorem findV_some {B:List Cu} {me i:Nat} (h:place B me = some i):findV B me = .tuple #[i,()]:=by unfold findV;rw [h]
theorem findV_none {B:List Cu} {me:Nat} (h:place B me = none):findV B me = .tuple #[(),.int .i64 18]:=by unfold findV;rw [h]
def idxV (B:List Cu) (me:Nat):Int:=match place B me with | some i => (i:Int) | none => -1
theorem find_fn (me m rev next month bought:Nat) (free:Int) (Ad:Option Addr) (nd cd:Nat) (As:Option Addr) (ns cs:Nat) (g:Nat) (w:World) (hc:w.cell? ⟨g,0,none⟩ = some (.int .i64 ↑m)) :
 Calls Tryz.prog 129 #[.agg #[me,rev,next,month,bought,free,.slice Ad nd cd,.slice As ns cs],.pointer (some ⟨g,0,none⟩)] w fun e w' => e = .returned (.bool (decide (me = m))) ∧ Below w.heap.size w w':=by
 have hg:g < w.heap.size:=World.block_lt_of_cell? w _ hc
 go_enter Tryz.func129,Tryz.ntmps129
 go_wp2
 go_ret
 refine ⟨ret_bool ?_,below_a1 _ _⟩
 by_cases h:me = m
 ·subst h;simp
 ·rw [decide_eq_false h];simp;omega
theorem index_cu (v:Value) (B:List Cu) (me g:Nat) (w:World) (hv:IsBk w v B) (hc:w.cell? ⟨g,0,none⟩ = some (.int .i64 ↑me)) :
 Calls Tryz.prog 128 #[v,.func (.func 129) #[] #[.pointer (some ⟨g,0,none⟩)]] w fun e w' => e = .returned (.int .i64 (idxV B me)) ∧ Below w.heap.size w w':=by
 have hv0:=hv
 obtain ⟨A,c,Q,rfl,hd1,hd2,hQ,hr,hy⟩:=hv
 have hg:g < w.heap.size:=World.block_lt_of_cell? w _ hc
 obtain ⟨n,hn⟩:∃ n,B.length = n:=⟨_,rfl⟩
 rw [hn] at hd1 ⊢
 rw [hn] at hv0
 have hnl:n ≤ 9223372036854775807:=by unfold maxLen at hd2;omega
 have HX:=Lib.hid (And.intro hv0 hn)
 clear hd1 hd2 hy hr hQ hv0 hn
 go_enter Tryz.func128,Tryz.ntmps128
 go_wp2
 go_loopw [5,8] (fun _ i wr => ∃ k:Nat,k ≤ n ∧ i = .int .i64 k ∧ Below w.heap.size w wr ∧ ∀ j (h:j < B.length),j < k → B[j].a.me ≠ me) (fun _ i _ => n - (intOf i).toNat)
 case atStart => exact ⟨0,by omega,rfl,Below.refl _ _,fun j _ h => absurd h (by omega)⟩
 case round =>
  obtain ⟨k,hk,rfl,hbr,hno⟩:=hrel
  obtain ⟨hv0,hn⟩:=HX.out
  have hcr:wr.cell? ⟨g,0,none⟩ = some (.int .i64 ↑me):=(hbr.cell (p:=⟨g,0,none⟩) hg).trans hc
  by_cases hlt:k < n
  ·have hkB:k < B.length:=by omega
   obtain ⟨b,off,Ad,cd,As,cs,rfl,hB,hds,hss,p0,p1,p2,p3,p4,p5,p6,p7⟩:=hv0.at_ (k:=k) hkB
   have q0:=(hbr.cell (p:=⟨b,off + k * 8,none⟩) hB).trans p0
   have q1:=(hbr.cell (p:=⟨b,off + k * 8 + 1,none⟩) hB).trans p1
   have q2:=(hbr.cell (p:=⟨b,off + k * 8 + 2,none⟩) hB).trans p2
   have q3:=(hbr.cell (p:=⟨b,off + k * 8 + 3,none⟩) hB).trans p3
   have q4:=(hbr.cell (p:=⟨b,off + k * 8 + 4,none⟩) hB).trans p4
   have q5:=(hbr.cell (p:=⟨b,off + k * 8 + 5,none⟩) hB).trans p5
   have q6:=(hbr.cell (p:=⟨b,off + k * 8 + 6,none⟩) hB).trans p6
   have q7:=(hbr.cell (p:=⟨b,off + k * 8 + 7,none⟩) hB).trans p7
   have HP:=Lib.hid (fun h:B[k].a.me = me => place_found hkB (fun j hj => hno j (by omega) hj) h)
   have HN:=Lib.hid hno
   have HE:=Lib.hid (rfl:B[k].a.me = B[k].a.me)
   obtain ⟨cc,hcc⟩:∃ cc,B[k] = cc:=⟨_,rfl⟩
   have HC:=Lib.hid hcc
   rw [hcc] at q0 q1 q2 q3 q4 q5 q6 q7 HP
   have hF:=fun W h => find_fn cc.a.me me cc.a.rev cc.a.next cc.a.month cc.a.bought cc.a.free Ad B[k].a.l.length cd As B[k].s.length cs g W h
   rw [hcc] at hF
   clear p0 p1 p2 p3 p4 p5 p6 p7 hds hss hno hc hv0 hn hcc hB
   have hql:(k:Int) < (n:Int):=by omega
   go_wp2_with fail
   refine (hF _ hcr).mono ?_
   rintro e w1 ⟨rfl,hb1⟩
   by_cases hme:cc.a.me = me
   ·have hp:=HP.out hme
    rw [show decide (cc.a.me = me) = true from decide_eq_true hme]
    clear hF
    go_wp2
    go_ret
    refine ⟨?_,hbr.step hb1⟩
    unfold idxV
    rw [hp]
    rfl
   ·rw [show decide (cc.a.me = me) = false from decide_eq_false hme]
    clear hF
    go_wp2
    go_roundw
    case rel =>
     refine ⟨k + 1,by omega,by go_num,hbr.step hb1,fun j h hj => ?_⟩
     by_cases e:j = k
     ·subst e;rw [HC.out];exact hme
     ·exact HN.out j h (by omega)
    case measure => simp [intOf];omega
  ·have hkn:k = n:=by omega
   have hql:¬ (k:Int) < (n:Int):=by omega
   have hp:place B me = none:=place_not fun j hj => hno j hj (by omega)
   clear hno hkn hv0 hn
   go_wp2
   go_ret
   refine ⟨?_,hbr⟩
   unfold idxV
   rw [hp]
   rfl
theorem find_cu (A:Option Addr) (n c:Nat) (B:List Cu) (me:Nat) (w:World) (hv:IsBk w (.slice A n c) B) :
 Calls Tryz.prog 125 #[.agg #[.slice A n c],me] w fun e w' => e = .returned (findV B me) ∧ Below w.heap.size w w':=by
 have hI:=fun W h h2 => index_cu (.slice A n c) B me (w.heap.size + 1) W h h2
 have hmf:=fun fn first cap W => (rfl:(Instr.makeFunc fn first cap).run Tryz.prog W = .ok (.func fn first cap) W)
 have H:=Mem.init w
 replace H:=H.al w.heap.size #[.slice A n c] (56) |>.al (w.heap.size + 1) #[me] (3) |>.gen
 simp only [List.nil_append,List.cons_append] at H
 obtain ⟨W0,hW0,H⟩:=H
 have hv0:=hv.below H.below
 have Lbk:=H.c1 0 rfl
 obtain ⟨mmlt,mm0,-⟩:=H.c1 1 rfl
 have Nbkmm:=H.ne2 0 1 rfl rfl rfl
 go_enter Tryz.func125,Tryz.ntmps125
 go_wp2_with fail
 refine (hI _ hv0 mm0).mono ?_
 rintro e w1 ⟨rfl,hb1⟩
 replace H:=Mem.call H hb1
 unfold idxV
 clear hI hv0 hb1 hmf hW0
 clear Lbk mmlt mm0 Nbkmm
 cases hp:place B me with
 | none =>
  dsimp only
  go_wp2
  refine bodyPost_ret (v:=.tuple #[(),.int .i64 18]) (by simp [results,Tryz.results125,go_sem];done) rfl ?_
  exact ⟨by rw [findV_none hp],H.below⟩
 | some i =>
  dsimp only
  have hi:¬ (i:Int) < 0:=by omega
  go_wp2
  refine bodyPost_ret (v:=.tuple #[i,()]) (by simp [results,Tryz.results125,go_sem];done) rfl ?_
  exact ⟨by rw [findV_some hp],H.below⟩
theorem customer_some (g:Nat) (b off n c i me:Nat) (x1 x2 x3 x4 x5 x6 x7:Value) (B:List Cu) (w:World) (hS:Blk w g 121 #[.slice (some ⟨b,off,none⟩) n c,x1,x2,x3,x4,x5,x6,x7]) (hv:IsBk w (.slice (some ⟨b,off,none⟩) n c) B) (hp:place B me = some i) :
 Calls Tryz.prog 120 #[.pointer (some ⟨g,0,none⟩),me] w fun e w' => e = .returned (.tuple #[.pointer (some ⟨b,off + i * 8,none⟩),()]) ∧ Below w.heap.size w w':=by
 have hF:=fun W h => find_cu (some ⟨b,off,none⟩) n c B me W h
 have hn:=hv.len
 obtain ⟨hi,_⟩:=place_some hp
 rw [findV_some hp] at hF
 have hi2:(i:Int) < (n:Int):=by omega
 have hin:i < n:=by omega
 have h0:=hS.cell 0
 have hlt:=hS.lt
 clear hn hp
 go_enter Tryz.func120,Tryz.ntmps120
 go_wp2_with fail
 refine (hF _ hv).mono ?_
 rintro e w1 ⟨rfl,hb1⟩
 have h1:w1.cell? ⟨g,0,none⟩ = _:=(hb1.cell (p:=⟨g,0,none⟩) hlt).trans h0
 clear hF
 go_wp2
 refine bodyPost_ret (v:=.tuple #[.pointer (some ⟨b,off + i * 8,none⟩),()]) (by simp [results,Tryz.results120,go_sem];done) rfl ?_
 exact ⟨rfl,hb1⟩
theorem customer_none (g:Nat) (A:Option Addr) (n c me:Nat) (x1 x2 x3 x4 x5 x6 x7:Value) (B:List Cu) (w:World) (hS:Blk w g 121 #[.slice A n c,x1,x2,x3,x4,x5,x6,x7]) (hv:IsBk w (.slice A n c) B) (hp:place B me = none) :
 Calls Tryz.prog 120 #[.pointer (some ⟨g,0,none⟩),me] w fun e w' => e = .returned (.tuple #[.pointer none,.int .i64 18]) ∧ Below w.heap.size w w':=by
 have hF:=fun W h => find_cu A n c B me W h
 rw [findV_none hp] at hF
 have h0:=hS.cell 0
 go_enter Tryz.func120,Tryz.ntmps120
 go_wp2_with fail
 refine (hF _ hv).mono ?_
 rintro e w1 ⟨rfl,hb1⟩
 clear hF
 go_wp2
 refine bodyPost_ret (v:=.tuple #[.pointer none,.int .i64 18]) (by simp [results,Tryz.results120,go_sem];done) rfl ?_
 exact ⟨rfl,hb1⟩
theorem vkeep_ok (g:Nat) (x0 x1 x2 x3 x4 x5 cv:Value) (c:List Nat) (L:List Ev) (v:Ev) (w:World) (hS:Blk w g 121 #[x0,x1,x2,x3,x4,x5,cv,L.length]) (hc:IsWs w cv c) (ht:IsTape c (L.map evW)) (h2:c.length ≤ 2048) (hL:L.length < 120) (hv:v.ok) (hf:(L.length + 1) * 14 ≤ c.length) :
 Calls Tryz.prog 124 #[.pointer (some ⟨g,0,none⟩),evV v] w (RetWrOwn (putW c.length (L.length * 14) (evW v)) w):=by
 have hE:=fun W => encode_v v hv W
 have hlt:=hv.lt
 have hD:=fun u W h1 h2' => dappend_own cv u c (evW v) (L.map evW) W h1 h2' ht h2 (by simp [evW]) (by simp [evW]) (by rw [enc_evs];simp only [evW,List.length_cons,List.length_nil];omega)
 unfold RetWrOwn at hD
 rw [enc_evs] at hD
 obtain ⟨wl,hwl⟩:∃ wl,putW c.length (L.length * 14) (evW v) = wl:=⟨_,rfl⟩
 rw [hwl] at hD ⊢
 have h7:=hS.cell 7
 obtain ⟨n,hn⟩:∃ n,L.length = n:=⟨_,rfl⟩
 rw [hn] at h7 hL
 have hn2:((n:Int) == 120) = false:=by simp;omega
 obtain ⟨Ac,nc,cc,rfl⟩:∃ Ac nc cc,cv = .slice Ac nc cc:=by obtain ⟨X,y,h,_⟩:=hc;exact ⟨X,_,y,h⟩
 have h6:=hS.cell 6
 have hlt:=hS.lt
 have h6':w.cell? ⟨g,6,none⟩ = some (.slice Ac nc cc):=h6
 have h7':w.cell? ⟨g,7,none⟩ = some (.int .i64 ↑n):=h7
 clear hf hL h2 ht hn hwl h6 h7 hv
 unfold evV at hE ⊢
 have H:=Mem.init w
 replace H:=H.al w.heap.size #[v.k,v.me,v.mo,v.id,v.te,v.de,v.fe,v.pr,v.ch,v.un,v.tg,v.ow,v.bp] (92) |>.gen
 simp only [List.nil_append] at H
 obtain ⟨W0,hW0,H⟩:=H
 have q6:=(H.below.cell (p:=⟨g,6,none⟩) hlt).trans h6'
 have q7:=(H.below.cell (p:=⟨g,7,none⟩) hlt).trans h7'
 have hc0:=hc.below H.below
 have Lev:=H.c13 0 rfl
 clear h6' h7' hS hc
 go_enter Tryz.func124,Tryz.ntmps124
 go_wp2_with fail
 refine (hE _).mono ?_
 rintro e w1 ⟨A,ca,rfl,hu,hb1⟩
 have hlt0:g < W0.heap.size:=Nat.lt_of_lt_of_le hlt H.below.size
 have r6:=(hb1.cell (p:=⟨g,6,none⟩) hlt0).trans q6
 have hc1:=hc0.below hb1
 replace H:=Mem.call H hb1
 clear hE hW0 q6 q7 hc0 hb1
 clear Lev
 go_wp2_with fail
 refine (hD _ _ hc1 hu).mono ?_
 rintro e w2 ⟨A2,c2,rfl,hp2,hown,hb2⟩
 replace H:Mem (w) [] (w2) [.blk (w.heap.size) 92 #[v.k,v.me,v.mo,v.id,v.te,v.de,v.fe,v.pr,v.ch,v.un,v.tg,v.ow,v.bp],.row (w1.heap.size) (158) (2) (.slice A2 wl.length c2) (wl.length) (wrs wl)]:=Mem.row H hb2 hown (Nat.le_refl _)
 clear hD hc1 hu hb2 r6
 go_wp2
 refine bodyPost_ret (v:=.tuple #[.slice A2 wl.length c2,()]) (by simp [results,Tryz.results124,go_sem];done) rfl ?_
 exact ⟨A2,c2,rfl,hp2,H.ownb 1 rfl,H.below⟩
theorem load_ok (T:Tm) (hT:T.Ok) (At:Option Addr) (nt ct:Nat) (cv:Value) (c:List Nat) (L:List Ev) (B:List Cu) (w:World) (hvt:IsDs w (.slice At nt ct) T.tl) (hc:IsWs w cv c) (hS:Srv T c L B) :
 Calls Tryz.prog 16 #[.agg #[.slice At nt ct,T.fx,T.fb,T.db,T.al],cv] w fun e w' => ∃ v,e = .returned (.tuple #[.agg #[v],()]) ∧ OwnBk w.heap.size w' v B ∧ Below w.heap.size w w':=by
 have hO:=fun W h1 h2 => vopen_ok T hT At nt ct cv c L B W h1 h2 hS
 unfold RetShop at hO
 clear hS
 have H:=Mem.init w
 replace H:=H.al w.heap.size #[.slice At nt ct,T.fx,T.fb,T.db,T.al] (31) |>.al (w.heap.size + 1) #[.slice none 0 0] (56) |>.gen
 simp only [List.nil_append,List.cons_append] at H
 obtain ⟨W0,hW0,H⟩:=H
 have hvt0:=hvt.below H.below
 have hc0:=hc.below H.below
 have Ltt:=H.c5 0 rfl
 go_enter Tryz.func16,Tryz.ntmps16
 go_wp2_with fail
 refine (hO _ hvt0 hc0).mono ?_
 rintro e w1 ⟨g,u,rfl,HK,hbk⟩
 obtain ⟨Ab,nb,cb,rfl⟩:∃ Ab nb cb,u = .slice Ab nb cb:=hbk.slice
 have s0:w1.cell? ⟨g,0,none⟩ = some (.slice Ab nb cb):=(HK.blk 0 rfl).cell 0
 have sg:=HK.ge 0 rfl
 have slt:=HK.lt 0 rfl
 have hbw:=HK.below
 replace H:=Mem.call H hbw
 have hbk2:OwnBk W0.heap.size w1 (.slice Ab nb cb) B:=hbk
 have hsz:W0.heap.size = w.heap.size + 2:=by rw [← hW0];simp
 rw [hsz] at hbk2
 have hne:g ≠ w.heap.size + 1:=by have:=hW0;rw [← hW0] at sg;simp at sg;omega
 have hne':w.heap.size + 1 ≠ g:=fun e => hne e.symm
 clear hO hvt0 hc0 hW0 sg HK hbw
 clear Ltt
 obtain ⟨ttlt,tt0,ttf0,tt1,ttf1,tt2,ttf2,tt3,ttf3,tt4,ttf4⟩:=H.c5 0 rfl
 obtain ⟨bklt,bk0,bkf0⟩:=H.c1 1 rfl
 obtain ⟨ne_tt_bk,ne_bk_tt⟩:=H.ne2 0 1 rfl rfl rfl
 clear hbk hsz
 go_wp2
 refine bodyPost_ret (v:=.tuple #[.agg #[.slice Ab nb cb],()]) (by simp [results,Tryz.results16,go_sem,bk0];done) rfl ?_
 exact ⟨_,rfl,(hbk2.set_ _ _ _ (by omega)).lower (by omega),(Mem.set 1 H rfl 0 (.slice Ab nb cb)).below⟩
def regV (me:Nat):Ev:=⟨1,me,0,0,0,0,0,0,0,0,0,0,0⟩
theorem regV_ok {me:Nat} (h:me ≤ 49):(regV me).ok:=by unfold Ev.ok evOk regV;dsimp only;omega
theorem register_ok (T:Tm) (hT:T.Ok) (At:Option Addr) (nt ct:Nat) (cv:Value) (c:List Nat) (L:List Ev) (B:List Cu) (me:Nat) (w:World) (hvt:IsDs w (.slice At nt ct) T.tl) (hc:IsWs w cv c) (hS:Srv T c L B) (hme:me ≤ 49) (hp:place B me = none) (hL:L.length < 120) (hf:(L.length + 1) * 14 ≤ c.length) :
 Calls Tryz.prog 123 #[.agg #[.slice At nt ct,T.fx,T.fb,T.db,T.al],cv,me] w (RetWrOwn (putW c.length (L.length * 14) (evW (regV me))) w):=by
 have hO:=fun W h1 h2 => vopen_ok T hT At nt ct cv c L B W h1 h2 hS
 unfold RetShop at hO
 have hA:=fun W => aopen_ok me W hme
 have hV:=regV_ok hme
 have hK:=fun g x0 x1 x2 x3 x4 x5 W hs hw => vkeep_ok g x0 x1 x2 x3 x4 x5 cv c L (regV me) W hs hw hS.tape hS.h2 hL hV hf
 unfold RetWrOwn at hK
 unfold RetWrOwn
 obtain ⟨wl,hwl⟩:∃ wl,putW c.length (L.length * 14) (evW (regV me)) = wl:=⟨_,rfl⟩
 rw [hwl] at hK ⊢
 have hev:evV (regV me) = .agg #[.int .i64 1,me,(),(),(),(),(),(),(),(),(),(),()]:=rfl
 rw [hev] at hK
 obtain ⟨Ac,nc,cc,rfl⟩:∃ Ac nc cc,cv = .slice Ac nc cc:=by obtain ⟨X,y,h,_⟩:=hc;exact ⟨X,_,y,h⟩
 clear hS hL hf hwl hev hV
 have H:=Mem.init w
 replace H:=H.al w.heap.size #[.slice At nt ct,T.fx,T.fb,T.db,T.al] (31) |>.gen
 simp only [List.nil_append] at H
 obtain ⟨W0,hW0,H⟩:=H
 have hvt0:=hvt.below H.below
 have hc0:=hc.below H.below
 have Ltt:=H.c5 0 rfl
 go_enter Tryz.func123,Tryz.ntmps123
 go_wp2_with fail
 refine (hO _ hvt0 hc0).mono ?_
 rintro e w1 ⟨g,u,rfl,HK,hbk⟩
 obtain ⟨Ab,nb,cb,rfl⟩:=hbk.slice
 have hbw:=HK.below
 have hc1:=hc0.below hbw
 replace H:Mem (w) [] (w1) [.blk (w.heap.size) 31 #[.slice At nt ct,T.fx,T.fb,T.db,T.al],.blk (g) 121 #[.slice Ab nb cb,.slice At nt ct,T.fx,T.fb,T.db,T.al,.slice Ac nc cc,L.length]]:=Mem.join H HK
 clear hO hvt0 hc0 hW0 HK hbw
 clear Ltt
 go_wp2_with fail
 refine (hA _).mono ?_
 rintro e w2 ⟨rfl,hb2⟩
 have hbk2:=hbk.below hb2
 have hc2:=hc1.below hb2
 replace H:=Mem.call H hb2
 clear hA hb2 hc1 hbk
 go_wp2_with fail
 replace H:=H.al w2.heap.size #[me,(),.int .i64 1,(),(),.int .i64 (-1),.slice none 0 0] (64)
 simp only [List.cons_append,List.nil_append] at H
 refine (customer_none g Ab nb cb me _ _ _ _ _ _ _ B _ (H.blk 1 rfl) (hbk2.below (below_a1 w2 _)).is hp).mono ?_
 rintro e w4 ⟨rfl,hb4⟩
 have hc4:=(hc2.below (below_a1 w2 _)).below hb4
 replace H:=Mem.call H hb4
 clear hb4 hc2 hbk2
 go_wp2_with fail
 refine (hK g _ _ _ _ _ _ _ (H.blk 1 rfl) hc4).mono ?_
 rintro e w5 ⟨A2,c2,rfl,hp2,hown,hb5⟩
 replace H:Mem (w) [] (w5) [.blk (w.heap.size) 31 #[.slice At nt ct,T.fx,T.fb,T.db,T.al],.blk (g) 121 #[.slice Ab nb cb,.slice At nt ct,T.fx,T.fb,T.db,T.al,.slice Ac nc cc,L.length],.blk (w2.heap.size) 64 #[me,(),.int .i64 1,(),(),.int .i64 (-1),.slice none 0 0],.row (w4.heap.size) (158) (2) (.slice A2 wl.length c2) (wl.length) (wrs wl)]:=Mem.row H hb5 hown (Nat.le_refl _)
 clear hK hc4 hb5
 go_wp2
 refine bodyPost_ret (v:=.tuple #[.slice A2 wl.length c2,()]) (by simp [results,Tryz.results123,go_sem];done) rfl ?_
 exact ⟨A2,c2,rfl,hp2,H.ownb 3 rfl,H.below⟩
def chgV (me ow bp:Nat):Ev:=⟨5,me,0,0,0,0,0,0,0,0,0,ow,bp⟩
theorem chgV_ok {me ow bp:Nat} (h:me ≤ 49) (h1:1 ≤ ow) (h2:ow ≤ 1000000000) (h3:bp ≤ 10000):(chgV me ow bp).ok:=by unfold Ev.ok evOk chgV;dsimp only;omega
def RetStep (E:Nat) (wl:List (Nat × Nat)) (w:World) (e:Ending) (w':World):Prop :=
 (E = 0 ∧ RetWrOwn wl w e w') ∨ (E ≠ 0 ∧ e = .returned (.tuple #[.slice none 0 0,E]) ∧ Below w.heap.size w w')
theorem charge_ok (T:Tm) (hT:T.Ok) (At:Option Addr) (nt ct:Nat) (cv:Value) (c:List Nat) (L:List Ev) (B:List Cu) (me i ow bp:Nat) (w:World) (hvt:IsDs w (.slice At nt ct) T.tl) (hc:IsWs w cv c) (hS:Srv T c L B) (hme:me ≤ 49) (hp:place B me = some i) (hL:L.length < 120) (hf:(L.length + 1) * 14 ≤ c.length) (ho1:1 ≤ ow) (ho9:ow ≤ 1000000000) (hbp:bp ≤ 10000) :
 Calls Tryz.prog 175 #[.agg #[.slice At nt ct,T.fx,T.fb,T.db,T.al],cv,me,.agg #[ow,bp]] w (RetStep (oweP (B.getD i cu0).a ow bp).1 (putW c.length (L.length * 14) (evW (chgV me ow bp))) w):=by
 obtain ⟨hi,hime⟩:=place_some hp
 clear hime
 have hBk:=runE_bok hT L [] B 0 (bok_nil T) (by omega) hS.ok hS.run
 have hgd:B.getD i cu0 = B[i]:=by simp [hi]
 have hao:=(hBk.h1 B[i] (List.getElem_mem hi)).1
 rw [hgd]
 have hO:=fun W h1 h2 => vopen_ok T hT At nt ct cv c L B W h1 h2 hS
 unfold RetShop at hO
 have hV:=chgV_ok hme ho1 ho9 hbp
 have hK:=fun g x0 x1 x2 x3 x4 x5 W hs hw => vkeep_ok g x0 x1 x2 x3 x4 x5 cv c L (chgV me ow bp) W hs hw hS.tape hS.h2 hL hV hf
 unfold RetWrOwn at hK
 obtain ⟨wl,hwl⟩:∃ wl,putW c.length (L.length * 14) (evW (chgV me ow bp)) = wl:=⟨_,rfl⟩
 rw [hwl] at hK ⊢
 have hev:evV (chgV me ow bp) = .agg #[.int .i64 5,me,(),(),(),(),(),(),(),(),(),ow,bp]:=rfl
 rw [hev] at hK
 obtain ⟨Ac,nc,cc,rfl⟩:∃ Ac nc cc,cv = .slice Ac nc cc:=by obtain ⟨X,y,h,_⟩:=hc;exact ⟨X,_,y,h⟩
 have HI:=Lib.hid (And.intro hi hp)
 have hat:=fun W A n c (h:IsBk W (.slice A n c) B) => h.at_ hi
 generalize B[i] = cu at hao hat
 obtain ⟨⟨ame,rev,next,month,bought,free,l⟩,s⟩:=cu
 dsimp only at hao hat
 dsimp only
 obtain ⟨⟨E,⟨me2,rev2,next2,month2,bought2,free2,l2⟩⟩,hR⟩:∃ r,oweP ⟨ame,rev,next,month,bought,free,l⟩ ow bp = r:=⟨_,rfl⟩
 rw [hR]
 dsimp only
 have hOw:=fun Ad cd W h => owe_all ame rev next month bought ow bp free Ad l.length cd l E me2 rev2 next2 month2 bought2 free2 l2 W h hao.h2 hao.h1 ho1 ho9 hbp (Lib.hid hR)
 unfold RetOI at hOw
 clear hS hL hf hwl hev hV hgd hBk hi hao hR hp
 have H:=Mem.init w
 replace H:=H.al w.heap.size #[.slice At nt ct,T.fx,T.fb,T.db,T.al] (31) |>.al (w.heap.size + 1) #[ow,bp] (90) |>.gen
 simp only [List.nil_append,List.cons_append] at H
 obtain ⟨W0,hW0,H⟩:=H
 have hvt0:=hvt.below H.below
 have hc0:=hc.below H.below
 have Ltt:=H.c5 0 rfl
 have Ldb:=H.c2 1 rfl
 have Nttdb:=H.ne2 0 1 rfl rfl rfl
 go_enter Tryz.func175,Tryz.ntmps175
 go_wp2_with fail
 refine (hO _ hvt0 hc0).mono ?_
 rintro e w1 ⟨g,u,rfl,HK,hbk⟩
 obtain ⟨Ab,nb,cb,rfl⟩:=hbk.slice
 have hbw:=HK.below
 obtain ⟨b,off,Ad,cd,As,cs,rfl,hbl,hds,hss,p0,p1,p2,p3,p4,p5,p6,p7⟩:=hat w1 Ab nb cb hbk.is
 clear p7 hss
 have hc1:=hc0.below hbw
 replace H:Mem (w) [] (w1) [.blk (w.heap.size) 31 #[.slice At nt ct,T.fx,T.fb,T.db,T.al],.blk (w.heap.size + 1) 90 #[ow,bp],.blk (g) 121 #[.slice (some ⟨b,off,none⟩) nb cb,.slice At nt ct,T.fx,T.fb,T.db,T.al,.slice Ac nc cc,L.length]]:=Mem.join H HK
 clear hO hvt0 hc0 hW0 HK hbw
 clear Ltt Ldb Nttdb
 go_wp2_with fail
 refine (customer_some g b off nb cb i me _ _ _ _ _ _ _ B _ (H.blk 2 rfl) hbk.is HI.out.2).mono ?_
 rintro e w2 ⟨rfl,hb2⟩
 obtain ⟨o,ho⟩:∃ o,off + i * 8 = o:=⟨_,rfl⟩
 rw [ho] at p0 p1 p2 p3 p4 p5 p6 ⊢
 have q0:=(hb2.cell (p:=⟨b,o,none⟩) hbl).trans p0
 have q1:=(hb2.cell (p:=⟨b,o + 1,none⟩) hbl).trans p1
 have q2:=(hb2.cell (p:=⟨b,o + 2,none⟩) hbl).trans p2
 have q3:=(hb2.cell (p:=⟨b,o + 3,none⟩) hbl).trans p3
 have q4:=(hb2.cell (p:=⟨b,o + 4,none⟩) hbl).trans p4
 have q5:=(hb2.cell (p:=⟨b,o + 5,none⟩) hbl).trans p5
 have q6:=(hb2.cell (p:=⟨b,o + 6,none⟩) hbl).trans p6
 have hbl2:=Nat.lt_of_lt_of_le hbl hb2.size
 have hds2:=hds.below hb2
 have hc2:=hc1.below hb2
 have hat:=hOw Ad cd
 replace H:=Mem.call H hb2
 clear ho p0 p1 p2 p3 p4 p5 p6 hc1 hb2 hbl hbk hds hOw
 obtain ⟨dblt,db0,-,db1,-⟩:=H.c2 1 rfl
 go_upto_region 7 with fail
 obtain ⟨LL,hLL⟩:∃ LL:List Chunk,[.blk (w.heap.size) 31 #[.slice At nt ct,T.fx,T.fb,T.db,T.al],.blk (w.heap.size + 1) 90 #[ow,bp],.blk (g) 121 #[.slice (some ⟨b,off,none⟩) nb cb,.slice At nt ct,T.fx,T.fb,T.db,T.al,.slice Ac nc cc,L.length]] = LL:=⟨_,rfl⟩
 rw [hLL] at H
 go_cut [13,14] (fun p0 p1 wx => ∃ (na:Nat) (A2:Option Addr) (d2:Nat) (base:Nat),p0 = .pointer (some ⟨na,0,none⟩) ∧ p1 = .int .i64 ↑E ∧ Mem (w) [] wx (LL ++ (.blk na 64 #[me2,rev2,next2,month2,bought2,free2,.slice A2 l2.length d2] :: [.row (base) (90) (2) (.slice A2 l2.length d2) (l2.length) (drs l2)])) ∧ Below w2.heap.size w2 wx)
 case first =>
  obtain ⟨Sd,hSd⟩:∃ Sd:World → Prop,Sd = fun w' => w'.cell? ⟨w.heap.size + 1,0,none⟩ = some (.int .i64 ↑ow) ∧ w'.cell? ⟨w.heap.size + 1,1,none⟩ = some (.int .i64 ↑bp) ∧ w'.cell? ⟨b,o,none⟩ = some (.int .i64 ↑ame) ∧ w'.cell? ⟨b,o + 1,none⟩ = some (.int .i64 ↑rev) ∧ w'.cell? ⟨b,o + 2,none⟩ = some (.int .i64 ↑next) ∧ w'.cell? ⟨b,o + 3,none⟩ = some (.int .i64 ↑month) ∧ w'.cell? ⟨b,o + 4,none⟩ = some (.int .i64 ↑bought) ∧ w'.cell? ⟨b,o + 5,none⟩ = some (.int .i64 free) ∧ w'.cell? ⟨b,o + 6,none⟩ = some (.slice Ad l.length cd):=⟨_,rfl⟩
  have hSk:∀ we,Below w2.heap.size w2 we → Sd we:=fun we hWe => by rw [hSd];exact ⟨(hWe.cell dblt).trans db0,(hWe.cell dblt).trans db1,(hWe.cell hbl2).trans q0,(hWe.cell hbl2).trans q1,(hWe.cell hbl2).trans q2,(hWe.cell hbl2).trans q3,(hWe.cell hbl2).trans q4,(hWe.cell hbl2).trans q5,(hWe.cell hbl2).trans q6⟩
  have nz0a:w2.heap.size ≠ w.heap.size + 1:=by have:=dblt;omega
  have nz0b:w2.heap.size + 1 ≠ w.heap.size + 1:=by have:=dblt;omega
  have nz0c:w.heap.size + 1 ≠ w2.heap.size:=by have:=dblt;omega
  have nz0d:w.heap.size + 1 ≠ w2.heap.size + 1:=by have:=dblt;omega
  have nz1a:w2.heap.size ≠ b:=by have:=hbl2;omega
  have nz1b:w2.heap.size + 1 ≠ b:=by have:=hbl2;omega
  have nz1c:b ≠ w2.heap.size:=by have:=hbl2;omega
  have nz1d:b ≠ w2.heap.size + 1:=by have:=hbl2;omega
  have nz0e:w2.heap.size ≠ w.heap.size:=by have:=dblt;omega
  have nz0f:w.heap.size ≠ w2.heap.size:=by have:=dblt;omega
  have V0:Mem w2 [] (w2).drew []:=(Mem.init w2).drew
  have B0:=V0.below
  have V1:Mem w2 [] (w2.alloc (.cells #[(),(),(),(),(),(),.slice none 0 0] 64)).drew [.blk (w2.heap.size) 64 #[(),(),(),(),(),(),.slice none 0 0]]:=((Mem.init w2).alloc _ rfl #[(),(),(),(),(),(),.slice none 0 0] 64).drew
  have B1:=V1.below
  have V1b0:=V1.blk 0 rfl
  go_region_held3 (fun w' => w'.cell? ⟨w.heap.size + 1,0,none⟩ = some (.int .i64 ↑ow) ∧ w'.cell? ⟨w.heap.size + 1,1,none⟩ = some (.int .i64 ↑bp) ∧ w'.cell? ⟨b,o,none⟩ = some (.int .i64 ↑ame) ∧ w'.cell? ⟨b,o + 1,none⟩ = some (.int .i64 ↑rev) ∧ w'.cell? ⟨b,o + 2,none⟩ = some (.int .i64 ↑next) ∧ w'.cell? ⟨b,o + 3,none⟩ = some (.int .i64 ↑month) ∧ w'.cell? ⟨b,o + 4,none⟩ = some (.int .i64 ↑bought) ∧ w'.cell? ⟨b,o + 5,none⟩ = some (.int .i64 free) ∧ w'.cell? ⟨b,o + 6,none⟩ = some (.slice Ad l.length cd)) (first | with_reducible exact ⟨s0,s1,s2,s3,s4,s5,s6,s7,s8⟩ | go_keep | fail) (first | (go_at_call 91;(with_reducible refine (hat (w2).drew (hds2.below B0)).mono ?_);rintro e we ⟨A2,d2,rfl,hown,hbe⟩;have hV:=V0;obtain ⟨bse,hK⟩:∃ bse:Nat,Mem (w2).drew [] we [.row (bse) (90) (2) (.slice A2 l2.length d2) (l2.length) (drs l2)]:=⟨_,Mem.row (Mem.init _) hbe hown (Nat.le_refl _)⟩;have hWe:Below w2.heap.size w2 we:=B0.trans (hbe.mono B0.size);have q:=hSk _ hWe;rw [hSd] at q;obtain ⟨s0,s1,s2,s3,s4,s5,s6,s7,s8⟩:=q;have sz:=hWe.size;have ez0c:we.heap.size ≠ w.heap.size:=(by have:=dblt;omega);have ez0a:we.heap.size ≠ w.heap.size + 1:=(by have:=dblt;omega);have ez0b:we.heap.size + 1 ≠ w.heap.size + 1:=(by have:=dblt;omega);have ez1a:we.heap.size ≠ b:=(by have:=hbl2;omega);have ez1b:we.heap.size + 1 ≠ b:=(by have:=hbl2;omega)) | (go_at_call 91;(with_reducible refine (hat (w2.alloc (.cells #[(),(),(),(),(),(),.slice none 0 0] 64)).drew (hds2.below B1)).mono ?_);rintro e we ⟨A2,d2,rfl,hown,hbe⟩;have hV:=V1;obtain ⟨bse,hK⟩:∃ bse:Nat,Mem (w2.alloc (.cells #[(),(),(),(),(),(),.slice none 0 0] 64)).drew [] we [.row (bse) (90) (2) (.slice A2 l2.length d2) (l2.length) (drs l2)]:=⟨_,Mem.row (Mem.init _) hbe hown (Nat.le_refl _)⟩;have hWe:Below w2.heap.size w2 we:=B1.trans (hbe.mono B1.size);have q:=hSk _ hWe;rw [hSd] at q;obtain ⟨s0,s1,s2,s3,s4,s5,s6,s7,s8⟩:=q;have sz:=hWe.size;have ez0c:we.heap.size ≠ w.heap.size:=(by have:=dblt;omega);have ez0a:we.heap.size ≠ w.heap.size + 1:=(by have:=dblt;omega);have ez0b:we.heap.size + 1 ≠ w.heap.size + 1:=(by have:=dblt;omega);have ez1a:we.heap.size ≠ b:=(by have:=hbl2;omega);have ez1b:we.heap.size + 1 ≠ b:=(by have:=hbl2;omega);have zb0:=Blk.below V1b0 hbe V1b0.lt;obtain ⟨zb0lt,zb0_0,zb0f0,zb0_1,zb0f1,zb0_2,zb0f2,zb0_3,zb0f3,zb0_4,zb0f4,zb0_5,zb0f5,zb0_6,zb0f6⟩:=(V1.call hbe).c7 0 rfl))
  all_goals
   go_wp2_with fail
   go_meet
   refine ⟨_,A2,d2,bse,rfl,rfl,?_⟩
   first
   | with_reducible exact ⟨cr1_a H hV hK,(cr1_a (Mem.init w2) hV hK).below⟩
   | (have h:=cr1_b (c:=#[me2,rev2,next2,month2,bought2,free2,.slice A2 l2.length d2]) (Mem.init w2) hV hK [(0,.int .i64 ↑me2),(1,.int .i64 ↑rev2),(2,.int .i64 ↑next2),(3,.int .i64 ↑month2),(4,.int .i64 ↑bought2),(5,.int .i64 free2),(6,.slice A2 l2.length d2)] (by simp only [List.foldl_cons,List.foldl_nil,List.setIfInBounds_toArray,List.set_cons_zero,List.set_cons_succ])
      simp only [sets,List.foldl_cons,List.foldl_nil,List.nil_append] at h
      with_reducible exact ⟨H.join h,h.below⟩)
 case rest =>
  obtain ⟨na,A2,d2,base,rfl,rfl,H,hCR⟩:=hcut
  subst hLL
  replace H:Mem (w) [] (wc) [.blk (w.heap.size) 31 #[.slice At nt ct,T.fx,T.fb,T.db,T.al],.blk (w.heap.size + 1) 90 #[ow,bp],.blk (g) 121 #[.slice (some ⟨b,off,none⟩) nb cb,.slice At nt ct,T.fx,T.fb,T.db,T.al,.slice Ac nc cc,L.length],.blk (na) 64 #[me2,rev2,next2,month2,bought2,free2,.slice A2 l2.length d2],.row (base) (90) (2) (.slice A2 l2.length d2) (l2.length) (drs l2)]:=H
  have hc3:=hc2.below hCR
  clear q0 q1 q2 q3 q4 q5 q6 hbl2 hds2 hat hc2 hCR
  clear dblt db0 db1
  have Ldb:=H.c2 1 rfl
  by_cases hE:E = 0
  ·subst hE
   go_wp2_with fail
   refine (hK g _ _ _ _ _ _ _ (H.blk 2 rfl) hc3).mono ?_
   rintro e w5 ⟨A3,c3,rfl,hp2,hown,hb5⟩
   replace H:Mem (w) [] (w5) [.blk (w.heap.size) 31 #[.slice At nt ct,T.fx,T.fb,T.db,T.al],.blk (w.heap.size + 1) 90 #[ow,bp],.blk (g) 121 #[.slice (some ⟨b,off,none⟩) nb cb,.slice At nt ct,T.fx,T.fb,T.db,T.al,.slice Ac nc cc,L.length],.blk (na) 64 #[me2,rev2,next2,month2,bought2,free2,.slice A2 l2.length d2],.row (base) (90) (2) (.slice A2 l2.length d2) (l2.length) (drs l2),.row (wc.heap.size) (158) (2) (.slice A3 wl.length c3) (wl.length) (wrs wl)]:=Mem.row H hb5 hown (Nat.le_refl _)
   clear hK hc3 hb5
   clear Ldb
   go_wp2
   refine bodyPost_ret (v:=.tuple #[.slice A3 wl.length c3,()]) (by simp [results,Tryz.results175,go_sem];done) rfl ?_
   exact .inl ⟨rfl,A3,c3,rfl,hp2,H.ownb 5 rfl,H.below⟩
  ·have hEb:((E:Int) == 0) = false:=by simp;omega
   have hEn:¬ (E:Int) = 0:=by omega
   clear hK
   go_wp2
   refine bodyPost_ret (v:=.tuple #[.slice none 0 0,E]) (by simp [results,Tryz.results175,go_sem];done) rfl ?_
   exact .inr ⟨hE,rfl,H.below⟩
end Go.Proofs.YtfgiehkfcoodbaaGreat
