/- Rows of the call's own, over calls and over stores elsewhere; slices of integers. -/
import Derived.Test.YtfgiehkfcoodbaaGreatM0
import Derived.Test.YtfgiehkfcoodbaaGreatM2
import Derived.Test.YtfgiehkfcoodbaaGreatM6
import Derived.OwnWalk
import Derived.Test.YtfgiehkfcoodbaaGreatM4
import Derived.Laws.OwnMore
namespace Go.Proofs.YtfgiehkfcoodbaaGreat
open Go.RowKit
set_option linter.unusedVariables false
set_option maxRecDepth 100000
set_option maxHeartbeats 16000000
section
variable {w w':World} {base:Nat} {e:TypeId} {size:Nat} {v:Value} {n:Nat} {xs:List Value}
theorem own_below (h:w.ownsRow base e size v n xs) (hb:Below w.heap.size w w'):w'.ownsRow base e size v n xs :=
 h.kept (row:=none) ⟨hb.os,hb.tape,hb.output,hb.size,fun i hi _ => hb.block i hi⟩ (by cases v.ownBlock <;> simp)
theorem own_far (h:w.ownsRow base e size v n xs) {p:Addr} (hp:p.block < base) (u:Value):(w.setCell p u).ownsRow base e size v n xs:=by
 refine h.kept (row:=some p.block) ⟨rfl,rfl,rfl,by simp,fun k _ hk => heap_setCell_other w p k u (fun e => hk (by simp [e]))⟩ ?_
 cases hv:v.ownBlock with
 | none => exact .inl rfl
 | some g =>
  have:=(h.lt g hv).1
  refine .inr ?_
  intro h'
  injection h' with h'
  omega
theorem own_other (h:w.ownsRow base e size v n xs) {p:Addr} (hp:some p.block ≠ v.ownBlock) (u:Value):(w.setCell p u).ownsRow base e size v n xs :=
 h.kept (row:=some p.block) ⟨rfl,rfl,rfl,by simp,fun k _ hk => heap_setCell_other w p k u (fun e => hk (by simp [e]))⟩ (.inr (fun e => hp e.symm))
theorem own_mono (h:w.ownsRow base e size v n xs) {b':Nat} (hb:b' ≤ base):w.ownsRow b' e size v n xs:=by
 refine ⟨h.1,?_⟩
 rcases h.2 with h2 | ⟨g,cap,cur,h1,h2,h3⟩
 ·exact .inl h2
 ·exact .inr ⟨g,cap,cur,h1,Nat.le_trans hb h2,h3⟩
end
theorem wpList_pushk {P:Program} {ops:Array Oper} {rest:List Oper} {o:Oper} {a:Act} {Q:Exit → Act → World → Prop} {t e:TypeId} {size bytes:Nat} (E:Elem P t e size bytes) (hgd:o.guard = none) (s x:Operand)
 (ho:o.op = .call { callee:=.builtin .append,args:=#[s,x],argTypes:=#[t,t] })
 (W:World) (base g:Nat) (v:Value) (n:Nat) (xs news:List Value) (hs:a.eval s = v) (hown:W.ownsRow base e size v n xs) (hx:a.eval x = .slice (some ⟨g,0,none⟩) 1 1) (hg:W.heap[g]? = some (.cells ⟨news⟩ e (0,0)))
 (hl:news.length = size) (h1:∀ u ∈ news,u.oneCell' = true) (hbytes:(n + 1) * bytes ≤ 140737488355328) (hmax:n + 1 ≤ maxLen) (hbase:base ≤ W.heap.size)
 (h:∀ A' c' w',w'.ownsRow base e size (.slice A' (n + 1) c') (n + 1) (xs ++ news) → Below base W w' → W.grownBy w' v.ownBlock → (∀ b,b < W.heap.size → some b ≠ v.ownBlock → some b ≠ (Value.slice A' (n + 1) c').ownBlock) → wpList P ops Q rest (a.put o.dst (.slice A' (n + 1) c')) w'):wpList P ops Q (o :: rest) a W:=by
 obtain ⟨i,z,hi,hz,hsize,hby,hzs⟩:=E.info
 refine wpList_append_lies W hgd s x t ho base e i z size bytes E.und hi hz hsize hby hzs E.pos v n xs hs hown ⟨g,0,none⟩ 1 1 news hx (by omega) ?_ h1 (by omega) hmax hbytes hbase _ rfl ?_
 ·intro j u hj
  exact World.news_of_block hg j u hj
 ·intro g' c' w' ho' hgr hor _
  refine h _ _ _ ho' ((Below.refl base W).grown hgr hbase (fun k hk => (hown.lt k hk).1)) hgr (fun b hb hne e => ?_)
  have e2:b = g':=by simpa [Value.ownBlock] using e
  subst e2
  rcases hor with h | h
  ·exact hne h.symm
  ·omega
theorem Blk.grown {w w':World} {g:Nat} {t:TypeId} {cs:Array Value} {row:Option Nat} (h:Blk w g t cs) (hg:w.grownBy w' row) (hne:some g ≠ row):Blk w' g t cs:=(hg.block g h.lt hne).trans h
theorem own_ne {w:World} {base:Nat} {e:TypeId} {size:Nat} {v:Value} {n:Nat} {xs:List Value} (h:w.ownsRow base e size v n xs) {g:Nat} (hg:w.heap.size ≤ g):some g ≠ v.ownBlock:=fun e => by
 have:=(h.lt g e.symm).2
 omega
def nis (xs:List Nat):List Value:=xs.map fun (x:Nat) => Value.int .i64 ↑x
theorem nis_get {xs:List Nat} {i:Nat} (h:i < xs.length):(nis xs)[i]? = some (.int .i64 xs[i]):=by simp [nis,h]
theorem nis_append (a b:List Nat):nis (a ++ b) = nis a ++ nis b:=by simp [nis]
theorem int_info:(Tryz.prog.info? 3).map (fun i => (i.zero,i.size,i.bytes)) = some (some (.int .i64 0),1,8):=by kernel_rfl
theorem el_int:Elem Tryz.prog 220 3 1 8:=elem_of Tryz.underlying220 int_info rfl (by omega)
def IsNs (w:World) (v:Value) (xs:List Nat):Prop :=
 ∃ (A:Option Addr) (c:Nat),v = .slice A xs.length c ∧ xs.length ≤ c ∧ c ≤ maxLen ∧ Rd w w.heap.size 1 A xs.length (nis xs)
theorem IsNs.below {w w':World} {v:Value} {xs:List Nat} (h:IsNs w v xs) (hb:Below w.heap.size w w'):IsNs w' v xs:=by
 obtain ⟨A,c,h1,h2,h3,h5⟩:=h
 exact ⟨A,c,h1,h2,h3,(h5.below hb).more hb.size⟩
theorem isns_own {w:World} {base e:Nat} {A:Option Addr} {n c:Nat} {l:List Nat} (hn:l.length = n) (h:w.ownsRow base e 1 (.slice A n c) n (nis l)):IsNs w (.slice A n c) l:=by
 subst hn
 exact ⟨A,c,rfl,(own_cap h).1,(own_cap h).2,Rd.of_own h⟩
theorem IsNs.at_ {w:World} {A:Option Addr} {n c:Nat} {l:List Nat} (h:IsNs w (.slice A n c) l) {k:Nat} (hk:k < l.length) :
 ∃ b off,A = some ⟨b,off,none⟩ ∧ b < w.heap.size ∧ w.cell? ⟨b,off + k,none⟩ = some (.int .i64 (l[k]:Nat)):=by
 obtain ⟨A',c',e,_,_,hr⟩:=h
 injection e with e1 e2
 subst e1
 obtain ⟨b,off,rfl,hB,hc⟩:=hr.at_ (by omega)
 exact ⟨b,off,rfl,hB,hc _ _ (nis_get hk)⟩
end Go.Proofs.YtfgiehkfcoodbaaGreat
namespace Go.Proofs.YtfgiehkfcoodbaaGreat
open Go.RowKit
set_option linter.unusedVariables false
set_option maxRecDepth 100000
set_option maxHeartbeats 16000000
theorem drs_set {l:List (Nat × Nat)} {k:Nat} (h:k < l.length) (x:Nat):(drs l).set (k * 2) (.int .i64 x) = drs (l.set k (x,l[k].2)):=by
 induction l generalizing k with
 | nil => simp at h
 | cons p l ih =>
  cases k with
  | zero => rfl
  | succ k =>
   have:=ih (k:=k) (by simp at h;omega)
   rw [Nat.succ_mul]
   show [Value.int .i64 p.1,Value.int .i64 p.2] ++ (drs l).set (k * 2) _ = [Value.int .i64 p.1,Value.int .i64 p.2] ++ drs (l.set k _)
   rw [this]
   rfl
theorem ownsRow_drewN {w:World} {base:Nat} {e:TypeId} {size:Nat} {v:Value} {n:Nat} {xs:List Value} (h:w.ownsRow base e size v n xs) (k:Nat):(w.drewN k).ownsRow base e size v n xs:=h
theorem drs_one (l:List (Nat × Nat)):∀ u ∈ drs l,u.oneCell' = true:=by
 intro u hu
 obtain ⟨p,_,hp⟩:=List.mem_flatMap.1 hu
 simp at hp
 rcases hp with rfl | rfl <;> rfl
def agedTo (m:Nat) (l:List (Nat × Nat)) (k:Nat):List (Nat × Nat):=aged m (l.take k) ++ l.drop k
theorem agedTo_len (m:Nat) (l:List (Nat × Nat)) (k:Nat):(agedTo m l k).length = l.length:=by simp [agedTo,aged];omega
theorem agedTo_get {m:Nat} {l:List (Nat × Nat)} {k:Nat} (h:k < l.length):(agedTo m l k)[k]'(by rw [agedTo_len];exact h) = l[k]:=by
 unfold agedTo
 rw [List.getElem_append_right (by simp [aged];omega)]
 simp [aged,Nat.min_eq_left (Nat.le_of_lt h)]
theorem agedTo_succ {m:Nat} {l:List (Nat × Nat)} {k:Nat} (h:k < l.length):(agedTo m l k).set k (grow l[k].2 m l[k].1,l[k].2) = agedTo m l (k + 1):=by
 unfold agedTo
 rw [List.set_append_right _ _ (by simp [aged];omega),List.take_succ_eq_append_getElem h]
 have e:(aged m (l.take k)).length = k:=by simp [aged];omega
 rw [e,Nat.sub_self,List.drop_eq_getElem_cons h]
 have e2:aged m (l.take k ++ [l[k]]) = aged m (l.take k) ++ [(grow l[k].2 m l[k].1,l[k].2)]:=by unfold aged;rw [List.map_append];rfl
 rw [e2,List.append_assoc]
 rfl
def RetAge (l:List (Nat × Nat)) (w:World) (e:Ending) (w':World):Prop :=
 ∃ (A:Option Addr) (c:Nat),e = .returned (.tuple #[.slice A l.length c,()]) ∧ IsDs w' (.slice A l.length c) l ∧ w'.ownsRow w.heap.size 90 2 (.slice A l.length c) l.length (drs l) ∧ Below w.heap.size w w'
theorem age_ok (v:Value) (l:List (Nat × Nat)) (m:Nat) (w:World) (hv:IsDs w v l) (hl:DOk l) (hm:m ≤ 2400) :
 Calls Tryz.prog 63 #[v,m] w (RetAge (aged m l) w):=by
 have hl0:=hl
 obtain ⟨h8,hp⟩:=hl
 have hv0:=hv
 obtain ⟨A,c,rfl,h1,h2,h3⟩:=hv
 clear h1 h2
 have hLA:(aged m l).length = l.length:=by simp [aged]
 have HLA:=Lib.hid hLA
 clear hLA
 go_enter Tryz.func63,Tryz.ntmps63
 go_wp2_with fail
 refine (fault_ok _ l w hv0 hl0).mono ?_
 rintro e wa ⟨rfl,hba⟩
 have h3a:=(h3.below hba).more hba.size
 go_wp2_with (at_builtin;refine wpList_pushN el_d rfl (.const (.slice none 0 0)) (.tmp 22) rfl wa wa.heap.size _ 0 [] rfl (World.ownsRow_nil _ _ _ _) wa.heap.size A l.length c (drs l) rfl h3a (drs_one l) (by omega) (by unfold maxLen;omega) wa (Below.refl _ _) (Nat.le_refl _) ?_;intro A1 c1 w1 hown1 hb1)
 simp only [Nat.zero_add,List.nil_append] at hown1 ⊢
 have hL9:(l.length:Int) ≤ 8:=by omega
 clear h3a h3 hv0 hl0
 rcases Nat.eq_zero_or_pos l.length with h0 | h0
 ·obtain rfl:l = []:=List.eq_nil_of_length_eq_zero h0
  go_loopw [26] (fun i wr => i = .int .i64 0 ∧ wr = w1) (fun i _ => 0)
  case atStart => exact ⟨rfl,rfl⟩
  case round =>
   obtain ⟨rfl,rfl⟩:=hrel
   go_wp2
   go_ret2
   refine ⟨A1,c1,rfl,?_,own_mono hown1 hba.size,hba.step hb1⟩
   exact isds_own (l:=[]) rfl hown1
 ·obtain ⟨g,cap,hv,hg0,hglt⟩:=hown1.form h0
  injection hv with hv1 _ hv2
  subst hv1 hv2
  have hst:agedTo m l 0 = l:=rfl
  go_loopw [26,9] (fun i _ wr => ∃ k:Nat,k ≤ l.length ∧ i = .int .i64 k ∧ wr.ownsRow wa.heap.size 90 2 (.slice (some ⟨g,0,none⟩) l.length c1) l.length (drs (agedTo m l k)) ∧ Below wa.heap.size wa wr) (fun i _ _ => l.length - (intOf i).toNat)
  case atStart => exact ⟨0,by omega,rfl,hown1,hb1⟩
  case round =>
   obtain ⟨k,hk,rfl,hown,hb⟩:=hrel
   clear hown1 hb1
   by_cases hlt:k < l.length
   ·have hgk:=agedTo_get (m:=m) hlt
    obtain ⟨p1,p2⟩:=hp _ (List.getElem_mem hlt)
    have HS:=Lib.hid (agedTo_succ (m:=m) hlt)
    obtain ⟨L,HL⟩:∃ L,Hid (agedTo m l k = L):=⟨_,rfl⟩
    have hLl:L.length = l.length:=by rw [← HL.out];exact agedTo_len m l k
    have hkL:k < L.length:=by omega
    have hLk:L[k] = l[k]:=by have e:=HL.out;subst e;exact hgk
    rw [HL.out] at hown HS
    clear hgk hst HL
    have HL8:=Lib.hid hLl
    clear hLl
    generalize l[k] = d at *
    obtain ⟨x,y⟩:=d
    dsimp only at *
    have hset:L.set k (x,y) = L:=by rw [← hLk];exact List.set_getElem_self hkL
    have hown:wr.ownsRow wa.heap.size 90 2 (.slice (some ⟨g,0,none⟩) l.length c1) l.length (drs (L.set k (x,y))):=by rw [hset];exact hown
    clear hLk hset hp
    obtain ⟨wo,rfl⟩:∃ wo:World,wo = wr:=⟨_,rfl⟩
    have hc0:(0:Int) ≤ (k:Int):=by omega
    have hc1:(k:Int) < (l.length:Int):=by omega
    go_wp2_with fail
    go_step3
    go_wp2_with fail
    go_step3
    go_wp2_with fail
    go_loopw [33] (fun i wr => ∃ (j z:Nat),j ≤ m ∧ z ≤ 1000000000 ∧ i = .int .i64 j ∧ Hid (grow y j x = z) ∧ wr.ownsRow wa.heap.size 90 2 (.slice (some ⟨g,0,none⟩) l.length c1) l.length (drs (L.set k (z,y))) ∧ Below wa.heap.size wa wr) (fun i _ => m - (intOf i).toNat)
    case atStart => exact ⟨0,x,by omega,by omega,rfl,rfl,hown,hb⟩
    case round =>
     obtain ⟨j,z,hj,hz,rfl,HG,hown,hb⟩:=hrel
     by_cases hjm:j < m
     ·obtain ⟨q1,q2⟩:=drs_get (l:=L.set k (z,y)) (i:=k) (by simpa using hkL)
      simp only [List.getElem_set_self] at q1 q2
      have q1:=(hown.cellAt (k * 2) (by omega)).trans q1
      have q2:=(hown.cellAt (k * 2 + 1) (by omega)).trans q2
      have q3:=hown.frozenAt (k * 2)
      have q5:=(hown.stored (k * 2) (.int .i64 ((month1 y z:Nat):Int)))
      rw [drs_set (by simpa using hkL)] at q5
      simp only [List.getElem_set_self,List.set_set] at q5
      have b1:z * y ≤ 1000000000 * 10000:=Nat.mul_le_mul hz p2
      have b2:0 ≤ (z:Int) * (y:Int):=by rw [← Int.natCast_mul];omega
      have b3:(z:Int) * (y:Int) ≤ 10000000000000:=by rw [← Int.natCast_mul];omega
      obtain ⟨r,hr⟩:∃ r:Nat,z * y / 10000 = r:=⟨_,rfl⟩
      have hrI:(z:Int) * (y:Int) / 10000 = (r:Int):=by rw [← Int.natCast_mul];omega
      have hm1:month1 y z = min (z + r) 1000000000:=by unfold month1;rw [hr]
      have b4:r ≤ 1000000000:=by omega
      have HR:=Lib.hid hr
      clear hr b1
      have hbs:=hb.size
      have hB:wa.heap.size ≤ g:=hg0
      by_cases h0r:r = 0
      ·have e1:((r:Int) == 0) = true:=by simp;omega
       have HE:Hid (z = grow y m x):=by
        show _ = _
        have h1:=grow_stop (b:=y) hz (by rw [HR.out];exact h0r) (m - j)
        rw [← HG.out,← grow_add,show j + (m - j) = m by omega,HG.out] at h1
        exact h1.symm
       clear q5 hm1
       go_wp2_with fail
       go_quiet (fail)
       go_wp2
       rw [Exit.noGoto_normal]
       go_wp2
       go_roundw
       case rel => exact ⟨k + 1,by omega,by go_num,by rw [← HS.out,← HE.out];exact ownsRow_drewN hown nq,below_draws hb nq⟩
       case measure => simp [intOf];omega
      ·have e1:((r:Int) == 0) = false:=by simp;omega
       obtain ⟨t,ht⟩:∃ t:Nat,month1 y z = t:=⟨_,rfl⟩
       rw [ht] at hm1 q5
       have HT:=Lib.hid ht
       clear ht
       by_cases hmx:z + r ≤ 1000000000
       all_goals
        go_wp2_with fail
        go_quiet (fail)
        go_wp2
        go_roundw
        case rel =>
         refine ⟨j + 1,t,by omega,by omega,by go_num,(show month1 y (grow y j x) = t by rw [HG.out];exact HT.out),?_,?_⟩
         ·have q6:=((ownsRow_drewN hown nq).stored (k * 2) (.int .i64 ↑t)).1
          rw [drs_set (by simpa using hkL)] at q6
          simp only [List.getElem_set_self,List.set_set] at q6
          first | rwa [show ((z:Int) + (r:Int)) = (t:Int) by omega] | rwa [show (1000000000:Int) = (t:Int) by omega]
         ·exact (below_draws hb nq).setCell (p:=⟨g,k * 2,none⟩) hB _
        case measure => simp [intOf];omega
     ·obtain rfl:j = m:=by omega
      go_wp2
      rw [Exit.noGoto_normal]
      go_wp2
      go_roundw
      case rel => exact ⟨k + 1,by omega,by go_num,by rw [← HS.out,HG.out];exact hown,hb⟩
      case measure => simp [intOf];omega
   ·obtain rfl:k = l.length:=by omega
    have hfin:agedTo m l l.length = aged m l:=by simp [agedTo]
    rw [hfin] at hown
    go_wp2
    go_ret2
    refine ⟨some ⟨g,0,none⟩,c1,?_,?_,?_,hba.step hb⟩
    ·rw [HLA.out];rfl
    ·rw [HLA.out];exact isds_own HLA.out hown
    ·rw [HLA.out];exact own_mono hown hba.size
theorem age_is (v:Value) (l o:List (Nat × Nat)) (m:Int) (k:Nat) (w:World) (hv:IsDs w v l) (hl:DOk l) (hm:k ≤ 2400) (he:Hid (m = k)) (ho:Hid (aged k l = o)) :
 Calls Tryz.prog 63 #[v,m] w (RetAge o w):=by
 rw [he.out,← ho.out];exact age_ok v l k w hv hl hm
def sets (w:World) (b:Nat) (ps:List (Nat × Value)):World:=ps.foldl (fun W p => W.setCell ⟨b,p.1,none⟩ p.2) w
theorem own_sets {base b:Nat} {e:TypeId} {size:Nat} {v:Value} {n:Nat} {xs:List Value} (hb:b < base):∀ (ps:List (Nat × Value)) {w:World},w.ownsRow base e size v n xs → (sets w b ps).ownsRow base e size v n xs
 | [],_,h => h
 | p :: ps,w,h => own_sets hb ps (own_far (p:=⟨b,p.1,none⟩) h hb p.2)
theorem below_sets {B b:Nat} {w0:World} (hb:B ≤ b):∀ (ps:List (Nat × Value)) {w:World},Below B w0 w → Below B w0 (sets w b ps)
 | [],_,h => h
 | p :: ps,w,h => below_sets hb ps (h.setCell (p:=⟨b,p.1,none⟩) hb p.2)
theorem Blk.sets {g:Nat} {t:TypeId}:∀ (ps:List (Nat × Value)) {w:World} {cs:Array Value},Blk w g t cs → Blk (sets w g ps) g t (ps.foldl (fun cs p => cs.setIfInBounds p.1 p.2) cs)
 | [],_,_,h => h
 | p :: ps,w,cs,h => Blk.sets ps (h.set_ p.1 p.2)
theorem Blk.sets_far {g b:Nat} {t:TypeId} {cs:Array Value} (hb:g ≠ b):∀ (ps:List (Nat × Value)) {w:World},Blk w g t cs → Blk (Proofs.YtfgiehkfcoodbaaGreat.sets w b ps) g t cs
 | [],_,h => h
 | p :: ps,w,h => Blk.sets_far hb ps (h.far (p:=⟨b,p.1,none⟩) hb p.2)
theorem size_sets {b:Nat}:∀ (ps:List (Nat × Value)) (w:World),(Proofs.YtfgiehkfcoodbaaGreat.sets w b ps).heap.size = w.heap.size
 | [],_ => rfl
 | p :: ps,w => (size_sets ps _).trans (by simp)
def RetRecO (e0:Nat) (share:Nat) (l:List (Nat × Nat)) (w:World) (e:Ending) (w':World):Prop :=
 ∃ (A:Option Addr) (c:Nat),e = .returned (.tuple #[.slice A (recov share l).2.length c,.int .i64 (recov share l).1,()]) ∧ w'.ownsRow w.heap.size e0 2 (.slice A (recov share l).2.length c) (recov share l).2.length (drs (recov share l).2) ∧ Below w.heap.size w w'
def RetRec (share:Nat) (l:List (Nat × Nat)) (w:World) (e:Ending) (w':World):Prop :=
 ∃ (A:Option Addr) (c:Nat),e = .returned (.tuple #[.slice A (recov share l).2.length c,.int .i64 (recov share l).1,()]) ∧ IsDs w' (.slice A (recov share l).2.length c) (recov share l).2 ∧ Below w.heap.size w w'
theorem part_is {a b s:Int} (w:World) (hs:Hid (a * b / 10000 = s)) (h1:0 ≤ a) (h2:a ≤ 1000000000000) (h3:0 ≤ b) (h4:b ≤ 10000) :
 Calls Tryz.prog 65 #[a,b] w fun e w' => e = .returned (.tuple #[s,()]) ∧ w = w':=by
 rw [← hs.out];exact part_ok a b w h1 h2 h3 h4
theorem recover_own (v:Value) (l:List (Nat × Nat)) (t b S:Nat) (w:World) (hv:IsDs w v l) (hl:DOk l) (ht:t ≤ 100000000) (hb:b ≤ 10000) (hS:Hid ((t:Int) * (b:Int) / 10000 = (S:Int))) (hS2:S ≤ 100000000) :
 Calls Tryz.prog 64 #[v,t,b] w (RetRecO 90 S l w):=by
 obtain ⟨h8,hp⟩:=hl
 have hv0:=hv
 obtain ⟨A,c,rfl,h1,h2,h3⟩:=hv
 clear h1 h2 h3
 go_enter Tryz.func64,Tryz.ntmps64
 go_wp2_with fail
 refine (fault_ok _ l w hv0 ⟨h8,hp⟩).mono ?_
 rintro e wa ⟨rfl,hba⟩
 have hv1:=hv0.below hba
 have hat:=fun k hk => hv1.at_ (k:=k) hk
 clear hv0
 go_wp2_with fail
 refine (part_is _ hS (by omega) (by omega) (by omega) (by omega)).mono ?_
 rintro e wb ⟨rfl,rfl⟩
 have g1:decide (100000000 < (t:Int)) = false:=by simp;omega
 go_wp2
 go_loopw [12,13,15,16,36] (fun pd v _ _ i wr => ∃ (k p m:Nat) (A':Option Addr) (c':Nat) (o:List (Nat × Nat)),k ≤ l.length ∧ p ≤ S ∧ m ≤ k ∧ i = .int .i64 k ∧ pd = .int .i64 p ∧ Hid (recov S (l.take k) = (p,o)) ∧ Hid (o.length = m) ∧ v = .slice A' m c' ∧ wr.ownsRow wa.heap.size 90 2 (.slice A' m c') m (drs o) ∧ Below wa.heap.size wa wr) (fun _ _ _ _ i _ => l.length - (intOf i).toNat)
 case atStart => exact ⟨0,0,0,none,0,[],by omega,by omega,by omega,rfl,rfl,rfl,rfl,rfl,World.ownsRow_nil _ _ _ _,Below.refl _ _⟩
 case round =>
  obtain ⟨k,p,m,A',c',o,hk,hpS,hmk,rfl,rfl,HR,HO,rfl,hown,hbr⟩:=hrel
  by_cases hlt:k < l.length
  ·obtain ⟨bb,off,rfl,hB,q1,q2⟩:=hat k hlt
   have q1:=(hbr.cell (p:=⟨bb,off + k * 2,none⟩) hB).trans q1
   have q2:=(hbr.cell (p:=⟨bb,off + k * 2 + 1,none⟩) hB).trans q2
   obtain ⟨p1,p2⟩:=hp _ (List.getElem_mem hlt)
   have HS:Hid (recov S (l.take (k + 1)) = recStep S (p,o) l[k]):=by show _ = _;rw [take_snoc hlt,recov_snoc,HR.out]
   clear hat hp
   generalize l[k] = d at *
   obtain ⟨x,y⟩:=d
   dsimp only at *
   have hbs:=hbr.size
   by_cases hx:x ≤ S - p
   ·have HS:Hid (recov S (l.take (k + 1)) = (p + x,o)):=by show _ = _;rw [HS.out];unfold recStep;dsimp only;rw [Nat.min_eq_left hx,if_pos (by omega)]
    have hx1:(x:Int) ≤ (S:Int) - (p:Int):=by omega
    clear HR
    go_wp2
    go_roundw
    case rel => exact ⟨k + 1,p + x,m,A',c',o,by omega,by omega,by omega,by go_num,by go_num,HS,HO,rfl,hown.alloc _,hbr.alloc hbs _⟩
    case measure => simp [intOf];omega
   ·obtain ⟨r,hr⟩:∃ r:Nat,(S:Int) - (p:Int) = (r:Int):=⟨S - p,by omega⟩
    obtain ⟨z,hz⟩:∃ z:Nat,(x:Int) - (r:Int) = (z:Int):=⟨x - r,by omega⟩
    have hz1:1 ≤ z:=by omega
    have HS:Hid (recov S (l.take (k + 1)) = (S,o ++ [(z,y)])):=by
     show _ = _
     rw [HS.out];unfold recStep;dsimp only
     rw [Nat.min_eq_right (by omega),if_neg (by omega)]
     have e1:p + (S - p) = S:=by omega
     have e2:x - (S - p) = z:=by omega
     rw [e1,e2]
    have hx1:(r:Int) < (x:Int):=by omega
    have hx2:¬ (x:Int) ≤ (r:Int):=by omega
    have hpr:(p:Int) + (r:Int) = (S:Int):=by omega
    have hz0:decide (0 < z) = true:=by simp;omega
    have hone:∀ u ∈ [Value.int .i64 z,.int .i64 y],u.oneCell' = true:=fun u hu => by simp at hu;rcases hu with rfl | rfl <;> rfl
    have hbz:Below wa.heap.size wr ((wr.alloc (.cells #[z,y] 90)).alloc (.cells #[z,y] 90)):=((Below.refl _ _).alloc hbs _).alloc (by simp;omega) _
    clear HR
    go_wp2_with (at_builtin;refine wpList_pushg el_d rfl (.tmp 57) (.tmp 59) rfl ((wr.alloc (.cells #[z,y] 90)).alloc (.cells #[z,y] 90)) wa.heap.size (wr.heap.size + 1) _ m _ [.int .i64 z,.int .i64 y] rfl ((hown.alloc _).alloc _) rfl (heap_alloc2 _ _ _) rfl hone (by omega) (by unfold maxLen;omega) wr hbz hbs ?_;intro A1 c1 w1 hown1 hb1)
    go_roundw
    case rel => exact ⟨k + 1,S,m + 1,A1,c1,o ++ [(z,y)],by omega,by omega,by omega,by go_num,by go_num,HS,by show _ = _;rw [List.length_append,HO.out];rfl,rfl,by rw [drs_append];exact hown1,hbr.trans hb1⟩
    case measure => simp [intOf];omega
  ·obtain rfl:k = l.length:=by omega
   have HR:Hid (recov S l = (p,o)):=by have:=HR.out;rwa [List.take_length] at this
   clear hat hp
   go_wp2
   go_ret3
   refine ⟨A',c',?_,?_,hba.step hbr⟩
   ·rw [HR.out];dsimp only;rw [HO.out];rfl
   ·rw [HR.out];dsimp only;rw [HO.out];exact own_mono hown hba.size
def RetRecOP (e0 paid:Nat) (out:List (Nat × Nat)) (w:World) (e:Ending) (w':World):Prop :=
 ∃ (A:Option Addr) (c:Nat),e = .returned (.tuple #[.slice A out.length c,paid,()]) ∧ w'.ownsRow w.heap.size e0 2 (.slice A out.length c) out.length (drs out) ∧ Below w.heap.size w w'
theorem recover_own_is (v:Value) (l:List (Nat × Nat)) (t b S paid:Nat) (out:List (Nat × Nat)) (w:World) (hv:IsDs w v l) (hl:DOk l) (ht:t ≤ 100000000) (hb:b ≤ 10000) (hS:Hid ((t:Int) * (b:Int) / 10000 = (S:Int))) (hS2:S ≤ 100000000) (hr:Hid (recov S l = (paid,out))) :
 Calls Tryz.prog 64 #[v,t,b] w (RetRecOP 90 paid out w):=by
 refine (recover_own v l t b S w hv hl ht hb hS hS2).mono ?_
 rintro e w' ⟨A,c,he,hd,hb⟩
 rw [hr.out] at he hd
 exact ⟨A,c,he,hd,hb⟩
def RetRecP (paid:Nat) (out:List (Nat × Nat)) (w:World) (e:Ending) (w':World):Prop :=
 ∃ (A:Option Addr) (c:Nat),e = .returned (.tuple #[.slice A out.length c,paid,()]) ∧ IsDs w' (.slice A out.length c) out ∧ Below w.heap.size w w'
def RetWrOk (l:List (Nat × Nat)) (w:World) (e:Ending) (w':World):Prop:=∃ v,e = .returned (.tuple #[v,()]) ∧ IsWr w' v l ∧ Below w.heap.size w w'
theorem wr_info:(Tryz.prog.info? 158).map (fun i => (i.zero,i.size,i.bytes)) = some (some (.agg #[(),.int .u32 0]),2,16):=by kernel_rfl
theorem el_wr:Elem Tryz.prog 111 158 2 16:=elem_of Tryz.underlying111 wr_info rfl (by omega)
def RetWrOwn (l:List (Nat × Nat)) (w:World) (e:Ending) (w':World):Prop :=
 ∃ A c,e = .returned (.tuple #[.slice A l.length c,()]) ∧ (∀ p ∈ l,p.2 < 4294967296) ∧ w'.ownsRow w.heap.size 158 2 (.slice A l.length c) l.length (wrs l) ∧ Below w.heap.size w w'
theorem RetWrOwn.is {l:List (Nat × Nat)} {w:World} {e:Ending} {w':World} (h:RetWrOwn l w e w'):RetWrOk l w e w':=by
 obtain ⟨A,c,h1,h2,h3,h4⟩:=h
 exact ⟨_,h1,iswr_own rfl h2 h3,h4⟩
theorem wrs_snoc (l:List (Nat × Nat)) (a x:Nat):wrs l ++ [.int .i64 a,.int .u32 x] = wrs (l ++ [(a,x)]):=by rw [wrs_append];rfl
theorem one2 (a b:Value) (ha:a.oneCell' = true) (hb:b.oneCell' = true):∀ u ∈ [a,b],u.oneCell' = true:=fun u hu => by
 simp at hu;rcases hu with rfl | rfl <;> assumption
theorem none_ok (v:Value) (w:World):Calls Tryz.prog 131 #[v] w fun e w' => e = .returned (.tuple #[]) ∧ w = w':=by
 go_enter Tryz.func131,Tryz.ntmps131
 go_wp2
 go_end0
 exact ⟨rfl,rfl⟩
theorem walk_none (v:Value) (c:List Nat) (l:List (List Nat)) (w:World) (hv:IsWs w v c) (ht:IsTape c l) (h1:1 ≤ c.length) (h2:c.length ≤ 2048) :
 Calls Tryz.prog 42 #[v,.func (.func 131) #[] #[]] w fun e w' => e = .returned (.tuple #[.int .i64 (enc l).length,()]) ∧ w = w':=by
 obtain ⟨A,cp,rfl,hc1,hc2,hx,hr⟩:=hv
 have hcp:cp ≤ 9223372036854775807:=by unfold maxLen at hc2;omega
 obtain ⟨b,off,rfl,hB,hcell⟩:=hr.at_ (by omega)
 have hle:=ht.le
 clear hx hr hc2
 go_enter Tryz.func42,Tryz.ntmps42
 go_wp2_with fail
 go_loop [6] (fun a => ∃ (i p:Nat),i ≤ l.length ∧ a = .int .i64 p ∧ Hid ((enc (l.take i)).length = p) ∧ p ≤ c.length) (fun a => c.length - (intOf a).toNat)
 case atStart => exact ⟨0,0,by omega,rfl,rfl,by omega⟩
 case round =>
  obtain ⟨i,p,hi,rfl,HP,hpc⟩:=hrel
  by_cases hil:i < l.length
  ·have hh:=ht.head hil
   have hf:=ht.fits hil
   obtain ⟨k1,k2,_⟩:=ht.1 _ (List.getElem_mem hil)
   have HP2:Hid ((enc (l.take (i + 1))).length = p + 1 + l[i].length):=by
    show _ = _
    rw [enc_take_succ hil,List.length_append,HP.out];simp;omega
   rw [HP.out] at hh hf
   clear HP
   generalize l[i].length = n at *
   have hpl:p < c.length:=by omega
   have q1:w.cell? ⟨b,off + p,none⟩ = some (.int .u32 n):=by
    have hcp':=List.getElem?_eq_some_iff.1 hh
    obtain ⟨hp1,hp2⟩:=hcp'
    have:=hcell p _ (ws_get hp1)
    rw [hp2] at this
    exact this
   have g1:((n:Int) != 0) = true:=by rw [bne_iff_ne];omega
   clear hh hcell ht
   go_wp2_with fail
   refine (none_ok _ _).mono ?_
   rintro e w' ⟨rfl,rfl⟩
   go_wp2
   go_round
   case rel => exact ⟨i + 1,p + 1 + n,by omega,by go_num,HP2,by omega⟩
   case measure => (simp [intOf];try omega)
  ·obtain rfl:i = l.length:=by omega
   rw [List.take_length] at HP
   by_cases hpl:p < c.length
   ·have hh:=ht.end_ (by rw [HP.out];exact hpl)
    rw [HP.out] at hh
    have q1:w.cell? ⟨b,off + p,none⟩ = some (.int .u32 0):=by
     obtain ⟨hp1,hp2⟩:=List.getElem?_eq_some_iff.1 hh
     have:=hcell p _ (ws_get hp1)
     rw [hp2] at this
     exact this
    clear hh hcell ht
    go_wp2
    go_ret2
    exact ⟨by rw [HP.out];rfl,rfl⟩
   ·clear hcell ht
    go_wp2
    go_ret2
    exact ⟨by rw [HP.out];rfl,rfl⟩
theorem dappend_own (v u:Value) (c r:List Nat) (l:List (List Nat)) (w:World) (hv:IsWs w v c) (hu:IsWs w u r) (ht:IsTape c l) (h2:c.length ≤ 2048) (hr1:1 ≤ r.length) (hr2:r.length ≤ 64) (hf:(enc l).length + 1 + r.length ≤ c.length) :
 Calls Tryz.prog 127 #[v,u] w (RetWrOwn (putW c.length (enc l).length r) w):=by
 have hW:=walk_none v c l w hv ht (by omega) h2
 have hlt:=putW_lt (len:=c.length) (at0:=(enc l).length) (r:=r) ⟨hr2,by obtain ⟨_,_,_,_,_,h,_⟩:=hu;exact h⟩
 obtain ⟨A,cp,rfl,hc1,hc2,_,_⟩:=hv
 obtain ⟨B,cq,rfl,hd1,hd2,hx,hrd⟩:=hu
 obtain ⟨b2,o2,rfl,hB2,hcell⟩:=hrd.at_ (by omega)
 obtain ⟨p,hp⟩:∃ p,(enc l).length = p:=⟨_,rfl⟩
 rw [hp] at hW hf hlt ⊢
 clear hp ht hc2 hd2 hrd
 obtain ⟨N,hN⟩:∃ N:Nat,(p:Int) + 1 + (r.length:Int) = (N:Int):=⟨p + 1 + r.length,by omega⟩
 have hrl:(r.length:Int) ≤ 64:=by omega
 have hcl:(c.length:Int) ≤ 2048:=by omega
 have hdN:decide (c.length < N) = false:=by simp;omega
 have hdr1:decide ((r.length:Int) < 1) = false:=by simp;omega
 have hdr2:decide (64 < (r.length:Int)) = false:=by simp;omega
 have HN:=Lib.hid (show p + 1 + r.length = N by omega)
 obtain ⟨f,hfd⟩:∃ f:Nat → Nat × Nat,f = fun i => (p + 1 + i,r.getD i 0):=⟨_,rfl⟩
 have hfk:∀ k (h:k < r.length),f k = (p + 1 + k,r[k]):=fun k h => by rw [hfd];simp [h]
 have hput:putW c.length p r = (List.range r.length).map f ++ ((if N < c.length then [(N,0)] else []) ++ [(p,r.length)]):=by rw [hfd];unfold putW;rw [HN.out]
 have HPut:=Lib.hid hput
 have HLT:=Lib.hid hlt
 clear hput hfd hlt
 go_enter Tryz.func127,Tryz.ntmps127
 go_wp2_with fail
 refine hW.mono ?_
 rintro e w' ⟨rfl,rfl⟩
 clear hW
 go_wp2_with fail
 go_loopw [39,9] (fun i v wr => ∃ (k:Nat) (A':Option Addr) (c':Nat),k ≤ r.length ∧ i = .int .i64 k ∧ v = .slice A' k c' ∧ wr.ownsRow w.heap.size 158 2 (.slice A' k c') k (wrs ((List.range k).map f)) ∧ Below w.heap.size w wr) (fun i _ _ => r.length - (intOf i).toNat)
 case atStart => exact ⟨0,none,0,by omega,rfl,rfl,World.ownsRow_nil _ _ _ _,Below.refl _ _⟩
 case round =>
  obtain ⟨k,A',c',hk,rfl,rfl,hown,hb⟩:=hrel
  have hbs:=hb.size
  by_cases hlt:k < r.length
  ·have q1:wr.cell? ⟨b2,o2 + k,none⟩ = some (.int .u32 r[k]):=(hb.cell (p:=⟨b2,o2 + k,none⟩) hB2).trans (hcell k _ (ws_get hlt))
   have HF:=Lib.hid (hfk k hlt)
   clear hcell hfk
   generalize r[k] = x at *
   obtain ⟨q,hq⟩:∃ q:Nat,(p:Int) + 1 + (k:Int) = (q:Int):=⟨p + 1 + k,by omega⟩
   have HQ:=Lib.hid (show p + 1 + k = q by omega)
   have hone:∀ u ∈ [Value.int .i64 ↑q,.int .u32 ↑x],u.oneCell' = true:=one2 _ _ rfl rfl
   have HE:Hid (wrs ((List.range (k + 1)).map f) = wrs ((List.range k).map f) ++ [.int .i64 q,.int .u32 x]):=by
    show _ = _
    rw [List.range_succ,List.map_append,wrs_append]
    show _ ++ wrs [f k] = _
    rw [HF.out,HQ.out];rfl
   go_wp2_with (at_builtin;refine wpList_push el_wr rfl (.tmp 44) (.tmp 51) rfl wr w.heap.size _ k _ [.int .i64 q,.int .u32 x] rfl hown rfl rfl hone (by omega) (by unfold maxLen;omega) hbs ?_;intro A1 c1 w1 hown' hb' _)
   go_roundw
   case rel => exact ⟨k + 1,A1,c1,by omega,by go_num,rfl,by rw [HE.out];exact hown',hb.trans hb'⟩
   case measure => (simp [intOf];try omega)
  ·obtain rfl:k = r.length:=by omega
   clear hcell hfk
   by_cases hn:N < c.length
   ·have hone:=one2 (.int .i64 N) (.int .u32 0) rfl rfl
    have hone2:=one2 (.int .i64 p) (.int .u32 r.length) rfl rfl
    go_wp2_with (first | (at_builtin;refine wpList_push el_wr rfl (.tmp 58) (.tmp 61) rfl wr w.heap.size _ r.length _ [.int .i64 N,.int .u32 0] rfl hown rfl rfl hone (by omega) (by unfold maxLen;omega) hbs ?_;intro A1 c1 w1 hown1 hb1 _) | (at_builtin;refine wpList_push el_wr rfl (.tmp 63) (.tmp 69) rfl w1 w.heap.size _ (r.length + 1) _ [.int .i64 p,.int .u32 r.length] rfl hown1 rfl rfl hone2 (by omega) (by unfold maxLen;omega) (by have:=hb1.size;omega) ?_;intro A2 c2 w2 hown2 hb2 _))
    go_ret2
    have hx2:putW c.length p r = (List.range r.length).map f ++ [(N,0)] ++ [(p,r.length)]:=by rw [HPut.out,if_pos hn,List.append_assoc]
    have hl2:(putW c.length p r).length = r.length + 1 + 1:=by rw [hx2];simp
    refine ⟨A2,c2,by rw [hl2];rfl,HLT.out,?_,(hb.trans hb1).trans hb2⟩
    rw [hl2]
    have hown3:w2.ownsRow w.heap.size 158 2 (.slice A2 (r.length + 1 + 1) c2) (r.length + 1 + 1) (wrs (putW c.length p r)):=by
     rw [hx2,← wrs_snoc,← wrs_snoc];exact hown2
    exact hown3
   ·have hone2:∀ u ∈ [Value.int .i64 ↑p,.int .u32 ↑r.length],u.oneCell' = true:=one2 _ _ rfl rfl
    go_wp2_with (first | (at_builtin;refine wpList_push el_wr rfl (.tmp 63) (.tmp 69) rfl wr w.heap.size _ r.length _ [.int .i64 p,.int .u32 r.length] rfl hown rfl rfl hone2 (by omega) (by unfold maxLen;omega) hbs ?_;intro A2 c2 w2 hown2 hb2 _))
    go_ret2
    have hx2:putW c.length p r = (List.range r.length).map f ++ [(p,r.length)]:=by rw [HPut.out,if_neg hn,List.nil_append]
    have hl2:(putW c.length p r).length = r.length + 1:=by rw [hx2];simp
    refine ⟨A2,c2,by rw [hl2];rfl,HLT.out,?_,hb.trans hb2⟩
    rw [hl2]
    have hown3:w2.ownsRow w.heap.size 158 2 (.slice A2 (r.length + 1) c2) (r.length + 1) (wrs (putW c.length p r)):=by
     rw [hx2,← wrs_snoc];exact hown2
    exact hown3
def IsRs (w:World) (vs:List Value) (l:List (List Nat)):Prop:=vs.length = l.length ∧ ∀ i (h:i < l.length),∃ v,vs[i]? = some v ∧ IsWs w v l[i]
theorem IsRs.below {w w':World} {vs:List Value} {l:List (List Nat)} (h:IsRs w vs l) (hb:Below w.heap.size w w'):IsRs w' vs l :=
 ⟨h.1,fun i hi => by obtain ⟨v,h1,h2⟩:=h.2 i hi;exact ⟨v,h1,h2.below hb⟩⟩
theorem isrs_nil (w:World):IsRs w [] []:=⟨rfl,fun i hi => by simp at hi⟩
theorem IsWs.one {w:World} {v:Value} {r:List Nat} (h:IsWs w v r):v.oneCell' = true:=by
 obtain ⟨A,c,rfl,_⟩:=h;rfl
def IsRr (w:World) (v:Value) (l:List (List Nat)):Prop :=
 ∃ (A:Option Addr) (c:Nat) (vs:List Value),v = .slice A l.length c ∧ l.length ≤ c ∧ c ≤ maxLen ∧ Rd w w.heap.size 1 A l.length vs ∧ IsRs w vs l
theorem IsRr.below {w w':World} {v:Value} {l:List (List Nat)} (h:IsRr w v l) (hb:Below w.heap.size w w'):IsRr w' v l:=by
 obtain ⟨A,c,vs,h1,h2,h3,h4,h5⟩:=h
 exact ⟨A,c,vs,h1,h2,h3,(h4.below hb).more hb.size,h5.below hb⟩
theorem IsRr.at_ {w:World} {A:Option Addr} {n c:Nat} {l:List (List Nat)} (h:IsRr w (.slice A n c) l) {k:Nat} (hk:k < l.length) :
 ∃ b off v,A = some ⟨b,off,none⟩ ∧ b < w.heap.size ∧ w.cell? ⟨b,off + k,none⟩ = some v ∧ IsWs w v l[k]:=by
 obtain ⟨A',c',vs,e,_,_,hr,hs⟩:=h
 injection e with e1 e2
 subst e1
 obtain ⟨b,off,rfl,hB,hc⟩:=hr.at_ (by omega)
 obtain ⟨v,h1,h2⟩:=hs.2 k hk
 exact ⟨b,off,v,rfl,hB,hc _ _ h1,h2⟩
theorem isrr_own {w:World} {base e:Nat} {A:Option Addr} {n c:Nat} {l:List (List Nat)} {vs:List Value} (hn:l.length = n) (h:w.ownsRow base e 1 (.slice A n c) n vs) (hs:IsRs w vs l):IsRr w (.slice A n c) l:=by
 subst hn
 exact ⟨A,c,vs,rfl,(own_cap h).1,(own_cap h).2,Rd.of_own h,hs⟩
theorem ws_info:(Tryz.prog.info? 32).map (fun i => (i.zero,i.size,i.bytes)) = some (some (.slice none 0 0),1,24):=by kernel_rfl
theorem el_ws:Elem Tryz.prog 36 32 1 24:=elem_of Tryz.underlying36 ws_info rfl (by omega)
def OwnWs (w:World) (e:TypeId) (v:Value) (xs:List Nat):Prop:=w.ownsRow 0 e 1 v xs.length (ws xs) ∧ ∀ x ∈ xs,x < 4294967296
theorem OwnWs.is {w:World} {e:TypeId} {v:Value} {xs:List Nat} (h:OwnWs w e v xs):IsWs w v xs:=by
 obtain ⟨A,c,rfl⟩:=own_slice h.1
 exact isws_own rfl h.2 h.1
theorem own_ne_type {w:World} {b1 b2 e1 e2 s1 s2 n1 n2:Nat} {v1 v2:Value} {xs1 xs2:List Value} (h1:w.ownsRow b1 e1 s1 v1 n1 xs1) (h2:w.ownsRow b2 e2 s2 v2 n2 xs2) (hne:e1 ≠ e2):v1.ownBlock = none ∨ v1.ownBlock ≠ v2.ownBlock:=by
 rcases h1.2 with ⟨rfl,_⟩ | ⟨g,cap,cur,rfl,_,hg,_⟩
 ·exact .inl rfl
 ·refine .inr fun e => ?_
  rcases h2.2 with ⟨rfl,_⟩ | ⟨g',cap',cur',rfl,_,hg',_⟩
  ·simp [Value.ownBlock] at e
  ·have e3:g = g':=by simpa [Value.ownBlock] using e
   subst e3
   rw [hg] at hg'
   injection hg' with hg'
   injection hg' with _ hg' _
   exact hne hg'
theorem OwnWs.grown {w w':World} {e e2:TypeId} {v v2:Value} {xs:List Nat} {base n size:Nat} {ys:List Value} (h:OwnWs w e v xs) (h2:w.ownsRow base e2 size v2 n ys) (hne:e ≠ e2) (hg:w.grownBy w' v2.ownBlock):OwnWs w' e v xs :=
 ⟨h.1.kept hg (own_ne_type h.1 h2 hne),h.2⟩
theorem OwnWs.below {w w':World} {e:TypeId} {v:Value} {xs:List Nat} (h:OwnWs w e v xs) (hb:Below w.heap.size w w'):OwnWs w' e v xs:=⟨own_below h.1 hb,h.2⟩
theorem OwnWs.alloc {w:World} {e:TypeId} {v:Value} {xs:List Nat} (h:OwnWs w e v xs) (o:Obj):OwnWs (w.alloc o) e v xs:=⟨h.1.alloc o,h.2⟩
def IsRo (w:World) (e:TypeId) (vs:List Value) (l:List (List Nat)):Prop:=vs.length = l.length ∧ ∀ i (h:i < l.length),∃ v,vs[i]? = some v ∧ OwnWs w e v l[i]
theorem IsRo.is {w:World} {e:TypeId} {vs:List Value} {l:List (List Nat)} (h:IsRo w e vs l):IsRs w vs l :=
 ⟨h.1,fun i hi => by obtain ⟨v,h1,h2⟩:=h.2 i hi;exact ⟨v,h1,h2.is⟩⟩
theorem IsRo.map {w w':World} {e:TypeId} {vs:List Value} {l:List (List Nat)} (h:IsRo w e vs l) (hm:∀ v xs,OwnWs w e v xs → OwnWs w' e v xs):IsRo w' e vs l :=
 ⟨h.1,fun i hi => by obtain ⟨v,h1,h2⟩:=h.2 i hi;exact ⟨v,h1,hm _ _ h2⟩⟩
theorem isro_nil (w:World) (e:TypeId):IsRo w e [] []:=⟨rfl,fun i hi => by simp at hi⟩
theorem IsRo.snoc {w:World} {e:TypeId} {vs:List Value} {l:List (List Nat)} {v:Value} {r:List Nat} (h:IsRo w e vs l) (hv:OwnWs w e v r):IsRo w e (vs ++ [v]) (l ++ [r]):=by
 refine ⟨by simp [h.1],fun i hi => ?_⟩
 by_cases hl:i < l.length
 ·obtain ⟨u,h1,h2⟩:=h.2 i hl
  refine ⟨u,by rw [List.getElem?_append_left (by rw [h.1];exact hl)];exact h1,?_⟩
  rw [List.getElem_append_left hl];exact h2
 ·obtain rfl:i = l.length:=by simp at hi;omega
  refine ⟨v,by rw [List.getElem?_append_right (by rw [h.1];exact Nat.le_refl _),h.1,Nat.sub_self];rfl,?_⟩
  rw [List.getElem_append_right (Nat.le_refl _)]
  simpa using hv
def recsOf (l:List (List Nat)):List (List Nat):=(l.take 12).map fun r => someN r 20
theorem enc_len_ge:∀ l:List (List Nat),l.length ≤ (enc l).length
 | [] => Nat.le_refl _
 | r :: l => by
  have:=enc_len_ge l
  show _ ≤ ((r.length :: r) ++ enc l).length
  simp;omega

theorem own_of_blk {w:World} {g base:Nat} {t:TypeId} {xs:List Nat} (h:Blk w g t (ws xs).toArray) (hb:base ≤ g) (hm:xs.length ≤ maxLen):w.ownsRow base t 1 (.slice (some ⟨g,0,none⟩) xs.length xs.length) xs.length (ws xs) :=
 ⟨by simp [ws],.inr ⟨g,xs.length,(ws xs).toArray,rfl,hb,h,Nat.le_refl _,hm,by simp [ws],by rw [Nat.mul_one];exact List.take_of_length_le (by simp [ws])⟩⟩
def RetWsOwn (xs:List Nat) (w:World) (e:Ending) (w':World):Prop:=∃ (A:Option Addr) (c:Nat),e = .returned (.tuple #[.slice A xs.length c,()]) ∧ ((∀ x ∈ xs,x < 4294967296) ∧ w'.ownsRow w.heap.size 143 1 (.slice A xs.length c) xs.length (ws xs)) ∧ Below w.heap.size w w'
theorem apply_own (v u:Value) (xs:List Nat) (l:List (Nat × Nat)) (k:Nat) (w:World) (hv:IsWs w v xs) (hu:IsWr w u l) (h1:1 ≤ xs.length) (h2:xs.length ≤ 2048) (h3:l.length ≤ 4096) (hl:∀ p ∈ l,p.1 < xs.length) (hk:k ≤ l.length) :
 Calls Tryz.prog 33 #[v,u,k] w (RetWsOwn (applyW xs (l.take k)) w):=by
 have hu0:=hu
 obtain ⟨A,c,rfl,hc1,hc2,hx,hr⟩:=hv
 obtain ⟨B,d,rfl,hd1,hd2,hy,hs⟩:=hu
 have hd3:d ≤ 9223372036854775807:=by unfold maxLen at hd2;omega
 have hmk:=run_make_n (P:=Tryz.prog) Tryz.underlying32 u32_info xs.length (by omega) (by omega)
 go_enter Tryz.func33,Tryz.ntmps33
 go_wp2_with fail
 refine (fits_ok A xs.length c _ h1 h2).mono ?_
 rintro e w1 ⟨rfl,rfl⟩
 go_wp2_with (go_at_call 55;go_in)
 refine (contains_none (.slice B l.length d) l w.heap.size xs.length c A _ (hu0.below (below_a1 _ _)) hl (by go_simp)).mono ?_
 rintro e w1 ⟨rfl,hb1⟩
 have s1:w.heap.size < w1.heap.size:=by have:=hb1.size;simp at this;omega
 have b1:Below w.heap.size w w1:=(below_a1 _ _).step hb1
 have c1:w1.cell? ⟨w.heap.size,0,none⟩ = some (.slice A xs.length c):=by rw [hb1.cell (p:=⟨w.heap.size,0,none⟩) (by simp)];go_simp
 clear hb1
 go_wp2_with (with_reducible refine wpList_copy_new rfl (.tmp 35) (.tmp 36) rfl Tryz.underlying32 (by kernel_rfl) w1 xs.length (.int .u32 0) A c (ws xs) rfl rfl ?_ ?_ ?_)
 ·exact (hr.below b1).more b1.size
 ·intro u hu;simp [ws] at hu;obtain ⟨x,_,rfl⟩:=hu;rfl
 intro w2 hblk hb2
 have b2:Below w.heap.size w w2:=b1.step hb2
 obtain ⟨g,hg⟩:∃ g,g = w1.heap.size:=⟨_,rfl⟩
 rw [← hg] at hblk ⊢
 have hgw:w.heap.size ≤ g:=by omega
 clear hb2 c1 s1 b1 hr hmk hu0 hg
 have hBl:=hblk.lt
 go_wp2_with fail
 go_loopw [10,43] (fun _ i wr => ∃ j:Nat,j ≤ k ∧ i = .int .i64 j ∧ Blk wr g 143 (ws (applyW xs (l.take j))).toArray ∧ Below w.heap.size w wr) (fun _ i _ => k - (intOf i).toNat)
 case atStart => exact ⟨0,by omega,rfl,hblk,b2⟩
 case round =>
  obtain ⟨j,hj,rfl,hbj,bj⟩:=hrel
  have hgj:=hbj.lt
  by_cases hlt:j < k
  ·have hjl:j < l.length:=by omega
   obtain ⟨b,off,rfl,hB,hc⟩:=hs.at_ (by omega)
   have q1:wr.cell? ⟨b,off + j * 2,none⟩ = some (.int .i64 l[j].1):=(bj.cell (p:=⟨b,off + j * 2,none⟩) hB).trans (hc _ _ (wrs_get hjl).1)
   have q2:wr.cell? ⟨b,off + j * 2 + 1,none⟩ = some (.int .u32 l[j].2):=(bj.cell (p:=⟨b,off + j * 2 + 1,none⟩) hB).trans (hc (j * 2 + 1) _ (wrs_get hjl).2)
   have ha:=hl _ (List.getElem_mem hjl)
   have HS:=Lib.hid (show ws (applyW xs (l.take (j + 1))) = (ws (applyW xs (l.take j))).set l[j].1 (.int .u32 l[j].2) by
    rw [List.take_succ_eq_append_getElem hjl,applyW_snoc,ws_set])
   obtain ⟨old,q3⟩:∃ old,wr.cell? ⟨g,l[j].1,none⟩ = some old:=by
    rw [hbj.cell]
    exact ⟨_,Array.getElem?_eq_getElem (by simp [ws_length,applyW_length];exact ha)⟩
   have q4:=hbj.frozen l[j].1
   have q5:(wr.alloc (.cells #[.int .i64 l[j].1,.int .u32 l[j].2] 158)).frozen? ⟨g,l[j].1,none⟩ = false:=(hbj.alloc _).frozen _
   clear hc hs hl
   generalize l[j] = p at *
   obtain ⟨a,x⟩:=p
   dsimp only at *
   go_wp2
   go_roundw
   case rel =>
    refine ⟨j + 1,by omega,by go_num,?_,?_⟩
    ·have h:=(hbj.set_ a (.int .u32 x)).alloc (.cells #[a,.int .u32 x] 158)
     rw [HS.out]
     simpa using h
    ·exact (bj.setCell (p:=⟨g,a,none⟩) hgw _).alloc (by have:=bj.size;simp [World.setCell];omega) _
   case measure => simp [intOf];omega
  ·obtain rfl:j = k:=by omega
   go_wp2
   go_ret2
   refine ⟨some ⟨g,0,none⟩,xs.length,by rw [applyW_length];rfl,?_,bj⟩
   refine ⟨applyW_lt hx (fun p hp => hy p (List.mem_of_mem_take hp)),?_⟩
   have ho:=own_of_blk (base:=w.heap.size) hbj hgw (by rw [applyW_length];unfold maxLen;omega)
   rw [applyW_length] at ho ⊢
   exact ho
theorem blank_own (n:Nat) (w:World) (h1:1 ≤ n) (h2:n ≤ 2048):Calls Tryz.prog 51 #[n] w (RetWsOwn (List.replicate n 0) w):=by
 have hmk:=run_make_n (P:=Tryz.prog) Tryz.underlying32 u32_info n (by omega) (by omega)
 go_enter Tryz.func51,Tryz.ntmps51
 go_wp2
 go_ret2
 have e:(ws (List.replicate n 0)) = List.replicate n (.int .u32 0):=by unfold ws;rw [List.map_replicate];rfl
 have hB:Blk (w.alloc (.cells (ws (List.replicate n 0)).toArray 143)) w.heap.size 143 (ws (List.replicate n 0)).toArray:=Blk.new _ _ _
 have ho:=own_of_blk (base:=w.heap.size) hB (Nat.le_refl _) (by unfold maxLen;simp;omega)
 refine ⟨some ⟨w.heap.size,0,none⟩,n,by rw [List.length_replicate];rfl,⟨by intro x hx;have:=(List.mem_replicate.1 hx).2;omega,?_⟩,below_a1 _ _⟩
 rw [e,List.length_replicate] at ho
 rw [e,List.length_replicate]
 simpa using ho
end Go.Proofs.YtfgiehkfcoodbaaGreat
