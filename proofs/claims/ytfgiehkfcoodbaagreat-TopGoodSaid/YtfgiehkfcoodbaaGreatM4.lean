/- Debts: rows of two integers each; plain definitions, and the contract of 'owing'. -/
import Derived.Test.YtfgiehkfcoodbaaGreatM0
import Derived.Test.YtfgiehkfcoodbaaGreatM1
import Derived.Test.YtfgiehkfcoodbaaGreatM2
import Derived.Test.YtfgiehkfcoodbaaGreatM3
namespace Go.Proofs.YtfgiehkfcoodbaaGreat
open Go.RowKit
set_option linter.unusedVariables false
set_option maxRecDepth 100000
set_option maxHeartbeats 16000000
attribute [local go_sem ↓] Go.wp_at_zero Go.wp_at_succ
def drs (l:List (Nat × Nat)):List Value:=l.flatMap fun (p:Nat × Nat) => [Value.int .i64 ↑p.1,Value.int .i64 ↑p.2]
theorem drs_get {l:List (Nat × Nat)} {i:Nat} (h:i < l.length):(drs l)[i * 2]? = some (.int .i64 l[i].1) ∧ (drs l)[i * 2 + 1]? = some (.int .i64 l[i].2):=by
 induction l generalizing i with
 | nil => simp at h
 | cons p l ih =>
  cases i with
  | zero => exact ⟨rfl,rfl⟩
  | succ i =>
   have:=ih (i:=i) (by simp at h;omega)
   simp only [List.getElem_cons_succ]
   rw [Nat.succ_mul]
   exact this
theorem drs_append (a b:List (Nat × Nat)):drs (a ++ b) = drs a ++ drs b:=by simp [drs]
def DOk (l:List (Nat × Nat)):Prop:=l.length ≤ 8 ∧ ∀ p ∈ l,p.1 ≤ 1000000000 ∧ p.2 ≤ 10000
def IsDs (w:World) (v:Value) (l:List (Nat × Nat)):Prop :=
 ∃ (A:Option Addr) (c:Nat),v = .slice A l.length c ∧ l.length ≤ c ∧ c ≤ maxLen ∧ Rd w w.heap.size 2 A l.length (drs l)
theorem IsDs.below {w w':World} {v:Value} {l:List (Nat × Nat)} (h:IsDs w v l) (hb:Below w.heap.size w w'):IsDs w' v l:=by
 obtain ⟨A,c,h1,h2,h3,h5⟩:=h
 exact ⟨A,c,h1,h2,h3,(h5.below hb).more hb.size⟩
theorem own_cap2 {w:World} {base e size n:Nat} {A:Option Addr} {c:Nat} {xs:List Value} (h:w.ownsRow base e size (.slice A n c) n xs):n ≤ c ∧ c ≤ maxLen:=by
 rcases h.2 with ⟨h1,h2⟩ | ⟨g,cap,cur,h1,_,_,h2,h3,_⟩
 ·injection h1 with _ _ h1;subst h1;subst h2;exact ⟨Nat.le_refl _,Nat.zero_le _⟩
 ·injection h1 with _ _ h1;subst h1;exact ⟨h2,h3⟩
theorem isds_own {w:World} {base e:Nat} {A:Option Addr} {n c:Nat} {l:List (Nat × Nat)} (hn:l.length = n) (h:w.ownsRow base e 2 (.slice A n c) n (drs l)):IsDs w (.slice A n c) l:=by
 subst hn
 exact ⟨A,c,rfl,(own_cap2 h).1,(own_cap2 h).2,Rd.of_own h⟩
theorem IsDs.at_ {w:World} {A:Option Addr} {n c:Nat} {l:List (Nat × Nat)} (h:IsDs w (.slice A n c) l) {k:Nat} (hk:k < l.length) :
 ∃ b off,A = some ⟨b,off,none⟩ ∧ b < w.heap.size ∧ w.cell? ⟨b,off + k * 2,none⟩ = some (.int .i64 (l[k].1:Nat)) ∧ w.cell? ⟨b,off + k * 2 + 1,none⟩ = some (.int .i64 (l[k].2:Nat)):=by
 obtain ⟨A',c',e,_,_,hr⟩:=h
 injection e with e1 e2
 subst e1
 obtain ⟨b,off,rfl,hB,hc⟩:=hr.at_ (by omega)
 exact ⟨b,off,rfl,hB,hc _ _ (drs_get hk).1,hc (k * 2 + 1) _ (drs_get hk).2⟩
theorem IsDs.len {w:World} {A:Option Addr} {n c:Nat} {l:List (Nat × Nat)} (h:IsDs w (.slice A n c) l):n = l.length:=by
 obtain ⟨A',c',e,_⟩:=h
 injection e
def RetDs (most:Nat) (w:World) (e:Ending) (w':World):Prop :=
 ∃ (l:List (Nat × Nat)) (A:Option Addr) (c:Nat),e = .returned (.slice A l.length c) ∧ l.length ≤ 8 ∧ (∀ p ∈ l,p.1 ≤ most ∧ p.2 ≤ 10000) ∧ IsDs w' (.slice A l.length c) l ∧ Below w.heap.size w w'
theorem d_info:(Tryz.prog.info? 90).map (fun i => (i.zero,i.size,i.bytes)) = some (some (.agg #[(),()]),2,16):=by kernel_rfl
theorem el_d:Elem Tryz.prog 62 90 2 16:=elem_of Tryz.underlying62 d_info rfl (by omega)
def dsum (l:List (Nat × Nat)):Nat:=(l.map Prod.fst).sum
theorem dsum_append (a b:List (Nat × Nat)):dsum (a ++ b) = dsum a + dsum b:=by simp [dsum]
theorem dsum_le {l:List (Nat × Nat)} (h:∀ p ∈ l,p.1 ≤ 1000000000):dsum l ≤ 1000000000 * l.length:=by
 induction l with
 | nil => simp [dsum]
 | cons p l ih =>
  have h1:=h p (by simp)
  have h2:=ih (fun q hq => h q (by simp [hq]))
  have e:dsum (p :: l) = p.1 + dsum l:=by simp [dsum]
  rw [e,List.length_cons];omega
theorem take_snoc {l:List (Nat × Nat)} {k:Nat} (h:k < l.length):l.take (k + 1) = l.take k ++ [l[k]]:=List.take_succ_eq_append_getElem h
def recStep (share:Nat) (s:Nat × List (Nat × Nat)) (d:Nat × Nat):Nat × List (Nat × Nat) :=
 (s.1 + min d.1 (share - s.1),if d.1 - min d.1 (share - s.1) = 0 then s.2 else s.2 ++ [(d.1 - min d.1 (share - s.1),d.2)])
def recov (share:Nat) (l:List (Nat × Nat)):Nat × List (Nat × Nat):=l.foldl (recStep share) (0,[])
theorem recov_snoc (share:Nat) (l:List (Nat × Nat)) (d:Nat × Nat):recov share (l ++ [d]) = recStep share (recov share l) d:=by simp [recov]
theorem recov_inv (share:Nat) (l:List (Nat × Nat)) (hl:∀ p ∈ l,p.1 ≤ 1000000000 ∧ p.2 ≤ 10000):(recov share l).1 ≤ share ∧ (recov share l).1 + dsum (recov share l).2 = dsum l ∧ (recov share l).2.length ≤ l.length ∧ ∀ p ∈ (recov share l).2,1 ≤ p.1 ∧ p.1 ≤ 1000000000 ∧ p.2 ≤ 10000:=by
 have key:∀ k,k ≤ l.length → (recov share (l.take k)).1 ≤ share ∧ (recov share (l.take k)).1 + dsum (recov share (l.take k)).2 = dsum (l.take k) ∧ (recov share (l.take k)).2.length ≤ k ∧ ∀ p ∈ (recov share (l.take k)).2,1 ≤ p.1 ∧ p.1 ≤ 1000000000 ∧ p.2 ≤ 10000:=by
  intro k
  induction k with
  | zero => intro _;simp [recov,dsum]
  | succ k ih =>
   intro hk
   have hk':k < l.length:=by omega
   obtain ⟨h1,h2,h3,h4⟩:=ih (by omega)
   have hd:=hl _ (List.getElem_mem hk')
   rw [take_snoc hk',recov_snoc,dsum_append]
   generalize l[k] = d at *
   have e:dsum [d] = d.1:=by simp [dsum]
   rw [e]
   generalize recov share (l.take k) = s at *
   obtain ⟨paid,out⟩:=s
   dsimp only at h1 h2 h3 h4
   unfold recStep
   dsimp only
   split
   ·exact ⟨by omega,by omega,by omega,h4⟩
   ·refine ⟨by omega,?_,by simp;omega,fun p hp => ?_⟩
    ·rw [dsum_append]
     have:dsum [(d.1 - min d.1 (share - paid),d.2)] = d.1 - min d.1 (share - paid):=by simp [dsum]
     omega
    ·rcases List.mem_append.1 hp with h | h
     ·exact h4 p h
     ·simp at h;subst h;dsimp only;omega
 have:=key l.length (Nat.le_refl _)
 rwa [List.take_length] at this
theorem fault_ok (v:Value) (l:List (Nat × Nat)) (w:World) (hv:IsDs w v l) (hl:DOk l) :
 Calls Tryz.prog 80 #[v] w fun e w' => e = .returned (.int .i64 0) ∧ Below w.heap.size w w':=by
 obtain ⟨h8,hp⟩:=hl
 obtain ⟨A,c,rfl,h1,h2,h3⟩:=hv
 have hat:=fun k hk => IsDs.at_ (l:=l) ⟨A,c,rfl,h1,h2,h3⟩ (k:=k) hk
 clear h1 h2 h3
 go_enter Tryz.func80,Tryz.ntmps80
 go_wp2
 go_loopw [4,10] (fun _ i wr => ∃ k:Nat,k ≤ l.length ∧ i = .int .i64 k ∧ Below w.heap.size w wr) (fun _ i _ => l.length - (intOf i).toNat)
 case atStart => exact ⟨0,by omega,rfl,Below.refl _ _⟩
 case round =>
  obtain ⟨k,hk,rfl,hb⟩:=hrel
  by_cases hlt:k < l.length
  ·obtain ⟨b,off,rfl,hB,q1,q2⟩:=hat k hlt
   have q1:=(hb.cell (p:=⟨b,off + k * 2,none⟩) hB).trans q1
   have q2:=(hb.cell (p:=⟨b,off + k * 2 + 1,none⟩) hB).trans q2
   obtain ⟨p1,p2⟩:=hp _ (List.getElem_mem hlt)
   clear hat hp
   generalize l[k] = p at *
   obtain ⟨x,y⟩:=p
   dsimp only at *
   have g1:decide ((x:Int) < 0) = false:=by simp
   have g2:decide (1000000000 < (x:Int)) = false:=by simp;omega
   have g3:decide ((y:Int) < 0) = false:=by simp
   have g4:decide (10000 < (y:Int)) = false:=by simp;omega
   go_wp2
   go_roundw
   case rel => exact ⟨k + 1,by omega,by go_num,hb.alloc hb.size _⟩
   case measure => simp [intOf];omega
  ·go_wp2
   go_ret
   exact ⟨rfl,hb⟩
theorem dsum_take {l:List (Nat × Nat)} {k:Nat} (h:k < l.length):dsum (l.take (k + 1)) = dsum (l.take k) + l[k].1:=by
 rw [take_snoc h,dsum_append];simp [dsum]
theorem dsum_take_le {l:List (Nat × Nat)} (hl:DOk l) (k:Nat):dsum (l.take k) ≤ 8000000000:=by
 have h1:=dsum_le (l:=l.take k) (fun p hp => (hl.2 p (List.mem_of_mem_take hp)).1)
 have h2:(l.take k).length ≤ 8:=by have:=hl.1;simp;omega
 omega
theorem listTotal_ok (v:Value) (l:List (Nat × Nat)) (w:World) (hv:IsDs w v l) (hl:DOk l) :
 Calls Tryz.prog 92 #[v] w fun e w' => e = .returned (.int .i64 (dsum l:Nat)) ∧ Below w.heap.size w w':=by
 have hd:=dsum_take_le hl
 obtain ⟨h8,hp⟩:=hl
 have hv0:=hv
 obtain ⟨A,c,rfl,h1,h2,h3⟩:=hv
 have hat:=fun k hk => hv0.at_ (k:=k) hk
 clear h1 h2 h3 hv0
 go_enter Tryz.func92,Tryz.ntmps92
 go_wp2
 go_loopw [3,5,8] (fun s _ i wr => ∃ k m:Nat,k ≤ l.length ∧ i = .int .i64 k ∧ s = .int .i64 m ∧ Hid (dsum (l.take k) = m) ∧ m ≤ 8000000000 ∧ Below w.heap.size w wr) (fun _ _ i _ => l.length - (intOf i).toNat)
 case atStart => exact ⟨0,0,by omega,rfl,rfl,rfl,by omega,Below.refl _ _⟩
 case round =>
  obtain ⟨k,m,hk,rfl,rfl,hm,hm8,hb⟩:=hrel
  by_cases hlt:k < l.length
  ·obtain ⟨b,off,rfl,hB,q1,q2⟩:=hat k hlt
   have q1:=(hb.cell (p:=⟨b,off + k * 2,none⟩) hB).trans q1
   have q2:=(hb.cell (p:=⟨b,off + k * 2 + 1,none⟩) hB).trans q2
   have hp1:=(hp _ (List.getElem_mem hlt)).1
   have HS:=Lib.hid (dsum_take hlt)
   have hd1:=hd (k + 1)
   rw [HS.out,hm.out] at hd1
   clear hat hp hd
   generalize l[k] = p at *
   obtain ⟨x,y⟩:=p
   dsimp only at *
   go_wp2
   go_roundw
   case rel => exact ⟨k + 1,m + x,by omega,by go_num,by go_num,by show _ = _;rw [HS.out,hm.out],by omega,hb.alloc hb.size _⟩
   case measure => simp [intOf];omega
  ·obtain rfl:k = l.length:=by omega
   have hm:Hid (dsum l = m):=by have:=hm.out;rwa [List.take_length] at this
   go_wp2
   go_ret
   exact ⟨by rw [hm.out];rfl,hb⟩
theorem total_ok (v:Value) (l:List (Nat × Nat)) (w:World) (hv:IsDs w v l) (hl:DOk l) :
 Calls Tryz.prog 79 #[v] w fun e w' => e = .returned (.tuple #[.int .i64 (dsum l:Nat),()]) ∧ Below w.heap.size w w':=by
 have hv0:=hv
 obtain ⟨A,c,rfl,h1,h2,h3⟩:=hv
 clear h1 h2 h3
 go_enter Tryz.func79,Tryz.ntmps79
 go_wp2_with fail
 refine (fault_ok _ l _ hv0 hl).mono ?_
 rintro e wa ⟨rfl,hb⟩
 go_wp2_with fail
 refine (listTotal_ok _ l _ (hv0.below hb) hl).mono ?_
 rintro e wb ⟨rfl,hb2⟩
 go_wp2
 go_ret2
 exact ⟨rfl,hb.step hb2⟩
end Go.Proofs.YtfgiehkfcoodbaaGreat
namespace Go.Proofs.YtfgiehkfcoodbaaGreat
set_option linter.unusedVariables false
set_option maxRecDepth 100000
set_option maxHeartbeats 16000000
def month1 (b x:Nat):Nat:=min (x + x * b / 10000) 1000000000
def grow (b:Nat):Nat → Nat → Nat
 | 0,x => x
 | n + 1,x => month1 b (grow b n x)
theorem grow_add (b m n x:Nat):grow b (m + n) x = grow b n (grow b m x):=by
 induction n with
 | zero => rfl
 | succ n ih => rw [← Nat.add_assoc];show month1 b (grow b (m + n) x) = month1 b (grow b n (grow b m x));rw [ih]
theorem month1_bd {b x:Nat} (h:x ≤ 1000000000):x ≤ month1 b x ∧ month1 b x ≤ 1000000000:=by
 unfold month1;omega
theorem grow_bd {b x:Nat} (h:x ≤ 1000000000) (n:Nat):x ≤ grow b n x ∧ grow b n x ≤ 1000000000:=by
 induction n with
 | zero => exact ⟨Nat.le_refl _,h⟩
 | succ n ih =>
  have:=month1_bd (b:=b) ih.2
  show x ≤ month1 b (grow b n x) ∧ month1 b (grow b n x) ≤ 1000000000
  omega
theorem grow_stop {b x:Nat} (h:x ≤ 1000000000) (h0:x * b / 10000 = 0) (n:Nat):grow b n x = x:=by
 induction n with
 | zero => rfl
 | succ n ih =>
  show month1 b (grow b n x) = x
  rw [ih];unfold month1;rw [h0];omega
def aged (n:Nat) (l:List (Nat × Nat)):List (Nat × Nat):=l.map fun (p:Nat × Nat) => (grow p.2 n p.1,p.2)
theorem aged_add (m n:Nat) (l:List (Nat × Nat)):aged n (aged m l) = aged (m + n) l:=by
 simp [aged,grow_add]
theorem aged_ok {l:List (Nat × Nat)} (h:DOk l) (n:Nat):DOk (aged n l):=by
 refine ⟨by simpa [aged] using h.1,fun p hp => ?_⟩
 obtain ⟨q,hq,rfl⟩:=List.mem_map.1 hp
 exact ⟨(grow_bd (h.2 q hq).1 n).2,(h.2 q hq).2⟩
end Go.Proofs.YtfgiehkfcoodbaaGreat
