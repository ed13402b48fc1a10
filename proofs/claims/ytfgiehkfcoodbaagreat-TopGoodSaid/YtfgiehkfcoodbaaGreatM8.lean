/- stepped: a tariff that is right. -/
import Derived.Test.YtfgiehkfcoodbaaGreatM0
import Derived.Test.YtfgiehkfcoodbaaGreatM5
import Derived.OwnWalk
import Derived.Test.YtfgiehkfcoodbaaGreatM2
namespace Go.Proofs.YtfgiehkfcoodbaaGreat
open Go.RowKit
set_option linter.unusedVariables false
set_option maxRecDepth 100000
set_option maxHeartbeats 16000000
attribute [local go_sem ↓] Go.wp_at_zero Go.wp_at_succ
theorem pk_lit (n many:Int) (h:1 ≤ many):∃ p:Nat,Hid (pk n many = (p:Int)) ∧ (p:Int) < many:=by
 obtain ⟨r,h1,h2,h3⟩:=pk_int n many h
 exact ⟨r.toNat,by show _ = _;rw [h1.out];omega,by omega⟩
def StOk (l:List (Nat × Nat)) (up:Nat):Prop:=(∀ p ∈ l,1 ≤ p.1 ∧ p.1 ≤ up ∧ 1 ≤ p.2 ∧ p.2 ≤ 100000) ∧ ∀ i (h:i + 1 < l.length),(l[i]'(by omega)).1 < (l[i + 1]'h).1
theorem StOk.snoc {l:List (Nat × Nat)} {up u p:Nat} (h:StOk l up) (hu:up < u) (hp:1 ≤ p ∧ p ≤ 100000):StOk (l ++ [(u,p)]) u:=by
 refine ⟨fun q hq => ?_,fun i hi => ?_⟩
 ·rcases List.mem_append.1 hq with h1 | h1
  ·have:=h.1 q h1;omega
  ·simp at h1;subst h1;dsimp only;omega
 ·by_cases hl:i + 1 < l.length
  ·rw [List.getElem_append_left (by omega),List.getElem_append_left hl];exact h.2 i hl
  ·have e:i + 1 = l.length:=by simp at hi;omega
   rw [List.getElem_append_left (by omega),List.getElem_append_right (by omega)]
   have:=h.1 _ (List.getElem_mem (by omega:i < l.length))
   simp only [List.getElem_singleton]
   omega
theorem StOk.tariff {l:List (Nat × Nat)} {up p:Nat} (h:StOk l up) (hl:l.length ≤ 7) (hu:up < 10000000) (hp:1 ≤ p ∧ p ≤ 100000):TOk (l ++ [(10000000,p)]):=by
 have k:=h.snoc hu hp
 exact ⟨by simp,by simp;omega,k.1,k.2,fun hx => by simp⟩
theorem tok_lefts {l:List (Nat × Nat)} {f:Nat} (h:TOk l) (hf:f ≤ 10000000):lefts (pcs l f) + f = 10000000:=by
 have hp:=h.pos
 refine pcs_lefts l f 10000000 (fun hn => ?_) (fun p hp => (h.bd p hp).2.1) (fun e => by rw [e] at hp;simp at hp) hf
 rw [List.getLast_eq_getElem]
 exact h.last (by omega)
theorem tok_prices {l:List (Nat × Nat)} {f:Nat} (h:TOk l):∀ p ∈ pcs l f,1 ≤ p.1 ∧ p.1 ≤ 10000000 ∧ 1 ≤ p.2 ∧ p.2 ≤ 100000:=pcs_bd l f h.bd
def RetSt (w:World) (e:Ending) (w':World):Prop :=
 ∃ (l:List (Nat × Nat)) (A:Option Addr) (c:Nat),e = .returned (.slice A l.length c) ∧ TOk l ∧ IsDs w' (.slice A l.length c) l ∧ Below w.heap.size w w'
def RetStO (w:World) (e:Ending) (w':World):Prop :=
 ∃ (l:List (Nat × Nat)) (A:Option Addr) (c:Nat),e = .returned (.slice A l.length c) ∧ TOk l ∧ w'.ownsRow w.heap.size 209 2 (.slice A l.length c) l.length (drs l) ∧ Below w.heap.size w w'
theorem stepped_own (v:Value) (n:Nat) (f:Nat → Nat → Int) (w:World) (hv:IsRows w v [.i64,.i64] n f) :
 Calls Tryz.prog 74 #[v] w (RetStO w):=by
 obtain ⟨B,d,rfl,hL1,hL2,hwf,hcell⟩:=hv
 have hL:n ≤ 9223372036854775807:=by unfold maxLen at hL2;omega
 clear hL1 hL2
 go_enter Tryz.func74,Tryz.ntmps74
 go_wp2
 go_loopw [3,4,5] (fun v u i wr => ∃ (k up:Nat) (A':Option Addr) (c':Nat) (l:List (Nat × Nat)),k ≤ n ∧ k ≤ 7 ∧ i = .int .i64 k ∧ u = .int .i64 up ∧ up ≤ k * 1000000 ∧ Hid (l.length = k) ∧ StOk l up ∧ v = .slice A' k c' ∧ wr.ownsRow w.heap.size 209 2 (.slice A' k c') k (drs l) ∧ Below w.heap.size w wr) (fun _ _ i _ => 7 - (intOf i).toNat)
 case atStart => exact ⟨0,0,none,0,[],by omega,by omega,rfl,rfl,by omega,rfl,⟨by simp,fun i hi => by simp at hi⟩,rfl,World.ownsRow_nil _ _ _ _,Below.refl _ _⟩
 case round =>
  obtain ⟨k,up,A',c',l,hkL,hk,rfl,rfl,hup,HL,hst,rfl,hown,hbr⟩:=hrel
  by_cases hlt:k < n ∧ k < 7
  ·obtain ⟨hlt,hk'⟩:=hlt
   obtain ⟨b,off,rfl,hB,hc⟩:=hcell (by omega)
   have q1:wr.cell? ⟨b,off + k * 2,none⟩ = some (.int .i64 (f k 0)):=(hbr.cell (p:=⟨b,off + k * 2,none⟩) hB).trans (hc k hlt 0 _ rfl)
   have q2:wr.cell? ⟨b,off + k * 2 + 1,none⟩ = some (.int .i64 (f k 1)):=(hbr.cell (p:=⟨b,off + k * 2 + 1,none⟩) hB).trans (hc k hlt 1 _ rfl)
   have z1:=hwf k hlt 0 _ rfl
   have z2:=hwf k hlt 1 _ rfl
   clear hc hcell hwf
   generalize f k 0 = x at *
   generalize f k 1 = y at *
   obtain ⟨p,hp,hpl⟩:=pk_lit x 1000000 (by omega)
   obtain ⟨q,hq,hql⟩:=pk_lit y 100000 (by omega)
   have m1:Hid ((1:Int) ≤ 1000000):=by show _ ≤ _;omega
   have m2:Hid ((1000000:Int) ≤ 9223372036854775807):=by show _ ≤ _;omega
   have m3:Hid ((1:Int) ≤ 100000):=by show _ ≤ _;omega
   have m4:Hid ((100000:Int) ≤ 9223372036854775807):=by show _ ≤ _;omega
   obtain ⟨u,hu⟩:∃ u:Nat,(up:Int) + (1 + (p:Int)) = (u:Int):=⟨up + (1 + p),by omega⟩
   obtain ⟨r,hr⟩:∃ r:Nat,1 + (q:Int) = (r:Int):=⟨1 + q,by omega⟩
   have hone:∀ z ∈ [Value.int .i64 ↑u,.int .i64 ↑r],z.oneCell' = true:=fun z hz => by simp at hz;rcases hz with rfl | rfl <;> rfl
   have hst2:StOk (l ++ [(u,r)]) u:=hst.snoc (by omega) (by omega)
   have hbs:=hbr.size
   have d1:Hid (u ≤ (k + 1) * 1000000):=by show _ ≤ _;omega
   have up7:(up:Int) ≤ 7000000:=by omega
   have u7:(u:Int) ≤ 8000000:=by omega
   have r7:(r:Int) ≤ 100000:=by omega
   have p7:(p:Int) ≤ 999999:=by omega
   have q7:(q:Int) ≤ 99999:=by omega
   clear hup hpl hql
   have hbz:Below w.heap.size wr (wr.alloc (.cells #[u,r] 209)):=(Below.refl _ _).alloc hbs _
   go_wp2_with (first | (go_at_call 40;with_reducible refine (picked_is _ hp z1 m1.out m2.out).mono ?_;rintro e w' ⟨rfl,rfl⟩) | (go_at_call 40;with_reducible refine (picked_is _ hq z2 m3.out m4.out).mono ?_;rintro e w' ⟨rfl,rfl⟩) | (at_builtin;refine wpList_pushg el_st rfl (.tmp 25) (.tmp 35) rfl (wr.alloc (.cells #[u,r] 209)) w.heap.size wr.heap.size _ k _ [.int .i64 ↑u,.int .i64 ↑r] rfl (hown.alloc _) rfl (heap_alloc_new wr _) rfl hone (by omega) (by unfold maxLen;omega) wr hbz hbs ?_;intro A1 c1 w1 hown1 hb1))
   go_roundw
   case rel =>
    exact ⟨k + 1,u,A1,c1,l ++ [(u,r)],by omega,by omega,by go_num,rfl,d1.out,by show _ = _;rw [List.length_append,HL.out];rfl,hst2,rfl,by rw [drs_append];exact hown1,hbr.trans hb1⟩
   case measure => (simp [intOf];try omega)
  ·have hlt1:((k:Int) < (n:Int) ∧ ¬ (k:Int) < 7) ∨ ¬ (k:Int) < (n:Int):=by omega
   have hk8:l.length ≤ 7:=by rw [HL.out];omega
   obtain ⟨r,hr⟩:∃ r:Nat,(up:Int) % 100000 = (r:Int):=⟨up % 100000,by omega⟩
   obtain ⟨s,hs⟩:∃ s:Nat,1 + (r:Int) = (s:Int):=⟨1 + r,by omega⟩
   have hT:TOk (l ++ [(10000000,s)]):=hst.tariff hk8 (by omega) (by omega)
   have hone:∀ z ∈ [Value.int .i64 10000000,.int .i64 ↑s],z.oneCell' = true:=fun z hz => by simp at hz;rcases hz with rfl | rfl <;> rfl
   have hbs:=hbr.size
   have hbz:Below w.heap.size wr (wr.alloc (.cells #[.int .i64 10000000,s] 209)):=(Below.refl _ _).alloc hbs _
   clear hcell hwf
   rcases hlt1 with ⟨g1,g2⟩ | g1
   all_goals
    go_wp2_with (at_builtin;refine wpList_pushg el_st rfl (.tmp 37) (.tmp 42) rfl (wr.alloc (.cells #[.int .i64 10000000,s] 209)) w.heap.size wr.heap.size _ k _ [.int .i64 10000000,.int .i64 ↑s] rfl (hown.alloc _) rfl (heap_alloc_new wr _) rfl hone (by omega) (by unfold maxLen;omega) wr hbz hbs ?_;intro A1 c1 w1 hown1 hb1)
    go_ret
    have hlen:(l ++ [(10000000,s)]).length = k + 1:=by rw [List.length_append,HL.out];rfl
    refine ⟨l ++ [(10000000,s)],A1,c1,by rw [hlen];rfl,hT,?_,hbr.trans hb1⟩
    rw [hlen]
    rw [drs_append];exact hown1
end Go.Proofs.YtfgiehkfcoodbaaGreat
