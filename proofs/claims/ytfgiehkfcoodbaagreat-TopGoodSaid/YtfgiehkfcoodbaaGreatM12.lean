/- tariff.pieces: its closure hands over the steps from a number of units on. -/
import Derived.Test.YtfgiehkfcoodbaaGreatM0
import Derived.Test.YtfgiehkfcoodbaaGreatM5
import Derived.Test.YtfgiehkfcoodbaaGreatM2
import Derived.Test.YtfgiehkfcoodbaaGreatM9
import Derived.Shelf.Abstract
import Derived.Shelf.RegionOpen
import Derived.WalkKit
import Derived.OwnWalkIn
import Derived.TacticsInMore
import Derived.LoopNIn
import Derived.LoopIn
namespace Go.Proofs.YtfgiehkfcoodbaaGreat
open Go Go.RowKit Go.Shelf
set_option linter.unusedVariables false
set_option maxRecDepth 100000
set_option maxHeartbeats 16000000
attribute [local go_sem] Oper.semAt_some
structure Kp2 (n₀ bf:Nat) (A B:World):Prop where
 below:Below n₀ A B
 cell:B.heap[bf]? = A.heap[bf]?
 step:∀ (b:Nat) (cs:Array Value),A.heap[b]? = some (Obj.cells cs 209 (0,0)) → B.heap[b]? = some (Obj.cells cs 209 (0,0))
theorem Kp2.trans {n₀ bf:Nat} {A B C:World} (h:Kp2 n₀ bf A B) (k:Kp2 n₀ bf B C):Kp2 n₀ bf A C:=⟨h.below.trans k.below,k.cell.trans h.cell,fun b cs hb => k.step b cs (h.step b cs hb)⟩
theorem Kp2.put {n₀ bf:Nat} {w:World} (hn:n₀ ≤ w.heap.size) (hb:bf < w.heap.size) (W:World) (l:Nat) (o o':Obj) (hl:w.heap.size ≤ l) (h:W.heap[l]? = some o) (ho:o.isCells = false):Kp2 n₀ bf W (W.putObj l o') :=
 ⟨(Below.refl n₀ W).grown (grownBy_putObj' W l o') (by have:=(Array.getElem?_eq_some_iff.1 h).1;omega) (fun k e => by cases e;omega),World.putObj_heap_other (by omega),fun b cs hc => by
   rw [World.putObj_heap_other (fun e => by subst e;rw [h] at hc;cases hc;cases ho)];exact hc⟩
theorem Kp2.refl (n₀ bf:Nat) (W:World):Kp2 n₀ bf W W:=⟨Below.refl _ _,rfl,fun _ _ h => h⟩
theorem Kp2.set {n₀ bf:Nat} (W:World) {g:Nat} {t:TypeId} {cs:Array Value} (hg:n₀ ≤ g) (hne:g ≠ bf) (hB:W.heap[g]? = some (Obj.cells cs t (0,0))) (ht:t ≠ 209) (v:Value):Kp2 n₀ bf W (W.setCell ⟨g,0,none⟩ v) :=
 ⟨(Below.refl n₀ W).setCell (p:=⟨g,0,none⟩) hg _,(grownBy_setCell' W g v).block bf |> fun h => by
   by_cases hb:bf < W.heap.size
   ·exact h hb (fun e => hne (by cases e;rfl))
   ·have:(W.setCell ⟨g,0,none⟩ v).heap.size = W.heap.size:=by simp [World.setCell]
    rw [Array.getElem?_eq_none (by omega),Array.getElem?_eq_none (by omega)],fun b cs' hc => by
   refine ((grownBy_setCell' W g v).block b (Array.getElem?_eq_some_iff.1 hc).1 (fun e => ?_)).trans hc
   cases e
   rw [hB] at hc
   cases hc
   exact ht rfl⟩
theorem pieces_hands (n:Nat) (v:Value) (l:List (Nat × Nat)) (w0 w:World) (f0 bt bf:Nat) (hv:IsDs w0 v l) (hbd:∀ p ∈ l,1 ≤ p.1 ∧ p.1 ≤ 10000000 ∧ 1 ≤ p.2 ∧ p.2 ≤ 100000) (hl8:l.length ≤ 8) (hw:Below w0.heap.size w0 w)
 (ht:Boxed w bt 29 v) (hf:Boxed w bf 3 (.int .i64 ↑f0)) (hb:w0.heap.size ≤ bf) (hf0:f0 ≤ 10000000) :
 Hands n Tryz.prog 93 #[.pointer (some ⟨bt,0,none⟩),.pointer (some ⟨bf,0,none⟩)] (Kp2 w0.heap.size bf) (pcs l f0) bf w:=by
 intro lp J Jx W hW hJ hJc hY h0
 have hv0:=hv
 obtain ⟨A,c,rfl,hc1,hc2,_⟩:=hv
 have hat:=fun k hk => hv0.at_ (k:=k) hk
 have ct:=((hW.cell (p:=⟨bt,0,none⟩) ht.lt).trans ht.cell)
 have hfW:Boxed W bf 3 (.int .i64 ↑f0):=(hW.block bf hf.lt).trans hf
 have hWw:Below w0.heap.size w0 W:=hw.step hW
 obtain ⟨L,hL⟩:∃ L,pcs l f0 = L:=⟨_,rfl⟩
 have HL:=Lib.hid hL
 rw [hL] at hY ⊢
 clear hL hW hw ht hf
 obtain ⟨N,hN⟩:∃ N,l.length = N:=⟨_,rfl⟩
 have HN:=Lib.hid hN
 rw [hN] at hl8 hc1 ct
 clear hN
 refine callsIn_of_wp Tryz.func93 rfl trivial ?_ rfl
 simp only [Tryz.ntmps93,List.size_toArray,List.length_cons,List.length_nil,Nat.reduceAdd,Nat.reduceSub,Array.replicate_succ,Array.replicate_zero,List.push_toArray,List.append_toArray,List.nil_append,List.cons_append]
 gi_wp2
 gi_loopw [8] (fun i wr => ∃ j f k:Nat,i = .int .i64 j ∧ j ≤ N ∧ f ≤ 10000000 ∧ k ≤ L.length ∧ Hid (L.drop k = pcs (l.drop j) f) ∧ Boxed wr bf 3 (.int .i64 ↑f) ∧ Below w0.heap.size W wr ∧ J k wr)
  (fun i _ => N - (intOf i).toNat)
 case atStart => exact ⟨0,f0,0,rfl,Nat.zero_le _,hf0,Nat.zero_le _,Lib.hid (by simpa using HL.out.symm),hfW,Below.refl _ _,h0⟩
 case round =>
  obtain ⟨j,f,k,rfl,hj,hf9,hk,hD,hB,hbW,hJk⟩:=hrel
  have i0:(0:Int) ≤ (j:Int):=by omega
  by_cases hlt:j < N
  ·have i1:(j:Int) < (N:Int):=by omega
   obtain ⟨b,off,rfl,hbb,p1,p2⟩:=hat j (by rw [HN.out];exact hlt)
   have hsp:l.drop j = l[j]'(by rw [HN.out];exact hlt) :: l.drop (j + 1):=List.drop_eq_getElem_cons _
   have hbj:=hbd _ (List.getElem_mem (by rw [HN.out];exact hlt))
   obtain ⟨⟨u,p⟩,hr⟩:∃ r,l[j]'(by rw [HN.out];exact hlt) = r:=⟨_,rfl⟩
   rw [hr] at p1 p2 hsp hbj
   simp only at p1 p2 hbj
   clear hat hr
   have hB0:=hWw.trans hbW
   have p1:=(hB0.cell (p:=⟨b,off + j * 2,none⟩) hbb).trans p1
   have p2:=(hB0.cell (p:=⟨b,off + j * 2 + 1,none⟩) hbb).trans p2
   have cf:=hB.cell
   have ff:=hB.frozen
   have hbl:=hB.lt
   by_cases hu:u ≤ f
   ·have hu':(u:Int) ≤ (f:Int):=by omega
    gi_wp2
    go_roundw
    case rel => exact ⟨j + 1,f,k,by go_num,by omega,hf9,hk,Lib.hid (by rw [hD.out,hsp,pcs_skip hu]),hB.alloc _,hbW.alloc hB0.size _,hJ k wr _ none hJk (World.grownBy_alloc wr _ none) (fun r e => by cases e)⟩
    case measure => (simp [intOf];try omega)
   ·have hu':(f:Int) < (u:Int):=by omega
    obtain ⟨q,hq⟩:∃ q:Nat,u - f = q:=⟨_,rfl⟩
    have hqi:(u:Int) - (f:Int) = (q:Int):=by omega
    have hD2:L.drop k = (q,p) :: pcs (l.drop (j + 1)) u:=by rw [hD.out,hsp,pcs_take hu,hq]
    have hkl:k < L.length:=by
     have:=congrArg List.length hD2
     simp at this;omega
    have hLk:L[k] = (q,p):=by
     have:=List.drop_eq_getElem_cons hkl
     rw [hD2] at this
     injection this with h1 h2
     exact h1.symm
    have hD3:L.drop (k + 1) = pcs (l.drop (j + 1)) u:=by
     have:=List.drop_eq_getElem_cons hkl
     rw [hD2] at this
     injection this with h1 h2
     exact h2.symm
    have hy0:=hY k hkl (wr.alloc (Obj.cells #[Value.int IntKind.i64 (u:Int),Value.int IntKind.i64 (p:Int)] 209)) (hJ k wr _ none hJk (World.grownBy_alloc wr _ none) (fun r e => by cases e))
    simp only [hLk] at hy0
    obtain ⟨fn,tmps,assign,body,hy,hR⟩:=hy0
    have HD3:=Lib.hid hD3
    have hs0:=World.alloc_heap_new wr (Obj.cells #[Value.int IntKind.i64 (u:Int),Value.int IntKind.i64 (p:Int)] 209)
    clear hsp hD hD2 hD3 hLk hY hbd hq
    gi_wp2
    refine ⟨fun h => absurd h (by simp [Fence.wide]),hR.mono ?_⟩
    rintro e W3 (⟨rfl,hJ3,hk3⟩ | ⟨rfl,hJx3⟩)
    ·have hs3:=hk3.step _ _ hs0
     have s0:W3.cell? ⟨wr.heap.size,0,none⟩ = some (.int .i64 ↑u):=by simp [World.cell?,hs3]
     have hB3:Boxed W3 bf 3 (.int .i64 ↑f):=hk3.cell.trans (hB.alloc _)
     have cf3:=hB3.cell
     have ff3:=hB3.frozen
     gi_wp2
     go_roundw
     case rel => exact ⟨j + 1,u,k + 1,by go_num,by omega,hbj.2.1,hkl,HD3,hB3.set _,((hbW.alloc hB0.size _).trans hk3.below).setCell (p:=⟨bf,0,none⟩) hb _,hJc _ _ _ hJ3⟩
     case measure => (simp [intOf];try omega)
    ·gi_wp2
     refine bodyPost_ret (results_none rfl _ _ _) rfl ?_
     exact ⟨⟨_,rfl⟩,.inr ⟨k + 1,hkl,hJx3⟩⟩
  ·obtain rfl:j = N:=by omega
   have hkL:k = L.length:=by
    have:=congrArg List.length hD.out
    rw [← HN.out,List.drop_length] at this
    simp [pcs] at this;omega
   subst hkL
   clear hat
   gi_wp2
   go_end0
   exact ⟨⟨_,rfl⟩,.inl hJk⟩
theorem pieces_is (v:Value) (f0:Nat) (w:World) (A:Option Addr) (m c:Nat) (hv:v = .slice A m c) :
 Calls Tryz.prog 83 #[v,f0] w fun e w' => e = .returned (.func (.func 93) #[] #[.pointer (some ⟨w.heap.size,0,none⟩),.pointer (some ⟨w.heap.size + 1,0,none⟩)]) ∧ w' = (w.alloc (.cells #[v] 29)).alloc (.cells #[f0] 3):=by
 subst hv
 have hmf:∀ (fn:Fn) (first cap:Array Value) (w:World),(Instr.makeFunc fn first cap).run Tryz.prog w = .ok (.func fn first cap) w:=fun _ _ _ _ => rfl
 go_enter Tryz.func83,Tryz.ntmps83
 go_wp2
 go_ret
 exact ⟨rfl,rfl⟩
end Go.Proofs.YtfgiehkfcoodbaaGreat
