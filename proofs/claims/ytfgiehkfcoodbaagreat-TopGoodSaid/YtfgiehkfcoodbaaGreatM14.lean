/- tariff.Most. -/
import Derived.Test.YtfgiehkfcoodbaaGreatM0
import Derived.Test.YtfgiehkfcoodbaaGreatM13
import Derived.Test.YtfgiehkfcoodbaaGreatM9
import Derived.Test.YtfgiehkfcoodbaaGreatM8
namespace Go.Proofs.YtfgiehkfcoodbaaGreat
open Go Go.RowKit Go.Shelf
set_option linter.unusedVariables false
set_option maxRecDepth 100000
set_option maxHeartbeats 16000000
attribute [local go_sem] Oper.semAt_some
def MI (w:World) (b5 b6 b7 bf m U P:Nat) (rem:List (Nat × Nat)) (W:World):Prop :=
 ∃ (u p:Nat) (x:Value),Boxed W b5 3 (.int .i64 ↑m) ∧ Boxed W b6 3 (.int .i64 ↑u) ∧ Boxed W b7 3 (.int .i64 ↑p) ∧ Boxed W bf 3 x ∧ Hid (most rem m u p = (U,P)) ∧ u ≤ 2097151 ∧ p ≤ m ∧ Below w.heap.size w W
def MD (w:World) (b6 b7 U P:Nat) (W:World):Prop :=
 Boxed W b6 3 (.int .i64 ↑U) ∧ Boxed W b7 3 (.int .i64 ↑P) ∧ Below w.heap.size w W
theorem MI.own (w:World) (b5 b6 b7 bf m U P B:Nat) (hB:w.heap.size ≤ B) (L:List (Nat × Nat)):OwnFrom B (fun k => MI w b5 b6 b7 bf m U P (L.drop k)):=by
 rintro k W W' row ⟨u,p,x,h1,h2,h3,h4,h5,h6,h7,h8⟩ hg hr
 exact ⟨u,p,x,kept_box h1 hg (fun r e => (hr r e).2),kept_box h2 hg (fun r e => (hr r e).2),kept_box h3 hg (fun r e => (hr r e).2),kept_box h4 hg (fun r e => (hr r e).2),h5,h6,h7,h8.grown hg h8.size (fun k e => Nat.le_trans hB (hr k e).1)⟩
theorem MD.own (w:World) (b6 b7 U P B:Nat) (hB:w.heap.size ≤ B) (c d:Code):OwnFrom B (fun (_:Nat) W => c = d ∧ MD w b6 b7 U P W):=by
 rintro k W W' row ⟨e,h1,h2,h3⟩ hg hr
 exact ⟨e,kept_box h1 hg (fun r e => (hr r e).2),kept_box h2 hg (fun r e => (hr r e).2),h3.grown hg h3.size (fun k e => Nat.le_trans hB (hr k e).1)⟩
theorem MI.bears (w:World) (b5 b6 b7 bf m U P:Nat) (L:List (Nat × Nat)) (h5:b5 ≠ bf) (h6:b6 ≠ bf) (h7:b7 ≠ bf) (hb:w.heap.size ≤ bf):Bears bf (fun k => MI w b5 b6 b7 bf m U P (L.drop k)):=by
 rintro k W x ⟨u,p,y,g1,g2,g3,g4,g5,g6,g7,g8⟩
 exact ⟨u,p,x,g1.other h5 x,g2.other h6 x,g3.other h7 x,g4.set x,g5,g6,g7,g8.setCell (p:=⟨bf,0,none⟩) hb _⟩
theorem most_ok (v:Value) (l:List (Nat × Nat)) (f m U P:Nat) (w:World) (hv:IsDs w v l) (hl:TOk l) (hf:f ≤ 10000000) (hm:m ≤ 1000000000000) (hM:Hid (most (pcs l f) m 0 0 = (U,P))) :
 Calls Tryz.prog 66 #[v,f,m] w fun e w' => e = .returned (.tuple #[U,P,()]) ∧ Below w.heap.size w w':=by
 have hv0:=hv
 have hA:∀ W,IsDs W v l → Calls Tryz.prog 82 #[v,f,()] W fun e w' => e = .returned (.int .i64 0) ∧ Below W.heap.size W w':=fun W h => asked_ok v l f 0 W h ⟨hl,by omega,by omega⟩
 obtain ⟨A,n,c,hvA⟩:∃ A n c,v = .slice A n c:=by obtain ⟨A,c,e,_⟩:=hv;exact ⟨A,_,c,e⟩
 subst hvA
 have hP:=fun W => pieces_is (.slice A n c) f W A n c rfl
 obtain ⟨L,hL⟩:∃ L,pcs l f = L:=⟨_,rfl⟩
 have hLb:∀ p ∈ L,1 ≤ p.1 ∧ p.1 ≤ 10000000 ∧ 1 ≤ p.2 ∧ p.2 ≤ 100000:=by rw [← hL];exact pcs_bd l f hl.bd
 rw [hL] at hM
 have HL:=Lib.hid hL
 have g1:decide ((m:Int) < 0) = false:=by simp
 have g2:decide (1000000000000 < (m:Int)) = false:=by simp;omega
 refine (callsIn_wide (n:=9)).1 ?_
 refine callsIn_of_wp_marks Tryz.func66 rfl trivial ?_ rfl
 simp only [Tryz.ntmps66,List.size_toArray,List.length_cons,List.length_nil,Nat.reduceAdd,Nat.reduceSub,Array.replicate_succ,Array.replicate_zero,List.push_toArray,List.append_toArray,List.nil_append,List.cons_append]
 obtain ⟨W0,hW0⟩:∃ W0,((w.alloc (.cells #[m] 3)).alloc (.cells #[()] 3)).alloc (.cells #[()] 3) = W0:=⟨_,rfl⟩
 have hb1:Below w.heap.size w W0:=by rw [← hW0];exact below_a3 _ _ _ _
 have hs0:W0.heap.size = w.heap.size + 3:=by rw [← hW0];simp
 have x0:Boxed W0 w.heap.size 3 (.int .i64 ↑m):=by rw [← hW0];exact ((Boxed.new w _ _).alloc _).alloc _
 have x1:Boxed W0 (w.heap.size + 1) 3 (.int .i64 ((0:Nat):Int)):=by
  have:=Boxed.new (w.alloc (.cells #[m] 3)) 3 (.int .i64 0)
  rw [← hW0];simpa using this.alloc _
 have x2:Boxed W0 (w.heap.size + 1 + 1) 3 (.int .i64 ((0:Nat):Int)):=by
  have:=Boxed.new ((w.alloc (.cells #[m] 3)).alloc (.cells #[()] 3)) 3 (.int .i64 0)
  rw [← hW0];simpa using this
 have hv1:=hv.below hb1
 clear hL
 gi_wp2_with (first | (refine ⟨trivial,?_⟩;gi_at_call 82;refine (callsIn_wide.2 (hA _ hv1)).mono ?_;rintro e w1 ⟨rfl,hb2⟩;have y0:=(hb2.block w.heap.size (by omega)).trans x0;have y1:=(hb2.block (w.heap.size + 1) (by omega)).trans x1;have y2:=(hb2.block (w.heap.size + 1 + 1) (by omega)).trans x2;have cy:=Boxed.cell y0) | (refine ⟨trivial,?_⟩;gi_at_call 83;refine (callsIn_wide.2 (hP _)).mono ?_;rintro e w2 ⟨rfl,rfl⟩))
 have hsw:=hb2.size
 obtain ⟨W,hW⟩:∃ W,(w1.alloc (.cells #[.slice A n c] 29)).alloc (.cells #[f] 3) = W:=⟨_,rfl⟩
 have hs:W.heap.size = w1.heap.size + 2:=by rw [← hW];simp
 have y0:Boxed W w.heap.size 3 (.int .i64 ↑m):=by rw [← hW];exact (Boxed.alloc y0 _).alloc _
 have y1:Boxed W (w.heap.size + 1) 3 (.int .i64 ((0:Nat):Int)):=by rw [← hW];exact (Boxed.alloc y1 _).alloc _
 have y2:Boxed W (w.heap.size + 1 + 1) 3 (.int .i64 ((0:Nat):Int)):=by rw [← hW];exact (Boxed.alloc y2 _).alloc _
 have y3:Boxed W w1.heap.size 29 (.slice A n c):=by
  rw [← hW];exact (Boxed.new w1 _ _).alloc _
 have y4:Boxed W (w1.heap.size + 1) 3 (.int .i64 ↑f):=by
  have:=Boxed.new (w1.alloc (.cells #[.slice A n c] 29)) 3 (.int .i64 ↑f)
  rw [← hW];simpa using this
 have hbW:Below w.heap.size w W:=by rw [← hW];exact (hb1.step hb2).step (below_a2 _ _ _)
 rw [hW]
 have hH:=pieces_hands (9 - 1) (.slice A n c) l w W f w1.heap.size (w1.heap.size + 1) hv0 hl.bd hl.len hbW y3 y4 (by omega) (by omega)
 rw [HL.out] at hH
 clear hA hP hW hv hv1 hb1 hb2 x0 x1 x2 hW0
 have hI0:MI w w.heap.size (w.heap.size + 1) (w.heap.size + 1 + 1) (w1.heap.size + 1) m U P (L.drop 0) W:=⟨0,0,_,y0,y1,y2,y4,hM,by omega,by omega,hbW⟩
 refine range_hands (rfl) (fun args w => rfl) hH (fun h k => h.trans k) (fun X l o o' h1 h2 h3 => Kp2.put (by omega) (by omega) X l o o' h1 h2 h3) (Below.refl _ _) rfl
  (fun k => MI w w.heap.size (w.heap.size + 1) (w.heap.size + 1 + 1) (w1.heap.size + 1) m U P (L.drop k)) (fun c _ W => c = .exit 0 ∧ MD w (w.heap.size + 1) (w.heap.size + 1 + 1) U P W)
  (MI.own _ _ _ _ _ _ _ _ _ (by omega) L) (fun c => MD.own _ _ _ _ _ _ (by omega) c _) (MI.bears _ _ _ _ _ _ _ _ _ (by omega) (by omega) (by omega) (by omega)) hI0
  (fun x y => ⟨#[.slice A n c,.int .i64 ↑f,.int .i64 ↑m,undef,undef,.pointer (some ⟨w.heap.size,0,none⟩),.pointer (some ⟨w.heap.size + 1,0,none⟩),.pointer (some ⟨w.heap.size + 1 + 1,0,none⟩),.int .i64 0,.int .i64 0,.int .i64 ↑x,.int .i64 ↑y,undef,.slice A n c,.int .i64 ↑f,.int .i64 0,.int .i64 0,.bool false,undef,.int .i64 ↑m,.bool false,.bool false,.int .i64 ↑m,.bool false,.bool false,.slice A n c,.int .i64 ↑f,.func (.func 93) #[] #[.pointer (some ⟨w1.heap.size,0,none⟩),.pointer (some ⟨w1.heap.size + 1,0,none⟩)],.int .i64 ↑x,.int .i64 ↑y,undef,undef,undef,undef,undef,undef,undef,undef,undef,undef,undef,undef,undef,undef,undef,undef,undef,undef,undef,undef,undef,undef],[]⟩) ?_ ?_ ?_ ?_
 ·intro lp x y X K hK
  gi_wp2
  exact hK
 ·rintro lp k hk X ⟨u,p,z,b0,b1,b2,b3,b5,b6,b7,b8⟩
  obtain ⟨k1,k2,k3,k4⟩:=hLb _ (List.getElem_mem hk)
  have hsp:L.drop k = L[k] :: L.drop (k + 1):=List.drop_eq_getElem_cons hk
  obtain ⟨⟨q,ct⟩,hqp⟩:∃ r,L[k] = r:=⟨_,rfl⟩
  rw [hqp] at hsp k1 k2 k3 k4
  rw [hsp] at b5
  simp only [hqp]
  simp only at k1 k2 k3 k4
  have hbX:=b1.lt
  have c0:=b0.cell
  have c1:=b1.cell
  have f1:=b1.frozen
  have c2:=b2.cell
  have f2:=b2.frozen
  obtain ⟨r,hr⟩:∃ r,m - p = r:=⟨_,rfl⟩
  obtain ⟨d,hd⟩:∃ d,r / ct = d:=⟨_,rfl⟩
  obtain ⟨t,ht⟩:∃ t,2097151 - u = t:=⟨_,rfl⟩
  obtain ⟨x,hx⟩:∃ x,min (min q d) t = x:=⟨_,rfl⟩
  have hdm:d ≤ m:=by rw [← hd];exact Nat.le_trans (Nat.div_le_self _ _) (by omega)
  have hri:(m:Int) - (p:Int) = (r:Int):=by omega
  have hti:2097151 - (u:Int) = (t:Int):=by omega
  have hdi:(r:Int) / (ct:Int) = (d:Int):=by rw [← hd,Int.natCast_ediv]
  have hdt:(r:Int).tdiv (ct:Int) = (d:Int):=by rw [Int.tdiv_eq_ediv_of_nonneg (by omega)];exact hdi
  have hc0:((ct:Int) == 0) = false:=by simp;omega
  have hmn:min (min q ((m - p) / ct)) (2097151 - u) = x:=by rw [hr,hd,ht,hx]
  have hxd:x * ct ≤ r:=Nat.le_trans (Nat.mul_le_mul_right ct (by omega:x ≤ d)) (by rw [← hd];exact Nat.div_mul_le_self _ _)
  obtain ⟨y,hy⟩:∃ y,x * ct = y:=⟨_,rfl⟩
  rw [hy] at hxd
  have hyi:(x:Int) * (ct:Int) = (y:Int):=by rw [← Int.natCast_mul,hy]
  have hmx:Tryz.prog.follows .mixedOrders = true:=by kernel_rfl
  have HM:=Lib.hid hmn
  have HY:=Lib.hid hy
  clear hmn hqp hr hd ht hy hsp
  have hbs:w.heap.size ≤ X.heap.size:=b8.size
  obtain ⟨u2,hu2⟩:∃ u2:Nat,(u:Int) + (x:Int) = (u2:Int):=⟨u + x,by omega⟩
  obtain ⟨p2,hp2⟩:∃ p2:Nat,(p:Int) + (y:Int) = (p2:Int):=⟨p + y,by omega⟩
  have hu3:u2 = u + x:=by omega
  have hp3:p2 = p + y:=by omega
  have hbd:u2 ≤ 2097151 ∧ p2 ≤ m:=by omega
  obtain ⟨hbd1,hbd2⟩:=hbd
  have HU:=Lib.hid hu3
  have HP:=Lib.hid hp3
  have HX:=Lib.hid hx
  have hor:x < q ∨ x = q:=by omega
  clear hu3 hp3 hx
  gi_wp2
  refine wpIn_region_quiet_round _ rfl hmx (by kernel_rfl) (by simp) ?_
  iterate 8 (gi_big_quiet_step (fail))
  refine quiet_min3 (.tmp 30) (.tmp 35) (.tmp 37) _ rfl rfl (q:Int) (d:Int) (t:Int) (x:Int) rfl rfl rfl (by have:=HX.out;omega) ?_
  go_frame
  gi_big_quiet_step (fail)
  refine wpQuietIn_nil ?_
  intro _ hw'
  obtain ⟨nq,hw''⟩:=hw'
  subst hw''
  have e1:Boxed (X.drewN nq) (w.heap.size + 1) 3 (.int .i64 ↑u):=b1
  have e2:Boxed ((X.drewN nq).setCell ⟨w.heap.size + 1,0,none⟩ (.int .i64 ↑u2)) (w.heap.size + 1 + 1) 3 (.int .i64 ↑p):=Boxed.other (W:=X.drewN nq) b2 (by omega) _
  have e3:=e1.set (.int .i64 ↑u2)
  have KF:KeepsFrom W.heap.size X (((X.drewN nq).setCell ⟨w.heap.size + 1,0,none⟩ (.int .i64 ↑u2)).setCell ⟨w.heap.size + 1 + 1,0,none⟩ (.int .i64 ↑p2)) :=
   (KeepsOthers.trans (A:=X) (KeepsOthers.trans (A:=X) (B:=X.drewN nq) ⟨Nat.le_refl _,fun _ _ h _ => h⟩ (KeepsOthers.setCell _ _ _)) (KeepsOthers.setCell _ _ _)).from _
  have K9:Below w.heap.size w (((X.drewN nq).setCell ⟨w.heap.size + 1,0,none⟩ (.int .i64 ↑u2)).setCell ⟨w.heap.size + 1 + 1,0,none⟩ (.int .i64 ↑p2)) :=
   ((below_draws b8 nq).setCell (p:=⟨w.heap.size + 1,0,none⟩) (by show w.heap.size ≤ w.heap.size + 1;omega) _).setCell (p:=⟨w.heap.size + 1 + 1,0,none⟩) (by show w.heap.size ≤ w.heap.size + 1 + 1;omega) _
  rcases hor with hlt | rfl
  ·have HE:most ((q,ct) :: L.drop (k + 1)) m u p = (u + x,p + x * ct):=most_stop HM.out hlt
   rw [b5.out] at HE
   injection HE with v1 v2
   have v3:=HY.out
   have v4:=HU.out
   have v5:=HP.out
   have v6:U = u2:=by omega
   have v7:P = p2:=by rw [v3] at v2;omega
   have V6:=Lib.hid v6
   have V7:=Lib.hid v7
   clear v1 v2 v3 v4 v5 v6 v7
   gi_wp2
   refine ⟨KF,rfl,?_,?_,K9⟩
   ·rw [V6.out];exact e3.other (by omega) _
   ·rw [V7.out];exact e2.set _
  ·have HE:most ((x,ct) :: L.drop (k + 1)) m u p = most (L.drop (k + 1)) m (u + x) (p + x * ct):=most_go HM.out (by omega)
   rw [b5.out,HY.out,← HU.out,← HP.out] at HE
   have V:=Lib.hid HE.symm
   clear HE
   have b3':Boxed (X.drewN nq) (w1.heap.size + 1) 3 z:=b3
   have l3:=b3.lt
   have l4:=e2.lt
   gi_wp2
   refine ⟨KF,?_,u2,p2,z,?_,e3.other (by omega) _,e2.set _,(b3'.other (by omega) _).other (by omega) _,V,hbd1,hbd2,K9⟩
   ·refine (Kp2.trans (B:=X.drewN nq) ⟨below_draws (Below.refl _ _) nq,rfl,fun _ _ h => h⟩ (Kp2.grown (grownBy_setCell' (X.drewN nq) (w.heap.size + 1) _) hbs l3 (fun r e => ?_))).trans (Kp2.grown (grownBy_setCell' _ (w.heap.size + 1 + 1) _) (by omega) ?_ (fun r e => ?_))
    ·cases e
     exact ⟨by omega,by omega,_,_,e1,by decide⟩
    ·exact (b3'.other (B':=w.heap.size + 1) (by omega) (.int .i64 ↑u2)).lt
    ·cases e
     exact ⟨by omega,by omega,_,_,e2,by decide⟩
   ·exact (Boxed.other (W:=X.drewN nq) b0 (by omega) _).other (by omega) _
 ·rintro D X hD ⟨u,p,x,b0,b1,b2,b3,b5,b6,b7,b8⟩ hDX
  have HO:most [] m u p = (U,P):=by have:=b5.out;rwa [List.drop_length] at this
  injection HO with e1 e2
  subst e1;subst e2
  clear b5
  have c1:=b1.cell
  have f1:=b1.frozen
  have c2:=b2.cell
  have f2:=b2.frozen
  have hD2:((X.setCell ⟨w.heap.size + 1,0,none⟩ (.int .i64 ↑u)).setCell ⟨w.heap.size + 1 + 1,0,none⟩ (.int .i64 ↑p)).drew.heap[D]? = some (.deferred (some [])) :=
   (KeepsOthers.setCell _ _ _).same _ _ ((KeepsOthers.setCell _ _ _).same _ _ hDX rfl) rfl
  have z1:Boxed ((X.setCell ⟨w.heap.size + 1,0,none⟩ (.int .i64 ↑u)).setCell ⟨w.heap.size + 1 + 1,0,none⟩ (.int .i64 ↑p)).drew (w.heap.size + 1) 3 (.int .i64 ↑u):=(b1.set _).other (by omega) _
  have z2:Boxed ((X.setCell ⟨w.heap.size + 1,0,none⟩ (.int .i64 ↑u)).setCell ⟨w.heap.size + 1 + 1,0,none⟩ (.int .i64 ↑p)).drew (w.heap.size + 1 + 1) 3 (.int .i64 ↑p):=(b2.other (by omega) _).set _
  have z9:Below w.heap.size w ((X.setCell ⟨w.heap.size + 1,0,none⟩ (.int .i64 ↑u)).setCell ⟨w.heap.size + 1 + 1,0,none⟩ (.int .i64 ↑p)).drew :=
   below_draws ((b8.setCell (p:=⟨w.heap.size + 1,0,none⟩) (by show w.heap.size ≤ w.heap.size + 1;omega) _).setCell (p:=⟨w.heap.size + 1 + 1,0,none⟩) (by show w.heap.size ≤ w.heap.size + 1 + 1;omega) _) 1
  have z3:=(kept_box z1 (grownBy_putObj' _ D (.deferred none)) (fun r e => by cases e;exact ⟨_,hD2,rfl⟩)).cell
  have z4:=(kept_box z2 (grownBy_putObj' _ D (.deferred none)) (fun r e => by cases e;exact ⟨_,hD2,rfl⟩)).cell
  have z5:=z9.grown (grownBy_putObj' _ D (.deferred none)) z9.size (fun k e => by cases e;omega)
  gi_wp2
  gi_region
  gi_wp2
  refine ⟨by simp,.inl ⟨_,_,rfl,run_takeDeferred hD2,?_⟩⟩
  exact ⟨.tuple #[u,p,()],by simp [results,Tryz.results66,go_sem,z3,z4],rfl,z5⟩
 ·rintro D c k X hD hk ⟨rfl,b1,b2,b8⟩ hDX
  have c1:=b1.cell
  have f1:=b1.frozen
  have c2:=b2.cell
  have f2:=b2.frozen
  have hD2:((X.setCell ⟨w.heap.size + 1,0,none⟩ (.int .i64 ↑U)).setCell ⟨w.heap.size + 1 + 1,0,none⟩ (.int .i64 ↑P)).drew.heap[D]? = some (.deferred (some [])) :=
   (KeepsOthers.setCell _ _ _).same _ _ ((KeepsOthers.setCell _ _ _).same _ _ hDX rfl) rfl
  have z1:Boxed ((X.setCell ⟨w.heap.size + 1,0,none⟩ (.int .i64 ↑U)).setCell ⟨w.heap.size + 1 + 1,0,none⟩ (.int .i64 ↑P)).drew (w.heap.size + 1) 3 (.int .i64 ↑U):=(b1.set _).other (by omega) _
  have z2:Boxed ((X.setCell ⟨w.heap.size + 1,0,none⟩ (.int .i64 ↑U)).setCell ⟨w.heap.size + 1 + 1,0,none⟩ (.int .i64 ↑P)).drew (w.heap.size + 1 + 1) 3 (.int .i64 ↑P):=(b2.other (by omega) _).set _
  have z9:Below w.heap.size w ((X.setCell ⟨w.heap.size + 1,0,none⟩ (.int .i64 ↑U)).setCell ⟨w.heap.size + 1 + 1,0,none⟩ (.int .i64 ↑P)).drew :=
   below_draws ((b8.setCell (p:=⟨w.heap.size + 1,0,none⟩) (by show w.heap.size ≤ w.heap.size + 1;omega) _).setCell (p:=⟨w.heap.size + 1 + 1,0,none⟩) (by show w.heap.size ≤ w.heap.size + 1 + 1;omega) _) 1
  have z3:=(kept_box z1 (grownBy_putObj' _ D (.deferred none)) (fun r e => by cases e;exact ⟨_,hD2,rfl⟩)).cell
  have z4:=(kept_box z2 (grownBy_putObj' _ D (.deferred none)) (fun r e => by cases e;exact ⟨_,hD2,rfl⟩)).cell
  have z5:=z9.grown (grownBy_putObj' _ D (.deferred none)) z9.size (fun k e => by cases e;omega)
  gi_wp2
  gi_region
  gi_wp2
  refine ⟨by simp,.inl ⟨_,_,rfl,run_takeDeferred hD2,?_⟩⟩
  exact ⟨.tuple #[U,P,()],by simp [results,Tryz.results66,go_sem,z3,z4],rfl,z5⟩
theorem most_law {l:List (Nat × Nat)} {f m U P:Nat} (h:TOk l) (hf:f ≤ 10000000) (hM:most (pcs l f) m 0 0 = (U,P)) :
 cost (pcs l f) U = P ∧ P ≤ m ∧ U ≤ 2097151 ∧ f + U ≤ 10000000 ∧ (U = 2097151 ∨ f + U = 10000000 ∨ m < cost (pcs l f) (U + 1)):=by
 obtain ⟨d,h1,h2,h3,h4,h5,h6⟩:=most_is (pcs l f) m 0 0 (fun x hx => (tok_prices h x hx).2.2.1) (by omega) (by omega)
 rw [hM] at h1 h2 h3
 simp only [Nat.zero_add] at h1 h2 h3 h5 h6
 subst h1
 have hl:=tok_lefts (f:=f) h hf
 refine ⟨h2.symm,h3,h5,by omega,?_⟩
 rcases h6 with h6 | h6 | h6
 ·exact .inl h6
 ·exact .inr (.inl (by omega))
 ·exact .inr (.inr h6)
end Go.Proofs.YtfgiehkfcoodbaaGreat
