/- oracle: known, Issue, Verify, May. -/
import Derived.Test.YtfgiehkfcoodbaaGreatM0
import Derived.Test.YtfgiehkfcoodbaaGreatM24
import Derived.Test.YtfgiehkfcoodbaaGreatM2
import Derived.Maps.Own
import Derived.WalkSpells
namespace Go.Proofs.YtfgiehkfcoodbaaGreat
open Go.RowKit Go.Maps Go.ChangeShapes Go.WideShapes
set_option linter.unusedVariables false
set_option maxRecDepth 100000
set_option maxHeartbeats 16000000
theorem pair_info:(Tryz.prog.info? 147).map (fun i => (i.zero,i.size,i.bytes)) = some (some (.agg #[(),(),(),()]),4,32):=by kernel_rfl
theorem el_pair:Elem Tryz.prog 33 147 4 32:=elem_of Tryz.underlying33 pair_info rfl (by omega)
theorem of_ok (a b c t:Int) (w:World):Calls Tryz.prog 150 #[.agg #[a,b,c,t]] w fun e w' => e = .returned (.agg #[a,b,c]) ∧ Below w.heap.size w w':=by
 go_enter Tryz.func150,Tryz.ntmps150
 go_wp2
 refine bodyPost_ret (v:=.agg #[a,b,c]) (by simp [results,Tryz.results150,go_sem];done) rfl ?_
 exact ⟨rfl,below_a2 _ _ _⟩
theorem mayk_yes (a b c:Int) (w:World) (h:mayK (a,b,c)):Calls Tryz.prog 144 #[.agg #[a,b,c]] w fun e w' => e = .returned (.bool true) ∧ Below w.heap.size w w':=by
 obtain ⟨h1,h2,h3,h4,h5,h6⟩:=h
 dsimp only at h1 h2 h3 h4 h5 h6
 go_enter Tryz.func144,Tryz.ntmps144
 go_wp2
 go_ret
 exact ⟨ret_true (by simp),below_a1 _ _⟩
theorem zeroE (w:World):(zeroValue 3).run Tryz.prog w = .ok (.int .i64 0) w:=by kernel_rfl
def RetKnown (l:List Pr) (w:World) (e:Ending) (w':World):Prop :=
 ∃ (g:Nat) (D:DataW Unit),e = .returned (.tuple #[.map (some g),.bool true]) ∧ w.heap.size ≤ g ∧ w'.ownsMap Tryz.prog 284 (plainElem Tryz.prog 3) g 500 D ∧ MapIs D l ∧ Below w.heap.size w w'
theorem known_ok (v:Value) (l:List Pr) (w:World) (hv:IsPs w v l) (hl:OOk l) :
 Calls Tryz.prog 143 #[.agg #[v]] w (RetKnown l w):=by
 have hv0:=hv
 have h500:=hl.1
 obtain ⟨A,c,rfl,hc1,hc2,hwf,_⟩:=hv
 have hmm:=@run_makeMap Tryz.prog
 have hat:=fun k hk => hv0.at_ (k:=k) hk
 clear hv0 hc1 hc2
 go_enter Tryz.func143,Tryz.ntmps143
 go_wp2_with fail
 go_loopw [18] (fun i wr => ∃ (k:Nat) (D:DataW Unit),k ≤ l.length ∧ i = .int .i64 k ∧ wr.ownsMap Tryz.prog 284 (plainElem Tryz.prog 3) (w.heap.size + 1) k D ∧ MapIs D (l.take k) ∧ Below w.heap.size w wr) (fun i _ => l.length - (intOf i).toNat)
 case atStart => exact ⟨0,.map [],by omega,rfl,by
  have h:=World.ownsMap_made (H:=Unit) (w.alloc (.cells #[.slice A l.length c] 35)) Tryz.prog 284 (plainElem Tryz.prog 3)
  simpa using h,mapIs_nil,below_a2 _ _ _⟩
 case round =>
  obtain ⟨k,D,hk,rfl,hown,hD,hb⟩:=hrel
  clear hmm
  by_cases hlt:k < l.length
  ·obtain ⟨b,off,rfl,hB,p1,p2,p3,p4⟩:=hat k hlt
   have q1:=(hb.cell (p:=⟨b,off + k * 4,none⟩) hB).trans p1
   have q2:=(hb.cell (p:=⟨b,off + k * 4 + 1,none⟩) hB).trans p2
   have q3:=(hb.cell (p:=⟨b,off + k * 4 + 2,none⟩) hB).trans p3
   have q4:=(hb.cell (p:=⟨b,off + k * 4 + 3,none⟩) hB).trans p4
   have hwp:=hwf _ (List.getElem_mem hlt)
   obtain ⟨hmk,ht1,ht2⟩:=hl.2.1 _ (List.getElem_mem hlt)
   have hnx:=ook_next hl hlt
   have HP:=Lib.hid (mapIs_put hD hwp hnx)
   rw [← List.take_succ_eq_append_getElem hlt] at HP
   have hkey:=what_key hwp.1
   have hhas:=(hD.2 _ _ _ hwp.1).1
   unfold keyP at hnx hmk
   rw [hnx] at hhas
   clear hat hwf hl p1 p2 p3 p4 hnx
   generalize l[k] = p at *
   obtain ⟨x,y,z,t⟩:=p
   dsimp only at *
   have hbs:=hb.size
   have hkz:(k:Int) < (l.length:Int):=by omega
   rw [show (none:Option Int).isSome = false from rfl] at hhas
   go_wp2_with fail
   refine (of_ok x y z t _).mono ?_
   rintro e wa ⟨rfl,hba⟩
   have hsa:=hba.size
   simp at hsa
   have hP:=(Blk.new wr 147 #[x,y,z,t]).below hba (by simp)
   have bA:=(below_a1 _ _).step hba
   have hownA:=(map_below hown (bA.alloc (by omega) (.cells #[x,y,z] 284)))
   have bA2:=(hb.trans (bA.mono hbs)).alloc (by omega) (.cells #[x,y,z] 284)
   clear hba
   go_wp2_with (at_lookup;refine wpList_lookup_own_ok_int _ rfl (.tmp 25) (.tmp 26) 280 rfl 284 3 .i64 what_law Tryz.underlying280 Tryz.underlying3 (zeroE _) (w.heap.size + 1) k D rfl hownA _ _ rfl hkey ?_;intro c0 hat0 hwc0)
   refine (mayk_yes x y z _ hmk).mono ?_
   rintro e wb ⟨rfl,hbb⟩
   have hsb:=hbb.size
   simp at hsb
   have hP2:=(hP.alloc (.cells #[x,y,z] 284)).below hbb (by simp;omega)
   have hW2:=(Blk.new wa 284 #[x,y,z]).below hbb (by simp)
   have hownB:=map_below hownA hbb
   have bB:=bA2.trans (hbb.mono bA2.size)
   have n1:=hP2.lt
   have n2:=hW2.lt
   clear hbb hownA bA2 hP hown hhas hat0
   have r0:wb.cell? ⟨wr.heap.size,0,none⟩ = some (.int .i64 x):=hP2.cell 0
   have rf0:wb.frozen? ⟨wr.heap.size,0,none⟩ = false:=hP2.frozen 0
   have r1:wb.cell? ⟨wr.heap.size,1,none⟩ = some (.int .i64 y):=hP2.cell 1
   have rf1:wb.frozen? ⟨wr.heap.size,1,none⟩ = false:=hP2.frozen 1
   have r2:wb.cell? ⟨wr.heap.size,2,none⟩ = some (.int .i64 z):=hP2.cell 2
   have rf2:wb.frozen? ⟨wr.heap.size,2,none⟩ = false:=hP2.frozen 2
   have r3:wb.cell? ⟨wr.heap.size,3,none⟩ = some (.int .i64 t):=hP2.cell 3
   have rf3:wb.frozen? ⟨wr.heap.size,3,none⟩ = false:=hP2.frozen 3
   have s0:wb.cell? ⟨wa.heap.size,0,none⟩ = some (.int .i64 x):=hW2.cell 0
   have sf0:wb.frozen? ⟨wa.heap.size,0,none⟩ = false:=hW2.frozen 0
   have s1:wb.cell? ⟨wa.heap.size,1,none⟩ = some (.int .i64 y):=hW2.cell 1
   have sf1:wb.frozen? ⟨wa.heap.size,1,none⟩ = false:=hW2.frozen 1
   have s2:wb.cell? ⟨wa.heap.size,2,none⟩ = some (.int .i64 z):=hW2.cell 2
   have sf2:wb.frozen? ⟨wa.heap.size,2,none⟩ = false:=hW2.frozen 2
   go_wp2_with (at_mapUpdate;refine wpList_mapUpdate_own _ rfl (.tmp 46) (.tmp 47) (.tmp 49) 280 rfl 284 3 what_law Tryz.underlying280 _ (w.heap.size + 1) k D rfl hownB (by unfold maxLen;omega) _ _ _ rfl rfl hkey _ [] (plainElem_int Tryz.underlying3 hwp.2) ?_;intro w1 hown1 hgrow1)
   go_roundw
   case rel => exact ⟨k + 1,_,by omega,by go_num,hown1,HP.out,bB.grown hgrow1 bB.size (fun j hj => by cases hj;omega)⟩
   case measure => simp [intOf];omega
  ·obtain rfl:k = l.length:=by omega
   rw [List.take_length] at hD
   go_wp2
   go_ret2
   exact ⟨_,D,rfl,by omega,hown.mono h500,hD,hb⟩
def RetClone (l:List Pr) (w:World) (e:Ending) (w':World):Prop :=
 ∃ (A:Option Addr) (c:Nat),e = .returned (.slice A l.length c) ∧ w'.ownsRow w.heap.size 147 4 (.slice A l.length c) l.length (prs l) ∧ Below w.heap.size w w'
theorem clone_ok (v:Value) (l:List Pr) (w:World) (hv:IsPs w v l) (hl:l.length ≤ 500) :
 Calls Tryz.prog 145 #[v] w (RetClone l w):=by
 obtain ⟨A,c,rfl,hc1,hc2,hwf,hr⟩:=hv
 rcases A with _ | ad
 ·have h0:l = []:=by
   rcases Nat.eq_zero_or_pos l.length with h | h
   ·exact List.eq_nil_of_length_eq_zero h
   ·obtain ⟨b,off,h,_⟩:=hr.2 h
    cases h
  subst h0
  clear hr hwf hc1 hc2 hl
  have hnil:=fun W => Lib.run_eql_slice_nil (P:=Tryz.prog) W 33 147 none 0 c 0 0 Tryz.underlying33
  go_enter Tryz.func145,Tryz.ntmps145
  go_wp2
  go_ret
  exact ⟨none,0,rfl,World.ownsRow_nil _ _ _ _,Below.refl _ _⟩
 ·have HR:=Lib.hid hr
  clear hr hwf
  have hnil:=fun W => Lib.run_eql_slice_nil (P:=Tryz.prog) W 33 147 (some ad) l.length c 0 0 Tryz.underlying33
  go_enter Tryz.func145,Tryz.ntmps145
  have h0:=World.ownsRow_lit (base:=w.heap.size) (e:=147) (size:=4) w #[] 0 (Nat.le_refl _) (Nat.zero_le _) rfl
  have hr2:=HR.out.below (below_a1 w (.cells #[] 147))
  have H0:=Lib.hid h0
  have H2:=Lib.hid hr2
  clear h0 hr2
  go_wp2_with (at_builtin;refine wpList_pushN el_pair rfl (.tmp 5) (.tmp 6) rfl (w.alloc (.cells #[] 147)) w.heap.size _ 0 [] rfl H0.out w.heap.size (some ad) l.length c (prs l) rfl H2.out (prs_one l) (by omega) (by unfold maxLen;omega) w (below_a1 _ _) (Nat.le_refl _) ?_;intro A1 c1 w1 hown1 hb1)
  simp only [Nat.zero_add,List.nil_append] at hown1
  go_ret
  refine ⟨A1,c1,?_,hown1,hb1⟩
  simp
def RetIss (l:List Pr) (t:Int) (w:World) (e:Ending) (w':World):Prop :=
 ∃ (A:Option Addr) (c:Nat),e = .returned (.tuple #[.agg #[.slice A l.length c],t,()]) ∧ IsPs w' (.slice A l.length c) l ∧ w'.ownsRow w.heap.size 147 4 (.slice A l.length c) l.length (prs l) ∧ Below w.heap.size w w'
theorem issue_had (v:Value) (l:List Pr) (x y z d t:Int) (w:World) (hv:IsPs w v l) (hl:OOk l) (hk:mayK (x,y,z)) (hw:wf3 x y z) (hd1:0 ≤ d) (hd2:d ≤ 65535) (ht:Hid (look l (x,y,z) = some t)) :
 Calls Tryz.prog 140 #[.agg #[v],x,y,z,d] w (RetIss l t w):=by
 have hv0:=hv
 have h500:=hl.1
 obtain ⟨A,c,rfl,hc1,hc2,hwf,_⟩:=hv
 have hkey:=what_key hw
 clear hc1 hc2
 go_enter Tryz.func140,Tryz.ntmps140
 go_wp2_with fail
 refine (known_ok _ l _ (hv0.below (below_a2 _ _ _)) hl).mono ?_
 rintro e wa ⟨g,D,rfl,hg,hown,hD,hba⟩
 simp at hg
 have hsa:=hba.size
 simp at hsa
 have hA1:=((Blk.new w 35 #[.slice A l.length c]).alloc (.cells #[.slice none 0 0] 35)).below hba (by simp;try omega)
 have hA2:=(show Blk ((w.alloc (.cells #[.slice A l.length c] 35)).alloc (.cells #[.slice none 0 0] 35)) (w.heap.size + 1) 35 #[.slice none 0 0] from heap_alloc2 _ _ _).below hba (by simp;try omega)
 have bA:=(below_a2 w _ _).step hba
 have hvA:=hv0.below bA
 have n1:=hA1.lt
 have n2:=hA2.lt
 clear hba
 have r0:wa.cell? ⟨w.heap.size,0,none⟩ = some (.slice A l.length c):=hA1.cell 0
 have rf0:wa.frozen? ⟨w.heap.size,0,none⟩ = false:=hA1.frozen 0
 go_wp2_with fail
 refine (mayk_yes x y z _ hk).mono ?_
 rintro e wb ⟨rfl,hbb⟩
 have hsb:=hbb.size
 simp at hsb
 have hB1:=(hA1.alloc (.cells #[x,y,z] 284)).below hbb (by simp;omega)
 have hB2:=(hA2.alloc (.cells #[x,y,z] 284)).below hbb (by simp;omega)
 have hB3:=(Blk.new wa 284 #[x,y,z]).below hbb (by simp)
 have hownB:=map_below hown ((below_a1 wa _).step hbb)
 have hvB:=hvA.below ((below_a1 wa _).step hbb)
 have bB:=bA.step ((below_a1 wa _).step hbb)
 have n3:=hB3.lt
 have n4:w.heap.size < wb.heap.size:=by omega
 clear hbb hA1 hA2 r0 rf0 hown hvA
 have r0:wb.cell? ⟨w.heap.size,0,none⟩ = some (.slice A l.length c):=hB1.cell 0
 have rf0:wb.frozen? ⟨w.heap.size,0,none⟩ = false:=hB1.frozen 0
 go_wp2_with fail
 refine (clone_ok _ l _ hvB h500).mono ?_
 rintro e wc ⟨A2,c2,rfl,hownC,hbc⟩
 have hsc:=hbc.size
 have hC2:=hB2.below hbc (by omega)
 have hC3:=(hB3.below hbc (by omega))
 have hownM:=map_below hownB ((Below.refl wb.heap.size wb).trans (hbc.alloc hbc.size (.cells #[.slice A2 l.length c2] 35)))
 have bC:=(bB.step hbc).alloc (by omega) (.cells #[.slice A2 l.length c2] 35)
 have hhas:=(hD.2 x y z hw).1
 have hat:=(hD.2 x y z hw).2
 rw [ht.out] at hhas hat
 rw [show (some t:Option Int).isSome = true from rfl] at hhas
 rw [show (some t:Option Int).getD 0 = t from rfl] at hat
 have HAT:=Lib.hid hat
 clear hat hD hB1 hB2 hB3 hownB hvB r0 rf0
 have n5:w.heap.size + 1 < wc.heap.size:=by omega
 have n6:wa.heap.size < wc.heap.size:=by omega
 have s0:wc.cell? ⟨wa.heap.size,0,none⟩ = some (.int .i64 x):=hC3.cell 0
 have sf0:wc.frozen? ⟨wa.heap.size,0,none⟩ = false:=hC3.frozen 0
 have s1:wc.cell? ⟨wa.heap.size,1,none⟩ = some (.int .i64 y):=hC3.cell 1
 have sf1:wc.frozen? ⟨wa.heap.size,1,none⟩ = false:=hC3.frozen 1
 have s2:wc.cell? ⟨wa.heap.size,2,none⟩ = some (.int .i64 z):=hC3.cell 2
 have sf2:wc.frozen? ⟨wa.heap.size,2,none⟩ = false:=hC3.frozen 2
 have u0:wc.cell? ⟨w.heap.size + 1,0,none⟩ = some (.slice none 0 0):=hC2.cell 0
 have uf0:wc.frozen? ⟨w.heap.size + 1,0,none⟩ = false:=hC2.frozen 0
 go_wp2_with (at_lookup;refine wpList_lookup_own_ok_int _ rfl (.tmp 48) (.tmp 49) 280 rfl 284 3 .i64 what_law Tryz.underlying280 Tryz.underlying3 (zeroE _) g 500 D rfl hownM _ _ rfl hkey ?_;intro c0 hat0 hwc0)
 obtain rfl:c0 = t:=by
  have h:=HAT.out
  rw [hat0] at h
  injection h with h
  injection h
 have hof:=((own_far hownC (p:=⟨w.heap.size + 1,0,none⟩) (by show _ < _;dsimp only;omega) (.slice A2 l.length c2)).alloc (.cells #[.slice A2 l.length c2] 35))
 have hps:=isps_own (l:=l) rfl hwf hof
 have bS:=((bB.step hbc).setCell (p:=⟨w.heap.size + 1,0,none⟩) (by show _ ≤ _;dsimp only;omega) (.slice A2 l.length c2)).alloc (by simp;omega) (.cells #[.slice A2 l.length c2] 35)
 refine bodyPost_ret (v:=.tuple #[.agg #[.slice A2 l.length c2],c0,()]) (by simp [results,Tryz.results140,go_sem,n5,u0];done) rfl ?_
 exact ⟨A2,c2,rfl,hps,own_mono hof (by omega),bS⟩
theorem issue_new (v:Value) (l:List Pr) (x y z d:Int) (w:World) (hv:IsPs w v l) (hl:OOk l) (hk:mayK (x,y,z)) (hw:wf3 x y z) (hd1:0 ≤ d) (hd2:d ≤ 65535) (ht:Hid (look l (x,y,z) = none)) (h5:l.length < 500) :
 Calls Tryz.prog 140 #[.agg #[v],x,y,z,d] w (RetIss (l ++ [(x,y,z,d)]) d w):=by
 have hv0:=hv
 have h500:=hl.1
 obtain ⟨A,c,rfl,hc1,hc2,hwf,_⟩:=hv
 have hkey:=what_key hw
 clear hc1 hc2
 go_enter Tryz.func140,Tryz.ntmps140
 go_wp2_with fail
 refine (known_ok _ l _ (hv0.below (below_a2 _ _ _)) hl).mono ?_
 rintro e wa ⟨g,D,rfl,hg,hown,hD,hba⟩
 simp at hg
 have hsa:=hba.size
 simp at hsa
 have hA1:=((Blk.new w 35 #[.slice A l.length c]).alloc (.cells #[.slice none 0 0] 35)).below hba (by simp;try omega)
 have hA2:=(show Blk ((w.alloc (.cells #[.slice A l.length c] 35)).alloc (.cells #[.slice none 0 0] 35)) (w.heap.size + 1) 35 #[.slice none 0 0] from heap_alloc2 _ _ _).below hba (by simp;try omega)
 have bA:=(below_a2 w _ _).step hba
 have hvA:=hv0.below bA
 have n1:=hA1.lt
 have n2:=hA2.lt
 clear hba
 have r0:wa.cell? ⟨w.heap.size,0,none⟩ = some (.slice A l.length c):=hA1.cell 0
 have rf0:wa.frozen? ⟨w.heap.size,0,none⟩ = false:=hA1.frozen 0
 go_wp2_with fail
 refine (mayk_yes x y z _ hk).mono ?_
 rintro e wb ⟨rfl,hbb⟩
 have hsb:=hbb.size
 simp at hsb
 have hB1:=(hA1.alloc (.cells #[x,y,z] 284)).below hbb (by simp;omega)
 have hB2:=(hA2.alloc (.cells #[x,y,z] 284)).below hbb (by simp;omega)
 have hB3:=(Blk.new wa 284 #[x,y,z]).below hbb (by simp)
 have hownB:=map_below hown ((below_a1 wa _).step hbb)
 have hvB:=hvA.below ((below_a1 wa _).step hbb)
 have bB:=bA.step ((below_a1 wa _).step hbb)
 have n3:=hB3.lt
 have n4:w.heap.size < wb.heap.size:=by omega
 clear hbb hA1 hA2 r0 rf0 hown hvA
 have r0:wb.cell? ⟨w.heap.size,0,none⟩ = some (.slice A l.length c):=hB1.cell 0
 have rf0:wb.frozen? ⟨w.heap.size,0,none⟩ = false:=hB1.frozen 0
 go_wp2_with fail
 refine (clone_ok _ l _ hvB h500).mono ?_
 rintro e wc ⟨A2,c2,rfl,hownC,hbc⟩
 have hsc:=hbc.size
 have hC2:=hB2.below hbc (by omega)
 have hC3:=(hB3.below hbc (by omega))
 have hownM:=map_below hownB ((Below.refl wb.heap.size wb).trans (hbc.alloc hbc.size (.cells #[.slice A2 l.length c2] 35)))
 have bC:=(bB.step hbc).alloc (by omega) (.cells #[.slice A2 l.length c2] 35)
 have hhas:=(hD.2 x y z hw).1
 rw [ht.out] at hhas
 rw [show (none:Option Int).isSome = false from rfl] at hhas
 clear hD hB1 hB2 hB3 hownB hvB r0 rf0
 have n5:w.heap.size + 1 < wc.heap.size:=by omega
 have n6:wa.heap.size < wc.heap.size:=by omega
 have h500':((l.length:Int) == 500) = false:=by rw [beq_eq_false_iff_ne];omega
 have hd0:(Lit.int .i64 d).wf = true:=WalkArith.wf_i64 (by omega)
 have hNx:=(Blk.new wc 35 #[.slice A2 l.length c2]).alloc (.cells #[x,y,z,d] 147)
 have hC2':=(hC2.alloc (.cells #[.slice A2 l.length c2] 35)).alloc (.cells #[x,y,z,d] 147)
 have hown4:=(hownC.alloc (.cells #[.slice A2 l.length c2] 35)).alloc (.cells #[x,y,z,d] 147)
 have hone:∀ u ∈ [Value.int .i64 x,.int .i64 y,.int .i64 z,.int .i64 d],u.oneCell' = true:=fun u hu => by simp at hu;rcases hu with rfl | rfl | rfl | rfl <;> rfl
 have HNG:=Lib.hid (heap_alloc2 wc (.cells #[.slice A2 l.length c2] 35) (.cells #[x,y,z,d] 147))
 have H4:=Lib.hid hown4
 clear hown4
 have s0:wc.cell? ⟨wa.heap.size,0,none⟩ = some (.int .i64 x):=hC3.cell 0
 have sf0:wc.frozen? ⟨wa.heap.size,0,none⟩ = false:=hC3.frozen 0
 have s1:wc.cell? ⟨wa.heap.size,1,none⟩ = some (.int .i64 y):=hC3.cell 1
 have sf1:wc.frozen? ⟨wa.heap.size,1,none⟩ = false:=hC3.frozen 1
 have s2:wc.cell? ⟨wa.heap.size,2,none⟩ = some (.int .i64 z):=hC3.cell 2
 have sf2:wc.frozen? ⟨wa.heap.size,2,none⟩ = false:=hC3.frozen 2
 have u0:wc.cell? ⟨w.heap.size + 1,0,none⟩ = some (.slice none 0 0):=hC2.cell 0
 have uf0:wc.frozen? ⟨w.heap.size + 1,0,none⟩ = false:=hC2.frozen 0
 go_wp2_with (first | (at_lookup;refine wpList_lookup_own_ok_int _ rfl (.tmp 48) (.tmp 49) 280 rfl 284 3 .i64 what_law Tryz.underlying280 Tryz.underlying3 (zeroE _) g 500 D rfl hownM _ _ rfl hkey ?_;intro c0 hat0 hwc0) | (at_builtin;go_must (refine wpList_pushk el_pair rfl (.tmp 62) (.tmp 68) rfl _ wb.heap.size (wc.heap.size + 1) _ l.length _ [.int .i64 x,.int .i64 y,.int .i64 z,.int .i64 d] rfl H4.out rfl HNG.out rfl hone (by omega) (by unfold maxLen;omega) (by simp;omega) ?_);intro A3 c3 w1 hown5 hb5 hgr5 hot5;have hNx2:=hNx.grown hgr5 (own_ne hownC (Nat.le_refl _));have hC22:=hC2'.below hb5 (by omega);have hs5:=hb5.size;simp at hs5;have n7:w.heap.size + 1 < w1.heap.size:=(by omega);have n8:wc.heap.size < w1.heap.size:=(by omega);clear u0 uf0;have r0:w1.cell? ⟨wc.heap.size,0,none⟩ = some (.slice A2 l.length c2):=hNx2.cell 0;have rf0:w1.frozen? ⟨wc.heap.size,0,none⟩ = false:=hNx2.frozen 0;have u0:w1.cell? ⟨w.heap.size + 1,0,none⟩ = some (.slice none 0 0):=hC22.cell 0;have uf0:w1.frozen? ⟨w.heap.size + 1,0,none⟩ = false:=hC22.frozen 0))
 refine bodyPost_ret (v:=.tuple #[.agg #[.slice A3 (l.length + 1) c3],d,()]) (by simp [results,Tryz.results140,go_sem,u0];done) rfl ?_
 have hof:=(own_far (own_other hown5 (p:=⟨wc.heap.size,0,none⟩) (hot5 _ (by simp;omega) (own_ne hownC (Nat.le_refl _))) (.slice A3 (l.length + 1) c3)) (p:=⟨w.heap.size + 1,0,none⟩) (by show _ < _;dsimp only;omega) (.slice A3 (l.length + 1) c3))
 rw [show prs l ++ [.int .i64 x,.int .i64 y,.int .i64 z,.int .i64 d] = prs (l ++ [(x,y,z,d)]) by rw [prs_append];rfl] at hof
 have hps:=isps_own (l:=l ++ [(x,y,z,d)]) (n:=l.length + 1) (by simp) (fun p hp => by
  rcases List.mem_append.1 hp with h | h
  ·exact hwf p h
  ·simp at h;subst h;exact ⟨hw,hd0⟩) hof
 have bC2:=(((bC.alloc (by simp;omega) (.cells #[x,y,z,d] 147)).trans (hb5.mono (by omega))).setCell (p:=⟨wc.heap.size,0,none⟩) (by show _ ≤ _;dsimp only;omega) (.slice A3 (l.length + 1) c3)).setCell (p:=⟨w.heap.size + 1,0,none⟩) (by show _ ≤ _;dsimp only;omega) (.slice A3 (l.length + 1) c3)
 have hlen:(l ++ [(x,y,z,d)]).length = l.length + 1:=by simp
 refine ⟨A3,c3,?_,?_,?_,bC2⟩
 ·rw [hlen]
 ·rw [hlen];exact hps
 ·rw [hlen];exact own_mono hof (by omega)
theorem verify_ok (v:Value) (l:List Pr) (x y z d:Int) (w:World) (hv:IsPs w v l) (hl:OOk l) (hw:wf3 x y z) (o:Option Int) (ho:Hid (look l (x,y,z) = o)) :
 Calls Tryz.prog 201 #[.agg #[v],x,y,z,d] w fun e w' => e = .returned (.bool (o == some d)) ∧ Below w.heap.size w w':=by
 have hkey:=what_key hw
 go_enter Tryz.func201,Tryz.ntmps201
 go_wp2_with fail
 refine (known_ok v l _ (hv.below (below_a1 _ _)) hl).mono ?_
 rintro e wa ⟨g,D,rfl,hg,hown,hD,hba⟩
 have bA:=(below_a1 w _).step hba
 have hhas:=(hD.2 x y z hw).1
 have hat:=(hD.2 x y z hw).2
 rw [ho.out] at hhas hat
 clear hD hba
 cases o with
 | none =>
  rw [show (none:Option Int).isSome = false from rfl] at hhas
  clear hat
  go_wp2_with (at_lookup;refine wpList_lookup_own_ok_int _ rfl (.tmp 23) (.tmp 27) 280 rfl 284 3 .i64 what_law Tryz.underlying280 Tryz.underlying3 (zeroE _) g 500 D rfl hown _ _ rfl hkey ?_;intro c0 hat0 hwc0)
  go_ret
  exact ⟨rfl,bA⟩
 | some t =>
  rw [show (some t:Option Int).isSome = true from rfl] at hhas
  rw [show (some t:Option Int).getD 0 = t from rfl] at hat
  have HAT:=Lib.hid hat
  clear hat
  go_wp2_with (at_lookup;refine wpList_lookup_own_ok_int _ rfl (.tmp 23) (.tmp 27) 280 rfl 284 3 .i64 what_law Tryz.underlying280 Tryz.underlying3 (zeroE _) g 500 D rfl hown _ _ rfl hkey ?_;intro c0 hat0 hwc0)
  go_ret
  obtain rfl:c0 = t:=by
   have h:=HAT.out
   rw [hat0] at h
   injection h with h
   injection h
  exact ⟨rfl,bA⟩
theorem omay_ok (v:Value) (l:List Pr) (w:World) (hv:IsPs w v l) (hl:OOk l) :
 Calls Tryz.prog 189 #[.agg #[v]] w fun e w' => e = .returned (.bool true) ∧ Below w.heap.size w w':=by
 go_enter Tryz.func189,Tryz.ntmps189
 go_wp2_with fail
 refine (known_ok v l _ (hv.below (below_a1 _ _)) hl).mono ?_
 rintro e wa ⟨g,D,rfl,hg,hown,hD,hba⟩
 go_wp2
 go_ret
 exact ⟨rfl,(below_a1 w _).step hba⟩
instance (k:Int × Int × Int):Decidable (mayK k):=by unfold mayK;infer_instance
def RetKnownA (l:List Pr) (w:World) (e:Ending) (w':World):Prop :=
 (OOk l ∧ RetKnown l w e w') ∨ (¬ OOk l ∧ e = .returned (.tuple #[.map none,.bool false]) ∧ Below w.heap.size w w')
end Go.Proofs.YtfgiehkfcoodbaaGreat
