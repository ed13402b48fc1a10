/- life.step: by doP. -/
import Derived.Test.YtfgiehkfcoodbaaGreatM0
import Derived.Test.YtfgiehkfcoodbaaGreatM48
import Derived.Test.YtfgiehkfcoodbaaGreatM46
import Derived.Test.YtfgiehkfcoodbaaGreatM28
import Derived.Test.YtfgiehkfcoodbaaGreatM22
import Derived.Test.YtfgiehkfcoodbaaGreatM45
import Derived.Test.YtfgiehkfcoodbaaGreatM1
import Derived.Test.YtfgiehkfcoodbaaGreatM10
import Derived.Test.YtfgiehkfcoodbaaGreatM3
import Derived.Test.YtfgiehkfcoodbaaGreatM6
namespace Go.Proofs.YtfgiehkfcoodbaaGreat
open Go.RowKit
set_option linter.unusedVariables false
set_option maxRecDepth 100000
set_option maxHeartbeats 16000000
theorem sd_info:(Tryz.prog.info? 74).map (fun i => (i.zero,i.size,i.bytes)) = some (some (.agg #[.int .i64 0,.int .i64 0,.string ⟨#[]⟩,.int .i64 0,.int .i64 0,.int .i64 0,.int .i64 0,.int .i64 0,.int .i64 0,.int .i64 0,.int .i64 0,.int .i64 0]),12,104):=by kernel_rfl
theorem el_sd:Elem Tryz.prog 40 74 12 104:=elem_of Tryz.underlying40 sd_info rfl (by omega)
theorem sn_info:(Tryz.prog.info? 51).map (fun i => (i.zero,i.size,i.bytes)) = some (some (.agg #[.int .i64 0,.int .i64 0,.int .i64 0,.int .i64 0,.int .i64 0,.string ⟨#[]⟩,.int .i64 0,.int .i64 0,.int .i64 0,.string ⟨#[]⟩,.int .i64 0,.int .i64 0,.int .i64 0,.int .i64 0,.int .i64 0,.int .i64 0,.int .i64 0,.bool false,.slice none 0 0,.int .i64 0,.int .i64 0,.int .i64 0,.int .i64 0,.slice none 0 0,.slice none 0 0,.slice none 0 0,.slice none 0 0,.int .i64 0,.int .i64 0,.int .i64 0,.int .i64 0,.slice none 0 0,.slice none 0 0,.slice none 0 0,.string ⟨#[]⟩,.int .i64 0]),36,440):=by kernel_rfl
theorem el_sn:Elem Tryz.prog 39 51 36 440:=elem_of Tryz.underlying39 sn_info rfl (by omega)
theorem ba_empty {s:ByteArray} (h:s.size = 0):s.toList.isEmpty = true:=by
 have e:s = ⟨#[]⟩:=by cases s;exact congrArg ByteArray.mk (Array.eq_empty_of_size_eq_zero h)
 rw [Lib.toList_data,e]
 rfl
theorem ba_full {s:ByteArray} (h:s.size ≠ 0):s.toList.isEmpty = false:=by
 rw [Lib.toList_data]
 cases hs:s.data.toList with
 | nil => exact absurd (by rw [ByteArray.size,← Array.length_toList,hs];rfl) h
 | cons a l => rfl
noncomputable def lifeL (T:Tm) (W:Wd) (x:Wv) (S:List Sn) (tk:List Sd) (gl b1 b2:Nat) (A1:Option Addr) (c1:Nat) (A2:Option Addr) (c2:Nat):List Chunk :=
 [.blk gl 42 #[.slice x.At T.tl.length x.ct,.int .i64 ↑T.fx,.int .i64 ↑T.fb,.int .i64 ↑T.db,.int .i64 ↑T.al,.slice x.Ad W.c.length x.cd,.slice x.Ao W.lp.length x.co,.slice x.Ap 3 x.cp,.slice A1 S.length c1,.slice A2 tk.length c2],.row b1 51 36 (.slice A1 S.length c1) S.length (sns T S),.row b2 74 12 (.slice A2 tk.length c2) tk.length (sds tk)]
def RetLStep (T:Tm) (W:Wd) (x:Wv) (a:Ac) (key:ByteArray) (S:List Sn) (tk:List Sd) (gl b1 b2:Nat) (w0:World) (G:List Nat) (w:World) (e:Ending) (w':World):Prop :=
 ∃ (y:Wv) (A1:Option Addr) (c1:Nat) (A2:Option Addr) (c2:Nat),e = .returned (.bool true) ∧ y.Is w' T (doP T W a).1 ∧ Kw T w w' ∧ Mem w0 G w' (lifeL T (doP T W a).1 y (S ++ [⟨a,W,x,y,key,tk.length⟩]) (tkN T W a tk) gl b1 b2 A1 c1 A2 c2)
theorem step_facts {T:Tm} {W:Wd} {m m2 n:Nat} {a:Ac} (hT:T.Ok) (hW:W.Ok T m n) (hn:n ≤ 62) (ha:a.Ok) (hm:May W a) (hW2:(doP T W a).1.Ok T m2 (n + 1)) (h:(doP T W a).2.s.size ≠ 0) :
 2 ≤ a.k ∧ a.k ≤ 4 ∧ m2 = 3 ∧ ((doP T W a).1.B.getD a.me cu0).a.rev = (W.B.getD a.me cu0).a.rev + (if a.k = 4 then 1 else 0) ∧ (W.B.getD a.me cu0).a.rev ≤ 15:=by
 have hd:=hds_of ha h
 have h1:=hd.k1
 unfold May at hm
 rw [if_neg (by omega)] at hm
 have hc:=hW.cus
 have hc2:=hW2.cus
 have hme:=ha.me
 rw [hd.w] at hc2
 dsimp only at hc2
 rw [List.length_set] at hc2
 obtain rfl:m = 3:=by omega
 obtain ⟨_,_,_,hto⟩:=hd.told hT hW hn ha
 exact ⟨h1,hd.k2,by omega,hd.rev hW (by omega),hto.bd⟩
theorem lstep_ok (T:Tm) (hT:T.Ok) (W:Wd) (m n m2:Nat) (x:Wv) (a:Ac) (key:ByteArray) (S:List Sn) (tk:List Sd) (gl b1 b2:Nat) (A1:Option Addr) (c1:Nat) (A2:Option Addr) (c2:Nat) (w0 w:World) {G:List Nat}
 (hW:W.Ok T m n) (ha:a.Ok) (hn:n ≤ 61) (hm:May W a) (hW2:(doP T W a).1.Ok T m2 (n + 1)) (hx:x.Is w T W) (h8:T.tl.length ≤ 8) (hS:S.length ≤ 1000) (htk:tk.length ≤ 1000) (hb1:b1 ≤ w.heap.size) (hb2:b2 ≤ w.heap.size)
 (H0:Mem w0 G w (lifeL T W x S tk gl b1 b2 A1 c1 A2 c2)) :
 Calls Tryz.prog 22 #[.pointer (some ⟨gl,0,none⟩),.agg a.vs.toArray,.string key] w (RetLStep T W x a key S tk gl b1 b2 w0 G w):=by
 have hD:=fun U h => do_ok T hT W m n x a U hW ha (by omega) hm h h8
 unfold RetDo at hD
 have hF:=step_facts hT hW (by omega) ha hm hW2
 have hsn:∀ y,sns T (S ++ [⟨a,W,x,y,key,tk.length⟩]) = sns T S ++ Sn.vs T ⟨a,W,x,y,key,tk.length⟩:=fun y => by unfold sns;rw [List.flatMap_append];simp
 unfold Sn.vs at hsn
 dsimp only at hsn
 unfold RetLStep
 obtain ⟨tk2,htk2⟩:∃ tk2,tkN T W a tk = tk2:=⟨_,rfl⟩
 rw [htk2]
 unfold tkN tokOf at htk2
 have hk7:=ha.kind
 have hme2:=ha.me
 clear ha hm
 generalize doP T W a = D at hD hF hsn hW2 htk2 ⊢
 obtain ⟨k,me,A,B,C,s,cut⟩:=a
 obtain ⟨W2,E2,ad,st,⟨id,te,de,fe,pr,ch,un⟩,dead⟩:=D
 obtain ⟨ci,hci⟩:∃ ci,cutI cut = ci:=⟨_,rfl⟩
 dsimp only at hF htk2 hW2 hk7 hme2
 simp only [Wv.vs,Td.vs,Ac.vs,hci] at hD hsn
 unfold Ac.vs
 dsimp only
 rw [hci]
 have hT0:st.size = 0 → tk2 = tk:=fun h => by rw [← htk2,if_pos h]
 have hT1:st.size ≠ 0 → tk2 = tk ++ [⟨me,(W.B.getD me cu0).a.rev,st,⟨id,te,de,fe,pr,ch,un⟩,k,if k = 3 then A else B⟩]:=fun h => by rw [← htk2,if_neg h]
 clear htk2
 unfold lifeL at H0 ⊢
 have H:Mem (w0) G (w) [.blk (gl) 42 #[.slice x.At T.tl.length x.ct,.int .i64 ↑T.fx,.int .i64 ↑T.fb,.int .i64 ↑T.db,.int .i64 ↑T.al,.slice x.Ad W.c.length x.cd,.slice x.Ao W.lp.length x.co,.slice x.Ap 3 x.cp,.slice A1 S.length c1,.slice A2 tk.length c2],.row (b1) (51) (36) (.slice A1 S.length c1) (S.length) (sns T S),.row (b2) (74) (12) (.slice A2 tk.length c2) (tk.length) (sds tk)]:=H0
 clear H0
 replace H:=H.al w.heap.size #[.int .i64 ↑k,.int .i64 ↑me,.int .i64 ↑A,.int .i64 ↑B,.int .i64 ↑C,.string s,.int .i64 ci] (44) |>.gen
 simp only [List.cons_append,List.nil_append] at H
 obtain ⟨W0,hW0,H⟩:=H
 have hx0:x.Is W0 T W:=by rw [← hW0];exact hx.below (below_a1 w _)
 have hKw0:Kw T w W0:=by rw [← hW0];exact Kw.below (below_a1 w _)
 have hKw:=Lib.hid hKw0
 have hsz0:w.heap.size ≤ W0.heap.size:=by rw [← hW0];simp
 clear hKw0 hx
 obtain ⟨lflt,lf0,-,lf1,-,lf2,-,lf3,-,lf4,-,lf5,-,lf6,-,lf7,-,lf8,-,lf9,-⟩:=H.c10 0 rfl
 obtain ⟨ablt,ab0,-,ab1,-,ab2,-,ab3,-,ab4,-,ab5,-,ab6,-⟩:=H.c7 3 rfl
 obtain ⟨ne_lf_ab,ne_ab_lf⟩:=H.ne2 0 3 rfl rfl rfl
 go_enter Tryz.func22,Tryz.ntmps22
 go_upto_region 2 with fail
 clear hW0
 obtain ⟨LL,hLL⟩:∃ LL:List Chunk,[.blk (gl) 42 #[.slice x.At T.tl.length x.ct,.int .i64 ↑T.fx,.int .i64 ↑T.fb,.int .i64 ↑T.db,.int .i64 ↑T.al,.slice x.Ad W.c.length x.cd,.slice x.Ao W.lp.length x.co,.slice x.Ap 3 x.cp,.slice A1 S.length c1,.slice A2 tk.length c2],.row (b1) (51) (36) (.slice A1 S.length c1) (S.length) (sns T S),.row (b2) (74) (12) (.slice A2 tk.length c2) (tk.length) (sds tk),.blk (w.heap.size) 44 #[.int .i64 ↑k,.int .i64 ↑me,.int .i64 ↑A,.int .i64 ↑B,.int .i64 ↑C,.string s,.int .i64 ci]] = LL:=⟨_,rfl⟩
 rw [hLL] at H
 go_cut [8,9,10] (fun p0 p1 p2 wx => ∃ (ww td:Nat) (y:Wv),p0 = .pointer (some ⟨ww,0,none⟩) ∧ p1 = .pointer (some ⟨td,0,none⟩) ∧ p2 = .int .i64 0 ∧ y.Is wx T W2 ∧ Mem (w0) G wx (LL ++ (.blk ww 38 #[.slice y.At T.tl.length y.ct,.int .i64 ↑T.fx,.int .i64 ↑T.fb,.int .i64 ↑T.db,.int .i64 ↑T.al,.slice y.Ad W2.c.length y.cd,.slice y.Ao W2.lp.length y.co,.slice y.Ap 3 y.cp] :: .blk td 49 #[.int .i64 ↑E2,.int .i64 ↑ad,.string st,.int .i64 ↑id,.int .i64 ↑te,.int .i64 ↑de,.int .i64 ↑fe,.int .i64 ↑pr,.int .i64 ↑ch,.int .i64 ↑un,.bool dead] :: [])) ∧ Below W0.heap.size W0 wx)
 case first =>
  obtain ⟨Sd,hSd⟩:∃ Sd:World → Prop,Sd = fun w' => w'.cell? ⟨gl,0,none⟩ = some (.slice x.At T.tl.length x.ct) ∧ w'.cell? ⟨gl,1,none⟩ = some (.int .i64 ↑T.fx) ∧ w'.cell? ⟨gl,2,none⟩ = some (.int .i64 ↑T.fb) ∧ w'.cell? ⟨gl,3,none⟩ = some (.int .i64 ↑T.db) ∧ w'.cell? ⟨gl,4,none⟩ = some (.int .i64 ↑T.al) ∧ w'.cell? ⟨gl,5,none⟩ = some (.slice x.Ad W.c.length x.cd) ∧ w'.cell? ⟨gl,6,none⟩ = some (.slice x.Ao W.lp.length x.co) ∧ w'.cell? ⟨gl,7,none⟩ = some (.slice x.Ap 3 x.cp) ∧ w'.cell? ⟨gl,8,none⟩ = some (.slice A1 S.length c1) ∧ w'.cell? ⟨gl,9,none⟩ = some (.slice A2 tk.length c2) ∧ w'.cell? ⟨w.heap.size,0,none⟩ = some (.int .i64 ↑k) ∧ w'.cell? ⟨w.heap.size,1,none⟩ = some (.int .i64 ↑me) ∧ w'.cell? ⟨w.heap.size,2,none⟩ = some (.int .i64 ↑A) ∧ w'.cell? ⟨w.heap.size,3,none⟩ = some (.int .i64 ↑B) ∧ w'.cell? ⟨w.heap.size,4,none⟩ = some (.int .i64 ↑C) ∧ w'.cell? ⟨w.heap.size,5,none⟩ = some (.string s) ∧ w'.cell? ⟨w.heap.size,6,none⟩ = some (.int .i64 ci):=⟨_,rfl⟩
  have hSk:∀ we,Below W0.heap.size W0 we → Sd we:=fun we hWe => by rw [hSd];exact ⟨(hWe.cell lflt).trans lf0,(hWe.cell lflt).trans lf1,(hWe.cell lflt).trans lf2,(hWe.cell lflt).trans lf3,(hWe.cell lflt).trans lf4,(hWe.cell lflt).trans lf5,(hWe.cell lflt).trans lf6,(hWe.cell lflt).trans lf7,(hWe.cell lflt).trans lf8,(hWe.cell lflt).trans lf9,(hWe.cell ablt).trans ab0,(hWe.cell ablt).trans ab1,(hWe.cell ablt).trans ab2,(hWe.cell ablt).trans ab3,(hWe.cell ablt).trans ab4,(hWe.cell ablt).trans ab5,(hWe.cell ablt).trans ab6⟩
  have nz0a:W0.heap.size ≠ gl:=by have:=lflt;omega
  have nz0b:W0.heap.size + 1 ≠ gl:=by have:=lflt;omega
  have nz0c:gl ≠ W0.heap.size:=by have:=lflt;omega
  have nz0d:gl ≠ W0.heap.size + 1:=by have:=lflt;omega
  have nz1a:W0.heap.size ≠ w.heap.size:=by have:=ablt;omega
  have nz1b:W0.heap.size + 1 ≠ w.heap.size:=by have:=ablt;omega
  have nz1c:w.heap.size ≠ W0.heap.size:=by have:=ablt;omega
  have nz1d:w.heap.size ≠ W0.heap.size + 1:=by have:=ablt;omega
  have V0:Mem W0 [] (W0).drew []:=(Mem.init W0).drew
  have B0:=V0.below
  have V1:Mem W0 [] (W0.alloc (.cells #[.slice none 0 0,.int .i64 0,.int .i64 0,.int .i64 0,.int .i64 0,.slice none 0 0,.slice none 0 0,.slice none 0 0] 38)).drew [.blk (W0.heap.size) 38 #[.slice none 0 0,.int .i64 0,.int .i64 0,.int .i64 0,.int .i64 0,.slice none 0 0,.slice none 0 0,.slice none 0 0]]:=((Mem.init W0).alloc _ rfl #[.slice none 0 0,.int .i64 0,.int .i64 0,.int .i64 0,.int .i64 0,.slice none 0 0,.slice none 0 0,.slice none 0 0] 38).drew
  have B1:=V1.below
  have V1b0:=V1.blk 0 rfl
  have V2:Mem W0 [] (W0.alloc (.cells #[.int .i64 0,.int .i64 0,.string ⟨#[]⟩,.int .i64 0,.int .i64 0,.int .i64 0,.int .i64 0,.int .i64 0,.int .i64 0,.int .i64 0,.bool false] 49)).drew [.blk (W0.heap.size) 49 #[.int .i64 0,.int .i64 0,.string ⟨#[]⟩,.int .i64 0,.int .i64 0,.int .i64 0,.int .i64 0,.int .i64 0,.int .i64 0,.int .i64 0,.bool false]]:=((Mem.init W0).alloc _ rfl #[.int .i64 0,.int .i64 0,.string ⟨#[]⟩,.int .i64 0,.int .i64 0,.int .i64 0,.int .i64 0,.int .i64 0,.int .i64 0,.int .i64 0,.bool false] 49).drew
  have B2:=V2.below
  have V2b1:=V2.blk 0 rfl
  have V3:Mem W0 [] ((W0.alloc (.cells #[.slice none 0 0,.int .i64 0,.int .i64 0,.int .i64 0,.int .i64 0,.slice none 0 0,.slice none 0 0,.slice none 0 0] 38)).alloc (.cells #[.int .i64 0,.int .i64 0,.string ⟨#[]⟩,.int .i64 0,.int .i64 0,.int .i64 0,.int .i64 0,.int .i64 0,.int .i64 0,.int .i64 0,.bool false] 49)).drew [.blk (W0.heap.size) 38 #[.slice none 0 0,.int .i64 0,.int .i64 0,.int .i64 0,.int .i64 0,.slice none 0 0,.slice none 0 0,.slice none 0 0],.blk (W0.heap.size + 1) 49 #[.int .i64 0,.int .i64 0,.string ⟨#[]⟩,.int .i64 0,.int .i64 0,.int .i64 0,.int .i64 0,.int .i64 0,.int .i64 0,.int .i64 0,.bool false]]:=(((Mem.init W0).alloc _ rfl #[.slice none 0 0,.int .i64 0,.int .i64 0,.int .i64 0,.int .i64 0,.slice none 0 0,.slice none 0 0,.slice none 0 0] 38).alloc (W0.heap.size + 1) (by simp) #[.int .i64 0,.int .i64 0,.string ⟨#[]⟩,.int .i64 0,.int .i64 0,.int .i64 0,.int .i64 0,.int .i64 0,.int .i64 0,.int .i64 0,.bool false] 49).drew
  have B3:=V3.below
  have V3b0:=V3.blk 0 rfl
  have V3b1:=V3.blk 1 rfl
  have V4:Mem W0 [] ((W0.alloc (.cells #[.int .i64 0,.int .i64 0,.string ⟨#[]⟩,.int .i64 0,.int .i64 0,.int .i64 0,.int .i64 0,.int .i64 0,.int .i64 0,.int .i64 0,.bool false] 49)).alloc (.cells #[.slice none 0 0,.int .i64 0,.int .i64 0,.int .i64 0,.int .i64 0,.slice none 0 0,.slice none 0 0,.slice none 0 0] 38)).drew [.blk (W0.heap.size + 1) 38 #[.slice none 0 0,.int .i64 0,.int .i64 0,.int .i64 0,.int .i64 0,.slice none 0 0,.slice none 0 0,.slice none 0 0],.blk (W0.heap.size) 49 #[.int .i64 0,.int .i64 0,.string ⟨#[]⟩,.int .i64 0,.int .i64 0,.int .i64 0,.int .i64 0,.int .i64 0,.int .i64 0,.int .i64 0,.bool false]]:=Mem.perm (List.Perm.swap _ _ _) (((Mem.init W0).alloc _ rfl #[.int .i64 0,.int .i64 0,.string ⟨#[]⟩,.int .i64 0,.int .i64 0,.int .i64 0,.int .i64 0,.int .i64 0,.int .i64 0,.int .i64 0,.bool false] 49).alloc (W0.heap.size + 1) (by simp) #[.slice none 0 0,.int .i64 0,.int .i64 0,.int .i64 0,.int .i64 0,.slice none 0 0,.slice none 0 0,.slice none 0 0] 38).drew
  have B4:=V4.below
  have V4b0:=V4.blk 0 rfl
  have V4b1:=V4.blk 1 rfl
  go_region_held3 (fun w' => w'.cell? ⟨gl,0,none⟩ = some (.slice x.At T.tl.length x.ct) ∧ w'.cell? ⟨gl,1,none⟩ = some (.int .i64 ↑T.fx) ∧ w'.cell? ⟨gl,2,none⟩ = some (.int .i64 ↑T.fb) ∧ w'.cell? ⟨gl,3,none⟩ = some (.int .i64 ↑T.db) ∧ w'.cell? ⟨gl,4,none⟩ = some (.int .i64 ↑T.al) ∧ w'.cell? ⟨gl,5,none⟩ = some (.slice x.Ad W.c.length x.cd) ∧ w'.cell? ⟨gl,6,none⟩ = some (.slice x.Ao W.lp.length x.co) ∧ w'.cell? ⟨gl,7,none⟩ = some (.slice x.Ap 3 x.cp) ∧ w'.cell? ⟨gl,8,none⟩ = some (.slice A1 S.length c1) ∧ w'.cell? ⟨gl,9,none⟩ = some (.slice A2 tk.length c2) ∧ w'.cell? ⟨w.heap.size,0,none⟩ = some (.int .i64 ↑k) ∧ w'.cell? ⟨w.heap.size,1,none⟩ = some (.int .i64 ↑me) ∧ w'.cell? ⟨w.heap.size,2,none⟩ = some (.int .i64 ↑A) ∧ w'.cell? ⟨w.heap.size,3,none⟩ = some (.int .i64 ↑B) ∧ w'.cell? ⟨w.heap.size,4,none⟩ = some (.int .i64 ↑C) ∧ w'.cell? ⟨w.heap.size,5,none⟩ = some (.string s) ∧ w'.cell? ⟨w.heap.size,6,none⟩ = some (.int .i64 ci)) (first | with_reducible exact ⟨s0,s1,s2,s3,s4,s5,s6,s7,s8,s9,s10,s11,s12,s13,s14,s15,s16⟩ | go_keep | fail) (first | (go_at_call 15;(with_reducible refine (hD (W0).drew (hx0.below B0)).mono ?_);rintro e we ⟨y,rfl,hy,hbe⟩;have hV:=V0;have hK:Mem (W0).drew [] we []:=(Mem.init _).call hbe;have hWe:Below W0.heap.size W0 we:=B0.trans (hbe.mono B0.size);have q:=hSk _ hWe;rw [hSd] at q;obtain ⟨s0,s1,s2,s3,s4,s5,s6,s7,s8,s9,s10,s11,s12,s13,s14,s15,s16⟩:=q;have sz:=hWe.size;have ez0a:we.heap.size ≠ gl:=(by have:=lflt;omega);have ez0b:we.heap.size + 1 ≠ gl:=(by have:=lflt;omega);have ez1a:we.heap.size ≠ w.heap.size:=(by have:=ablt;omega);have ez1b:we.heap.size + 1 ≠ w.heap.size:=(by have:=ablt;omega)) | (go_at_call 15;(with_reducible refine (hD (W0.alloc (.cells #[.slice none 0 0,.int .i64 0,.int .i64 0,.int .i64 0,.int .i64 0,.slice none 0 0,.slice none 0 0,.slice none 0 0] 38)).drew (hx0.below B1)).mono ?_);rintro e we ⟨y,rfl,hy,hbe⟩;have hV:=V1;have hK:Mem (W0.alloc (.cells #[.slice none 0 0,.int .i64 0,.int .i64 0,.int .i64 0,.int .i64 0,.slice none 0 0,.slice none 0 0,.slice none 0 0] 38)).drew [] we []:=(Mem.init _).call hbe;have hWe:Below W0.heap.size W0 we:=B1.trans (hbe.mono B1.size);have q:=hSk _ hWe;rw [hSd] at q;obtain ⟨s0,s1,s2,s3,s4,s5,s6,s7,s8,s9,s10,s11,s12,s13,s14,s15,s16⟩:=q;have sz:=hWe.size;have ez0a:we.heap.size ≠ gl:=(by have:=lflt;omega);have ez0b:we.heap.size + 1 ≠ gl:=(by have:=lflt;omega);have ez1a:we.heap.size ≠ w.heap.size:=(by have:=ablt;omega);have ez1b:we.heap.size + 1 ≠ w.heap.size:=(by have:=ablt;omega);have zb0:=Blk.below V1b0 hbe V1b0.lt;obtain ⟨zb0lt,zb0_0,zb0f0,zb0_1,zb0f1,zb0_2,zb0f2,zb0_3,zb0f3,zb0_4,zb0f4,zb0_5,zb0f5,zb0_6,zb0f6,zb0_7,zb0f7⟩:=(V1.call hbe).c8 0 rfl) | (go_at_call 15;(with_reducible refine (hD (W0.alloc (.cells #[.int .i64 0,.int .i64 0,.string ⟨#[]⟩,.int .i64 0,.int .i64 0,.int .i64 0,.int .i64 0,.int .i64 0,.int .i64 0,.int .i64 0,.bool false] 49)).drew (hx0.below B2)).mono ?_);rintro e we ⟨y,rfl,hy,hbe⟩;have hV:=V2;have hK:Mem (W0.alloc (.cells #[.int .i64 0,.int .i64 0,.string ⟨#[]⟩,.int .i64 0,.int .i64 0,.int .i64 0,.int .i64 0,.int .i64 0,.int .i64 0,.int .i64 0,.bool false] 49)).drew [] we []:=(Mem.init _).call hbe;have hWe:Below W0.heap.size W0 we:=B2.trans (hbe.mono B2.size);have q:=hSk _ hWe;rw [hSd] at q;obtain ⟨s0,s1,s2,s3,s4,s5,s6,s7,s8,s9,s10,s11,s12,s13,s14,s15,s16⟩:=q;have sz:=hWe.size;have ez0a:we.heap.size ≠ gl:=(by have:=lflt;omega);have ez0b:we.heap.size + 1 ≠ gl:=(by have:=lflt;omega);have ez1a:we.heap.size ≠ w.heap.size:=(by have:=ablt;omega);have ez1b:we.heap.size + 1 ≠ w.heap.size:=(by have:=ablt;omega);have zb1:=Blk.below V2b1 hbe V2b1.lt;obtain ⟨zb1lt,zb1_0,zb1f0,zb1_1,zb1f1,zb1_2,zb1f2,zb1_3,zb1f3,zb1_4,zb1f4,zb1_5,zb1f5,zb1_6,zb1f6,zb1_7,zb1f7,zb1_8,zb1f8,zb1_9,zb1f9,zb1_10,zb1f10⟩:=(V2.call hbe).c11 0 rfl) | (go_at_call 15;(with_reducible refine (hD ((W0.alloc (.cells #[.slice none 0 0,.int .i64 0,.int .i64 0,.int .i64 0,.int .i64 0,.slice none 0 0,.slice none 0 0,.slice none 0 0] 38)).alloc (.cells #[.int .i64 0,.int .i64 0,.string ⟨#[]⟩,.int .i64 0,.int .i64 0,.int .i64 0,.int .i64 0,.int .i64 0,.int .i64 0,.int .i64 0,.bool false] 49)).drew (hx0.below B3)).mono ?_);rintro e we ⟨y,rfl,hy,hbe⟩;have hV:=V3;have hK:Mem ((W0.alloc (.cells #[.slice none 0 0,.int .i64 0,.int .i64 0,.int .i64 0,.int .i64 0,.slice none 0 0,.slice none 0 0,.slice none 0 0] 38)).alloc (.cells #[.int .i64 0,.int .i64 0,.string ⟨#[]⟩,.int .i64 0,.int .i64 0,.int .i64 0,.int .i64 0,.int .i64 0,.int .i64 0,.int .i64 0,.bool false] 49)).drew [] we []:=(Mem.init _).call hbe;have hWe:Below W0.heap.size W0 we:=B3.trans (hbe.mono B3.size);have q:=hSk _ hWe;rw [hSd] at q;obtain ⟨s0,s1,s2,s3,s4,s5,s6,s7,s8,s9,s10,s11,s12,s13,s14,s15,s16⟩:=q;have sz:=hWe.size;have ez0a:we.heap.size ≠ gl:=(by have:=lflt;omega);have ez0b:we.heap.size + 1 ≠ gl:=(by have:=lflt;omega);have ez1a:we.heap.size ≠ w.heap.size:=(by have:=ablt;omega);have ez1b:we.heap.size + 1 ≠ w.heap.size:=(by have:=ablt;omega);have zb0:=Blk.below V3b0 hbe V3b0.lt;obtain ⟨zb0lt,zb0_0,zb0f0,zb0_1,zb0f1,zb0_2,zb0f2,zb0_3,zb0f3,zb0_4,zb0f4,zb0_5,zb0f5,zb0_6,zb0f6,zb0_7,zb0f7⟩:=(V3.call hbe).c8 0 rfl;have zb1:=Blk.below V3b1 hbe V3b1.lt;obtain ⟨zb1lt,zb1_0,zb1f0,zb1_1,zb1f1,zb1_2,zb1f2,zb1_3,zb1f3,zb1_4,zb1f4,zb1_5,zb1f5,zb1_6,zb1f6,zb1_7,zb1f7,zb1_8,zb1f8,zb1_9,zb1f9,zb1_10,zb1f10⟩:=(V3.call hbe).c11 1 rfl;have zn1:W0.heap.size ≠ W0.heap.size + 1:=(by omega);have zn2:W0.heap.size + 1 ≠ W0.heap.size:=(by omega)) | (go_at_call 15;(with_reducible refine (hD ((W0.alloc (.cells #[.int .i64 0,.int .i64 0,.string ⟨#[]⟩,.int .i64 0,.int .i64 0,.int .i64 0,.int .i64 0,.int .i64 0,.int .i64 0,.int .i64 0,.bool false] 49)).alloc (.cells #[.slice none 0 0,.int .i64 0,.int .i64 0,.int .i64 0,.int .i64 0,.slice none 0 0,.slice none 0 0,.slice none 0 0] 38)).drew (hx0.below B4)).mono ?_);rintro e we ⟨y,rfl,hy,hbe⟩;have hV:=V4;have hK:Mem ((W0.alloc (.cells #[.int .i64 0,.int .i64 0,.string ⟨#[]⟩,.int .i64 0,.int .i64 0,.int .i64 0,.int .i64 0,.int .i64 0,.int .i64 0,.int .i64 0,.bool false] 49)).alloc (.cells #[.slice none 0 0,.int .i64 0,.int .i64 0,.int .i64 0,.int .i64 0,.slice none 0 0,.slice none 0 0,.slice none 0 0] 38)).drew [] we []:=(Mem.init _).call hbe;have hWe:Below W0.heap.size W0 we:=B4.trans (hbe.mono B4.size);have q:=hSk _ hWe;rw [hSd] at q;obtain ⟨s0,s1,s2,s3,s4,s5,s6,s7,s8,s9,s10,s11,s12,s13,s14,s15,s16⟩:=q;have sz:=hWe.size;have ez0a:we.heap.size ≠ gl:=(by have:=lflt;omega);have ez0b:we.heap.size + 1 ≠ gl:=(by have:=lflt;omega);have ez1a:we.heap.size ≠ w.heap.size:=(by have:=ablt;omega);have ez1b:we.heap.size + 1 ≠ w.heap.size:=(by have:=ablt;omega);have zb0:=Blk.below V4b0 hbe V4b0.lt;obtain ⟨zb0lt,zb0_0,zb0f0,zb0_1,zb0f1,zb0_2,zb0f2,zb0_3,zb0f3,zb0_4,zb0f4,zb0_5,zb0f5,zb0_6,zb0f6,zb0_7,zb0f7⟩:=(V4.call hbe).c8 0 rfl;have zb1:=Blk.below V4b1 hbe V4b1.lt;obtain ⟨zb1lt,zb1_0,zb1f0,zb1_1,zb1f1,zb1_2,zb1f2,zb1_3,zb1f3,zb1_4,zb1f4,zb1_5,zb1f5,zb1_6,zb1f6,zb1_7,zb1f7,zb1_8,zb1f8,zb1_9,zb1f9,zb1_10,zb1f10⟩:=(V4.call hbe).c11 1 rfl;have zn1:W0.heap.size + 1 ≠ W0.heap.size:=(by omega);have zn2:W0.heap.size ≠ W0.heap.size + 1:=(by omega)))
  all_goals
   go_wp2_with fail
   go_meet
   refine ⟨_,_,y,rfl,rfl,rfl,(Kb.kw T (by (repeat (first | with_reducible exact Kb.refl _ | with_reducible refine Kb.drew ?_ | with_reducible refine Kb.alloc ?_ _ | with_reducible refine Kb.set ?_ ?_ _));all_goals (first | exact now_blk zb0 (by unfold NoWd;decide) | exact now_blk zb1 (by unfold NoWd;decide) | exact now_ge (by simp;done) | exact now_ge (by simp;omega))) _ _ hy),?_⟩
   first
   | with_reducible exact ⟨cr2_a H hV hK,(cr2_a (Mem.init W0) hV hK).below⟩
   | with_reducible exact ⟨cr2_b H hV hK,(cr2_b (Mem.init W0) hV hK).below⟩
   | (have h:=cr2_c (c1:=#[.slice y.At T.tl.length y.ct,.int .i64 ↑T.fx,.int .i64 ↑T.fb,.int .i64 ↑T.db,.int .i64 ↑T.al,.slice y.Ad W2.c.length y.cd,.slice y.Ao W2.lp.length y.co,.slice y.Ap 3 y.cp]) (c2:=#[.int .i64 ↑E2,.int .i64 ↑ad,.string st,.int .i64 ↑id,.int .i64 ↑te,.int .i64 ↑de,.int .i64 ↑fe,.int .i64 ↑pr,.int .i64 ↑ch,.int .i64 ↑un,.bool dead]) (t1:=38) (t2:=49) (Mem.init W0) hV hK [(0,.slice y.At T.tl.length y.ct),(1,.int .i64 ↑T.fx),(2,.int .i64 ↑T.fb),(3,.int .i64 ↑T.db),(4,.int .i64 ↑T.al),(5,.slice y.Ad W2.c.length y.cd),(6,.slice y.Ao W2.lp.length y.co),(7,.slice y.Ap 3 y.cp)] (by simp only [List.foldl_cons,List.foldl_nil,List.setIfInBounds_toArray,List.set_cons_zero,List.set_cons_succ])
      simp only [sets,List.foldl_cons,List.foldl_nil,List.nil_append] at h
      with_reducible exact ⟨H.join h,h.below⟩)
   | (have h:=cr2_d (c1:=#[.slice y.At T.tl.length y.ct,.int .i64 ↑T.fx,.int .i64 ↑T.fb,.int .i64 ↑T.db,.int .i64 ↑T.al,.slice y.Ad W2.c.length y.cd,.slice y.Ao W2.lp.length y.co,.slice y.Ap 3 y.cp]) (c2:=#[.int .i64 ↑E2,.int .i64 ↑ad,.string st,.int .i64 ↑id,.int .i64 ↑te,.int .i64 ↑de,.int .i64 ↑fe,.int .i64 ↑pr,.int .i64 ↑ch,.int .i64 ↑un,.bool dead]) (t1:=38) (t2:=49) (Mem.init W0) hV hK [(0,.int .i64 ↑E2),(1,.int .i64 ↑ad),(2,.string st),(3,.int .i64 ↑id),(4,.int .i64 ↑te),(5,.int .i64 ↑de),(6,.int .i64 ↑fe),(7,.int .i64 ↑pr),(8,.int .i64 ↑ch),(9,.int .i64 ↑un),(10,.bool dead)] (by simp only [List.foldl_cons,List.foldl_nil,List.setIfInBounds_toArray,List.set_cons_zero,List.set_cons_succ])
      simp only [sets,List.foldl_cons,List.foldl_nil,List.nil_append] at h
      with_reducible exact ⟨H.join h,h.below⟩)
   | (have h:=cr2_e (c1:=#[.slice y.At T.tl.length y.ct,.int .i64 ↑T.fx,.int .i64 ↑T.fb,.int .i64 ↑T.db,.int .i64 ↑T.al,.slice y.Ad W2.c.length y.cd,.slice y.Ao W2.lp.length y.co,.slice y.Ap 3 y.cp]) (c2:=#[.int .i64 ↑E2,.int .i64 ↑ad,.string st,.int .i64 ↑id,.int .i64 ↑te,.int .i64 ↑de,.int .i64 ↑fe,.int .i64 ↑pr,.int .i64 ↑ch,.int .i64 ↑un,.bool dead]) (t1:=38) (t2:=49) (Mem.init W0) hV hK [(0,.slice y.At T.tl.length y.ct),(1,.int .i64 ↑T.fx),(2,.int .i64 ↑T.fb),(3,.int .i64 ↑T.db),(4,.int .i64 ↑T.al),(5,.slice y.Ad W2.c.length y.cd),(6,.slice y.Ao W2.lp.length y.co),(7,.slice y.Ap 3 y.cp)] [(0,.int .i64 ↑E2),(1,.int .i64 ↑ad),(2,.string st),(3,.int .i64 ↑id),(4,.int .i64 ↑te),(5,.int .i64 ↑de),(6,.int .i64 ↑fe),(7,.int .i64 ↑pr),(8,.int .i64 ↑ch),(9,.int .i64 ↑un),(10,.bool dead)] (by simp only [List.foldl_cons,List.foldl_nil,List.setIfInBounds_toArray,List.set_cons_zero,List.set_cons_succ]) (by simp only [List.foldl_cons,List.foldl_nil,List.setIfInBounds_toArray,List.set_cons_zero,List.set_cons_succ])
      simp only [sets,List.foldl_cons,List.foldl_nil,List.nil_append] at h
      with_reducible exact ⟨H.join h,h.below⟩)
   | (have h:=cr2_f (c1:=#[.slice y.At T.tl.length y.ct,.int .i64 ↑T.fx,.int .i64 ↑T.fb,.int .i64 ↑T.db,.int .i64 ↑T.al,.slice y.Ad W2.c.length y.cd,.slice y.Ao W2.lp.length y.co,.slice y.Ap 3 y.cp]) (c2:=#[.int .i64 ↑E2,.int .i64 ↑ad,.string st,.int .i64 ↑id,.int .i64 ↑te,.int .i64 ↑de,.int .i64 ↑fe,.int .i64 ↑pr,.int .i64 ↑ch,.int .i64 ↑un,.bool dead]) (t1:=38) (t2:=49) (Mem.init W0) hV hK [(0,.slice y.At T.tl.length y.ct),(1,.int .i64 ↑T.fx),(2,.int .i64 ↑T.fb),(3,.int .i64 ↑T.db),(4,.int .i64 ↑T.al),(5,.slice y.Ad W2.c.length y.cd),(6,.slice y.Ao W2.lp.length y.co),(7,.slice y.Ap 3 y.cp)] [(0,.int .i64 ↑E2),(1,.int .i64 ↑ad),(2,.string st),(3,.int .i64 ↑id),(4,.int .i64 ↑te),(5,.int .i64 ↑de),(6,.int .i64 ↑fe),(7,.int .i64 ↑pr),(8,.int .i64 ↑ch),(9,.int .i64 ↑un),(10,.bool dead)] (by simp only [List.foldl_cons,List.foldl_nil,List.setIfInBounds_toArray,List.set_cons_zero,List.set_cons_succ]) (by simp only [List.foldl_cons,List.foldl_nil,List.setIfInBounds_toArray,List.set_cons_zero,List.set_cons_succ])
      simp only [sets,List.foldl_cons,List.foldl_nil,List.nil_append] at h
      with_reducible exact ⟨H.join h,h.below⟩)
 case rest =>
  obtain ⟨ww,td,y,rfl,rfl,rfl,hyc,H,hCR⟩:=hcut
  subst hLL
  replace H:Mem (w0) G (wc) [.blk (gl) 42 #[.slice x.At T.tl.length x.ct,.int .i64 ↑T.fx,.int .i64 ↑T.fb,.int .i64 ↑T.db,.int .i64 ↑T.al,.slice x.Ad W.c.length x.cd,.slice x.Ao W.lp.length x.co,.slice x.Ap 3 x.cp,.slice A1 S.length c1,.slice A2 tk.length c2],.row (b1) (51) (36) (.slice A1 S.length c1) (S.length) (sns T S),.row (b2) (74) (12) (.slice A2 tk.length c2) (tk.length) (sds tk),.blk (w.heap.size) 44 #[.int .i64 ↑k,.int .i64 ↑me,.int .i64 ↑A,.int .i64 ↑B,.int .i64 ↑C,.string s,.int .i64 ci],.blk (ww) 38 #[.slice y.At T.tl.length y.ct,.int .i64 ↑T.fx,.int .i64 ↑T.fb,.int .i64 ↑T.db,.int .i64 ↑T.al,.slice y.Ad W2.c.length y.cd,.slice y.Ao W2.lp.length y.co,.slice y.Ap 3 y.cp],.blk (td) 49 #[.int .i64 ↑E2,.int .i64 ↑ad,.string st,.int .i64 ↑id,.int .i64 ↑te,.int .i64 ↑de,.int .i64 ↑fe,.int .i64 ↑pr,.int .i64 ↑ch,.int .i64 ↑un,.bool dead]]:=H
  have hsz:w.heap.size ≤ wc.heap.size:=Nat.le_trans hsz0 hCR.size
  have hx1:=hx0.below hCR
  have hKw1:=Lib.hid (hKw.out.trans (Kw.below hCR))
  clear hx0 hKw hD hCR hsz0
  have HR:=H.rebase2 (by intro c hc;simp only [List.mem_cons,List.not_mem_nil,or_false] at hc;rcases hc with rfl | rfl | rfl | rfl | rfl | rfl <;> (show NoWd _;unfold NoWd;decide))
  clear H
  obtain ⟨Gs,HG,hun⟩:=HR
  have HU:=Lib.hid hun
  clear hun
  have H:Mem (wc) Gs (wc) [.blk (gl) 42 #[.slice x.At T.tl.length x.ct,.int .i64 ↑T.fx,.int .i64 ↑T.fb,.int .i64 ↑T.db,.int .i64 ↑T.al,.slice x.Ad W.c.length x.cd,.slice x.Ao W.lp.length x.co,.slice x.Ap 3 x.cp,.slice A1 S.length c1,.slice A2 tk.length c2],.row (b1) (51) (36) (.slice A1 S.length c1) (S.length) (sns T S),.row (b2) (74) (12) (.slice A2 tk.length c2) (tk.length) (sds tk),.blk (w.heap.size) 44 #[.int .i64 ↑k,.int .i64 ↑me,.int .i64 ↑A,.int .i64 ↑B,.int .i64 ↑C,.string s,.int .i64 ci],.blk (ww) 38 #[.slice y.At T.tl.length y.ct,.int .i64 ↑T.fx,.int .i64 ↑T.fb,.int .i64 ↑T.db,.int .i64 ↑T.al,.slice y.Ad W2.c.length y.cd,.slice y.Ao W2.lp.length y.co,.slice y.Ap 3 y.cp],.blk (td) 49 #[.int .i64 ↑E2,.int .i64 ↑ad,.string st,.int .i64 ↑id,.int .i64 ↑te,.int .i64 ↑de,.int .i64 ↑fe,.int .i64 ↑pr,.int .i64 ↑ch,.int .i64 ↑un,.bool dead]]:=HG
  clear HG
  have hd0:=hW2.len
  have hd1:(W2.c.length:Int) = 900:=by omega
  clear hd0
  clear lflt lf0 lf1 lf2 lf3 lf4 lf5 lf6 lf7 lf8 lf9 ablt ab0 ab1 ab2 ab3 ab4 ab5 ab6 ne_lf_ab ne_ab_lf
  have Lww:=H.c8 4 rfl
  have Ltd:=H.c11 5 rfl
  have Nwwtd:=H.ne2 4 5 rfl rfl rfl
  go_upto_if 47 with fail
  clear hd1
  obtain ⟨wb,hwb⟩:∃ wb,wb = wc:=⟨_,rfl⟩
  subst hwb
  go_cut [] (fun wx => ∃ (A4:Option Addr) (c4:Nat),Mem wb Gs wx [.blk (gl) 42 #[.slice x.At T.tl.length x.ct,.int .i64 ↑T.fx,.int .i64 ↑T.fb,.int .i64 ↑T.db,.int .i64 ↑T.al,.slice x.Ad W.c.length x.cd,.slice x.Ao W.lp.length x.co,.slice x.Ap 3 x.cp,.slice A1 S.length c1,.slice A4 tk2.length c4],.row (b1) (51) (36) (.slice A1 S.length c1) (S.length) (sns T S),.row (b2) (74) (12) (.slice A4 tk2.length c4) (tk2.length) (sds tk2),.blk (w.heap.size) 44 #[.int .i64 ↑k,.int .i64 ↑me,.int .i64 ↑A,.int .i64 ↑B,.int .i64 ↑C,.string s,.int .i64 ci],.blk (ww) 38 #[.slice y.At T.tl.length y.ct,.int .i64 ↑T.fx,.int .i64 ↑T.fb,.int .i64 ↑T.db,.int .i64 ↑T.al,.slice y.Ad W2.c.length y.cd,.slice y.Ao W2.lp.length y.co,.slice y.Ap 3 y.cp],.blk (td) 49 #[.int .i64 ↑E2,.int .i64 ↑ad,.string st,.int .i64 ↑id,.int .i64 ↑te,.int .i64 ↑de,.int .i64 ↑fe,.int .i64 ↑pr,.int .i64 ↑ch,.int .i64 ↑un,.bool dead]])
  case first =>
   by_cases h0:st.size = 0
   ·obtain rfl:=hT0 h0
    have hte:=ba_empty h0
    simp only [hte,Bool.not_true]
    go_wp2_with fail
    go_meet
    exact ⟨A2,c2,H⟩
   ·have hte:=ba_full h0
    obtain ⟨f1,f2,rfl,f4,f5⟩:=hF h0
    have e1:=hT1 h0
    simp only [hte,Bool.not_false]
    clear hte hF hT0 hT1
    have hL:=fun U h1 h2 => load_ok T hT y.At T.tl.length y.ct (.slice y.Ad W2.c.length y.cd) W2.c W2.L W2.B U h1 h2 hW2.srv
    go_wp2_with fail
    refine (hL _ hyc.terms (hyc.disk hW2)).mono ?_
    rintro e w3 ⟨v,rfl,hbk,hb3⟩
    obtain ⟨Ab,nb,cb,rfl⟩:=hbk.slice
    obtain rfl:nb = 3:=hbk.is.len.trans hW2.cus
    have hcu:=hW2.cus
    obtain ⟨bb,bo,rfl⟩:∃ bb bo,Ab = some ⟨bb,bo,none⟩:=by
     obtain ⟨b,o,_,_,_,_,h,_⟩:=hbk.is.at_ (k:=0) (by omega)
     exact ⟨b,o,h⟩
    replace H:=Mem.call H hb3
    clear Lww Ltd Nwwtd
    have Lab:=H.c7 3 rfl
    have Ltd:=H.c11 5 rfl
    have Nabtd:=H.ne2 3 5 rfl rfl rfl
    clear hL hb3
    go_wp2_with fail
    have hbk4:=hbk.below (below_a1 w3 (.cells #[.slice (some ⟨bb,bo,none⟩) 3 cb] 56))
    replace H:=H.al w3.heap.size #[.slice (some ⟨bb,bo,none⟩) 3 cb] (56) |>.gen
    simp only [List.cons_append,List.nil_append] at H
    obtain ⟨w4,hw4,H⟩:=H
    rw [hw4]
    rw [hw4] at hbk4
    clear hw4 hbk
    obtain ⟨R2,hR2⟩:∃ R2,(W2.B.getD me cu0).a.rev = R2:=⟨_,rfl⟩
    obtain ⟨R,hR⟩:∃ R,(W.B.getD me cu0).a.rev = R:=⟨_,rfl⟩
    rw [hR2,hR] at f4
    rw [hR] at f5 e1
    have HF:=Lib.hid (And.intro f4 (And.intro f5 (And.intro e1 hcu)))
    clear f4 f5 e1 hcu
    clear Lab Ltd Nabtd
    go_loopw [13,14] (fun rv i wr => ∃ (j q:Nat),j ≤ 3 ∧ i = .int .i64 ↑j ∧ rv = .int .i64 ↑q ∧ Hid (q = if me < j then R2 else 0) ∧ Below w4.heap.size w4 wr ∧ Mem wb Gs wr [.blk (gl) 42 #[.slice x.At T.tl.length x.ct,.int .i64 ↑T.fx,.int .i64 ↑T.fb,.int .i64 ↑T.db,.int .i64 ↑T.al,.slice x.Ad W.c.length x.cd,.slice x.Ao W.lp.length x.co,.slice x.Ap 3 x.cp,.slice A1 S.length c1,.slice A2 tk.length c2],.row (b1) (51) (36) (.slice A1 S.length c1) (S.length) (sns T S),.row (b2) (74) (12) (.slice A2 tk.length c2) (tk.length) (sds tk),.blk (w.heap.size) 44 #[.int .i64 ↑k,.int .i64 ↑me,.int .i64 ↑A,.int .i64 ↑B,.int .i64 ↑C,.string s,.int .i64 ci],.blk (ww) 38 #[.slice y.At T.tl.length y.ct,.int .i64 ↑T.fx,.int .i64 ↑T.fb,.int .i64 ↑T.db,.int .i64 ↑T.al,.slice y.Ad W2.c.length y.cd,.slice y.Ao W2.lp.length y.co,.slice y.Ap 3 y.cp],.blk (td) 49 #[.int .i64 ↑E2,.int .i64 ↑ad,.string st,.int .i64 ↑id,.int .i64 ↑te,.int .i64 ↑de,.int .i64 ↑fe,.int .i64 ↑pr,.int .i64 ↑ch,.int .i64 ↑un,.bool dead],.blk (w3.heap.size) 56 #[.slice (some ⟨bb,bo,none⟩) 3 cb]]) (fun _ i _ => 3 - (intOf i).toNat)
    case atStart => exact ⟨0,0,by omega,rfl,rfl,Lib.hid (by simp),Below.refl _ _,H⟩
    case round =>
     obtain ⟨j,q,hj,rfl,rfl,hq,hbr,HM⟩:=hrel
     clear H
     have H:Mem (wb) Gs (wr) [.blk (gl) 42 #[.slice x.At T.tl.length x.ct,.int .i64 ↑T.fx,.int .i64 ↑T.fb,.int .i64 ↑T.db,.int .i64 ↑T.al,.slice x.Ad W.c.length x.cd,.slice x.Ao W.lp.length x.co,.slice x.Ap 3 x.cp,.slice A1 S.length c1,.slice A2 tk.length c2],.row (b1) (51) (36) (.slice A1 S.length c1) (S.length) (sns T S),.row (b2) (74) (12) (.slice A2 tk.length c2) (tk.length) (sds tk),.blk (w.heap.size) 44 #[.int .i64 ↑k,.int .i64 ↑me,.int .i64 ↑A,.int .i64 ↑B,.int .i64 ↑C,.string s,.int .i64 ci],.blk (ww) 38 #[.slice y.At T.tl.length y.ct,.int .i64 ↑T.fx,.int .i64 ↑T.fb,.int .i64 ↑T.db,.int .i64 ↑T.al,.slice y.Ad W2.c.length y.cd,.slice y.Ao W2.lp.length y.co,.slice y.Ap 3 y.cp],.blk (td) 49 #[.int .i64 ↑E2,.int .i64 ↑ad,.string st,.int .i64 ↑id,.int .i64 ↑te,.int .i64 ↑de,.int .i64 ↑fe,.int .i64 ↑pr,.int .i64 ↑ch,.int .i64 ↑un,.bool dead],.blk (w3.heap.size) 56 #[.slice (some ⟨bb,bo,none⟩) 3 cb]]:=HM
     clear HM
     by_cases hlt:j < 3
     ·have hlt2:(j:Int) < 3:=by omega
      have hjB:j < W2.B.length:=by have:=HF.out.2.2.2;omega
      obtain ⟨b,off,_,_,_,_,hab,hbl,_,_,p0,p1,_⟩:=(hbk4.below hbr).is.at_ hjB
      injection hab with hab
      injection hab with hab1 hab2
      subst hab1 hab2
      rw [hW2.me j hjB] at p0
      have e2:j = me → W2.B[j].a.rev = R2:=fun e => by subst e;rw [← hR2];simp [hjB]
      generalize W2.B[j].a.rev = rj at p1 e2
      have hbr5:=hbr.drew
      clear hbl hbr
      have Lbk:=H.c1 6 rfl
      have Lab:=H.c7 3 rfl
      have Nbkab:=H.ne2 6 3 rfl rfl rfl
      by_cases hjm:j = me
      ·have hjm:=hjm.symm
       subst hjm
       obtain rfl:=e2 rfl
       clear e2
       go_upto_region 11 with fail
       go_region
       have p1:wr.drew.cell? ⟨bb,bo + me * 8 + 1,none⟩ = some (.int .i64 ↑rj):=p1
       replace H:=H.drew |>.gen
       obtain ⟨w5,hw5,H⟩:=H
       rw [hw5]
       rw [hw5] at p1 hbr5
       clear hw5
       clear Lbk Lab Nbkab
       have Lbk:=H.c1 6 rfl
       have Lab:=H.c7 3 rfl
       have Nbkab:=H.ne2 6 3 rfl rfl rfl
       go_wp2_with fail
       go_roundw
       case rel => exact ⟨me + 1,rj,by omega,by go_num,rfl,Lib.hid (by rw [if_pos (by omega)]),hbr5,H⟩
       case measure => simp [intOf];omega
      ·have g1:((j:Int) == (me:Int)) = false:=by simp;omega
       have g2:¬ (j:Int) = (me:Int):=by omega
       go_upto_region 11 with fail
       go_region
       replace H:=H.drew |>.gen
       obtain ⟨w5,hw5,H⟩:=H
       rw [hw5]
       rw [hw5] at hbr5
       clear hw5
       clear Lbk Lab Nbkab
       have Lbk:=H.c1 6 rfl
       have Lab:=H.c7 3 rfl
       have Nbkab:=H.ne2 6 3 rfl rfl rfl
       go_wp2_with fail
       go_roundw
       case rel => exact ⟨j + 1,q,by omega,by go_num,rfl,Lib.hid (by have:=hq.out;rw [this];split <;> split <;> first | rfl | omega),hbr5,H⟩
       case measure => simp [intOf];omega
     ·skip
      obtain rfl:j = 3:=by omega
      obtain ⟨f4,f5,e1,hcu⟩:=HF.out
      have hq:=hq.out
      rw [if_pos (by omega)] at hq
      subst hq
      obtain ⟨wg,hwg⟩:∃ wg,wg = wr:=⟨_,rfl⟩
      subst hwg
      have Lbk:=H.c1 6 rfl
      have Lab:=H.c7 3 rfl
      have Ltd:=H.c11 5 rfl
      have Nbkab:=H.ne2 6 3 rfl rfl rfl
      have Nbktd:=H.ne2 6 5 rfl rfl rfl
      have Nabtd:=H.ne2 3 5 rfl rfl rfl
      clear e1
      go_upto_if 82 with fail
      go_cut [13] (fun v wx => v = .int .i64 ↑R ∧ wg = wx)
      case first =>
       by_cases h4:k = 4
       ·subst h4
        rw [if_pos rfl] at f4
        have z:IntKind.i64.wrap ((q:Int) - 1) = (R:Int):=by rw [IntKind.wrap_i64];omega
        clear f4
        go_wp2
        go_meet
        exact ⟨rfl,rfl⟩
       ·rw [if_neg h4] at f4
        obtain rfl:q = R:=by omega
        have g4:((k:Int) == 4) = false:=by simp;omega
        have g5:¬ (k:Int) = 4:=by omega
        go_wp2
        go_meet
        exact ⟨rfl,rfl⟩
      case rest =>
       obtain ⟨rfl,rfl⟩:=hcut
       obtain ⟨mo,hmo⟩:∃ mo,(if k = 3 then A else B) = mo:=⟨_,rfl⟩
       clear f4
       go_upto_if 101 with fail
       replace H:=H.al wg.heap.size #[.int .i64 ↑me,.int .i64 ↑R,.string st,.int .i64 ↑id,.int .i64 ↑te,.int .i64 ↑de,.int .i64 ↑fe,.int .i64 ↑pr,.int .i64 ↑ch,.int .i64 ↑un,.int .i64 ↑k,.int .i64 ↑B] (74) |>.gen
       simp only [List.cons_append,List.nil_append] at H
       obtain ⟨w6,hw6,H⟩:=H
       rw [hw6]
       clear hw6
       go_cut [] (fun wx => Mem wb Gs wx [.blk (gl) 42 #[.slice x.At T.tl.length x.ct,.int .i64 ↑T.fx,.int .i64 ↑T.fb,.int .i64 ↑T.db,.int .i64 ↑T.al,.slice x.Ad W.c.length x.cd,.slice x.Ao W.lp.length x.co,.slice x.Ap 3 x.cp,.slice A1 S.length c1,.slice A2 tk.length c2],.row (b1) (51) (36) (.slice A1 S.length c1) (S.length) (sns T S),.row (b2) (74) (12) (.slice A2 tk.length c2) (tk.length) (sds tk),.blk (w.heap.size) 44 #[.int .i64 ↑k,.int .i64 ↑me,.int .i64 ↑A,.int .i64 ↑B,.int .i64 ↑C,.string s,.int .i64 ci],.blk (ww) 38 #[.slice y.At T.tl.length y.ct,.int .i64 ↑T.fx,.int .i64 ↑T.fb,.int .i64 ↑T.db,.int .i64 ↑T.al,.slice y.Ad W2.c.length y.cd,.slice y.Ao W2.lp.length y.co,.slice y.Ap 3 y.cp],.blk (td) 49 #[.int .i64 ↑E2,.int .i64 ↑ad,.string st,.int .i64 ↑id,.int .i64 ↑te,.int .i64 ↑de,.int .i64 ↑fe,.int .i64 ↑pr,.int .i64 ↑ch,.int .i64 ↑un,.bool dead],.blk (w3.heap.size) 56 #[.slice (some ⟨bb,bo,none⟩) 3 cb],.blk (wg.heap.size) 74 #[.int .i64 ↑me,.int .i64 ↑R,.string st,.int .i64 ↑id,.int .i64 ↑te,.int .i64 ↑de,.int .i64 ↑fe,.int .i64 ↑pr,.int .i64 ↑ch,.int .i64 ↑un,.int .i64 ↑k,.int .i64 ↑mo]])
       case first =>
        clear Lbk Lab Ltd Nbkab Nbktd Nabtd
        have Lsd:=H.c12 7 rfl
        have Lab:=H.c7 3 rfl
        have Nsdab:=H.ne2 7 3 rfl rfl rfl
        by_cases h3:k = 3
        ·subst h3
         rw [if_pos rfl] at hmo
         subst hmo
         go_wp2
         replace H:=H.set 7 rfl 11 (.int .i64 ↑A) |>.gen
         simp only [List.set_cons_zero,List.set_cons_succ,List.setIfInBounds_toArray] at H
         obtain ⟨w7,hw7,H⟩:=H
         rw [hw7]
         clear hw7
         go_meet
         exact H
        ·rw [if_neg h3] at hmo
         subst hmo
         have g4:((k:Int) == 3) = false:=by simp;omega
         have g5:¬ (k:Int) = 3:=by omega
         go_wp2
         go_meet
         exact H
       case rest =>
        skip
        clear H
        have H:Mem (wb) Gs (wc) [.blk (gl) 42 #[.slice x.At T.tl.length x.ct,.int .i64 ↑T.fx,.int .i64 ↑T.fb,.int .i64 ↑T.db,.int .i64 ↑T.al,.slice x.Ad W.c.length x.cd,.slice x.Ao W.lp.length x.co,.slice x.Ap 3 x.cp,.slice A1 S.length c1,.slice A2 tk.length c2],.row (b1) (51) (36) (.slice A1 S.length c1) (S.length) (sns T S),.row (b2) (74) (12) (.slice A2 tk.length c2) (tk.length) (sds tk),.blk (w.heap.size) 44 #[.int .i64 ↑k,.int .i64 ↑me,.int .i64 ↑A,.int .i64 ↑B,.int .i64 ↑C,.string s,.int .i64 ci],.blk (ww) 38 #[.slice y.At T.tl.length y.ct,.int .i64 ↑T.fx,.int .i64 ↑T.fb,.int .i64 ↑T.db,.int .i64 ↑T.al,.slice y.Ad W2.c.length y.cd,.slice y.Ao W2.lp.length y.co,.slice y.Ap 3 y.cp],.blk (td) 49 #[.int .i64 ↑E2,.int .i64 ↑ad,.string st,.int .i64 ↑id,.int .i64 ↑te,.int .i64 ↑de,.int .i64 ↑fe,.int .i64 ↑pr,.int .i64 ↑ch,.int .i64 ↑un,.bool dead],.blk (w3.heap.size) 56 #[.slice (some ⟨bb,bo,none⟩) 3 cb],.blk (wg.heap.size) 74 #[.int .i64 ↑me,.int .i64 ↑R,.string st,.int .i64 ↑id,.int .i64 ↑te,.int .i64 ↑de,.int .i64 ↑fe,.int .i64 ↑pr,.int .i64 ↑ch,.int .i64 ↑un,.int .i64 ↑k,.int .i64 ↑mo]]:=hcut
        clear hcut
        have hone:∀ u ∈ [Value.int .i64 ↑me,.int .i64 ↑R,.string st,.int .i64 ↑id,.int .i64 ↑te,.int .i64 ↑de,.int .i64 ↑fe,.int .i64 ↑pr,.int .i64 ↑ch,.int .i64 ↑un,.int .i64 ↑k,.int .i64 ↑mo],u.oneCell' = true:=fun u hu => by simp at hu;rcases hu with rfl | rfl | rfl | rfl | rfl | rfl | rfl | rfl | rfl | rfl | rfl | rfl <;> rfl
        have hq3:(tk.length + 1) * 104 ≤ 140737488355328:=by omega
        have hq4:tk.length + 1 ≤ maxLen:=by unfold maxLen;omega
        have hq5:b2 ≤ wc.heap.size:=by have:=H.keep.size;omega
        have e1:=HF.out.2.2.1
        rw [hmo] at e1
        have hl2:tk2.length = tk.length + 1:=by rw [e1];simp
        have hs2:sds tk2 = sds tk ++ [.int .i64 ↑me,.int .i64 ↑R,.string st,.int .i64 ↑id,.int .i64 ↑te,.int .i64 ↑de,.int .i64 ↑fe,.int .i64 ↑pr,.int .i64 ↑ch,.int .i64 ↑un,.int .i64 ↑k,.int .i64 ↑mo]:=by rw [e1];unfold sds;rw [List.flatMap_append];rfl
        clear e1
        have HE:=Lib.hid (And.intro hl2 hs2)
        clear hl2 hs2 hmo
        clear Lbk Lab Ltd Nbkab Nbktd Nabtd
        have Llf:=H.c10 0 rfl
        have Lsd:=H.c12 7 rfl
        have Nlfsd:=H.ne2 0 7 rfl rfl rfl
        go_upto_region 20 with fail
        go_region_law (first | ((refine step_pushM el_sd (by rfl) (.tmp 109) (.tmp 111) (by rfl) 2 _ (Mem.alloc H _ rfl #[.int .i64 ↑me,.int .i64 ↑R,.string st,.int .i64 ↑id,.int .i64 ↑te,.int .i64 ↑de,.int .i64 ↑fe,.int .i64 ↑pr,.int .i64 ↑ch,.int .i64 ↑un,.int .i64 ↑k,.int .i64 ↑mo] 74) b2 _ _ tk.length _ [.int .i64 ↑me,.int .i64 ↑R,.string st,.int .i64 ↑id,.int .i64 ↑te,.int .i64 ↑de,.int .i64 ↑fe,.int .i64 ↑pr,.int .i64 ↑ch,.int .i64 ↑un,.int .i64 ↑k,.int .i64 ↑mo] rfl (by rfl) (by rfl) (heap_alloc_new _ _) rfl hone hq3 hq4 (by simp;omega) ?_);intro A5 d5 wy HY;have y9:=(HY.blk 0 rfl).cell 9;have yf9:=(HY.blk 0 rfl).frozen 9;have ylt:=HY.lt 0 rfl) | ((refine step_pushM el_sd (by rfl) (.tmp 109) (.tmp 111) (by rfl) 2 _ ((Mem.alloc H _ rfl #[.int .i64 ↑me,.int .i64 ↑R,.string st,.int .i64 ↑id,.int .i64 ↑te,.int .i64 ↑de,.int .i64 ↑fe,.int .i64 ↑pr,.int .i64 ↑ch,.int .i64 ↑un,.int .i64 ↑k,.int .i64 ↑mo] 74).drew) b2 _ _ tk.length _ [.int .i64 ↑me,.int .i64 ↑R,.string st,.int .i64 ↑id,.int .i64 ↑te,.int .i64 ↑de,.int .i64 ↑fe,.int .i64 ↑pr,.int .i64 ↑ch,.int .i64 ↑un,.int .i64 ↑k,.int .i64 ↑mo] rfl (by rfl) (by rfl) (heap_alloc_new _ _) rfl hone hq3 hq4 (by simp;omega) ?_);intro A5 d5 wy HY;have y9:=(HY.blk 0 rfl).cell 9;have yf9:=(HY.blk 0 rfl).frozen 9;have ylt:=HY.lt 0 rfl))
        all_goals
         go_wp2_with fail
         go_meet
         rw [HE.out.1,HE.out.2]
         exact ⟨A5,d5,(((HY.set 0 rfl 9 (.slice A5 (tk.length + 1) d5)).drop_ 8).drop_ 7).drop_ 6⟩
  case rest =>
   skip
   obtain ⟨A4,c4,H⟩:=hcut
   have H:Mem (wb) Gs (wc) [.blk (gl) 42 #[.slice x.At T.tl.length x.ct,.int .i64 ↑T.fx,.int .i64 ↑T.fb,.int .i64 ↑T.db,.int .i64 ↑T.al,.slice x.Ad W.c.length x.cd,.slice x.Ao W.lp.length x.co,.slice x.Ap 3 x.cp,.slice A1 S.length c1,.slice A4 tk2.length c4],.row (b1) (51) (36) (.slice A1 S.length c1) (S.length) (sns T S),.row (b2) (74) (12) (.slice A4 tk2.length c4) (tk2.length) (sds tk2),.blk (w.heap.size) 44 #[.int .i64 ↑k,.int .i64 ↑me,.int .i64 ↑A,.int .i64 ↑B,.int .i64 ↑C,.string s,.int .i64 ci],.blk (ww) 38 #[.slice y.At T.tl.length y.ct,.int .i64 ↑T.fx,.int .i64 ↑T.fb,.int .i64 ↑T.db,.int .i64 ↑T.al,.slice y.Ad W2.c.length y.cd,.slice y.Ao W2.lp.length y.co,.slice y.Ap 3 y.cp],.blk (td) 49 #[.int .i64 ↑E2,.int .i64 ↑ad,.string st,.int .i64 ↑id,.int .i64 ↑te,.int .i64 ↑de,.int .i64 ↑fe,.int .i64 ↑pr,.int .i64 ↑ch,.int .i64 ↑un,.bool dead]]:=H
   have hone:∀ u ∈ [Value.int .i64 ↑k,.int .i64 ↑me,.int .i64 ↑A,.int .i64 ↑B,.int .i64 ↑C,.string s,.int .i64 ci,.int .i64 ↑E2,.int .i64 ↑ad,.string st,.int .i64 ↑id,.int .i64 ↑te,.int .i64 ↑de,.int .i64 ↑fe,.int .i64 ↑pr,.int .i64 ↑ch,.int .i64 ↑un,.bool dead,.slice x.At T.tl.length x.ct,.int .i64 ↑T.fx,.int .i64 ↑T.fb,.int .i64 ↑T.db,.int .i64 ↑T.al,.slice x.Ad W.c.length x.cd,.slice x.Ao W.lp.length x.co,.slice x.Ap 3 x.cp,.slice y.At T.tl.length y.ct,.int .i64 ↑T.fx,.int .i64 ↑T.fb,.int .i64 ↑T.db,.int .i64 ↑T.al,.slice y.Ad W2.c.length y.cd,.slice y.Ao W2.lp.length y.co,.slice y.Ap 3 y.cp,.string key,.int .i64 ↑tk.length],u.oneCell' = true:=fun u hu => by simp at hu;rcases hu with rfl | rfl | rfl | rfl | rfl | rfl | rfl | rfl | rfl | rfl | rfl | rfl | rfl | rfl | rfl | rfl | rfl | rfl | rfl | rfl | rfl | rfl | rfl | rfl | rfl | rfl | rfl | rfl | rfl | rfl | rfl | rfl | rfl | rfl | rfl | rfl <;> rfl
   have hq3:(S.length + 1) * 440 ≤ 140737488355328:=by omega
   have hq4:S.length + 1 ≤ maxLen:=by unfold maxLen;omega
   have hq5:b1 ≤ wc.heap.size:=by have:=H.keep.size;omega
   clear Lww Ltd Nwwtd
   obtain ⟨lflt,lf0,lff0,lf1,lff1,lf2,lff2,lf3,lff3,lf4,lff4,lf5,lff5,lf6,lff6,lf7,lff7,lf8,lff8,lf9,lff9⟩:=H.c10 0 rfl
   obtain ⟨ablt,ab0,-,ab1,-,ab2,-,ab3,-,ab4,-,ab5,-,ab6,-⟩:=H.c7 3 rfl
   obtain ⟨wwlt,ww0,-,ww1,-,ww2,-,ww3,-,ww4,-,ww5,-,ww6,-,ww7,-⟩:=H.c8 4 rfl
   obtain ⟨tdlt,td0,-,td1,-,td2,-,td3,-,td4,-,td5,-,td6,-,td7,-,td8,-,td9,-,td10,-⟩:=H.c11 5 rfl
   have Nlfab:=H.ne2 0 3 rfl rfl rfl
   have Nlfww:=H.ne2 0 4 rfl rfl rfl
   have Nlftd:=H.ne2 0 5 rfl rfl rfl
   have Nabww:=H.ne2 3 4 rfl rfl rfl
   have Nabtd:=H.ne2 3 5 rfl rfl rfl
   have Nwwtd:=H.ne2 4 5 rfl rfl rfl
   go_upto_region 21 with fail
   refine wp_region_any (by kernel_rfl) ?_
   show wpAny _ _ _ _ _ _ _ wc.drew
   refine wpAny_take (i:=0) (v:=?_) rfl (by kernel_rfl) (by kernel_rfl) (by kernel_rfl) (fun _ _ _ h => h) (Or.inl ⟨by rfl,?hy⟩) ?_
   case hy => (intro w;go_simp <;> with_reducible rfl)
   simp only [Act.put,List.setIfInBounds_toArray]
   refine wpAny_take (i:=1) (v:=?_) rfl (by kernel_rfl) (by kernel_rfl) (by kernel_rfl) (fun _ _ _ h => h) (Or.inl ⟨by rfl,?hy⟩) ?_
   case hy => (intro w;go_simp <;> with_reducible rfl)
   simp only [Act.put]
   refine wpAny_take (i:=2) (v:=?_) rfl (by kernel_rfl) (by kernel_rfl) (by kernel_rfl) (fun _ _ _ h => h) (Or.inl ⟨by rfl,?hy⟩) ?_
   case hy => (intro w;go_simp <;> with_reducible rfl)
   simp only [Act.put]
   refine wpAny_take (i:=3) (v:=?_) rfl (by kernel_rfl) (by kernel_rfl) (by kernel_rfl) (fun _ _ _ h => h) (Or.inl ⟨by rfl,?hy⟩) ?_
   case hy => (intro w;go_simp <;> with_reducible rfl)
   simp only [Act.put]
   refine wpAny_take (i:=7) (v:=?_) rfl (by kernel_rfl) (by kernel_rfl) (by kernel_rfl) (fun _ _ _ h => h) (Or.inl ⟨by rfl,?hy⟩) ?_
   case hy => (intro w;go_simp <;> with_reducible rfl)
   simp only [Act.put]
   refine wpAny_take (i:=8) (v:=?_) rfl (by kernel_rfl) (by kernel_rfl) (by kernel_rfl) (fun _ _ _ h => h) (Or.inl ⟨by rfl,?hy⟩) ?_
   case hy => (intro w;go_simp <;> with_reducible rfl)
   simp only [Act.put]
   refine wpAny_take (i:=9) (v:=?_) rfl (by kernel_rfl) (by kernel_rfl) (by kernel_rfl) (fun _ _ _ h => h) (Or.inl ⟨by rfl,?hy⟩) ?_
   case hy => (intro w;go_simp <;> with_reducible rfl)
   simp only [Act.put]
   refine wpAny_take (i:=12) (v:=?_) rfl (by kernel_rfl) (by kernel_rfl) (by kernel_rfl) (fun _ _ _ h => h) (Or.inl ⟨by rfl,?hy⟩) ?_
   case hy => (intro w;go_simp <;> with_reducible rfl)
   simp only [Act.put]
   refine wpAny_take (i:=13) (v:=?_) rfl (by kernel_rfl) (by kernel_rfl) (by kernel_rfl) (fun _ _ _ h => h) (Or.inl ⟨by rfl,?hy⟩) ?_
   case hy => (intro w;go_simp <;> with_reducible rfl)
   simp only [Act.put]
   obtain ⟨Sp,hSp⟩:∃ Sp:World → Prop,Sp = (fun w':World => w'.cell? ⟨gl,0,none⟩ = some (.slice x.At T.tl.length x.ct) ∧ w'.cell? ⟨gl,1,none⟩ = some (.int .i64 ↑T.fx) ∧ w'.cell? ⟨gl,2,none⟩ = some (.int .i64 ↑T.fb) ∧ w'.cell? ⟨gl,3,none⟩ = some (.int .i64 ↑T.db) ∧ w'.cell? ⟨gl,4,none⟩ = some (.int .i64 ↑T.al) ∧ w'.cell? ⟨gl,5,none⟩ = some (.slice x.Ad W.c.length x.cd) ∧ w'.cell? ⟨gl,6,none⟩ = some (.slice x.Ao W.lp.length x.co) ∧ w'.cell? ⟨gl,7,none⟩ = some (.slice x.Ap 3 x.cp) ∧ w'.cell? ⟨gl,8,none⟩ = some (.slice A1 S.length c1) ∧ w'.cell? ⟨w.heap.size,0,none⟩ = some (.int .i64 ↑k) ∧ w'.cell? ⟨w.heap.size,1,none⟩ = some (.int .i64 ↑me) ∧ w'.cell? ⟨w.heap.size,2,none⟩ = some (.int .i64 ↑A) ∧ w'.cell? ⟨w.heap.size,3,none⟩ = some (.int .i64 ↑B) ∧ w'.cell? ⟨w.heap.size,4,none⟩ = some (.int .i64 ↑C) ∧ w'.cell? ⟨w.heap.size,5,none⟩ = some (.string s) ∧ w'.cell? ⟨w.heap.size,6,none⟩ = some (.int .i64 ci) ∧ w'.cell? ⟨ww,0,none⟩ = some (.slice y.At T.tl.length y.ct) ∧ w'.cell? ⟨ww,1,none⟩ = some (.int .i64 ↑T.fx) ∧ w'.cell? ⟨ww,2,none⟩ = some (.int .i64 ↑T.fb) ∧ w'.cell? ⟨ww,3,none⟩ = some (.int .i64 ↑T.db) ∧ w'.cell? ⟨ww,4,none⟩ = some (.int .i64 ↑T.al) ∧ w'.cell? ⟨ww,5,none⟩ = some (.slice y.Ad W2.c.length y.cd) ∧ w'.cell? ⟨ww,6,none⟩ = some (.slice y.Ao W2.lp.length y.co) ∧ w'.cell? ⟨ww,7,none⟩ = some (.slice y.Ap 3 y.cp) ∧ w'.cell? ⟨td,0,none⟩ = some (.int .i64 ↑E2) ∧ w'.cell? ⟨td,1,none⟩ = some (.int .i64 ↑ad) ∧ w'.cell? ⟨td,2,none⟩ = some (.string st) ∧ w'.cell? ⟨td,3,none⟩ = some (.int .i64 ↑id) ∧ w'.cell? ⟨td,4,none⟩ = some (.int .i64 ↑te) ∧ w'.cell? ⟨td,5,none⟩ = some (.int .i64 ↑de) ∧ w'.cell? ⟨td,6,none⟩ = some (.int .i64 ↑fe) ∧ w'.cell? ⟨td,7,none⟩ = some (.int .i64 ↑pr) ∧ w'.cell? ⟨td,8,none⟩ = some (.int .i64 ↑ch) ∧ w'.cell? ⟨td,9,none⟩ = some (.int .i64 ↑un) ∧ w'.cell? ⟨td,10,none⟩ = some (.bool dead)):=⟨_,rfl⟩
   have HS:Sp wc.drew:=by rw [hSp];exact ⟨lf0,lf1,lf2,lf3,lf4,lf5,lf6,lf7,lf8,ab0,ab1,ab2,ab3,ab4,ab5,ab6,ww0,ww1,ww2,ww3,ww4,ww5,ww6,ww7,td0,td1,td2,td3,td4,td5,td6,td7,td8,td9,td10⟩
   have HSp:=Lib.hid hSp
   clear hSp
   refine AnyN.any (S:=Sp) (n:=19) _ _ _ _ ?_
   refine AnyN.take (i:=4) (v:=?_) rfl (by kernel_rfl) (by kernel_rfl) (by kernel_rfl) (by kernel_rfl) (by decide) (fun _ _ _ h => h) (Or.inl ⟨by rfl,?hy⟩) HS ?_
   case hy => (intro w hw;rw [HSp.out] at hw;obtain ⟨p_lf0,p_lf1,p_lf2,p_lf3,p_lf4,p_lf5,p_lf6,p_lf7,p_lf8,p_ab0,p_ab1,p_ab2,p_ab3,p_ab4,p_ab5,p_ab6,p_ww0,p_ww1,p_ww2,p_ww3,p_ww4,p_ww5,p_ww6,p_ww7,p_td0,p_td1,p_td2,p_td3,p_td4,p_td5,p_td6,p_td7,p_td8,p_td9,p_td10⟩:=hw;go_simp <;> with_reducible rfl)
   simp only [Act.put]
   refine AnyN.take (i:=5) (v:=?_) rfl (by kernel_rfl) (by kernel_rfl) (by kernel_rfl) (by kernel_rfl) (by decide) (fun _ _ _ h => h) (Or.inl ⟨by rfl,?hy⟩) HS ?_
   case hy => (intro w hw;rw [HSp.out] at hw;obtain ⟨p_lf0,p_lf1,p_lf2,p_lf3,p_lf4,p_lf5,p_lf6,p_lf7,p_lf8,p_ab0,p_ab1,p_ab2,p_ab3,p_ab4,p_ab5,p_ab6,p_ww0,p_ww1,p_ww2,p_ww3,p_ww4,p_ww5,p_ww6,p_ww7,p_td0,p_td1,p_td2,p_td3,p_td4,p_td5,p_td6,p_td7,p_td8,p_td9,p_td10⟩:=hw;go_simp <;> with_reducible rfl)
   simp only [Act.put]
   refine AnyN.take (i:=6) (v:=?_) rfl (by kernel_rfl) (by kernel_rfl) (by kernel_rfl) (by kernel_rfl) (by decide) (fun _ _ _ h => h) (Or.inl ⟨by rfl,?hy⟩) HS ?_
   case hy => (intro w hw;rw [HSp.out] at hw;obtain ⟨p_lf0,p_lf1,p_lf2,p_lf3,p_lf4,p_lf5,p_lf6,p_lf7,p_lf8,p_ab0,p_ab1,p_ab2,p_ab3,p_ab4,p_ab5,p_ab6,p_ww0,p_ww1,p_ww2,p_ww3,p_ww4,p_ww5,p_ww6,p_ww7,p_td0,p_td1,p_td2,p_td3,p_td4,p_td5,p_td6,p_td7,p_td8,p_td9,p_td10⟩:=hw;go_simp <;> with_reducible rfl)
   simp only [Act.put]
   refine AnyN.take (i:=10) (v:=?_) rfl (by kernel_rfl) (by kernel_rfl) (by kernel_rfl) (by kernel_rfl) (by decide) (fun _ _ _ h => h) (Or.inl ⟨by rfl,?hy⟩) HS ?_
   case hy => (intro w hw;rw [HSp.out] at hw;obtain ⟨p_lf0,p_lf1,p_lf2,p_lf3,p_lf4,p_lf5,p_lf6,p_lf7,p_lf8,p_ab0,p_ab1,p_ab2,p_ab3,p_ab4,p_ab5,p_ab6,p_ww0,p_ww1,p_ww2,p_ww3,p_ww4,p_ww5,p_ww6,p_ww7,p_td0,p_td1,p_td2,p_td3,p_td4,p_td5,p_td6,p_td7,p_td8,p_td9,p_td10⟩:=hw;go_simp <;> with_reducible rfl)
   simp only [Act.put]
   refine AnyN.take (i:=11) (v:=?_) rfl (by kernel_rfl) (by kernel_rfl) (by kernel_rfl) (by kernel_rfl) (by decide) (fun _ _ _ h => h) (Or.inl ⟨by rfl,?hy⟩) HS ?_
   case hy => (intro w hw;rw [HSp.out] at hw;obtain ⟨p_lf0,p_lf1,p_lf2,p_lf3,p_lf4,p_lf5,p_lf6,p_lf7,p_lf8,p_ab0,p_ab1,p_ab2,p_ab3,p_ab4,p_ab5,p_ab6,p_ww0,p_ww1,p_ww2,p_ww3,p_ww4,p_ww5,p_ww6,p_ww7,p_td0,p_td1,p_td2,p_td3,p_td4,p_td5,p_td6,p_td7,p_td8,p_td9,p_td10⟩:=hw;go_simp <;> with_reducible rfl)
   simp only [Act.put]
   refine AnyN.take (i:=14) (v:=?_) rfl (by kernel_rfl) (by kernel_rfl) (by kernel_rfl) (by kernel_rfl) (by decide) (fun _ _ _ h => h) (Or.inl ⟨by rfl,?hy⟩) HS ?_
   case hy => (intro w hw;rw [HSp.out] at hw;obtain ⟨p_lf0,p_lf1,p_lf2,p_lf3,p_lf4,p_lf5,p_lf6,p_lf7,p_lf8,p_ab0,p_ab1,p_ab2,p_ab3,p_ab4,p_ab5,p_ab6,p_ww0,p_ww1,p_ww2,p_ww3,p_ww4,p_ww5,p_ww6,p_ww7,p_td0,p_td1,p_td2,p_td3,p_td4,p_td5,p_td6,p_td7,p_td8,p_td9,p_td10⟩:=hw;go_simp <;> with_reducible rfl)
   simp only [Act.put]
   clear HS
   refine AnyN.one (i:=15) rfl (by kernel_rfl) (fun K hK => ?_)
   have hK1:=Lib.hid hK
   clear hK
   go_simp
   have HA:=H.drew.al wc.heap.size #[.int .i64 ↑k,.int .i64 ↑me,.int .i64 ↑A,.int .i64 ↑B,.int .i64 ↑C,.string s,.int .i64 ci,.int .i64 ↑E2,.int .i64 ↑ad,.string st,.int .i64 ↑id,.int .i64 ↑te,.int .i64 ↑de,.int .i64 ↑fe,.int .i64 ↑pr,.int .i64 ↑ch,.int .i64 ↑un,.bool dead,.slice x.At T.tl.length x.ct,.int .i64 ↑T.fx,.int .i64 ↑T.fb,.int .i64 ↑T.db,.int .i64 ↑T.al,.slice x.Ad W.c.length x.cd,.slice x.Ao W.lp.length x.co,.slice x.Ap 3 x.cp,.slice y.At T.tl.length y.ct,.int .i64 ↑T.fx,.int .i64 ↑T.fb,.int .i64 ↑T.db,.int .i64 ↑T.al,.slice y.Ad W2.c.length y.cd,.slice y.Ao W2.lp.length y.co,.slice y.Ap 3 y.cp,.string key,.int .i64 ↑tk.length] 51
   refine hK1.out _ _ (fun _ => ?_) ?_
   ·obtain ⟨-,q_lf0,-,q_lf1,-,q_lf2,-,q_lf3,-,q_lf4,-,q_lf5,-,q_lf6,-,q_lf7,-,q_lf8,-,-,-⟩:=HA.c10 0 rfl
    obtain ⟨-,q_ab0,-,q_ab1,-,q_ab2,-,q_ab3,-,q_ab4,-,q_ab5,-,q_ab6,-⟩:=HA.c7 3 rfl
    obtain ⟨-,q_ww0,-,q_ww1,-,q_ww2,-,q_ww3,-,q_ww4,-,q_ww5,-,q_ww6,-,q_ww7,-⟩:=HA.c8 4 rfl
    obtain ⟨-,q_td0,-,q_td1,-,q_td2,-,q_td3,-,q_td4,-,q_td5,-,q_td6,-,q_td7,-,q_td8,-,q_td9,-,q_td10,-⟩:=HA.c11 5 rfl
    rw [HSp.out]
    exact ⟨q_lf0,q_lf1,q_lf2,q_lf3,q_lf4,q_lf5,q_lf6,q_lf7,q_lf8,q_ab0,q_ab1,q_ab2,q_ab3,q_ab4,q_ab5,q_ab6,q_ww0,q_ww1,q_ww2,q_ww3,q_ww4,q_ww5,q_ww6,q_ww7,q_td0,q_td1,q_td2,q_td3,q_td4,q_td5,q_td6,q_td7,q_td8,q_td9,q_td10⟩
   clear hK1 K
   refine AnyN.one (i:=16) rfl (by kernel_rfl) (fun K hK => ?_)
   refine step_pushM el_sn (by rfl) (.tmp 119) (.tmp 130) (by rfl) 1 _ HA b1 _ _ S.length _ [.int .i64 ↑k,.int .i64 ↑me,.int .i64 ↑A,.int .i64 ↑B,.int .i64 ↑C,.string s,.int .i64 ci,.int .i64 ↑E2,.int .i64 ↑ad,.string st,.int .i64 ↑id,.int .i64 ↑te,.int .i64 ↑de,.int .i64 ↑fe,.int .i64 ↑pr,.int .i64 ↑ch,.int .i64 ↑un,.bool dead,.slice x.At T.tl.length x.ct,.int .i64 ↑T.fx,.int .i64 ↑T.fb,.int .i64 ↑T.db,.int .i64 ↑T.al,.slice x.Ad W.c.length x.cd,.slice x.Ao W.lp.length x.co,.slice x.Ap 3 x.cp,.slice y.At T.tl.length y.ct,.int .i64 ↑T.fx,.int .i64 ↑T.fb,.int .i64 ↑T.db,.int .i64 ↑T.al,.slice y.Ad W2.c.length y.cd,.slice y.Ao W2.lp.length y.co,.slice y.Ap 3 y.cp,.string key,.int .i64 ↑tk.length] rfl (by rfl) (by rfl) (heap_alloc_new _ _) rfl hone hq3 hq4 (by simp;omega) ?_
   intro A3 d3 wy HY
   obtain ⟨ylt,q_lf0,-,q_lf1,-,q_lf2,-,q_lf3,-,q_lf4,-,q_lf5,-,q_lf6,-,q_lf7,-,q_lf8,yf8,-,-⟩:=HY.c10 0 rfl
   obtain ⟨-,q_ab0,-,q_ab1,-,q_ab2,-,q_ab3,-,q_ab4,-,q_ab5,-,q_ab6,-⟩:=HY.c7 3 rfl
   obtain ⟨-,q_ww0,-,q_ww1,-,q_ww2,-,q_ww3,-,q_ww4,-,q_ww5,-,q_ww6,-,q_ww7,-⟩:=HY.c8 4 rfl
   obtain ⟨-,q_td0,-,q_td1,-,q_td2,-,q_td3,-,q_td4,-,q_td5,-,q_td6,-,q_td7,-,q_td8,-,q_td9,-,q_td10,-⟩:=HY.c11 5 rfl
   have HS:Sp wy:=by rw [HSp.out];exact ⟨q_lf0,q_lf1,q_lf2,q_lf3,q_lf4,q_lf5,q_lf6,q_lf7,q_lf8,q_ab0,q_ab1,q_ab2,q_ab3,q_ab4,q_ab5,q_ab6,q_ww0,q_ww1,q_ww2,q_ww3,q_ww4,q_ww5,q_ww6,q_ww7,q_td0,q_td1,q_td2,q_td3,q_td4,q_td5,q_td6,q_td7,q_td8,q_td9,q_td10⟩
   refine hK _ _ (fun _ => HS) ?_
   clear hK K
   refine AnyN.one (i:=17) rfl (by kernel_rfl) (fun K hK => ?_)
   have hK1:=Lib.hid hK
   clear hK
   go_simp
   refine hK1.out _ _ (fun _ => HS) ?_
   clear hK1 K
   refine AnyN.one (i:=18) rfl (by kernel_rfl) (fun K hK => ?_)
   have hK1:=Lib.hid hK
   clear hK
   go_simp
   refine hK1.out _ _ (fun _ => HS) ?_
   clear hK1 K
   clear HS
   refine AnyN.one (i:=19) rfl (by kernel_rfl) (fun K hK => ?_)
   have hK1:=Lib.hid hK
   clear hK
   go_simp
   refine hK1.out _ _ (fun q => absurd rfl q) (AnyN.done (by kernel_rfl) ?_)
   clear hK1 K q_lf0 q_lf1 q_lf2 q_lf3 q_lf4 q_lf5 q_lf6 q_lf7 q_lf8 q_ab0 q_ab1 q_ab2 q_ab3 q_ab4 q_ab5 q_ab6 q_ww0 q_ww1 q_ww2 q_ww3 q_ww4 q_ww5 q_ww6 q_ww7 q_td0 q_td1 q_td2 q_td3 q_td4 q_td5 q_td6 q_td7 q_td8 q_td9 q_td10 ylt yf8
   have H:Mem (wb) Gs (wy) [.blk (gl) 42 #[.slice x.At T.tl.length x.ct,.int .i64 ↑T.fx,.int .i64 ↑T.fb,.int .i64 ↑T.db,.int .i64 ↑T.al,.slice x.Ad W.c.length x.cd,.slice x.Ao W.lp.length x.co,.slice x.Ap 3 x.cp,.slice A1 S.length c1,.slice A4 tk2.length c4],.row (b1) (51) (36) (.slice A3 (S.length + 1) d3) (S.length + 1) (sns T S ++ [.int .i64 ↑k,.int .i64 ↑me,.int .i64 ↑A,.int .i64 ↑B,.int .i64 ↑C,.string s,.int .i64 ci,.int .i64 ↑E2,.int .i64 ↑ad,.string st,.int .i64 ↑id,.int .i64 ↑te,.int .i64 ↑de,.int .i64 ↑fe,.int .i64 ↑pr,.int .i64 ↑ch,.int .i64 ↑un,.bool dead,.slice x.At T.tl.length x.ct,.int .i64 ↑T.fx,.int .i64 ↑T.fb,.int .i64 ↑T.db,.int .i64 ↑T.al,.slice x.Ad W.c.length x.cd,.slice x.Ao W.lp.length x.co,.slice x.Ap 3 x.cp,.slice y.At T.tl.length y.ct,.int .i64 ↑T.fx,.int .i64 ↑T.fb,.int .i64 ↑T.db,.int .i64 ↑T.al,.slice y.Ad W2.c.length y.cd,.slice y.Ao W2.lp.length y.co,.slice y.Ap 3 y.cp,.string key,.int .i64 ↑tk.length]),.row (b2) (74) (12) (.slice A4 tk2.length c4) (tk2.length) (sds tk2),.blk (w.heap.size) 44 #[.int .i64 ↑k,.int .i64 ↑me,.int .i64 ↑A,.int .i64 ↑B,.int .i64 ↑C,.string s,.int .i64 ci],.blk (ww) 38 #[.slice y.At T.tl.length y.ct,.int .i64 ↑T.fx,.int .i64 ↑T.fb,.int .i64 ↑T.db,.int .i64 ↑T.al,.slice y.Ad W2.c.length y.cd,.slice y.Ao W2.lp.length y.co,.slice y.Ap 3 y.cp],.blk (td) 49 #[.int .i64 ↑E2,.int .i64 ↑ad,.string st,.int .i64 ↑id,.int .i64 ↑te,.int .i64 ↑de,.int .i64 ↑fe,.int .i64 ↑pr,.int .i64 ↑ch,.int .i64 ↑un,.bool dead],.blk (wc.heap.size) 51 #[.int .i64 ↑k,.int .i64 ↑me,.int .i64 ↑A,.int .i64 ↑B,.int .i64 ↑C,.string s,.int .i64 ci,.int .i64 ↑E2,.int .i64 ↑ad,.string st,.int .i64 ↑id,.int .i64 ↑te,.int .i64 ↑de,.int .i64 ↑fe,.int .i64 ↑pr,.int .i64 ↑ch,.int .i64 ↑un,.bool dead,.slice x.At T.tl.length x.ct,.int .i64 ↑T.fx,.int .i64 ↑T.fb,.int .i64 ↑T.db,.int .i64 ↑T.al,.slice x.Ad W.c.length x.cd,.slice x.Ao W.lp.length x.co,.slice x.Ap 3 x.cp,.slice y.At T.tl.length y.ct,.int .i64 ↑T.fx,.int .i64 ↑T.fb,.int .i64 ↑T.db,.int .i64 ↑T.al,.slice y.Ad W2.c.length y.cd,.slice y.Ao W2.lp.length y.co,.slice y.Ap 3 y.cp,.string key,.int .i64 ↑tk.length]]:=HY
   replace H:=H.set 0 rfl 8 (.slice A3 (S.length + 1) d3) |>.gen
   simp only [List.set_cons_zero,List.set_cons_succ,List.setIfInBounds_toArray] at H
   obtain ⟨wz,hwz,H⟩:=H
   rw [hwz]
   clear hwz
   clear lflt lf0 lff0 lf1 lff1 lf2 lff2 lf3 lff3 lf4 lff4 lf5 lff5 lf6 lff6 lf7 lff7 lf8 lff8 lf9 lff9 ablt ab0 ab1 ab2 ab3 ab4 ab5 ab6 wwlt ww0 ww1 ww2 ww3 ww4 ww5 ww6 ww7 tdlt td0 td1 td2 td3 td4 td5 td6 td7 td8 td9 td10 Nlfab Nlfww Nlftd Nabww Nabtd Nwwtd
   have Llf:=H.c10 0 rfl
   have Lww:=H.c8 4 rfl
   have Nlfww:=H.ne2 0 4 rfl rfl rfl
   go_wp2_with fail
   replace H:=H.set 0 rfl 0 (.slice y.At T.tl.length y.ct) |>.set 0 rfl 1 (.int .i64 ↑T.fx) |>.set 0 rfl 2 (.int .i64 ↑T.fb) |>.set 0 rfl 3 (.int .i64 ↑T.db) |>.set 0 rfl 4 (.int .i64 ↑T.al) |>.set 0 rfl 5 (.slice y.Ad W2.c.length y.cd) |>.set 0 rfl 6 (.slice y.Ao W2.lp.length y.co) |>.set 0 rfl 7 (.slice y.Ap 3 y.cp) |>.gen
   simp only [List.set_cons_zero,List.setIfInBounds_toArray,List.set_cons_succ] at H
   obtain ⟨wq,hwq,H⟩:=H
   rw [hwq]
   clear hwq
   refine bodyPost_ret (v:=.bool true) (by simp [results,Tryz.results22,go_sem];done) rfl ?_
   obtain ⟨HM,hk⟩:=HU.out _ _ H
   exact ⟨rfl,y,hk.kw T _ _ hyc,hKw1.out.trans (hk.kw T),A3,d3,A4,c4,(((HM.drop_ 6).drop_ 5).drop_ 4).drop_ 3⟩
def SeenIs (w:World) (T:Tm) (S:List Sn):Prop:=∀ s ∈ S,s.x.Is w T s.W ∧ s.y.Is w T (doP T s.W s.a).1
theorem SeenIs.kept {w w':World} {T:Tm} {S:List Sn} (h:SeenIs w T S) (hk:Kw T w w'):SeenIs w' T S:=fun s hs => ⟨hk _ _ (h s hs).1,hk _ _ (h s hs).2⟩
def LifeAt (T:Tm) (sv:Bool) (S:List Sn) (tk:List Sd) (W:Wd) (w0:World) (gl b:Nat) (w:World):Prop :=
 ∃ (x:Wv) (A1:Option Addr) (c1:Nat) (A2:Option Addr) (c2:Nat),Lived T sv S tk W ∧ x.Is w T W ∧ SeenIs w T S ∧ Mem w0 [] w (lifeL T W x S tk gl b b A1 c1 A2 c2)
theorem step_life (T:Tm) (hT:T.Ok) (sv:Bool) (S:List Sn) (tk:List Sd) (W:Wd) (a:Ac) (key:ByteArray) (gl b:Nat) (w0 w:World) (h:LifeAt T sv S tk W w0 gl b w) (hb:b ≤ w0.heap.size) (hn:S.length ≤ 61)
 (hx:∀ x y,Nx sv S.length W tk ⟨a,W,x,y,key,tk.length⟩) :
 Calls Tryz.prog 22 #[.pointer (some ⟨gl,0,none⟩),.agg a.vs.toArray,.string key] w fun e w' => e = .returned (.bool true) ∧ ∃ s:Sn,s.a = a ∧ s.key = key ∧ s.W = W ∧ s.n = tk.length ∧ LifeAt T sv (S ++ [s]) (tkN T W a tk) (doP T W a).1 w0 gl b w':=by
 obtain ⟨x,A1,c1,A2,c2,hL,hxw,hsn,H⟩:=h
 have h1:=hL.ok hT (by omega)
 have h2:=hL.toks hT (by omega)
 have hnx:=hx x x
 have hm:=hnx.may h1.1
 have h3:=hnx.next hT (by omega) h1.1
 have h8:=hT.h1.len
 have hbw:=Nat.le_trans hb H.keep.size
 refine (lstep_ok T hT W _ _ _ x a key S tk gl b b A1 c1 A2 c2 w0 w h1.1 hnx.ok hn hm h3 hxw h8 (by omega) (by omega) hbw hbw H).mono ?_
 rintro e w' ⟨y,A3,c3,A4,c4,rfl,hy,hk,HM⟩
 refine ⟨rfl,⟨a,W,x,y,key,tk.length⟩,rfl,rfl,rfl,rfl,y,A3,c3,A4,c4,hL.step _ (hx x y),hy,fun s hs => ?_,HM⟩
 rcases List.mem_append.1 hs with hs | hs
 ·exact ⟨hk _ _ (hsn s hs).1,hk _ _ (hsn s hs).2⟩
 ·obtain rfl:s = _:=by simpa using hs
  exact ⟨hk _ _ hxw,hy⟩
def RetBegin (T:Tm) (w:World) (e:Ending) (w':World):Prop:=∃ y:Wv,e = .returned (.tuple #[.agg (y.vs T wd0).toArray,()]) ∧ y.Is w' T wd0 ∧ Below w.heap.size w w'
theorem isrr_nil0 (w:World):IsRr w (.slice none 0 0) []:=⟨none,0,[],rfl,Nat.le_refl _,Nat.zero_le _,Rd.nil_,isrs_nil w⟩
structure RowsB (T:Tm) (A1:Option Addr) (c1:Nat) (A2:Option Addr) (c2:Nat) (A3:Option Addr) (c3:Nat) (w:World):Prop where
 t:w.ownsRow 0 209 2 (.slice A1 T.tl.length c1) T.tl.length (drs T.tl)
 d:w.ownsRow 0 143 1 (.slice A2 900 c2) 900 (ws (List.replicate 900 0))
 o:w.ownsRow 0 147 4 (.slice A3 0 c3) 0 (prs [])
theorem RowsB.kept {T:Tm} {A1 A2 A3:Option Addr} {c1 c2 c3:Nat} {w w':World} (h:RowsB T A1 c1 A2 c2 A3 c3 w) {row:Option Nat} (hg:w.grownBy w' row) (hr:∀ (b e s n:Nat) (v:Value) (xs:List Value),(e = 209 ∨ e = 143 ∨ e = 147) → w.ownsRow b e s v n xs → v.ownBlock = none ∨ v.ownBlock ≠ row):RowsB T A1 c1 A2 c2 A3 c3 w' :=
 ⟨h.t.kept hg (hr _ _ _ _ _ _ (by simp) h.t),h.d.kept hg (hr _ _ _ _ _ _ (by simp) h.d),h.o.kept hg (hr _ _ _ _ _ _ (by simp) h.o)⟩
theorem begin_world (T:Tm) (hT:T.Ok) (At:Option Addr) (ct:Nat) (w:World) (hvt:IsDs w (.slice At T.tl.length ct) T.tl) (h8:T.tl.length ≤ 8) :
 Calls Tryz.prog 29 #[.agg #[.slice At T.tl.length ct,T.fx,T.fb,T.db,T.al],.int .i64 900,.int .i64 3] w (RetBegin T w):=by
 have hC:=fun Ad cd U h1 h2 => cln_ok T (List.replicate 900 0) [] [] At ct Ad cd none 0 none 0 U h1 h2 (isps_nil U) (isrr_nil0 U) h8 (by rw [List.length_replicate];omega) (by simp) (by simp) (by simp)
 have hBl:=fun U => blank_own 900 U (by omega) (by omega)
 have hA:=fun U h => acheck_ok At T.tl.length ct T.fx T.fb T.db T.al T.tl U h hT.h1 hT.h2
 unfold RetCln at hC
 unfold RetWsOwn at hBl
 rw [List.length_replicate] at hBl hC
 simp only [List.length_nil] at hC
 have H:=Mem.init w
 replace H:=H.al w.heap.size #[.slice At T.tl.length ct,T.fx,T.fb,T.db,T.al] (31) |>.al (w.heap.size + 1) #[.slice none 0 0,(),(),(),(),.slice none 0 0,.slice none 0 0,.slice none 0 0] (38) |>.gen
 simp only [List.nil_append,List.cons_append] at H
 obtain ⟨W0,hW0,H⟩:=H
 have Ltb:=H.c5 0 rfl
 go_enter Tryz.func29,Tryz.ntmps29
 go_wp2_with fail
 clear hW0
 refine (hA _ (hvt.below H.below)).mono ?_
 rintro e wa ⟨rfl,hb⟩
 replace H:=Mem.call H hb
 clear Ltb
 have Ltb:=H.c5 0 rfl
 clear hb hA
 go_wp2_with fail
 refine (hBl _).mono ?_
 rintro e wb ⟨Ad,cd,rfl,⟨hlt,hown⟩,hb⟩
 have hws0:=isws_own (List.length_replicate) hlt hown
 replace H:=Mem.call H hb
 clear Ltb
 have Ltb:=H.c5 0 rfl
 clear hb hBl
 go_wp2_with fail
 refine (hC Ad cd _ (hvt.below H.below) hws0).mono ?_
 rintro e wn ⟨A1,c1,A2,c2,A3,c3,Ap,cp,vs,rfl,o1,o2,o3,o4,o5,hb⟩
 obtain rfl:vs = []:=List.eq_nil_of_length_eq_zero o5.1
 have hR:RowsB T A1 c1 A2 c2 A3 c3 wn:=⟨o1,o2,o3⟩
 replace H:Mem (w) [] (wn) [.blk (w.heap.size) 31 #[.slice At T.tl.length ct,T.fx,T.fb,T.db,T.al],.blk (w.heap.size + 1) 38 #[.slice none 0 0,(),(),(),(),.slice none 0 0,.slice none 0 0,.slice none 0 0],.row (wb.heap.size) (32) (1) (.slice Ap 0 cp) (0) ([])]:=Mem.row H hb o4 (Nat.le_refl _)
 clear Ltb
 have Ltb:=H.c5 0 rfl
 have hbn:=hb.size
 clear o1 o2 o3 o4 o5 hb hC hws0 hown hlt hvt
 go_wp2_with fail
 clear Ltb
 have hR2:=hR.kept (row:=none) (grown_of_below (below_a1 wn (.cells #[.slice A1 T.tl.length c1,T.fx,T.fb,T.db,T.al,.slice A2 900 c2,.slice A3 0 c3,.slice Ap 0 cp] 38))) (fun _ _ _ _ v _ _ _ => by cases v.ownBlock <;> simp)
 replace H:=H.al wn.heap.size #[.slice A1 T.tl.length c1,T.fx,T.fb,T.db,T.al,.slice A2 900 c2,.slice A3 0 c3,.slice Ap 0 cp] (38) |>.gen
 simp only [List.cons_append,List.nil_append] at H
 obtain ⟨w2,hw2,H⟩:=H
 rw [hw2]
 rw [hw2] at hR2
 clear hw2 hR
 go_loopw [42] (fun i wr => ∃ (k:Nat) (Aq:Option Addr) (cq:Nat) (vs:List Value),k ≤ 3 ∧ i = .int .i64 ↑k ∧ IsRo wr 143 vs ((List.range k).map fun me => (pkB me).C) ∧ RowsB T A1 c1 A2 c2 A3 c3 wr ∧ Mem w [] wr [.blk (w.heap.size + 1) 38 #[.slice none 0 0,(),(),(),(),.slice none 0 0,.slice none 0 0,.slice none 0 0],.row wb.heap.size 32 1 (.slice Aq k cq) k vs,.blk wn.heap.size 38 #[.slice A1 T.tl.length c1,T.fx,T.fb,T.db,T.al,.slice A2 900 c2,.slice A3 0 c3,.slice Aq k cq]]) (fun i _ => 3 - (intOf i).toNat)
 case atStart => exact ⟨0,Ap,cp,[],by omega,rfl,isro_nil _ _,hR2,H.drop_ 0⟩
 case round =>
  obtain ⟨k,Aq,cq,vs,hk,rfl,hro,hRr,HM⟩:=hrel
  clear H hR2
  have H:Mem (w) [] (wr) [.blk (w.heap.size + 1) 38 #[.slice none 0 0,(),(),(),(),.slice none 0 0,.slice none 0 0,.slice none 0 0],.row (wb.heap.size) (32) (1) (.slice Aq k cq) (k) (vs),.blk (wn.heap.size) 38 #[.slice A1 T.tl.length c1,T.fx,T.fb,T.db,T.al,.slice A2 900 c2,.slice A3 0 c3,.slice Aq k cq]]:=HM
  clear HM
  by_cases hlt:k < 3
  ·have hlt2:(k:Int) < 3:=by omega
   have hM:=fun U => pmake_own k U (by omega)
   go_wp2_with fail
   refine (hM _).mono ?_
   rintro e wa2 ⟨gp,rfl,hgp,hB,hl,hb⟩
   replace H:=Mem.call H hb
   have hO:OwnWs wa2 143 (.slice (some ⟨gp,0,none⟩) 12 12) (pkB k).C:=⟨own_of_blk (xs:=(pkB k).C) hB (Nat.zero_le _) (by show 12 ≤ maxLen;decide),hl⟩
   have hro2:=(hro.map fun v xs h => h.below hb).snoc hO
   have hR3:=hRr.kept (row:=none) (grown_of_below hb) (fun _ _ _ _ v _ _ _ => by cases v.ownBlock <;> simp)
   clear hro hRr hB hl hb hgp hM hO
   have Lww:=H.c8 2 rfl
   have hwl:=H.lt 2 rfl
   go_wp2_with (at_builtin;refine wpList_pushMg el_ws rfl (.tmp 51) (.tmp 53) rfl 1 H rfl rfl _ rfl rfl (news:=[.slice (some ⟨gp,0,none⟩) 12 12]) rfl (fun u hu => by simp at hu;subst hu;rfl) (by omega) (by unfold maxLen;omega) (by omega) ?_;intro A5 c5 w5 H5 hg5;obtain ⟨wwlt,ww0,wwf0,ww1,wwf1,ww2,wwf2,ww3,wwf3,ww4,wwf4,ww5,wwf5,ww6,wwf6,ww7,wwf7⟩:=H5.c8 2 rfl)
   have hRow:=(H.own_ 1 rfl).alloc (.cells #[.slice (some ⟨gp,0,none⟩) 12 12] 32)
   have hro3:=(hro2.map fun v xs h => h.alloc (.cells #[.slice (some ⟨gp,0,none⟩) 12 12] 32)).map fun v xs h => h.grown hRow (by decide) hg5
   have hR4:=hR3.kept (row:=none) (grown_of_below (below_a1 wa2 (.cells #[.slice (some ⟨gp,0,none⟩) 12 12] 32))) (fun _ _ _ _ v _ _ _ => by cases v.ownBlock <;> simp)
   have hR5:=hR4.kept hg5 (fun b e s n v xs he hr => own_ne_type hr hRow (by rcases he with rfl | rfl | rfl <;> decide))
   have n0:=hro3.ne (H5.blk 2 rfl) (by decide)
   have hro6:=hro3.setc (p:=⟨wn.heap.size,7,none⟩) n0 (.slice A5 (k + 1) c5)
   have hB5:=H5.blk 2 rfl
   have hR6:=hR5.kept (grown_setCell w5 ⟨wn.heap.size,7,none⟩ (.slice A5 (k + 1) c5)) (fun b e s n v xs he hr => .inr (fun e2 => blk_not_row hB5 (by rcases he with rfl | rfl | rfl <;> decide) hr e2.symm))
   have HZ:=H5.set 2 rfl 7 (.slice A5 (k + 1) c5)
   simp only [List.set_cons_zero,List.set_cons_succ,List.setIfInBounds_toArray] at HZ
   have hrk:(List.range k).map (fun me => (pkB me).C) ++ [(pkB k).C] = (List.range (k + 1)).map (fun me => (pkB me).C):=by rw [List.range_succ,List.map_append];rfl
   rw [hrk] at hro6
   clear hrk hR3 hR4 hR5 hro2 hro3 hRow n0 hB5 H5 hg5 H hwl
   clear Lww wwlt ww0 wwf0 ww1 wwf1 ww2 wwf2 ww3 wwf3 ww4 wwf4 ww5 wwf5 ww6 wwf6 ww7 wwf7
   go_roundw
   case rel => exact ⟨k + 1,A5,c5,vs ++ [.slice (some ⟨gp,0,none⟩) 12 12],by omega,by go_num,hro6,hR6,HZ⟩
   case measure => simp [intOf];omega
  ·skip
   obtain rfl:k = 3:=by omega
   obtain ⟨A6,c6,A7,c7,A8,c8,rfl,hy⟩:=wv_of (wd0_ok T) hRr.t (by show wr.ownsRow 0 143 1 (.slice A2 (List.replicate 900 0).length c2) (List.replicate 900 0).length (ws (List.replicate 900 0));rw [List.length_replicate];exact hRr.d) hRr.o (H.own_ 1 rfl) hro
   have f1:=hy.far (H.blk 0 rfl) (by unfold NoWd;decide)
   clear hro hRr
   have Lww:=H.c8 2 rfl
   have Lrw:=H.c8 0 rfl
   have Nwwrw:=H.ne2 2 0 rfl rfl rfl
   go_wp2
   replace H:=H.set 0 rfl 0 (.slice A1 T.tl.length c1) |>.set 0 rfl 1 T.fx |>.set 0 rfl 2 T.fb |>.set 0 rfl 3 T.db |>.set 0 rfl 4 T.al |>.set 0 rfl 5 (.slice A2 900 c2) |>.set 0 rfl 6 (.slice A3 0 c3) |>.set 0 rfl 7 (.slice Aq 3 cq) |>.gen
   simp only [List.set_cons_zero,List.setIfInBounds_toArray,List.set_cons_succ] at H
   obtain ⟨wz,hwz,H⟩:=H
   rw [hwz]
   have hZ3:Wv.Is ⟨A1,c1,A2,c2,A3,c3,Aq,cq,A6,c6,A7,c7,A8,c8⟩ wz T wd0:=by rw [← hwz];exact ((((((((hy.setc f1 0 _).setc f1 1 _).setc f1 2 _).setc f1 3 _).setc f1 4 _).setc f1 5 _).setc f1 6 _).setc f1 7 _)
   clear hwz f1 hy
   clear Lww Lrw Nwwrw
   obtain ⟨rwlt,rw0,-,rw1,-,rw2,-,rw3,-,rw4,-,rw5,-,rw6,-,rw7,-⟩:=H.c8 0 rfl
   refine bodyPost_ret (v:=.tuple #[.agg #[.slice A1 T.tl.length c1,T.fx,T.fb,T.db,T.al,.slice A2 900 c2,.slice A3 0 c3,.slice Aq 3 cq],()]) (by simp [results,Tryz.results29,go_sem,rw0,rw1,rw2,rw3,rw4,rw5,rw6,rw7];done) rfl ?_
   refine ⟨_,?_,hZ3,H.below⟩
   unfold Wv.vs
   rw [show wd0.c.length = 900 from List.length_replicate]
   rfl
theorem Picked_is {n many r:Int} (w:World) (hr:Hid (pk n many = r)) (hw:(Lit.int .i64 n).wf = true) (hm:1 ≤ many) (hm2:many ≤ 9223372036854775807) :
 Calls Tryz.prog 21 #[n,many] w fun e w' => e = .returned (.int .i64 r) ∧ w = w':=by
 go_enter Tryz.func21,Tryz.ntmps21
 go_wp2_with fail
 refine (picked_is _ hr hw hm hm2).mono ?_
 rintro e w' ⟨rfl,rfl⟩
 go_wp2
 go_ret
 exact ⟨rfl,rfl⟩
theorem cutOf_is (n:Int) (hn:(Lit.int .i64 n).wf = true):∃ cut:Option Nat,∀ w,Calls Tryz.prog 49 #[n] w fun e w' => e = .returned (.int .i64 (cutI cut)) ∧ w = w':=by
 obtain ⟨p,hp,hp4⟩:=pk_nat n 4 (by omega)
 have hp':Hid (pk n 4 = (p:Int)):=hp
 have hn2:(Lit.int .i64 (wrap64 (n.tdiv 4))).wf = true:=wrap64_wf _
 obtain ⟨q,hq,hq4⟩:=pk_nat (wrap64 (n.tdiv 4)) 20 (by omega)
 have hq':Hid (pk (wrap64 (n.tdiv 4)) 20 = (q:Int)):=hq
 by_cases h0:p = 0
 ·subst h0
  refine ⟨some q,fun w => ?_⟩
  go_enter Tryz.func49,Tryz.ntmps49
  go_wp2_with fail
  refine (Picked_is _ hp' hn (by omega) (by omega)).mono ?_
  rintro e w' ⟨rfl,rfl⟩
  go_wp2_with fail
  refine (Picked_is _ hq' hn2 (by omega) (by omega)).mono ?_
  rintro e w' ⟨rfl,rfl⟩
  go_wp2
  go_ret
  exact ⟨rfl,rfl⟩
 ·have i1:((p:Int) == 0) = false:=by simp;omega
  have i2:¬ (p:Int) = 0:=by omega
  refine ⟨none,fun w => ?_⟩
  go_enter Tryz.func49,Tryz.ntmps49
  go_wp2_with fail
  refine (Picked_is _ hp' hn (by omega) (by omega)).mono ?_
  rintro e w' ⟨rfl,rfl⟩
  go_wp2
  go_ret
  exact ⟨rfl,rfl⟩
def Mt.v (me:Nat) (m:Mt):List Value:=[.int .i64 ↑me,.int .i64 ↑m.rev,.int .i64 ↑m.cr,.int .i64 ↑m.H,.int .u64 (m.B:Int),.int .i64 ↑m.bad,.int .i64 ↑m.lock]
theorem meterIn_ok (T:Tm) (W:Wd) (m n:Nat) (x:Wv) (me:Nat) (w:World) (hW:W.Ok T m n) (hme:me ≤ 2) (hx:x.Is w T W) :
 Calls Tryz.prog 23 #[.agg (x.vs T W).toArray,me] w fun e w' => e = .returned (.tuple #[.agg ((W.P.getD me pk0).m.v me).toArray,.bool true]) ∧ Below w.heap.size w w':=by
 obtain ⟨bp,hp⟩:∃ bp,x.Ap = some ⟨bp,0,none⟩:=by
  rcases hx.p.2 with ⟨h,_⟩ | ⟨g,cap,cur,h,_⟩
  ·injection h with h1 h2;omega
  ·injection h with h1 h2;exact ⟨g,h1⟩
 obtain ⟨hbl,hc⟩:=hx.pcell hp hme
 have hpk:=(hx.pocket hW me hme).2
 have hok:=hW.pok me hme
 have hBo:=fun U h => boot_ok (.slice (x.A me) 12 (x.c me)) (W.P.getD me pk0).C me _ _ _ _ _ _ (W.P.getD me pk0).s U h hok.sl hok.may.1 hok.may.2
 unfold Wv.vs Mt.v
 rw [hp]
 have g5:(me:Int) < 3:=by omega
 generalize (W.P.getD me pk0).m = mm at hBo ⊢
 obtain ⟨r1,r2,r3,r4,r5,r6⟩:=mm
 dsimp only at hBo ⊢
 have H:=Mem.init w
 go_enter Tryz.func23,Tryz.ntmps23
 go_wp2_with fail
 replace H:=H.al w.heap.size #[.slice x.At T.tl.length x.ct,T.fx,T.fb,T.db,T.al,.slice x.Ad W.c.length x.cd,.slice x.Ao W.lp.length x.co,.slice (some ⟨bp,0,none⟩) 3 x.cp] (38) |>.al (w.heap.size + 1) #[(),(),(),(),.int .u64 0,(),()] (81) |>.gen
 simp only [List.nil_append,List.cons_append] at H
 obtain ⟨W0,hW0,H⟩:=H
 rw [hW0]
 clear hW0
 have hpk:=hpk.below H.below
 refine (hBo _ hpk).mono ?_
 rintro e wa ⟨rfl,hb⟩
 replace H:=Mem.call H hb
 have Lmr:=H.c7 1 rfl
 go_wp2_with fail
 clear Lmr
 replace H:=H.set 1 rfl 0 me |>.set 1 rfl 1 r1 |>.set 1 rfl 2 r2 |>.set 1 rfl 3 r3 |>.set 1 rfl 4 (.int .u64 (r4:Int)) |>.set 1 rfl 5 r5 |>.set 1 rfl 6 r6 |>.al wa.heap.size #[me,r1,r2,r3,.int .u64 (r4:Int),r5,r6] (81) |>.gen
 simp only [List.set_cons_zero,List.set_cons_succ,List.setIfInBounds_toArray,List.cons_append,List.nil_append] at H
 obtain ⟨wz,hwz,H⟩:=H
 rw [hwz]
 clear hwz
 obtain ⟨mrlt,mr0,-,mr1,-,mr2,-,mr3,-,mr4,-,mr5,-,mr6,-⟩:=H.c7 1 rfl
 refine bodyPost_ret (v:=.tuple #[.agg #[me,r1,r2,r3,.int .u64 (r4:Int),r5,r6],.bool true]) (by simp [results,Tryz.results23,go_sem,mr0,mr1,mr2,mr3,mr4,mr5,mr6];done) rfl ?_
 exact ⟨rfl,H.below⟩
def RetAct (tk:List Sd) (sv:Bool) (kd:Int) (w:World) (e:Ending) (w':World):Prop :=
 ∃ (a:Ac) (key:ByteArray),e = .returned (.tuple #[.agg a.vs.toArray,.string key]) ∧ a.Ok ∧ a.k ≠ 1 ∧ (sv = false → a.k ≤ 5 → a.cut = none) ∧ (key = ⟨#[]⟩ ∨ ∃ t ∈ tk,t.s = key ∧ a.k = 6 ∧ a.s = t.s ++ ⟨#[35]⟩) ∧ (∀ q:Nat,pk kd 14 = (q:Int) → (q = 3 → a.k = 2) ∧ (7 ≤ q → 6 ≤ a.k)) ∧ Below w.heap.size w w'
theorem act_ok (T:Tm) (W:Wd) (x:Wv) (tk:List Sd) (A1 A2:Option Addr) (n1 c1 c2:Nat) (d0 d1 d2 d3 d4 d5 d6:Int) (ds:ByteArray) (sv:Bool) (w:World) (hn2:tk.length ≤ 1000) (ht:w.ownsRow 0 74 12 (.slice A2 tk.length c2) tk.length (sds tk)) (hme:∀ t ∈ tk,t.me ≤ 2 ∧ t.s.size ≤ 100)
 (u0:(Lit.int .i64 d0).wf = true) (u1:(Lit.int .i64 d1).wf = true) (u2:(Lit.int .i64 d2).wf = true) (u3:(Lit.int .i64 d3).wf = true) (u4:(Lit.int .i64 d4).wf = true) (u5:(Lit.int .i64 d5).wf = true) (u6:(Lit.int .i64 d6).wf = true) :
 Calls Tryz.prog 27 #[.agg #[.slice x.At T.tl.length x.ct,T.fx,T.fb,T.db,T.al,.slice x.Ad W.c.length x.cd,.slice x.Ao W.lp.length x.co,.slice x.Ap 3 x.cp,.slice A1 n1 c1,.slice A2 tk.length c2],.agg #[d0,d1,d2,d3,d4,d5,d6,.string ds],.bool sv] w (RetAct tk sv d0 w):=by
 obtain ⟨me,hpm,hm3⟩:=pk_nat d1 3 (by omega)
 obtain ⟨k,hpk,hk14⟩:=pk_nat d0 14 (by omega)
 obtain ⟨dr,hpd,hd6⟩:=pk_nat d4 65536 (by omega)
 have hpm:Hid (pk d1 3 = (me:Int)):=hpm
 have hpk:Hid (pk d0 14 = (k:Int)):=hpk
 have hpd:Hid (pk d4 65536 = (dr:Int)):=hpd
 have hkk:=Lib.hid (show ∀ q:Nat,pk d0 14 = (q:Int) → q = k from fun q h => by have:=hpk.out;omega)
 obtain ⟨cut,hcut⟩:=cutOf_is d6 u6
 obtain ⟨ci,hci⟩:∃ ci,cutI cut = ci:=⟨_,rfl⟩
 rw [hci] at hcut
 have H:=Mem.init w
 replace H:=H.al w.heap.size #[.slice x.At T.tl.length x.ct,T.fx,T.fb,T.db,T.al,.slice x.Ad W.c.length x.cd,.slice x.Ao W.lp.length x.co,.slice x.Ap 3 x.cp,.slice A1 n1 c1,.slice A2 tk.length c2] (42) |>.al (w.heap.size + 1) #[d0,d1,d2,d3,d4,d5,d6,.string ds] (96) |>.al (w.heap.size + 1 + 1) #[(),(),(),(),(),.string ⟨#[]⟩,()] (44) |>.gen
 simp only [List.nil_append,List.cons_append] at H
 obtain ⟨W0,hW0,H⟩:=H
 have Lde:=H.c8 1 rfl
 go_enter Tryz.func27,Tryz.ntmps27
 go_upto_region 1 with fail
 go_cut [8] (fun p wx => ∃ gt:Nat,p = .pointer (some ⟨gt,0,none⟩) ∧ Mem w [] wx [.blk (w.heap.size) 42 #[.slice x.At T.tl.length x.ct,T.fx,T.fb,T.db,T.al,.slice x.Ad W.c.length x.cd,.slice x.Ao W.lp.length x.co,.slice x.Ap 3 x.cp,.slice A1 n1 c1,.slice A2 tk.length c2],.blk (w.heap.size + 1) 96 #[d0,d1,d2,d3,d4,d5,d6,.string ds],.blk (w.heap.size + 1 + 1) 44 #[(),(),(),(),(),.string ⟨#[]⟩,()],.blk (gt) 44 #[(),me,(),(),(),.string ⟨#[]⟩,ci]])
 case first =>
  go_region_held3 (fun w' => w'.cell? ⟨w.heap.size + 1,1,none⟩ = some (.int .i64 d1) ∧ w'.cell? ⟨w.heap.size + 1,6,none⟩ = some (.int .i64 d6)) (first | go_keep | fail) (first | (go_at_call 21;(with_reducible refine (Picked_is _ hpm u1 (by omega) (by omega)).mono ?_);rintro e w' ⟨rfl,rfl⟩) | (go_at_call 49;(with_reducible refine (hcut _).mono ?_);rintro e w' ⟨rfl,rfl⟩))
  all_goals
   replace H:=H.al W0.heap.size #[(),me,(),(),(),.string ⟨#[]⟩,ci] (44) |>.drew |>.gen
   simp only [List.cons_append,List.nil_append] at H
   obtain ⟨W1,hW1,H⟩:=H
   rw [hW1]
   clear hW1
   go_wp2_with fail
   go_meet
   exact ⟨_,rfl,H⟩
 case rest =>
  obtain ⟨gt,rfl,H⟩:=hcut
  have H:Mem (w) [] (wc) [.blk (w.heap.size) 42 #[.slice x.At T.tl.length x.ct,T.fx,T.fb,T.db,T.al,.slice x.Ad W.c.length x.cd,.slice x.Ao W.lp.length x.co,.slice x.Ap 3 x.cp,.slice A1 n1 c1,.slice A2 tk.length c2],.blk (w.heap.size + 1) 96 #[d0,d1,d2,d3,d4,d5,d6,.string ds],.blk (w.heap.size + 1 + 1) 44 #[(),(),(),(),(),.string ⟨#[]⟩,()],.blk (gt) 44 #[(),me,(),(),(),.string ⟨#[]⟩,ci]]:=H
  clear Lde
  have Llf:=H.c10 0 rfl
  have Lde:=H.c8 1 rfl
  have Lra:=H.c7 2 rfl
  have Lac:=H.c7 3 rfl
  have Nlfde:=H.ne2 0 1 rfl rfl rfl
  have Nlfra:=H.ne2 0 2 rfl rfl rfl
  have Nlfac:=H.ne2 0 3 rfl rfl rfl
  have Ndera:=H.ne2 1 2 rfl rfl rfl
  have Ndeac:=H.ne2 1 3 rfl rfl rfl
  have Nraac:=H.ne2 2 3 rfl rfl rfl
   -- BRANCHES
  by_cases h7:k < 7
  ·have g7:(k:Int) < 7:=by omega
   go_upto_if 30 with (first | (go_at_call 21;(with_reducible refine (Picked_is _ hpk u0 (by omega) (by omega)).mono ?_);rintro e w' ⟨rfl,rfl⟩) | (go_at_call 21;(with_reducible refine (Picked_is _ hpd u4 (by omega) (by omega)).mono ?_);rintro e w' ⟨rfl,rfl⟩))
   obtain ⟨wo,hwo⟩:∃ wo,wo = wc:=⟨_,rfl⟩
   subst hwo
   go_cut [] (fun wx => ∃ cu2:Option Nat,(sv = false → cu2 = none) ∧ Mem w [] wx [.blk (w.heap.size) 42 #[.slice x.At T.tl.length x.ct,T.fx,T.fb,T.db,T.al,.slice x.Ad W.c.length x.cd,.slice x.Ao W.lp.length x.co,.slice x.Ap 3 x.cp,.slice A1 n1 c1,.slice A2 tk.length c2],.blk (w.heap.size + 1) 96 #[d0,d1,d2,d3,d4,d5,d6,.string ds],.blk (w.heap.size + 1 + 1) 44 #[(),(),(),(),(),.string ⟨#[]⟩,()],.blk (gt) 44 #[(),me,(),(),(),.string ⟨#[]⟩,.int .i64 (cutI cu2)]])
   case first =>
    cases sv
    ·go_wp2_with fail
     replace H:=H.set 3 rfl 6 (.int .i64 (-1)) |>.gen
     simp only [List.set_cons_zero,List.set_cons_succ,List.setIfInBounds_toArray] at H
     obtain ⟨wy,hwy,H⟩:=H
     rw [hwy]
     clear hwy
     go_meet
     exact ⟨none,fun _ => rfl,H⟩
    ·go_wp2_with fail
     go_meet
     subst hci
     exact ⟨cut,(fun q => by cases q),H⟩
   case rest =>
   clear H
   clear hci cut
   skip
   obtain ⟨cut,hsv,HM2⟩:=hcut
   obtain ⟨ci,hci⟩:∃ ci,cutI cut = ci:=⟨_,rfl⟩
   rw [hci] at HM2
   have H:Mem (w) [] (wc) [.blk (w.heap.size) 42 #[.slice x.At T.tl.length x.ct,T.fx,T.fb,T.db,T.al,.slice x.Ad W.c.length x.cd,.slice x.Ao W.lp.length x.co,.slice x.Ap 3 x.cp,.slice A1 n1 c1,.slice A2 tk.length c2],.blk (w.heap.size + 1) 96 #[d0,d1,d2,d3,d4,d5,d6,.string ds],.blk (w.heap.size + 1 + 1) 44 #[(),(),(),(),(),.string ⟨#[]⟩,()],.blk (gt) 44 #[(),me,(),(),(),.string ⟨#[]⟩,ci]]:=HM2
   clear HM2
   clear Llf Lde Lra Lac Nlfde Nlfra Nlfac Ndera Ndeac Nraac
   have Llf:=H.c10 0 rfl
   have Lde:=H.c8 1 rfl
   have Lra:=H.c7 2 rfl
   have Lac:=H.c7 3 rfl
   have Nlfde:=H.ne2 0 1 rfl rfl rfl
   have Nlfra:=H.ne2 0 2 rfl rfl rfl
   have Nlfac:=H.ne2 0 3 rfl rfl rfl
   have Ndera:=H.ne2 1 2 rfl rfl rfl
   have Ndeac:=H.ne2 1 3 rfl rfl rfl
   have Nraac:=H.ne2 2 3 rfl rfl rfl
   obtain ⟨pa,hpa,hpa5⟩:=pk_nat d2 100000 (by omega)
   have hpa:Hid (pk d2 100000 = (pa:Int)):=hpa
   obtain ⟨pb,hpb,hpb5⟩:=pk_nat d3 500 (by omega)
   have hpb:Hid (pk d3 500 = (pb:Int)):=hpb
   obtain ⟨pm,hpm6,hpmm⟩:=pk_nat d3 6 (by omega)
   have hpm6:Hid (pk d3 6 = (pm:Int)):=hpm6
   obtain ⟨pl,hpl,hpl6⟩:=pk_nat d2 1000000 (by omega)
   have hpl:Hid (pk d2 1000000 = (pl:Int)):=hpl
   have hk4:k = 0 ∨ k = 1 ∨ k = 2 ∨ (((k:Int) == 0) = false ∧ ((k:Int) == 1) = false ∧ ((k:Int) == 2) = false ∧ ¬ (k:Int) = 0 ∧ ¬ (k:Int) = 1 ∧ ¬ (k:Int) = 2):=by
    by_cases q0:k = 0
    ·exact .inl q0
    by_cases q1:k = 1
    ·exact .inr (.inl q1)
    by_cases q2:k = 2
    ·exact .inr (.inr (.inl q2))
    exact .inr (.inr (.inr ⟨by simp;omega,by simp;omega,by simp;omega,by omega,by omega,by omega⟩))
   rcases hk4 with rfl | rfl | rfl | ⟨q0,q1,q2,q3,q4,q5⟩
   ·skip
    go_wp2_with (first | (go_at_call 21;(with_reducible refine (Picked_is _ hpa u2 (by omega) (by omega)).mono ?_);rintro e w' ⟨rfl,rfl⟩) | (go_at_call 21;(with_reducible refine (Picked_is _ hpb u3 (by omega) (by omega)).mono ?_);rintro e w' ⟨rfl,rfl⟩))
    clear Llf Lde Lra Lac Nlfde Nlfra Nlfac Ndera Ndeac Nraac
    replace H:=H.set 3 rfl 0 (.int .i64 5) |>.set 3 rfl 2 (.int .i64 (1 + (pa:Int))) |>.set 3 rfl 3 pb |>.gen
    simp only [List.set_cons_zero,List.set_cons_succ,List.setIfInBounds_toArray] at H
    obtain ⟨wy,hwy,H⟩:=H
    rw [hwy]
    clear hwy
    replace H:=H.set 2 rfl 0 (.int .i64 5) |>.set 2 rfl 1 me |>.set 2 rfl 2 (.int .i64 (1 + (pa:Int))) |>.set 2 rfl 3 pb |>.set 2 rfl 4 () |>.set 2 rfl 5 (.string ⟨#[]⟩) |>.set 2 rfl 6 ci |>.gen
    simp only [List.set_cons_zero,List.set_cons_succ,List.setIfInBounds_toArray] at H
    obtain ⟨wz,hwz,H⟩:=H
    rw [hwz]
    clear hwz
    obtain ⟨ralt,ra0,-,ra1,-,ra2,-,ra3,-,ra4,-,ra5,-,ra6,-⟩:=H.c7 2 rfl
    refine bodyPost_ret (v:=.tuple #[.agg #[.int .i64 5,me,.int .i64 (1 + (pa:Int)),pb,(),.string ⟨#[]⟩,ci],.string ⟨#[]⟩]) (by simp [results,Tryz.results27,go_sem,ra0,ra1,ra2,ra3,ra4,ra5,ra6];done) rfl ?_
    subst hci
    exact ⟨⟨5,me,1 + pa,pb,0,⟨#[]⟩,cut⟩,⟨#[]⟩,rfl,by constructor <;> intros <;> dsimp only at * <;> omega,by dsimp only;omega,(fun q _ => hsv q),.inl rfl,(fun q h => by have:=hkk.out q h;dsimp only;exact ⟨fun _ => by omega,fun _ => by omega⟩),H.below⟩
   ·skip
    go_wp2_with (first | (go_at_call 21;(with_reducible refine (Picked_is _ hpm6 u3 (by omega) (by omega)).mono ?_);rintro e w' ⟨rfl,rfl⟩))
    clear Llf Lde Lra Lac Nlfde Nlfra Nlfac Ndera Ndeac Nraac
    replace H:=H.set 3 rfl 0 (.int .i64 3) |>.set 3 rfl 2 pm |>.set 3 rfl 4 dr |>.gen
    simp only [List.set_cons_zero,List.set_cons_succ,List.setIfInBounds_toArray] at H
    obtain ⟨wy,hwy,H⟩:=H
    rw [hwy]
    clear hwy
    replace H:=H.set 2 rfl 0 (.int .i64 3) |>.set 2 rfl 1 me |>.set 2 rfl 2 pm |>.set 2 rfl 3 () |>.set 2 rfl 4 dr |>.set 2 rfl 5 (.string ⟨#[]⟩) |>.set 2 rfl 6 ci |>.gen
    simp only [List.set_cons_zero,List.set_cons_succ,List.setIfInBounds_toArray] at H
    obtain ⟨wz,hwz,H⟩:=H
    rw [hwz]
    clear hwz
    obtain ⟨ralt,ra0,-,ra1,-,ra2,-,ra3,-,ra4,-,ra5,-,ra6,-⟩:=H.c7 2 rfl
    refine bodyPost_ret (v:=.tuple #[.agg #[.int .i64 3,me,pm,(),dr,.string ⟨#[]⟩,ci],.string ⟨#[]⟩]) (by simp [results,Tryz.results27,go_sem,ra0,ra1,ra2,ra3,ra4,ra5,ra6];done) rfl ?_
    subst hci
    exact ⟨⟨3,me,pm,0,dr,⟨#[]⟩,cut⟩,⟨#[]⟩,rfl,by constructor <;> intros <;> dsimp only at * <;> omega,by dsimp only;omega,(fun q _ => hsv q),.inl rfl,(fun q h => by have:=hkk.out q h;dsimp only;exact ⟨fun _ => by omega,fun _ => by omega⟩),H.below⟩
   ·skip
    go_wp2_with fail
    clear Llf Lde Lra Lac Nlfde Nlfra Nlfac Ndera Ndeac Nraac
    replace H:=H.set 3 rfl 0 (.int .i64 4) |>.set 3 rfl 4 dr |>.gen
    simp only [List.set_cons_zero,List.set_cons_succ,List.setIfInBounds_toArray] at H
    obtain ⟨wy,hwy,H⟩:=H
    rw [hwy]
    clear hwy
    replace H:=H.set 2 rfl 0 (.int .i64 4) |>.set 2 rfl 1 me |>.set 2 rfl 2 () |>.set 2 rfl 3 () |>.set 2 rfl 4 dr |>.set 2 rfl 5 (.string ⟨#[]⟩) |>.set 2 rfl 6 ci |>.gen
    simp only [List.set_cons_zero,List.set_cons_succ,List.setIfInBounds_toArray] at H
    obtain ⟨wz,hwz,H⟩:=H
    rw [hwz]
    clear hwz
    obtain ⟨ralt,ra0,-,ra1,-,ra2,-,ra3,-,ra4,-,ra5,-,ra6,-⟩:=H.c7 2 rfl
    refine bodyPost_ret (v:=.tuple #[.agg #[.int .i64 4,me,(),(),dr,.string ⟨#[]⟩,ci],.string ⟨#[]⟩]) (by simp [results,Tryz.results27,go_sem,ra0,ra1,ra2,ra3,ra4,ra5,ra6];done) rfl ?_
    subst hci
    exact ⟨⟨4,me,0,0,dr,⟨#[]⟩,cut⟩,⟨#[]⟩,rfl,by constructor <;> intros <;> dsimp only at * <;> omega,by dsimp only;omega,(fun q _ => hsv q),.inl rfl,(fun q h => by have:=hkk.out q h;dsimp only;exact ⟨fun _ => by omega,fun _ => by omega⟩),H.below⟩
   ·skip
    go_wp2_with (first | (go_at_call 21;(with_reducible refine (Picked_is _ hpl u2 (by omega) (by omega)).mono ?_);rintro e w' ⟨rfl,rfl⟩) | (go_at_call 21;(with_reducible refine (Picked_is _ hpm6 u3 (by omega) (by omega)).mono ?_);rintro e w' ⟨rfl,rfl⟩))
    clear Llf Lde Lra Lac Nlfde Nlfra Nlfac Ndera Ndeac Nraac
    replace H:=H.set 3 rfl 0 (.int .i64 2) |>.set 3 rfl 2 (.int .i64 (1 + (pl:Int))) |>.set 3 rfl 3 pm |>.set 3 rfl 4 dr |>.gen
    simp only [List.set_cons_zero,List.set_cons_succ,List.setIfInBounds_toArray] at H
    obtain ⟨wy,hwy,H⟩:=H
    rw [hwy]
    clear hwy
    replace H:=H.set 2 rfl 0 (.int .i64 2) |>.set 2 rfl 1 me |>.set 2 rfl 2 (.int .i64 (1 + (pl:Int))) |>.set 2 rfl 3 pm |>.set 2 rfl 4 dr |>.set 2 rfl 5 (.string ⟨#[]⟩) |>.set 2 rfl 6 ci |>.gen
    simp only [List.set_cons_zero,List.set_cons_succ,List.setIfInBounds_toArray] at H
    obtain ⟨wz,hwz,H⟩:=H
    rw [hwz]
    clear hwz
    obtain ⟨ralt,ra0,-,ra1,-,ra2,-,ra3,-,ra4,-,ra5,-,ra6,-⟩:=H.c7 2 rfl
    refine bodyPost_ret (v:=.tuple #[.agg #[.int .i64 2,me,.int .i64 (1 + (pl:Int)),pm,dr,.string ⟨#[]⟩,ci],.string ⟨#[]⟩]) (by simp [results,Tryz.results27,go_sem,ra0,ra1,ra2,ra3,ra4,ra5,ra6];done) rfl ?_
    subst hci
    exact ⟨⟨2,me,1 + pl,pm,dr,⟨#[]⟩,cut⟩,⟨#[]⟩,rfl,by constructor <;> intros <;> dsimp only at * <;> omega,by dsimp only;omega,(fun q _ => hsv q),.inl rfl,(fun q h => by have:=hkk.out q h;dsimp only;exact ⟨fun _ => by omega,fun _ => by omega⟩),H.below⟩
  ·have g7:¬ (k:Int) < 7:=by omega
   have q0:((k:Int) == 0) = false:=by simp;omega
   have q1:((k:Int) == 1) = false:=by simp;omega
   have q2:((k:Int) == 2) = false:=by simp;omega
   have q3:¬ (k:Int) = 0:=by omega
   have q4:¬ (k:Int) = 1:=by omega
   have q5:¬ (k:Int) = 2:=by omega
   obtain ⟨pt,hpt,hpt1⟩:=pk_nat d2 1001 (by omega)
   have hpt:Hid (pk d2 1001 = (pt:Int)):=hpt
   by_cases h13:k = 13
   ·have g12:¬ (k:Int) < 12:=by omega
    have g13:¬ (k:Int) < 13:=by omega
    skip
    go_wp2_with (first | (go_at_call 21;(with_reducible refine (Picked_is _ hpk u0 (by omega) (by omega)).mono ?_);rintro e w' ⟨rfl,rfl⟩) | (go_at_call 21;(with_reducible refine (Picked_is _ hpd u4 (by omega) (by omega)).mono ?_);rintro e w' ⟨rfl,rfl⟩) | (go_at_call 21;(with_reducible refine (Picked_is _ hpt u2 (by omega) (by omega)).mono ?_);rintro e w' ⟨rfl,rfl⟩))
    clear Llf Lde Lra Lac Nlfde Nlfra Nlfac Ndera Ndeac Nraac
    replace H:=H.set 3 rfl 0 (.int .i64 7) |>.set 3 rfl 2 pt |>.gen
    simp only [List.set_cons_zero,List.set_cons_succ,List.setIfInBounds_toArray] at H
    obtain ⟨wy,hwy,H⟩:=H
    rw [hwy]
    clear hwy
    replace H:=H.set 2 rfl 0 (.int .i64 7) |>.set 2 rfl 1 me |>.set 2 rfl 2 pt |>.set 2 rfl 3 () |>.set 2 rfl 4 () |>.set 2 rfl 5 (.string ⟨#[]⟩) |>.set 2 rfl 6 ci |>.gen
    simp only [List.set_cons_zero,List.set_cons_succ,List.setIfInBounds_toArray] at H
    obtain ⟨wz,hwz,H⟩:=H
    rw [hwz]
    clear hwz
    obtain ⟨ralt,ra0,-,ra1,-,ra2,-,ra3,-,ra4,-,ra5,-,ra6,-⟩:=H.c7 2 rfl
    refine bodyPost_ret (v:=.tuple #[.agg #[.int .i64 7,me,pt,(),(),.string ⟨#[]⟩,ci],.string ⟨#[]⟩]) (by simp [results,Tryz.results27,go_sem,ra0,ra1,ra2,ra3,ra4,ra5,ra6];done) rfl ?_
    subst hci
    exact ⟨⟨7,me,pt,0,0,⟨#[]⟩,cut⟩,⟨#[]⟩,rfl,by constructor <;> intros <;> dsimp only at * <;> omega,by dsimp only;omega,(fun _ q => by dsimp only at q;omega),.inl rfl,(fun q h => by have:=hkk.out q h;dsimp only;exact ⟨fun _ => by omega,fun _ => by omega⟩),H.below⟩
   have g13:(k:Int) < 13:=by omega
   by_cases h12:k = 12
   ·have g12:¬ (k:Int) < 12:=by omega
    skip
    go_wp2_with (first | (go_at_call 21;(with_reducible refine (Picked_is _ hpk u0 (by omega) (by omega)).mono ?_);rintro e w' ⟨rfl,rfl⟩) | (go_at_call 21;(with_reducible refine (Picked_is _ hpd u4 (by omega) (by omega)).mono ?_);rintro e w' ⟨rfl,rfl⟩))
    clear Llf Lde Lra Lac Nlfde Nlfra Nlfac Ndera Ndeac Nraac
    replace H:=H.set 3 rfl 0 (.int .i64 6) |>.set 3 rfl 5 (.string ds) |>.gen
    simp only [List.set_cons_zero,List.set_cons_succ,List.setIfInBounds_toArray] at H
    obtain ⟨wy,hwy,H⟩:=H
    rw [hwy]
    clear hwy
    replace H:=H.set 2 rfl 0 (.int .i64 6) |>.set 2 rfl 1 me |>.set 2 rfl 2 () |>.set 2 rfl 3 () |>.set 2 rfl 4 () |>.set 2 rfl 5 (.string ds) |>.set 2 rfl 6 ci |>.gen
    simp only [List.set_cons_zero,List.set_cons_succ,List.setIfInBounds_toArray] at H
    obtain ⟨wz,hwz,H⟩:=H
    rw [hwz]
    clear hwz
    obtain ⟨ralt,ra0,-,ra1,-,ra2,-,ra3,-,ra4,-,ra5,-,ra6,-⟩:=H.c7 2 rfl
    refine bodyPost_ret (v:=.tuple #[.agg #[.int .i64 6,me,(),(),(),.string ds,ci],.string ⟨#[]⟩]) (by simp [results,Tryz.results27,go_sem,ra0,ra1,ra2,ra3,ra4,ra5,ra6];done) rfl ?_
    subst hci
    exact ⟨⟨6,me,0,0,0,ds,cut⟩,⟨#[]⟩,rfl,by constructor <;> intros <;> dsimp only at * <;> omega,by dsimp only;omega,(fun _ q => by dsimp only at q;omega),.inl rfl,(fun q h => by have:=hkk.out q h;dsimp only;exact ⟨fun _ => by omega,fun _ => by omega⟩),H.below⟩
   have g12:(k:Int) < 12:=by omega
   by_cases hz:tk.length = 0
   ·have gz:¬ (0:Int) < (tk.length:Int):=by omega
    skip
    go_wp2_with (first | (go_at_call 21;(with_reducible refine (Picked_is _ hpk u0 (by omega) (by omega)).mono ?_);rintro e w' ⟨rfl,rfl⟩) | (go_at_call 21;(with_reducible refine (Picked_is _ hpd u4 (by omega) (by omega)).mono ?_);rintro e w' ⟨rfl,rfl⟩))
    clear Llf Lde Lra Lac Nlfde Nlfra Nlfac Ndera Ndeac Nraac
    replace H:=H.set 3 rfl 0 (.int .i64 6) |>.set 3 rfl 5 (.string ds) |>.gen
    simp only [List.set_cons_zero,List.set_cons_succ,List.setIfInBounds_toArray] at H
    obtain ⟨wy,hwy,H⟩:=H
    rw [hwy]
    clear hwy
    replace H:=H.set 2 rfl 0 (.int .i64 6) |>.set 2 rfl 1 me |>.set 2 rfl 2 () |>.set 2 rfl 3 () |>.set 2 rfl 4 () |>.set 2 rfl 5 (.string ds) |>.set 2 rfl 6 ci |>.gen
    simp only [List.set_cons_zero,List.set_cons_succ,List.setIfInBounds_toArray] at H
    obtain ⟨wz,hwz,H⟩:=H
    rw [hwz]
    clear hwz
    obtain ⟨ralt,ra0,-,ra1,-,ra2,-,ra3,-,ra4,-,ra5,-,ra6,-⟩:=H.c7 2 rfl
    refine bodyPost_ret (v:=.tuple #[.agg #[.int .i64 6,me,(),(),(),.string ds,ci],.string ⟨#[]⟩]) (by simp [results,Tryz.results27,go_sem,ra0,ra1,ra2,ra3,ra4,ra5,ra6];done) rfl ?_
    subst hci
    exact ⟨⟨6,me,0,0,0,ds,cut⟩,⟨#[]⟩,rfl,by constructor <;> intros <;> dsimp only at * <;> omega,by dsimp only;omega,(fun _ q => by dsimp only at q;omega),.inl rfl,(fun q h => by have:=hkk.out q h;dsimp only;exact ⟨fun _ => by omega,fun _ => by omega⟩),H.below⟩
   have gz:(0:Int) < (tk.length:Int):=by omega
   have gzn:0 < tk.length:=by omega
   obtain ⟨i,hpi,hi⟩:=pk_nat d5 tk.length (by omega)
   obtain ⟨g,rfl⟩:∃ g,A2 = some ⟨g,0,none⟩:=by
    rcases ht.2 with ⟨h,_⟩ | ⟨g,cap,cur,h,_⟩
    ·injection h with h1 h2;omega
    ·injection h with h1 h2;exact ⟨g,h1⟩
   obtain ⟨t,htt⟩:∃ t,tk[i] = t:=⟨_,rfl⟩
   have htm:t ∈ tk:=htt ▸ List.getElem_mem hi
   obtain ⟨htme,hts⟩:=hme t htm
   have ht':=own_below ht H.below
   have tc:=fun j v hj hv => sds_cell ht' rfl i hi j hj v (by rw [htt];exact hv)
   have y0:wc.cell? ⟨g,i * 12,none⟩ = some (.int .i64 ↑t.me):=tc 0 (.int .i64 ↑t.me) (by omega) rfl
   have y1:wc.cell? ⟨g,i * 12 + 1,none⟩ = some (.int .i64 ↑t.rev):=tc 1 (.int .i64 ↑t.rev) (by omega) rfl
   have y2:wc.cell? ⟨g,i * 12 + 2,none⟩ = some (.string t.s):=tc 2 (.string t.s) (by omega) rfl
   have y3:wc.cell? ⟨g,i * 12 + 3,none⟩ = some (.int .i64 ↑t.b.id):=tc 3 (.int .i64 ↑t.b.id) (by omega) rfl
   have y4:wc.cell? ⟨g,i * 12 + 4,none⟩ = some (.int .i64 ↑t.b.te):=tc 4 (.int .i64 ↑t.b.te) (by omega) rfl
   have y5:wc.cell? ⟨g,i * 12 + 5,none⟩ = some (.int .i64 ↑t.b.de):=tc 5 (.int .i64 ↑t.b.de) (by omega) rfl
   have y6:wc.cell? ⟨g,i * 12 + 6,none⟩ = some (.int .i64 ↑t.b.fe):=tc 6 (.int .i64 ↑t.b.fe) (by omega) rfl
   have y7:wc.cell? ⟨g,i * 12 + 7,none⟩ = some (.int .i64 ↑t.b.pr):=tc 7 (.int .i64 ↑t.b.pr) (by omega) rfl
   have y8:wc.cell? ⟨g,i * 12 + 8,none⟩ = some (.int .i64 ↑t.b.ch):=tc 8 (.int .i64 ↑t.b.ch) (by omega) rfl
   have y9:wc.cell? ⟨g,i * 12 + 9,none⟩ = some (.int .i64 ↑t.b.un):=tc 9 (.int .i64 ↑t.b.un) (by omega) rfl
   have y10:wc.cell? ⟨g,i * 12 + 10,none⟩ = some (.int .i64 ↑t.k):=tc 10 (.int .i64 ↑t.k) (by omega) rfl
   have y11:wc.cell? ⟨g,i * 12 + 11,none⟩ = some (.int .i64 ↑t.mo):=tc 11 (.int .i64 ↑t.mo) (by omega) rfl
   clear tc
   obtain ⟨wk,hwk⟩:∃ wk,wk = wc:=⟨_,rfl⟩
   subst hwk
   skip
   go_upto_region 25 with (first | (go_at_call 21;(with_reducible refine (Picked_is _ hpk u0 (by omega) (by omega)).mono ?_);rintro e w' ⟨rfl,rfl⟩) | (go_at_call 21;(with_reducible refine (Picked_is _ hpd u4 (by omega) (by omega)).mono ?_);rintro e w' ⟨rfl,rfl⟩))
   go_cut [11] (fun p wx => ∃ gs:Nat,p = .pointer (some ⟨gs,0,none⟩) ∧ Mem w [] wx [.blk (w.heap.size) 42 #[.slice x.At T.tl.length x.ct,T.fx,T.fb,T.db,T.al,.slice x.Ad W.c.length x.cd,.slice x.Ao W.lp.length x.co,.slice x.Ap 3 x.cp,.slice A1 n1 c1,.slice (some ⟨g,0,none⟩) tk.length c2],.blk (w.heap.size + 1) 96 #[d0,d1,d2,d3,d4,d5,d6,.string ds],.blk (w.heap.size + 1 + 1) 44 #[(),(),(),(),(),.string ⟨#[]⟩,()],.blk (gt) 44 #[(),me,(),(),(),.string ⟨#[]⟩,ci],.blk (gs) 74 #[t.me,t.rev,.string t.s,t.b.id,t.b.te,t.b.de,t.b.fe,t.b.pr,t.b.ch,t.b.un,t.k,t.mo]])
   case first =>
    go_region_held3 (fun w' => w'.cell? ⟨w.heap.size,9,none⟩ = some (.slice (some ⟨g,0,none⟩) tk.length c2) ∧ w'.cell? ⟨w.heap.size + 1,5,none⟩ = some (.int .i64 d5) ∧ w'.cell? ⟨g,i * 12,none⟩ = some (.int .i64 ↑t.me) ∧ w'.cell? ⟨g,i * 12 + 1,none⟩ = some (.int .i64 ↑t.rev) ∧ w'.cell? ⟨g,i * 12 + 2,none⟩ = some (.string t.s) ∧ w'.cell? ⟨g,i * 12 + 3,none⟩ = some (.int .i64 ↑t.b.id) ∧ w'.cell? ⟨g,i * 12 + 4,none⟩ = some (.int .i64 ↑t.b.te) ∧ w'.cell? ⟨g,i * 12 + 5,none⟩ = some (.int .i64 ↑t.b.de) ∧ w'.cell? ⟨g,i * 12 + 6,none⟩ = some (.int .i64 ↑t.b.fe) ∧ w'.cell? ⟨g,i * 12 + 7,none⟩ = some (.int .i64 ↑t.b.pr) ∧ w'.cell? ⟨g,i * 12 + 8,none⟩ = some (.int .i64 ↑t.b.ch) ∧ w'.cell? ⟨g,i * 12 + 9,none⟩ = some (.int .i64 ↑t.b.un) ∧ w'.cell? ⟨g,i * 12 + 10,none⟩ = some (.int .i64 ↑t.k) ∧ w'.cell? ⟨g,i * 12 + 11,none⟩ = some (.int .i64 ↑t.mo)) (first | go_keep | fail) (first | (go_at_call 21;(with_reducible refine (Picked_is _ hpi u5 (by omega) (by omega)).mono ?_);rintro e w' ⟨rfl,rfl⟩))
    all_goals
     replace H:=H.al wk.heap.size #[t.me,t.rev,.string t.s,t.b.id,t.b.te,t.b.de,t.b.fe,t.b.pr,t.b.ch,t.b.un,t.k,t.mo] (74) |>.drew |>.gen
     simp only [List.cons_append,List.nil_append] at H
     obtain ⟨W1,hW1,H⟩:=H
     rw [hW1]
     clear hW1
     go_wp2_with fail
     go_meet
     exact ⟨_,rfl,H⟩
   case rest =>
    obtain ⟨gs,rfl,H⟩:=hcut
    have H:Mem (w) [] (wc) [.blk (w.heap.size) 42 #[.slice x.At T.tl.length x.ct,T.fx,T.fb,T.db,T.al,.slice x.Ad W.c.length x.cd,.slice x.Ao W.lp.length x.co,.slice x.Ap 3 x.cp,.slice A1 n1 c1,.slice (some ⟨g,0,none⟩) tk.length c2],.blk (w.heap.size + 1) 96 #[d0,d1,d2,d3,d4,d5,d6,.string ds],.blk (w.heap.size + 1 + 1) 44 #[(),(),(),(),(),.string ⟨#[]⟩,()],.blk (gt) 44 #[(),me,(),(),(),.string ⟨#[]⟩,ci],.blk (gs) 74 #[t.me,t.rev,.string t.s,t.b.id,t.b.te,t.b.de,t.b.fe,t.b.pr,t.b.ch,t.b.un,t.k,t.mo]]:=H
    clear Llf Lde Lra Lac Nlfde Nlfra Nlfac Ndera Ndeac Nraac
    have Llf:=H.c10 0 rfl
    have Lde:=H.c8 1 rfl
    have Lra:=H.c7 2 rfl
    have Lac:=H.c7 3 rfl
    have Lto:=H.c12 4 rfl
    have Nlfde:=H.ne2 0 1 rfl rfl rfl
    have Nlfra:=H.ne2 0 2 rfl rfl rfl
    have Nlfac:=H.ne2 0 3 rfl rfl rfl
    have Nlfto:=H.ne2 0 4 rfl rfl rfl
    have Ndera:=H.ne2 1 2 rfl rfl rfl
    have Ndeac:=H.ne2 1 3 rfl rfl rfl
    have Ndeto:=H.ne2 1 4 rfl rfl rfl
    have Nraac:=H.ne2 2 3 rfl rfl rfl
    have Nrato:=H.ne2 2 4 rfl rfl rfl
    have Nacto:=H.ne2 3 4 rfl rfl rfl
    by_cases h77:k = 7
    ·have g8:¬ (7:Int) < (k:Int):=by omega
     skip
     go_upto_region 30 with fail
     clear Llf Lde Lra Lac Lto Nlfde Nlfra Nlfac Nlfto Ndera Ndeac Ndeto Nraac Nrato Nacto
     replace H:=H.set 3 rfl 0 (.int .i64 6) |>.set 3 rfl 5 (.string (t.s ++ ⟨#[35]⟩)) |>.gen
     simp only [List.set_cons_zero,List.set_cons_succ,List.setIfInBounds_toArray] at H
     obtain ⟨wy,hwy,H⟩:=H
     rw [hwy]
     clear hwy
     have Lac:=H.c7 3 rfl
     have Lra:=H.c7 2 rfl
     have Lto:=H.c12 4 rfl
     have Nacra:=H.ne2 3 2 rfl rfl rfl
     have Nacto:=H.ne2 3 4 rfl rfl rfl
     have Nrato:=H.ne2 2 4 rfl rfl rfl
     go_region
     all_goals
      clear Lac Lra Lto Nacra Nacto Nrato
      replace H:=H.set 2 rfl 0 (.int .i64 6) |>.set 2 rfl 1 me |>.set 2 rfl 2 () |>.set 2 rfl 3 () |>.set 2 rfl 4 () |>.set 2 rfl 5 (.string (t.s ++ ⟨#[35]⟩)) |>.set 2 rfl 6 ci |>.drew |>.gen
      simp only [List.set_cons_zero,List.set_cons_succ,List.setIfInBounds_toArray] at H
      obtain ⟨wz,hwz,H⟩:=H
      rw [hwz]
      clear hwz
      obtain ⟨ralt,ra0,-,ra1,-,ra2,-,ra3,-,ra4,-,ra5,-,ra6,-⟩:=H.c7 2 rfl
      go_wp2_with fail
      refine bodyPost_ret (v:=.tuple #[.agg #[.int .i64 6,me,(),(),(),.string (t.s ++ ⟨#[35]⟩),ci],.string t.s]) (by simp [results,Tryz.results27,go_sem,ra0,ra1,ra2,ra3,ra4,ra5,ra6];done) rfl ?_
      subst hci
      exact ⟨⟨6,me,0,0,0,t.s ++ ⟨#[35]⟩,cut⟩,t.s,rfl,by constructor <;> intros <;> dsimp only at * <;> omega,by dsimp only;omega,(fun _ q => by dsimp only at q;omega),.inr ⟨t,htm,rfl,rfl,rfl⟩,(fun q h => by have:=hkk.out q h;dsimp only;exact ⟨fun _ => by omega,fun _ => by omega⟩),H.below⟩
    ·have g8:(7:Int) < (k:Int):=by omega
     skip
     go_upto_region 30 with fail
     clear Llf Lde Lra Lac Lto Nlfde Nlfra Nlfac Nlfto Ndera Ndeac Ndeto Nraac Nrato Nacto
     replace H:=H.set 3 rfl 0 (.int .i64 6) |>.set 3 rfl 1 t.me |>.set 3 rfl 5 (.string (t.s ++ ⟨#[35]⟩)) |>.gen
     simp only [List.set_cons_zero,List.set_cons_succ,List.setIfInBounds_toArray] at H
     obtain ⟨wy,hwy,H⟩:=H
     rw [hwy]
     clear hwy
     have Lac:=H.c7 3 rfl
     have Lra:=H.c7 2 rfl
     have Lto:=H.c12 4 rfl
     have Nacra:=H.ne2 3 2 rfl rfl rfl
     have Nacto:=H.ne2 3 4 rfl rfl rfl
     have Nrato:=H.ne2 2 4 rfl rfl rfl
     go_region
     all_goals
      clear Lac Lra Lto Nacra Nacto Nrato
      replace H:=H.set 2 rfl 0 (.int .i64 6) |>.set 2 rfl 1 t.me |>.set 2 rfl 2 () |>.set 2 rfl 3 () |>.set 2 rfl 4 () |>.set 2 rfl 5 (.string (t.s ++ ⟨#[35]⟩)) |>.set 2 rfl 6 ci |>.drew |>.gen
      simp only [List.set_cons_zero,List.set_cons_succ,List.setIfInBounds_toArray] at H
      obtain ⟨wz,hwz,H⟩:=H
      rw [hwz]
      clear hwz
      obtain ⟨ralt,ra0,-,ra1,-,ra2,-,ra3,-,ra4,-,ra5,-,ra6,-⟩:=H.c7 2 rfl
      go_wp2_with fail
      refine bodyPost_ret (v:=.tuple #[.agg #[.int .i64 6,t.me,(),(),(),.string (t.s ++ ⟨#[35]⟩),ci],.string t.s]) (by simp [results,Tryz.results27,go_sem,ra0,ra1,ra2,ra3,ra4,ra5,ra6];done) rfl ?_
      subst hci
      exact ⟨⟨6,t.me,0,0,0,t.s ++ ⟨#[35]⟩,cut⟩,t.s,rfl,by constructor <;> intros <;> dsimp only at * <;> omega,by dsimp only;omega,(fun _ q => by dsimp only at q;omega),.inr ⟨t,htm,rfl,rfl,rfl⟩,(fun q h => by have:=hkk.out q h;dsimp only;exact ⟨fun _ => by omega,fun _ => by omega⟩),H.below⟩
def RetAgW (w:World) (e:Ending) (w':World):Prop :=
 ∃ (T:Tm) (A:Option Addr) (c:Nat),e = .returned (.agg #[.slice A T.tl.length c,T.fx,T.fb,T.db,T.al]) ∧ T.Ok ∧ IsDs w' (.slice A T.tl.length c) T.tl ∧ Below w.heap.size w w'
theorem agreed_w (A:Option Addr) (n m:Nat) (g:Nat → Nat → Int) (a b c d:Int) (w:World) (wa:(Lit.int .i64 a).wf = true) (wb:(Lit.int .i64 b).wf = true) (wc:(Lit.int .i64 c).wf = true) (wd:(Lit.int .i64 d).wf = true) (hv:IsRows w (.slice A n m) [.i64,.i64] n g) :
 Calls Tryz.prog 30 #[.agg #[.slice A n m,a,b,c,d]] w (RetAgW w):=by
 have hA:=fun U h => agreed_own A n m g a b c d U wa wb wc wd h
 unfold RetAgO at hA
 have H:=Mem.init w
 replace H:=H.al w.heap.size #[.slice A n m,a,b,c,d] (24) |>.al (w.heap.size + 1) #[.slice none 0 0,(),(),(),()] (31) |>.gen
 simp only [List.nil_append,List.cons_append] at H
 obtain ⟨W0,hW0,H⟩:=H
 have hv0:=hv.below H.below
 have Ldl:=H.c5 0 rfl
 go_enter Tryz.func30,Tryz.ntmps30
 go_wp2_with fail
 clear hW0
 refine (hA _ hv0).mono ?_
 rintro e wa2 ⟨tl,A2,c2,fx,fb,db,al,rfl,h1,h2,hown,hb⟩
 replace H:Mem (w) [] (wa2) [.blk (w.heap.size) 24 #[.slice A n m,a,b,c,d],.blk (w.heap.size + 1) 31 #[.slice none 0 0,(),(),(),()],.row (W0.heap.size) (209) (2) (.slice A2 tl.length c2) (tl.length) (drs tl)]:=Mem.row H hb hown (Nat.le_refl _)
 clear hA hv0 hb hown
 clear Ldl
 have Ltm:=H.c5 1 rfl
 go_wp2_with fail
 replace H:=H.set 1 rfl 0 (.slice A2 tl.length c2) |>.set 1 rfl 1 fx |>.set 1 rfl 2 fb |>.set 1 rfl 3 db |>.set 1 rfl 4 al |>.gen
 simp only [List.set_cons_zero,List.set_cons_succ,List.setIfInBounds_toArray] at H
 obtain ⟨wz,hwz,H⟩:=H
 rw [hwz]
 clear hwz
 clear Ltm
 obtain ⟨tmlt,tm0,-,tm1,-,tm2,-,tm3,-,tm4,-⟩:=H.c5 1 rfl
 refine bodyPost_ret (v:=.agg #[.slice A2 tl.length c2,fx,fb,db,al]) (by simp [results,Tryz.results30,go_sem,tm0,tm1,tm2,tm3,tm4];done) rfl ?_
 exact ⟨⟨tl,fx,fb,db,al⟩,A2,c2,rfl,⟨h1,h2⟩,isds_own rfl (H.own_ 2 rfl),H.below⟩
def RetLived (sv:Bool) (N:Nat) (w:World) (e:Ending) (w':World):Prop :=
 ∃ (T:Tm) (S:List Sn) (tk:List Sd) (W:Wd) (gl:Nat),T.Ok ∧ e = .returned (.tuple #[.pointer (some ⟨gl,0,none⟩),.bool true]) ∧ S.length = N ∧ LifeAt T sv S tk W w gl w.heap.size w'
theorem LifeAt.below {T:Tm} {sv:Bool} {S:List Sn} {tk:List Sd} {W:Wd} {w0 w w':World} {gl b:Nat} (h:LifeAt T sv S tk W w0 gl b w) (hb:Below w.heap.size w w'):LifeAt T sv S tk W w0 gl b w':=by
 obtain ⟨x,A1,c1,A2,c2,h1,h2,h3,h4⟩:=h
 exact ⟨x,A1,c1,A2,c2,h1,h2.below hb,h3.kept (Kw.below hb),h4.call hb⟩
theorem LifeAt.bel {T:Tm} {sv:Bool} {S:List Sn} {tk:List Sd} {W:Wd} {w0 w:World} {gl b:Nat} (h:LifeAt T sv S tk W w0 gl b w):Below w0.heap.size w0 w:=by
 obtain ⟨_,_,_,_,_,_,_,_,H⟩:=h
 exact H.below
theorem lived_ok (sv:Bool) (most:Nat) (A:Option Addr) (n m:Nat) (g:Nat → Nat → Int) (a b c d:Int) (Av:Option Addr) (cv:Nat) (l:List Dr) (w:World) (wa:(Lit.int .i64 a).wf = true) (wb:(Lit.int .i64 b).wf = true) (wc:(Lit.int .i64 c).wf = true) (wd:(Lit.int .i64 d).wf = true) (hv:IsRows w (.slice A n m) [.i64,.i64] n g) (hd:IsDr w (.slice Av l.length cv) l) (hmost:most ≤ 57) :
 Calls Tryz.prog 14 #[.agg #[.slice A n m,a,b,c,d],.slice Av l.length cv,.bool sv,most] w (RetLived sv (3 + min l.length most) w):=by
 have hA:=fun U h => agreed_w A n m g a b c d U wa wb wc wd h
 unfold RetAgW at hA
 clear wa wb wc wd
 have H:=Mem.init w
 replace H:=H.al w.heap.size #[.slice A n m,a,b,c,d] (24) |>.gen
 simp only [List.nil_append] at H
 obtain ⟨W0,hW0,H⟩:=H
 have hv0:=hv.below H.below
 have Ldl:=H.c5 0 rfl
 go_enter Tryz.func14,Tryz.ntmps14
 go_wp2_with fail
 clear hW0
 refine (hA _ hv0).mono ?_
 rintro e w1 ⟨T,At,ct,rfl,hT,hds,hb⟩
 replace H:=Mem.call H hb
 clear hA hv0 hv hb
 have hBg:=fun U h => begin_world T hT At ct U h hT.h1.len
 have hc9:wd0.c.length = 900:=List.length_replicate
 have hc0:wd0.lp.length = 0:=rfl
 unfold RetBegin at hBg
 simp only [Wv.vs,hc9,hc0] at hBg
 clear Ldl
 go_wp2_with fail
 refine (hBg _ hds).mono ?_
 rintro e w2 ⟨y,rfl,hy,hb⟩
 replace H:=Mem.call H hb
 clear hBg hds hb
 go_wp2_with fail
 have hy3:=hy.below (below_a2 w2 (.cells #[.slice y.At T.tl.length y.ct,T.fx,T.fb,T.db,T.al,.slice y.Ad 900 y.cd,.slice y.Ao 0 y.co,.slice y.Ap 3 y.cp] 38) (.cells #[.slice y.At T.tl.length y.ct,T.fx,T.fb,T.db,T.al,.slice y.Ad 900 y.cd,.slice y.Ao 0 y.co,.slice y.Ap 3 y.cp,.slice none 0 0,.slice none 0 0] 42))
 replace H:=H.al w2.heap.size #[.slice y.At T.tl.length y.ct,T.fx,T.fb,T.db,T.al,.slice y.Ad 900 y.cd,.slice y.Ao 0 y.co,.slice y.Ap 3 y.cp] (38) |>.al (w2.heap.size + 1) #[.slice y.At T.tl.length y.ct,T.fx,T.fb,T.db,T.al,.slice y.Ad 900 y.cd,.slice y.Ao 0 y.co,.slice y.Ap 3 y.cp,.slice none 0 0,.slice none 0 0] (42) |>.gen
 simp only [List.cons_append,List.nil_append] at H
 obtain ⟨w3,hw3,H⟩:=H
 rw [hw3]
 rw [hw3] at hy3
 clear hw3 hy
 obtain ⟨gl,hgl⟩:∃ gl,w2.heap.size + 1 = gl:=⟨_,rfl⟩
 rw [hgl] at H ⊢
 have H0:=((((H.nilrow w.heap.size 51 36).nilrow w.heap.size 74 12).drop_ 0).drop_ 0)
 have hL0:LifeAt T sv [] [] wd0 w gl w.heap.size w3:=⟨y,none,0,none,0,.nil,hy3,fun s hs => absurd hs (by simp),by unfold lifeL;rw [hc9];exact H0⟩
 clear H H0 hy3 hgl hc9 hc0
 go_loopw [13] (fun i wr => ∃ (j:Nat) (S:List Sn) (tk:List Sd) (W:Wd),j ≤ 3 ∧ i = .int .i64 ↑j ∧ S.length = j ∧ LifeAt T sv S tk W w gl w.heap.size wr) (fun i _ => 3 - (intOf i).toNat)
 case atStart => exact ⟨0,[],[],wd0,by omega,rfl,rfl,hL0⟩
 case round =>
  obtain ⟨j,S,tk,W,hj,rfl,hSl,hLf⟩:=hrel
  clear hL0
  by_cases hlt:j < 3
  ·have hlt2:(j:Int) < 3:=by omega
   have hS1:=step_life T hT sv S tk W ⟨1,j,0,0,0,⟨#[]⟩,none⟩ ⟨#[]⟩ gl w.heap.size w wr hLf (Nat.le_refl _) (by omega) (fun x y => ⟨rfl,rfl,by constructor <;> intros <;> dsimp only at * <;> omega,⟨fun _ => by omega,fun _ => rfl⟩,fun _ => ⟨hSl.symm,rfl⟩,.inl rfl,fun _ _ => rfl⟩)
   clear hLf
   go_wp2_with fail
   refine hS1.mono ?_
   rintro e wr2 ⟨rfl,s,_,_,_,_,hLf2⟩
   clear hS1
   go_wp2
   go_roundw
   case rel => exact ⟨j + 1,S ++ [s],_,_,by omega,by go_num,by simp [hSl],hLf2⟩
   case measure => simp [intOf];omega
  ·have hlt2:¬ (j:Int) < 3:=by omega
   replace hSl:S.length = 3 + 0:=by omega
   clear hj hlt
   go_wp2_with fail
   go_loopw [15] (fun i wq => ∃ (q:Nat) (S:List Sn) (tk:List Sd) (W:Wd),q ≤ l.length ∧ q ≤ most ∧ i = .int .i64 ↑q ∧ S.length = 3 + q ∧ LifeAt T sv S tk W w gl w.heap.size wq) (fun i _ => most - (intOf i).toNat)
   case atStart => exact ⟨0,S,tk,W,by omega,by omega,rfl,hSl,hLf⟩
   case round =>
    clear hLf hSl
    clear S tk W
    obtain ⟨q,S,tk,W,hq1,hq2,rfl,hSl,hLf⟩:=hrel
    obtain ⟨wq,hwq⟩:∃ wq,wq = wr:=⟨_,rfl⟩
    subst hwq
    by_cases hq:q < l.length ∧ q < most
    ·obtain ⟨g1,g2⟩:=hq
     have g3:(q:Int) < (l.length:Int):=by omega
     have g4:(q:Int) < (most:Int):=by omega
     have hdq:=hd.below hLf.bel
     have hdwf:∀ d ∈ l,d.Wf:=by obtain ⟨_,_,_,_,h,_⟩:=hd;exact h
     obtain ⟨x,A1,c1,A2,c2,hL,hxw,hsn,HM⟩:=hLf
     have htk:=hL.toks hT (by omega)
     have hSb:3 ≤ S.length ∧ S.length ≤ 61:=by omega
     have HQ:=Lib.hid hSl
     clear hSl
     unfold lifeL at HM
     have H:Mem (w) [] (wq) [.blk (gl) 42 #[.slice x.At T.tl.length x.ct,T.fx,T.fb,T.db,T.al,.slice x.Ad W.c.length x.cd,.slice x.Ao W.lp.length x.co,.slice x.Ap 3 x.cp,.slice A1 S.length c1,.slice A2 tk.length c2],.row (w.heap.size) (51) (36) (.slice A1 S.length c1) (S.length) (sns T S),.row (w.heap.size) (74) (12) (.slice A2 tk.length c2) (tk.length) (sds tk)]:=HM
     clear HM
     obtain ⟨bd,bo,rfl,hbl,hdc⟩:=hdq.at_ q g1
     have hdw:=hdwf _ (List.getElem_mem g1)
     generalize l[q] = d at hdc hdw
     have ht0:=own_mono (H.own_ 2 rfl) (Nat.zero_le _)
     have hAct:=fun U h => act_ok T W x tk A1 A2 S.length c1 c2 d.d0 d.d1 d.d2 d.d3 d.d4 d.d5 d.d6 d.s sv U (by omega) h htk.1 hdw.u0 hdw.u1 hdw.u2 hdw.u3 hdw.u4 hdw.u5 hdw.u6
     unfold RetAct at hAct
     simp only [Ac.vs] at hAct
     have z0:wq.cell? ⟨bd,bo + q * 8,none⟩ = some (.int .i64 d.d0):=hdc 0 _ (by omega) rfl
     have z1:wq.cell? ⟨bd,bo + q * 8 + 1,none⟩ = some (.int .i64 d.d1):=by rw [Nat.add_assoc];exact hdc 1 _ (by omega) rfl
     have z2:wq.cell? ⟨bd,bo + q * 8 + 2,none⟩ = some (.int .i64 d.d2):=by rw [Nat.add_assoc];exact hdc 2 _ (by omega) rfl
     have z3:wq.cell? ⟨bd,bo + q * 8 + 3,none⟩ = some (.int .i64 d.d3):=by rw [Nat.add_assoc];exact hdc 3 _ (by omega) rfl
     have z4:wq.cell? ⟨bd,bo + q * 8 + 4,none⟩ = some (.int .i64 d.d4):=by rw [Nat.add_assoc];exact hdc 4 _ (by omega) rfl
     have z5:wq.cell? ⟨bd,bo + q * 8 + 5,none⟩ = some (.int .i64 d.d5):=by rw [Nat.add_assoc];exact hdc 5 _ (by omega) rfl
     have z6:wq.cell? ⟨bd,bo + q * 8 + 6,none⟩ = some (.int .i64 d.d6):=by rw [Nat.add_assoc];exact hdc 6 _ (by omega) rfl
     have z7:wq.cell? ⟨bd,bo + q * 8 + 7,none⟩ = some (.string d.s):=by rw [Nat.add_assoc];exact hdc 7 _ (by omega) rfl
     clear hdc hdw htk
     obtain ⟨lflt,lf0,-,lf1,-,lf2,-,lf3,-,lf4,-,lf5,-,lf6,-,lf7,-,lf8,-,lf9,-⟩:=H.c10 0 rfl
     go_upto_region 14 with fail
     obtain ⟨LL,hLL⟩:∃ LL:List Chunk,[.blk (gl) 42 #[.slice x.At T.tl.length x.ct,T.fx,T.fb,T.db,T.al,.slice x.Ad W.c.length x.cd,.slice x.Ao W.lp.length x.co,.slice x.Ap 3 x.cp,.slice A1 S.length c1,.slice A2 tk.length c2],.row (w.heap.size) (51) (36) (.slice A1 S.length c1) (S.length) (sns T S),.row (w.heap.size) (74) (12) (.slice A2 tk.length c2) (tk.length) (sds tk)] = LL:=⟨_,rfl⟩
     rw [hLL] at H
     go_cut [16,17] from 56 to 85 (fun p0 p1 wx => ∃ (ac:Nat) (a:Ac) (key:ByteArray),p0 = .pointer (some ⟨ac,0,none⟩) ∧ p1 = .string key ∧ a.Ok ∧ a.k ≠ 1 ∧ (sv = false → a.k ≤ 5 → a.cut = none) ∧ (key = ⟨#[]⟩ ∨ ∃ t ∈ tk,t.s = key ∧ a.k = 6 ∧ a.s = t.s ++ ⟨#[35]⟩) ∧ Mem (w) [] wx (LL ++ (.blk ac 44 #[a.k,a.me,a.A,a.B,a.C,.string a.s,.int .i64 (cutI a.cut)] :: [])) ∧ Below wq.heap.size wq wx)
     case first =>
      obtain ⟨Sd,hSd⟩:∃ Sd:World → Prop,Sd = fun w' => w'.cell? ⟨gl,0,none⟩ = some (.slice x.At T.tl.length x.ct) ∧ w'.cell? ⟨gl,1,none⟩ = some (.int .i64 ↑T.fx) ∧ w'.cell? ⟨gl,2,none⟩ = some (.int .i64 ↑T.fb) ∧ w'.cell? ⟨gl,3,none⟩ = some (.int .i64 ↑T.db) ∧ w'.cell? ⟨gl,4,none⟩ = some (.int .i64 ↑T.al) ∧ w'.cell? ⟨gl,5,none⟩ = some (.slice x.Ad W.c.length x.cd) ∧ w'.cell? ⟨gl,6,none⟩ = some (.slice x.Ao W.lp.length x.co) ∧ w'.cell? ⟨gl,7,none⟩ = some (.slice x.Ap 3 x.cp) ∧ w'.cell? ⟨gl,8,none⟩ = some (.slice A1 S.length c1) ∧ w'.cell? ⟨gl,9,none⟩ = some (.slice A2 tk.length c2) ∧ w'.cell? ⟨bd,bo + q * 8,none⟩ = some (.int .i64 d.d0) ∧ w'.cell? ⟨bd,bo + q * 8 + 1,none⟩ = some (.int .i64 d.d1) ∧ w'.cell? ⟨bd,bo + q * 8 + 2,none⟩ = some (.int .i64 d.d2) ∧ w'.cell? ⟨bd,bo + q * 8 + 3,none⟩ = some (.int .i64 d.d3) ∧ w'.cell? ⟨bd,bo + q * 8 + 4,none⟩ = some (.int .i64 d.d4) ∧ w'.cell? ⟨bd,bo + q * 8 + 5,none⟩ = some (.int .i64 d.d5) ∧ w'.cell? ⟨bd,bo + q * 8 + 6,none⟩ = some (.int .i64 d.d6) ∧ w'.cell? ⟨bd,bo + q * 8 + 7,none⟩ = some (.string d.s):=⟨_,rfl⟩
      have hSk:∀ we,Below wq.heap.size wq we → Sd we:=fun we hWe => by rw [hSd];exact ⟨(hWe.cell lflt).trans lf0,(hWe.cell lflt).trans lf1,(hWe.cell lflt).trans lf2,(hWe.cell lflt).trans lf3,(hWe.cell lflt).trans lf4,(hWe.cell lflt).trans lf5,(hWe.cell lflt).trans lf6,(hWe.cell lflt).trans lf7,(hWe.cell lflt).trans lf8,(hWe.cell lflt).trans lf9,(hWe.cell hbl).trans z0,(hWe.cell hbl).trans z1,(hWe.cell hbl).trans z2,(hWe.cell hbl).trans z3,(hWe.cell hbl).trans z4,(hWe.cell hbl).trans z5,(hWe.cell hbl).trans z6,(hWe.cell hbl).trans z7⟩
      have nz0a:wq.heap.size ≠ gl:=by have:=lflt;omega
      have nz0b:wq.heap.size + 1 ≠ gl:=by have:=lflt;omega
      have nz0c:gl ≠ wq.heap.size:=by have:=lflt;omega
      have nz0d:gl ≠ wq.heap.size + 1:=by have:=lflt;omega
      have nz1a:wq.heap.size ≠ bd:=by have:=hbl;omega
      have nz1b:wq.heap.size + 1 ≠ bd:=by have:=hbl;omega
      have nz1c:bd ≠ wq.heap.size:=by have:=hbl;omega
      have nz1d:bd ≠ wq.heap.size + 1:=by have:=hbl;omega
      have V0:Mem wq [] (wq).drew []:=(Mem.init wq).drew
      have B0:=V0.below
      have V1:Mem wq [] (wq.alloc (.cells #[(),(),(),(),(),.string ⟨#[]⟩,()] 44)).drew [.blk (wq.heap.size) 44 #[(),(),(),(),(),.string ⟨#[]⟩,()]]:=((Mem.init wq).alloc _ rfl #[(),(),(),(),(),.string ⟨#[]⟩,()] 44).drew
      have B1:=V1.below
      have V1b0:=V1.blk 0 rfl
      go_region_held3 (fun w' => w'.cell? ⟨gl,0,none⟩ = some (.slice x.At T.tl.length x.ct) ∧ w'.cell? ⟨gl,1,none⟩ = some (.int .i64 ↑T.fx) ∧ w'.cell? ⟨gl,2,none⟩ = some (.int .i64 ↑T.fb) ∧ w'.cell? ⟨gl,3,none⟩ = some (.int .i64 ↑T.db) ∧ w'.cell? ⟨gl,4,none⟩ = some (.int .i64 ↑T.al) ∧ w'.cell? ⟨gl,5,none⟩ = some (.slice x.Ad W.c.length x.cd) ∧ w'.cell? ⟨gl,6,none⟩ = some (.slice x.Ao W.lp.length x.co) ∧ w'.cell? ⟨gl,7,none⟩ = some (.slice x.Ap 3 x.cp) ∧ w'.cell? ⟨gl,8,none⟩ = some (.slice A1 S.length c1) ∧ w'.cell? ⟨gl,9,none⟩ = some (.slice A2 tk.length c2) ∧ w'.cell? ⟨bd,bo + q * 8,none⟩ = some (.int .i64 d.d0) ∧ w'.cell? ⟨bd,bo + q * 8 + 1,none⟩ = some (.int .i64 d.d1) ∧ w'.cell? ⟨bd,bo + q * 8 + 2,none⟩ = some (.int .i64 d.d2) ∧ w'.cell? ⟨bd,bo + q * 8 + 3,none⟩ = some (.int .i64 d.d3) ∧ w'.cell? ⟨bd,bo + q * 8 + 4,none⟩ = some (.int .i64 d.d4) ∧ w'.cell? ⟨bd,bo + q * 8 + 5,none⟩ = some (.int .i64 d.d5) ∧ w'.cell? ⟨bd,bo + q * 8 + 6,none⟩ = some (.int .i64 d.d6) ∧ w'.cell? ⟨bd,bo + q * 8 + 7,none⟩ = some (.string d.s)) (first | with_reducible exact ⟨s0,s1,s2,s3,s4,s5,s6,s7,s8,s9,s10,s11,s12,s13,s14,s15,s16,s17⟩ | go_keep | fail) (first | (go_at_call 27;(with_reducible refine (hAct (wq).drew (own_below ht0 B0)).mono ?_);rintro e we ⟨a,key,rfl,ha,hk1,hsv,hkey,-,hbe⟩;have hV:=V0;have hK:Mem (wq).drew [] we []:=(Mem.init _).call hbe;have hWe:Below wq.heap.size wq we:=B0.trans (hbe.mono B0.size);have q:=hSk _ hWe;rw [hSd] at q;obtain ⟨s0,s1,s2,s3,s4,s5,s6,s7,s8,s9,s10,s11,s12,s13,s14,s15,s16,s17⟩:=q;have sz:=hWe.size;have ez0a:we.heap.size ≠ gl:=(by have:=lflt;omega);have ez0b:we.heap.size + 1 ≠ gl:=(by have:=lflt;omega);have ez1a:we.heap.size ≠ bd:=(by have:=hbl;omega);have ez1b:we.heap.size + 1 ≠ bd:=(by have:=hbl;omega)) | (go_at_call 27;(with_reducible refine (hAct (wq.alloc (.cells #[(),(),(),(),(),.string ⟨#[]⟩,()] 44)).drew (own_below ht0 B1)).mono ?_);rintro e we ⟨a,key,rfl,ha,hk1,hsv,hkey,-,hbe⟩;have hV:=V1;have hK:Mem (wq.alloc (.cells #[(),(),(),(),(),.string ⟨#[]⟩,()] 44)).drew [] we []:=(Mem.init _).call hbe;have hWe:Below wq.heap.size wq we:=B1.trans (hbe.mono B1.size);have q:=hSk _ hWe;rw [hSd] at q;obtain ⟨s0,s1,s2,s3,s4,s5,s6,s7,s8,s9,s10,s11,s12,s13,s14,s15,s16,s17⟩:=q;have sz:=hWe.size;have ez0a:we.heap.size ≠ gl:=(by have:=lflt;omega);have ez0b:we.heap.size + 1 ≠ gl:=(by have:=lflt;omega);have ez1a:we.heap.size ≠ bd:=(by have:=hbl;omega);have ez1b:we.heap.size + 1 ≠ bd:=(by have:=hbl;omega);have zb0:=Blk.below V1b0 hbe V1b0.lt;obtain ⟨zb0lt,zb0_0,zb0f0,zb0_1,zb0f1,zb0_2,zb0f2,zb0_3,zb0f3,zb0_4,zb0f4,zb0_5,zb0f5,zb0_6,zb0f6⟩:=(V1.call hbe).c7 0 rfl))
      all_goals
       go_wp2_with fail
       go_meet
       refine ⟨_,a,key,rfl,rfl,ha,hk1,hsv,hkey,?_⟩
       first
       | with_reducible exact ⟨cr1_a H hV hK,(cr1_a (Mem.init wq) hV hK).below⟩
       | (have h:=cr1_b (c:=#[a.k,a.me,a.A,a.B,a.C,.string a.s,.int .i64 (cutI a.cut)]) (Mem.init wq) hV hK [(0,.int .i64 ↑a.k),(1,.int .i64 ↑a.me),(2,.int .i64 ↑a.A),(3,.int .i64 ↑a.B),(4,.int .i64 ↑a.C),(5,.string a.s),(6,.int .i64 (cutI a.cut))] (by simp only [List.foldl_cons,List.foldl_nil,List.setIfInBounds_toArray,List.set_cons_zero,List.set_cons_succ])
          simp only [sets,List.foldl_cons,List.foldl_nil,List.nil_append] at h
          with_reducible exact ⟨H.join h,h.below⟩)
     case rest =>
      obtain ⟨ac,a,key,rfl,rfl,ha,hk1,hsv,hkey,H,hCR⟩:=hcut
      subst hLL
      replace H:Mem (w) [] (wc) [.blk (gl) 42 #[.slice x.At T.tl.length x.ct,T.fx,T.fb,T.db,T.al,.slice x.Ad W.c.length x.cd,.slice x.Ao W.lp.length x.co,.slice x.Ap 3 x.cp,.slice A1 S.length c1,.slice A2 tk.length c2],.row (w.heap.size) (51) (36) (.slice A1 S.length c1) (S.length) (sns T S),.row (w.heap.size) (74) (12) (.slice A2 tk.length c2) (tk.length) (sds tk),.blk (ac) 44 #[a.k,a.me,a.A,a.B,a.C,.string a.s,.int .i64 (cutI a.cut)]]:=H
      clear hAct ht0 z0 z1 z2 z3 z4 z5 z6 z7
      have HL:=((H.drop_ 3))
      have hLf2:LifeAt T sv S tk W w gl w.heap.size wc:=⟨x,A1,c1,A2,c2,hL,hxw.below hCR,hsn.kept (Kw.below hCR),HL⟩
      clear HL hL hxw hsn
      have hS1:=step_life T hT sv S tk W a key gl w.heap.size w wc hLf2 (Nat.le_refl _) (by omega) (fun x y => ⟨rfl,rfl,ha,⟨fun q => absurd q hk1,fun q => by dsimp only;omega⟩,fun q => absurd q hk1,hkey,hsv⟩)
      unfold Ac.vs at hS1
      clear lflt lf0 lf1 lf2 lf3 lf4 lf5 lf6 lf7 lf8 lf9
      have Lac:=H.c7 3 rfl
      go_wp2_with fail
      refine hS1.mono ?_
      rintro e wr2 ⟨rfl,s,_,_,_,_,hLf3⟩
      clear hS1
      clear Lac
      go_wp2
      go_roundw
      case rel => exact ⟨q + 1,S ++ [s],_,_,by omega,by omega,by go_num,by have:=HQ.out;simp;omega,hLf3⟩
      case measure => simp [intOf];omega
    ·have hN:3 + min l.length most = 3 + q:=by omega
     have hN2:=Lib.hid hN.symm
     skip
     have hs3:¬ (q:Int) < (l.length:Int) ∨ ((q:Int) < (l.length:Int) ∧ ¬ (q:Int) < (most:Int)):=by omega
     have hok:=fun h => (Lived.ok (T:=T) (sv:=sv) (S:=S) (tk:=tk) (W:=W) h hT (by omega)).1
     obtain ⟨x,A1,c1,A2,c2,hL,hxw,hsn,HM⟩:=hLf
     have hW:=hok hL
     clear hok
     rw [show min 3 S.length = 3 by omega] at hW
     have hcu:=hW.cus
     have hLd:∀ U,x.Is U T W → Calls Tryz.prog 16 #[.agg #[.slice x.At T.tl.length x.ct,T.fx,T.fb,T.db,T.al],.slice x.Ad W.c.length x.cd] U fun e w' => ∃ (Ab:Option Addr) (cb:Nat),e = .returned (.tuple #[.agg #[.slice Ab 3 cb],()]) ∧ Below U.heap.size U w':=fun U h => by
      refine (load_ok T hT x.At T.tl.length x.ct _ W.c W.L W.B U h.terms (h.disk hW) hW.srv).mono ?_
      rintro e w' ⟨v,rfl,hbk,hb⟩
      obtain ⟨Ab,nb,cb,rfl⟩:=hbk.slice
      obtain rfl:nb = 3:=hbk.is.len.trans hcu
      exact ⟨Ab,cb,rfl,hb⟩
     unfold lifeL at HM
     have H:Mem (w) [] (wq) [.blk (gl) 42 #[.slice x.At T.tl.length x.ct,T.fx,T.fb,T.db,T.al,.slice x.Ad W.c.length x.cd,.slice x.Ao W.lp.length x.co,.slice x.Ap 3 x.cp,.slice A1 S.length c1,.slice A2 tk.length c2],.row (w.heap.size) (51) (36) (.slice A1 S.length c1) (S.length) (sns T S),.row (w.heap.size) (74) (12) (.slice A2 tk.length c2) (tk.length) (sds tk)]:=HM
     clear HM hcu
     have HQ:=Lib.hid hSl
     clear hSl hq hq1 hq2 hN
     obtain ⟨lflt,lf0,-,lf1,-,lf2,-,lf3,-,lf4,-,lf5,-,lf6,-,lf7,-,lf8,-,lf9,-⟩:=H.c10 0 rfl
     rcases hs3 with hs3 | ⟨hs3,hs4⟩
     all_goals
      go_upto_region 18 with fail
      obtain ⟨LL,hLL⟩:∃ LL:List Chunk,[.blk (gl) 42 #[.slice x.At T.tl.length x.ct,T.fx,T.fb,T.db,T.al,.slice x.Ad W.c.length x.cd,.slice x.Ao W.lp.length x.co,.slice x.Ap 3 x.cp,.slice A1 S.length c1,.slice A2 tk.length c2],.row (w.heap.size) (51) (36) (.slice A1 S.length c1) (S.length) (sns T S),.row (w.heap.size) (74) (12) (.slice A2 tk.length c2) (tk.length) (sds tk)] = LL:=⟨_,rfl⟩
      rw [hLL] at H
      go_cut [19,20] (fun p0 p1 wx => ∃ (bk:Nat) (Ab:Option Addr) (cb:Nat),p0 = .pointer (some ⟨bk,0,none⟩) ∧ p1 = .int .i64 0 ∧ Mem (w) [] wx (LL ++ (.blk bk 56 #[.slice Ab 3 cb] :: [])) ∧ Below wq.heap.size wq wx)
      case first =>
       obtain ⟨Sd,hSd⟩:∃ Sd:World → Prop,Sd = fun w' => w'.cell? ⟨gl,0,none⟩ = some (.slice x.At T.tl.length x.ct) ∧ w'.cell? ⟨gl,1,none⟩ = some (.int .i64 ↑T.fx) ∧ w'.cell? ⟨gl,2,none⟩ = some (.int .i64 ↑T.fb) ∧ w'.cell? ⟨gl,3,none⟩ = some (.int .i64 ↑T.db) ∧ w'.cell? ⟨gl,4,none⟩ = some (.int .i64 ↑T.al) ∧ w'.cell? ⟨gl,5,none⟩ = some (.slice x.Ad W.c.length x.cd) ∧ w'.cell? ⟨gl,6,none⟩ = some (.slice x.Ao W.lp.length x.co) ∧ w'.cell? ⟨gl,7,none⟩ = some (.slice x.Ap 3 x.cp) ∧ w'.cell? ⟨gl,8,none⟩ = some (.slice A1 S.length c1) ∧ w'.cell? ⟨gl,9,none⟩ = some (.slice A2 tk.length c2):=⟨_,rfl⟩
       have hSk:∀ we,Below wq.heap.size wq we → Sd we:=fun we hWe => by rw [hSd];exact ⟨(hWe.cell lflt).trans lf0,(hWe.cell lflt).trans lf1,(hWe.cell lflt).trans lf2,(hWe.cell lflt).trans lf3,(hWe.cell lflt).trans lf4,(hWe.cell lflt).trans lf5,(hWe.cell lflt).trans lf6,(hWe.cell lflt).trans lf7,(hWe.cell lflt).trans lf8,(hWe.cell lflt).trans lf9⟩
       have nz0a:wq.heap.size ≠ gl:=by have:=lflt;omega
       have nz0b:wq.heap.size + 1 ≠ gl:=by have:=lflt;omega
       have nz0c:gl ≠ wq.heap.size:=by have:=lflt;omega
       have nz0d:gl ≠ wq.heap.size + 1:=by have:=lflt;omega
       have V0:Mem wq [] (wq).drew []:=(Mem.init wq).drew
       have B0:=V0.below
       have V1:Mem wq [] (wq.alloc (.cells #[.slice none 0 0] 56)).drew [.blk (wq.heap.size) 56 #[.slice none 0 0]]:=((Mem.init wq).alloc _ rfl #[.slice none 0 0] 56).drew
       have B1:=V1.below
       have V1b0:=V1.blk 0 rfl
       go_region_held3 (fun w' => w'.cell? ⟨gl,0,none⟩ = some (.slice x.At T.tl.length x.ct) ∧ w'.cell? ⟨gl,1,none⟩ = some (.int .i64 ↑T.fx) ∧ w'.cell? ⟨gl,2,none⟩ = some (.int .i64 ↑T.fb) ∧ w'.cell? ⟨gl,3,none⟩ = some (.int .i64 ↑T.db) ∧ w'.cell? ⟨gl,4,none⟩ = some (.int .i64 ↑T.al) ∧ w'.cell? ⟨gl,5,none⟩ = some (.slice x.Ad W.c.length x.cd) ∧ w'.cell? ⟨gl,6,none⟩ = some (.slice x.Ao W.lp.length x.co) ∧ w'.cell? ⟨gl,7,none⟩ = some (.slice x.Ap 3 x.cp) ∧ w'.cell? ⟨gl,8,none⟩ = some (.slice A1 S.length c1) ∧ w'.cell? ⟨gl,9,none⟩ = some (.slice A2 tk.length c2)) (first | with_reducible exact ⟨s0,s1,s2,s3,s4,s5,s6,s7,s8,s9⟩ | go_keep | fail) (first | (go_at_call 16;(with_reducible refine (hLd (wq).drew (hxw.below B0)).mono ?_);rintro e we ⟨Ab,cb,rfl,hbe⟩;have hV:=V0;have hK:Mem (wq).drew [] we []:=(Mem.init _).call hbe;have hWe:Below wq.heap.size wq we:=B0.trans (hbe.mono B0.size);have q:=hSk _ hWe;rw [hSd] at q;obtain ⟨s0,s1,s2,s3,s4,s5,s6,s7,s8,s9⟩:=q;have sz:=hWe.size;have ez0a:we.heap.size ≠ gl:=(by have:=lflt;omega);have ez0b:we.heap.size + 1 ≠ gl:=(by have:=lflt;omega)) | (go_at_call 16;(with_reducible refine (hLd (wq.alloc (.cells #[.slice none 0 0] 56)).drew (hxw.below B1)).mono ?_);rintro e we ⟨Ab,cb,rfl,hbe⟩;have hV:=V1;have hK:Mem (wq.alloc (.cells #[.slice none 0 0] 56)).drew [] we []:=(Mem.init _).call hbe;have hWe:Below wq.heap.size wq we:=B1.trans (hbe.mono B1.size);have q:=hSk _ hWe;rw [hSd] at q;obtain ⟨s0,s1,s2,s3,s4,s5,s6,s7,s8,s9⟩:=q;have sz:=hWe.size;have ez0a:we.heap.size ≠ gl:=(by have:=lflt;omega);have ez0b:we.heap.size + 1 ≠ gl:=(by have:=lflt;omega);have zb0:=Blk.below V1b0 hbe V1b0.lt;obtain ⟨zb0lt,zb0_0,zb0f0⟩:=(V1.call hbe).c1 0 rfl))
       all_goals
        go_wp2_with fail
        go_meet
        refine ⟨_,Ab,cb,rfl,rfl,?_⟩
        first
        | with_reducible exact ⟨cr1_a H hV hK,(cr1_a (Mem.init wq) hV hK).below⟩
        | (have h:=cr1_b (c:=#[.slice Ab 3 cb]) (Mem.init wq) hV hK [(0,.slice Ab 3 cb)] (by simp only [List.foldl_cons,List.foldl_nil,List.setIfInBounds_toArray,List.set_cons_zero])
           simp only [sets,List.foldl_cons,List.foldl_nil,List.nil_append] at h
           with_reducible exact ⟨H.join h,h.below⟩)
      case rest =>
       obtain ⟨bk,Ab,cb,rfl,rfl,H,hCR⟩:=hcut
       subst hLL
       replace H:Mem (w) [] (wc) [.blk (gl) 42 #[.slice x.At T.tl.length x.ct,T.fx,T.fb,T.db,T.al,.slice x.Ad W.c.length x.cd,.slice x.Ao W.lp.length x.co,.slice x.Ap 3 x.cp,.slice A1 S.length c1,.slice A2 tk.length c2],.row (w.heap.size) (51) (36) (.slice A1 S.length c1) (S.length) (sns T S),.row (w.heap.size) (74) (12) (.slice A2 tk.length c2) (tk.length) (sds tk),.blk (bk) 56 #[.slice Ab 3 cb]]:=H
       clear hLd
       have HL:=H.drop_ 3
       have hLf2:LifeAt T sv S tk W w gl w.heap.size wc:=⟨x,A1,c1,A2,c2,hL,hxw.below hCR,hsn.kept (Kw.below hCR),HL⟩
       clear HL
       clear lflt lf0 lf1 lf2 lf3 lf4 lf5 lf6 lf7 lf8 lf9
       have Lbk:=H.c1 3 rfl
       go_upto_region 19 with fail
       go_region
       have hLf3:=hLf2.below (Below.drew (Below.refl _ _))
       go_wp2
       refine bodyPost_ret (v:=.tuple #[.pointer (some ⟨gl,0,none⟩),.bool true]) (by simp [results,Tryz.results14,go_sem];done) rfl ?_
       exact ⟨T,S,tk,W,gl,hT,rfl,HQ.out.trans hN2.out,hLf3⟩
theorem sns_36 {w:World} {T:Tm} {S:List Sn} {g n c:Nat} {v0 v1 v2 v3 v4 v5 v6 v7 v8 v9 v10 v11 v12 v13 v14 v15 v16 v17 v18 v19 v20 v21 v22 v23 v24 v25 v26 v27 v28 v29 v30 v31 v32 v33 v34 v35:Value} (h:w.ownsRow 0 51 36 (.slice (some ⟨g,0,none⟩) n c) n (sns T S)) (hn:n = S.length) (i:Nat) (hi:i < S.length) (hv:S[i].vs T = [v0,v1,v2,v3,v4,v5,v6,v7,v8,v9,v10,v11,v12,v13,v14,v15,v16,v17,v18,v19,v20,v21,v22,v23,v24,v25,v26,v27,v28,v29,v30,v31,v32,v33,v34,v35]):w.cell? ⟨g,i * 36,none⟩ = some v0 ∧ w.cell? ⟨g,i * 36 + 1,none⟩ = some v1 ∧ w.cell? ⟨g,i * 36 + 2,none⟩ = some v2 ∧ w.cell? ⟨g,i * 36 + 3,none⟩ = some v3 ∧ w.cell? ⟨g,i * 36 + 4,none⟩ = some v4 ∧ w.cell? ⟨g,i * 36 + 5,none⟩ = some v5 ∧ w.cell? ⟨g,i * 36 + 6,none⟩ = some v6 ∧ w.cell? ⟨g,i * 36 + 7,none⟩ = some v7 ∧ w.cell? ⟨g,i * 36 + 8,none⟩ = some v8 ∧ w.cell? ⟨g,i * 36 + 9,none⟩ = some v9 ∧ w.cell? ⟨g,i * 36 + 10,none⟩ = some v10 ∧ w.cell? ⟨g,i * 36 + 11,none⟩ = some v11 ∧ w.cell? ⟨g,i * 36 + 12,none⟩ = some v12 ∧ w.cell? ⟨g,i * 36 + 13,none⟩ = some v13 ∧ w.cell? ⟨g,i * 36 + 14,none⟩ = some v14 ∧ w.cell? ⟨g,i * 36 + 15,none⟩ = some v15 ∧ w.cell? ⟨g,i * 36 + 16,none⟩ = some v16 ∧ w.cell? ⟨g,i * 36 + 17,none⟩ = some v17 ∧ w.cell? ⟨g,i * 36 + 18,none⟩ = some v18 ∧ w.cell? ⟨g,i * 36 + 19,none⟩ = some v19 ∧ w.cell? ⟨g,i * 36 + 20,none⟩ = some v20 ∧ w.cell? ⟨g,i * 36 + 21,none⟩ = some v21 ∧ w.cell? ⟨g,i * 36 + 22,none⟩ = some v22 ∧ w.cell? ⟨g,i * 36 + 23,none⟩ = some v23 ∧ w.cell? ⟨g,i * 36 + 24,none⟩ = some v24 ∧ w.cell? ⟨g,i * 36 + 25,none⟩ = some v25 ∧ w.cell? ⟨g,i * 36 + 26,none⟩ = some v26 ∧ w.cell? ⟨g,i * 36 + 27,none⟩ = some v27 ∧ w.cell? ⟨g,i * 36 + 28,none⟩ = some v28 ∧ w.cell? ⟨g,i * 36 + 29,none⟩ = some v29 ∧ w.cell? ⟨g,i * 36 + 30,none⟩ = some v30 ∧ w.cell? ⟨g,i * 36 + 31,none⟩ = some v31 ∧ w.cell? ⟨g,i * 36 + 32,none⟩ = some v32 ∧ w.cell? ⟨g,i * 36 + 33,none⟩ = some v33 ∧ w.cell? ⟨g,i * 36 + 34,none⟩ = some v34 ∧ w.cell? ⟨g,i * 36 + 35,none⟩ = some v35:=by
 subst hn
 have hc:∀ (j:Nat) (v:Value),j < 36 → [v0,v1,v2,v3,v4,v5,v6,v7,v8,v9,v10,v11,v12,v13,v14,v15,v16,v17,v18,v19,v20,v21,v22,v23,v24,v25,v26,v27,v28,v29,v30,v31,v32,v33,v34,v35][j]? = some v → w.cell? ⟨g,i * 36 + j,none⟩ = some v:=fun j v hj hv2 => by
  rw [h.cellAt (i * 36 + j) (by omega),sns_get T S i hi j hj,hv,hv2]
 exact ⟨hc 0 _ (by omega) rfl,hc 1 _ (by omega) rfl,hc 2 _ (by omega) rfl,hc 3 _ (by omega) rfl,hc 4 _ (by omega) rfl,hc 5 _ (by omega) rfl,hc 6 _ (by omega) rfl,hc 7 _ (by omega) rfl,hc 8 _ (by omega) rfl,hc 9 _ (by omega) rfl,hc 10 _ (by omega) rfl,hc 11 _ (by omega) rfl,hc 12 _ (by omega) rfl,hc 13 _ (by omega) rfl,hc 14 _ (by omega) rfl,hc 15 _ (by omega) rfl,hc 16 _ (by omega) rfl,hc 17 _ (by omega) rfl,hc 18 _ (by omega) rfl,hc 19 _ (by omega) rfl,hc 20 _ (by omega) rfl,hc 21 _ (by omega) rfl,hc 22 _ (by omega) rfl,hc 23 _ (by omega) rfl,hc 24 _ (by omega) rfl,hc 25 _ (by omega) rfl,hc 26 _ (by omega) rfl,hc 27 _ (by omega) rfl,hc 28 _ (by omega) rfl,hc 29 _ (by omega) rfl,hc 30 _ (by omega) rfl,hc 31 _ (by omega) rfl,hc 32 _ (by omega) rfl,hc 33 _ (by omega) rfl,hc 34 _ (by omega) rfl,hc 35 _ (by omega) rfl⟩
theorem own_at {w:World} {b e s n c:Nat} {A:Option Addr} {xs:List Value} (h:w.ownsRow b e s (.slice A n c) n xs) (hn:0 < n):∃ g,A = some ⟨g,0,none⟩:=by
 rcases h.2 with ⟨h1,h2⟩ | ⟨g,cap,cur,h1,_⟩
 ·omega
 ·injection h1 with h1 _;exact ⟨g,h1⟩
theorem td_none {T:Tm} {W:Wd} {a:Ac} (h:a.cut = none):(doP T W a).2.dead = false:=by rw [doP_td,h];rfl
theorem td_some {T:Tm} {W:Wd} {a:Ac} {k:Nat} (h:a.cut = some k):(doP T W a).2 = ⟨0,0,⟨#[]⟩,bil0,true⟩:=by rw [doP_td,h];rfl
theorem Sn.Ok.dead {T:Tm} {sv:Bool} {i:Nat} {s:Sn} (h:s.Ok T sv i) (hc:s.a.cut = some 0):(doP T s.W s.a).1.c = s.W.c ∧ (∀ j,j ≤ 2 → ((doP T s.W s.a).1.P.getD j pk0).C = (s.W.P.getD j pk0).C) ∧ s.W.lp.length ≤ (doP T s.W s.a).1.lp.length:=by
 have hk0:∀ n,cutK s.a.cut n = 0:=fun n => by rw [hc];exact Nat.min_zero n
 have ha:=h.a
 by_cases g:s.a.k ≤ 5
 ·obtain ⟨h1,h2,h3⟩:=doP_srv (T:=T) (W:=s.W) g
  rw [hk0,List.take_zero] at h1
  refine ⟨h1,fun j _ => by rw [h3],?_⟩
  rw [h2]
  unfold arP
  have hk1:s.a.k ≠ 1:=fun q => by have:=h.cut q;rw [hc] at this;cases this
  rw [if_neg hk1,if_pos g]
  dsimp only
  by_cases hE:(askR T s.W s.a.od).E = 0
  ·have e:(askR T s.W s.a.od).lp = (s.W.V T s.a.od).lp:=by
    show (if (s.W.V T s.a.od).E = 0 then (s.W.V T s.a.od).lp else s.W.lp) = _
    rw [if_pos (show (s.W.V T s.a.od).E = 0 from hE)]
   rw [e]
   by_cases hq:s.a.od.q = 0
   ·exact Nat.le_of_eq (by rw [show (s.W.V T s.a.od).lp = s.W.lp from (Od.V_lp0 hq).1])
   ·have hr:=(Od.V_sale hq hE).2.2.1
    unfold Wd.V Od.V
    rw [if_neg hq]
    unfold saleP
    rw [svP_ok hr]
    exact (issL_len _ _ _ _ _).1
  ·rw [(askR_no hE).2.1]
   exact Nat.le_refl _
 ·obtain ⟨h1,h2,h3,h4⟩:=doP_poc (T:=T) h.w ha.me g
  refine ⟨h1,fun j _ => ?_,by rw [h2];exact Nat.le_refl _⟩
  rw [h4,hk0,List.take_zero]
  split
  ·rename_i e;rw [e];rfl
  ·rfl
theorem samew0 (a b:Value) (xs:List Nat) (w:World) (k n:Nat) (ha:IsWs w a xs) (hb:IsWs w b xs) :
 Calls Tryz.prog 60 #[a,b] (w.drewN (k + n)) fun e w' => e = .returned (.bool true) ∧ ∃ m,w' = w.drewN (k + m) :=
 (same_any a b xs xs _ (ha.drawn _) (hb.drawn _)).mono fun _ _ h => ⟨by rw [h.1,decide_eq_true rfl],by obtain ⟨m,rfl⟩:=h.2;exact ⟨n + m,by rw [World.drewN_drewN,Nat.add_assoc]⟩⟩
theorem samew_q (a b:Value) (xs:List Nat) (w:World) (k n:Nat) (ha:IsWs w a xs) (hb:IsWs w b xs) :
 Calls Tryz.prog 36 #[a,b] (w.drewN (k + n)) fun e w' => e = .returned (.bool true) ∧ ∃ m,w' = w.drewN (k + m):=by
 go_enter Tryz.func36,Tryz.ntmps36
 go_wp2_with fail
 refine (samew0 a b xs w k n ha hb).mono ?_
 rintro e w' ⟨rfl,m,rfl⟩
 go_wp2
 go_ret
 exact ⟨rfl,m,rfl⟩
theorem same_yes (T:Tm) (W U:Wd) (m n m2 n2:Nat) (x y:Wv) (w:World) (hW:W.Ok T m n) (hU:U.Ok T m2 n2) (hx:x.Is w T W) (hy:y.Is w T U) (hlp:W.lp.length ≤ U.lp.length) (hP:∀ j,j ≤ 2 → (U.P.getD j pk0).C = (W.P.getD j pk0).C) (hc:U.c = W.c) :
 Calls Tryz.prog 18 #[.agg (x.vs T W).toArray,.agg (y.vs T U).toArray,.int .i64 (-1),.bool false] w fun e w' => e = .returned (.bool true) ∧ Below w.heap.size w w':=by
 obtain ⟨bx,hbx⟩:∃ bp,x.Ap = some ⟨bp,0,none⟩:=by
  rcases hx.p.2 with ⟨h,_⟩ | ⟨g,cap,cur,h,_⟩
  ·injection h with h1 h2;omega
  ·injection h with h1 h2;exact ⟨g,h1⟩
 obtain ⟨by',hby⟩:∃ bp,y.Ap = some ⟨bp,0,none⟩:=by
  rcases hy.p.2 with ⟨h,_⟩ | ⟨g,cap,cur,h,_⟩
  ·injection h with h1 h2;omega
  ·injection h with h1 h2;exact ⟨g,h1⟩
 have hlp1:¬ (W.lp.length:Int) > (U.lp.length:Int):=by omega
 have hlp2:decide ((W.lp.length:Int) > (U.lp.length:Int)) = false:=decide_eq_false hlp1
 have hPx:=fun U' h j hj => (Wv.Is.pcell (w:=U') (x:=x) (T:=T) (W:=W) h hbx (me:=j) hj)
 have hPy:=fun U' h j hj => (Wv.Is.pcell (w:=U') (x:=y) (T:=T) (W:=U) h hby (me:=j) hj)
 simp only [Wv.vs,hbx,hby,hc]
 have H:=Mem.init w
 replace H:=H.al w.heap.size #[.slice x.At T.tl.length x.ct,T.fx,T.fb,T.db,T.al,.slice x.Ad W.c.length x.cd,.slice x.Ao W.lp.length x.co,.slice (some ⟨bx,0,none⟩) 3 x.cp] (38) |>.al (w.heap.size + 1) #[.slice y.At T.tl.length y.ct,T.fx,T.fb,T.db,T.al,.slice y.Ad W.c.length y.cd,.slice y.Ao U.lp.length y.co,.slice (some ⟨by',0,none⟩) 3 y.cp] (38) |>.gen
 simp only [List.nil_append,List.cons_append] at H
 obtain ⟨W0,hW0,H⟩:=H
 have hx0:=hx.below H.below
 have hy0:=hy.below H.below
 clear hx hy
 have Lwa:=H.c8 0 rfl
 have Lwb:=H.c8 1 rfl
 have Nwawb:=H.ne2 0 1 rfl rfl rfl
 go_enter Tryz.func18,Tryz.ntmps18
 go_wp2_with fail
 clear hW0
 go_loopw [9] (fun i wr => ∃ j:Nat,j ≤ 3 ∧ i = .int .i64 ↑j ∧ ∃ q,wr = W0.drewN q) (fun i _ => 3 - (intOf i).toNat)
 case atStart => exact ⟨0,by omega,rfl,0,rfl⟩
 case round =>
  obtain ⟨j,hj,rfl,q,rfl⟩:=hrel
  clear Lwa Lwb Nwawb
  by_cases hlt:j < 3
  ·have hlt2:(j:Int) < 3:=by omega
   have j1:¬ (j:Int) = -1:=by omega
   have j3:((j:Int) != -1) = true:=by first | (simp;done) | (simp;omega)
   obtain ⟨bl1,k1⟩:=hPx _ hx0 j (by omega)
   obtain ⟨bl2,k2⟩:=hPy _ hy0 j (by omega)
   have hu:=(hx0.pocket hW j (by omega)).2
   have hv:=(hy0.pocket hU j (by omega)).2
   rw [hP j (by omega)] at hv
   clear hPx hPy hP
   obtain ⟨walt,wa0,-,wa1,-,wa2,-,wa3,-,wa4,-,wa5,-,wa6,-,wa7,-⟩:=H.c8 0 rfl
   obtain ⟨wblt,wb0,-,wb1,-,wb2,-,wb3,-,wb4,-,wb5,-,wb6,-,wb7,-⟩:=H.c8 1 rfl
   go_wp2_with fail
   go_quiet ((first | (go_at_call 36;exact samew_q _ _ _ W0 _ _ hu hv)))
   go_wp2
   go_roundw
   case rel => exact ⟨j + 1,by omega,by go_num,_,rfl⟩
   case measure => simp [intOf];omega
  ·have hlt2:¬ (j:Int) < 3:=by omega
   have hu:=hx0.disk hW
   have hv:=hy0.disk hU
   rw [hc] at hv
   obtain ⟨walt,wa0,-,wa1,-,wa2,-,wa3,-,wa4,-,wa5,-,wa6,-,wa7,-⟩:=H.c8 0 rfl
   obtain ⟨wblt,wb0,-,wb1,-,wb2,-,wb3,-,wb4,-,wb5,-,wb6,-,wb7,-⟩:=H.c8 1 rfl
   have hSW:=samew_q _ _ _ W0 q 0 hu hv
   rw [Nat.add_zero] at hSW
   go_wp2_with fail
   refine hSW.mono ?_
   rintro e w' ⟨rfl,q2,rfl⟩
   go_wp2
   go_ret
   exact ⟨rfl,(H.drewN _).below⟩
end Go.Proofs.YtfgiehkfcoodbaaGreat
