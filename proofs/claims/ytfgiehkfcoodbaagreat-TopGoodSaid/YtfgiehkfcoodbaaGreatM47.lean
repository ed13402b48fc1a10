/- keypad: zeros, value, press, Keys, may, Press. -/
import Derived.Test.YtfgiehkfcoodbaaGreatM0
import Derived.Test.YtfgiehkfcoodbaaGreatM38
import Derived.Test.YtfgiehkfcoodbaaGreatM9
import Derived.Test.YtfgiehkfcoodbaaGreatM2
namespace Go.Proofs.YtfgiehkfcoodbaaGreat
open Go.RowKit
set_option linter.unusedVariables false
set_option maxRecDepth 100000
set_option maxHeartbeats 16000000
theorem zeros_ok (w:World):Calls Tryz.prog 195 #[] w fun e w' => e = .returned (.agg #[.int .i32 48,.int .i32 1632,.int .i32 1776,.int .i32 2406,.int .i32 2534,.int .i32 65296]) ∧ Below w.heap.size w w':=by
 go_enter Tryz.func195,Tryz.ntmps195
 go_wp2
 refine bodyPost_ret (v:=.agg #[.int .i32 48,.int .i32 1632,.int .i32 1776,.int .i32 2406,.int .i32 2534,.int .i32 65296]) (by simp [results,Tryz.results195,go_sem];done) rfl ?_
 exact ⟨rfl,below_a1 _ _⟩
def zr (k:Nat):Int:=[48,1632,1776,2406,2534,65296].getD k 0
theorem zidx0 (W:World):(Instr.index 358 (.agg #[.int .i32 48,.int .i32 1632,.int .i32 1776,.int .i32 2406,.int .i32 2534,.int .i32 65296]) (.int .i64 0)).run Tryz.prog W = .ok (.int .i32 48) W:=by kernel_rfl
theorem zidx1 (W:World):(Instr.index 358 (.agg #[.int .i32 48,.int .i32 1632,.int .i32 1776,.int .i32 2406,.int .i32 2534,.int .i32 65296]) (.int .i64 1)).run Tryz.prog W = .ok (.int .i32 1632) W:=by kernel_rfl
theorem zidx2 (W:World):(Instr.index 358 (.agg #[.int .i32 48,.int .i32 1632,.int .i32 1776,.int .i32 2406,.int .i32 2534,.int .i32 65296]) (.int .i64 2)).run Tryz.prog W = .ok (.int .i32 1776) W:=by kernel_rfl
theorem zidx3 (W:World):(Instr.index 358 (.agg #[.int .i32 48,.int .i32 1632,.int .i32 1776,.int .i32 2406,.int .i32 2534,.int .i32 65296]) (.int .i64 3)).run Tryz.prog W = .ok (.int .i32 2406) W:=by kernel_rfl
theorem zidx4 (W:World):(Instr.index 358 (.agg #[.int .i32 48,.int .i32 1632,.int .i32 1776,.int .i32 2406,.int .i32 2534,.int .i32 65296]) (.int .i64 4)).run Tryz.prog W = .ok (.int .i32 2534) W:=by kernel_rfl
theorem zidx5 (W:World):(Instr.index 358 (.agg #[.int .i32 48,.int .i32 1632,.int .i32 1776,.int .i32 2406,.int .i32 2534,.int .i32 65296]) (.int .i64 5)).run Tryz.prog W = .ok (.int .i32 65296) W:=by kernel_rfl
theorem value_ok (r:Int) (w:World) (h0:0 ≤ r) (h1:r ≤ 2147483647):Calls Tryz.prog 184 #[.int .i32 r] w fun e w' => e = .returned (.int .i64 (kv r)) ∧ Below w.heap.size w w':=by
 have hz0:=zidx0
 have hz1:=zidx1
 have hz2:=zidx2
 have hz3:=zidx3
 have hz4:=zidx4
 have hz5:=zidx5
 go_enter Tryz.func184,Tryz.ntmps184
 go_wp2_with (go_at_call 195;(with_reducible refine (zeros_ok _).mono ?_);rintro e wa ⟨rfl,hb⟩)
 go_loopw [6] (fun i wr => ∃ k:Nat,k ≤ 6 ∧ i = .int .i64 k ∧ Hid (∀ j,j < k → ¬ (zr j ≤ r ∧ r < zr j + 10)) ∧ Below w.heap.size w wr) (fun i _ => 6 - (intOf i).toNat)
 case atStart => exact ⟨0,by omega,rfl,fun j hj => by omega,hb⟩
 case round =>
  obtain ⟨k,hk,rfl,hno,hb2⟩:=hrel
  clear hb
  have hsp:k = 6 ∨ k = 0 ∨ k = 1 ∨ k = 2 ∨ k = 3 ∨ k = 4 ∨ k = 5:=by omega
  clear hk
  rcases hsp with rfl | hsp
  ·have e:kv r = -1:=by
    have n0:=hno.out 0 (by omega)
    have n1:=hno.out 1 (by omega)
    have n2:=hno.out 2 (by omega)
    have n3:=hno.out 3 (by omega)
    have n4:=hno.out 4 (by omega)
    have n5:=hno.out 5 (by omega)
    simp [zr] at n0 n1 n2 n3 n4 n5
    unfold kv
    repeat' split <;> try omega
   have E:=Lib.hid e
   clear e hno
   go_wp2
   go_ret
   exact ⟨by rw [E.out];rfl,hb2⟩
  ·have hy:(zr k ≤ r ∧ r < zr k + 10) ∨ ¬ (zr k ≤ r ∧ r < zr k + 10):=Classical.em _
   rcases hy with hy | hy
   ·have e:kv r = r - zr k:=by
     have n0:=fun h => hno.out 0 h
     rcases hsp with rfl | rfl | rfl | rfl | rfl | rfl <;> (simp [zr] at hy ⊢;unfold kv;repeat' split <;> try omega)
    have E:=Lib.hid e
    clear e hno
    rcases hsp with rfl | rfl | rfl | rfl | rfl | rfl <;> (simp only [zr,List.getD_cons_zero,List.getD_cons_succ,Int.reduceAdd] at hy;obtain ⟨g1,g2⟩:=hy;go_wp2;go_ret;exact ⟨by rw [E.out];rfl,hb2⟩)
   ·have hno':Hid (∀ j,j < k + 1 → ¬ (zr j ≤ r ∧ r < zr j + 10)):=fun j hj => by
     by_cases h:j = k
     ·rw [h];exact hy
     ·exact hno.out j (by omega)
    clear hno
    rcases hsp with rfl | rfl | rfl | rfl | rfl | rfl
    all_goals
     simp only [zr,List.getD_cons_zero,List.getD_cons_succ,not_and,Int.not_lt] at hy
     have hg:∀ z:Int,(z ≤ r → z + 10 ≤ r) → (decide (z ≤ r) = false ∨ (decide (z ≤ r) = true ∧ decide (r < z + 10) = false)):=fun z hz => by
      by_cases h:z ≤ r
      ·exact .inr ⟨by simp [h],by simp;exact hz h⟩
      ·exact .inl (by simp;omega)
     have hy2:=hg _ hy
     simp only [Int.reduceAdd] at hy2
     clear hg hy
     rcases hy2 with g1 | ⟨g1,g2⟩
     all_goals
      go_wp2
      go_roundw
      case rel => refine ⟨_,?_,?_,hno',hb2⟩ <;> first | omega | rfl
      case measure => simp [intOf]
def padv (p:PadS):Value:=.agg #[.string (dstr p.1),.bool p.2]
def RetPress (q:PadS) (o:Option EntS) (w:World) (e:Ending) (w':World):Prop :=
 match o with
 | none => e = .returned (.tuple #[padv q,.pointer none]) ∧ Below w.heap.size w w'
 | some n => ∃ g,e = .returned (.tuple #[padv q,.pointer (some ⟨g,0,none⟩)]) ∧ Mem w [] w' [.blk g 333 #[.string (dstr n.1),n.2]]
theorem enc_digitP {v:Nat} (h:v ≤ 9):Utf8.encode (48 + (v:Int)) = dstr [v]:=by
 have e:(48 + (v:Int)) = ((48 + v:Nat):Int):=by omega
 rw [e,enc_ascii (by omega)]
 rfl
theorem last_nil (w:World):Calls Tryz.prog 183 #[.string (dstr [])] w fun e w' => e = .returned (.tuple #[.int .i32 65533,()]) ∧ w = w':=by
 have hsz:=dstr_size []
 go_enter Tryz.func183,Tryz.ntmps183
 go_wp2
 go_ret2
 exact ⟨rfl,rfl⟩
theorem last_ok (l:List Nat) (hl:∀ d ∈ l,d ≤ 9) (h0:0 < l.length) (h1:l.length ≤ 1000) (w:World):Calls Tryz.prog 183 #[.string (dstr l)] w fun e w' => ∃ r:Int,e = .returned (.tuple #[.int .i32 r,.int .i64 1]) ∧ w = w':=by
 have hsz:=dstr_size l
 have hb:=dstr_byte hl (l.length - 1) (by omega)
 have hd:=hl _ (List.getElem_mem (by omega:l.length - 1 < l.length))
 generalize l[l.length - 1] = d at *
 go_enter Tryz.func183,Tryz.ntmps183
 go_wp2
 go_ret2
 exact ⟨_,rfl,rfl⟩
theorem press_stay (D:List Nat) (b:Bool) (r:Int) (w:World) (hr:r = 32 ∨ r = 45 ∨ r = 160) :
 Calls Tryz.prog 179 #[padv (D,b),.int .i32 r] w (RetPress (D,b) none w):=by
 unfold padv
 dsimp only
 have H:=Mem.init w
 replace H:=H.al w.heap.size #[.string (dstr D),.bool b] (329) |>.al (w.heap.size + 1) #[.string (dstr D),.bool b] (329)
 simp only [List.nil_append,List.cons_append] at H
 obtain ⟨rslt,rs0,-,rs1,-⟩:=H.c2 1 rfl
 rcases hr with rfl | rfl | rfl
 all_goals
  go_enter Tryz.func179,Tryz.ntmps179
  go_wp2
  refine bodyPost_ret (v:=.tuple #[padv (D,b),.pointer none]) (by simp [results,Tryz.results179,go_sem,rs0,rs1,padv];done) rfl ?_
  exact ⟨rfl,H.below⟩
theorem drop_str (D:List Nat):(dstr D).extract 0 (D.length - 1) = dstr D.dropLast:=by
 rw [dstr_extract,List.dropLast_eq_take];rfl
theorem press_back (D:List Nat) (b:Bool) (w:World) (hD:∀ d ∈ D,d ≤ 9) (hl:D.length ≤ 30) :
 Calls Tryz.prog 179 #[padv (D,b),.int .i32 42] w (RetPress (D.dropLast,b) none w):=by
 have hsz:=dstr_size D
 unfold padv
 dsimp only
 have H:=Mem.init w
 replace H:=H.al w.heap.size #[.string (dstr D),.bool b] (329) |>.al (w.heap.size + 1) #[.string ⟨#[]⟩,.bool false] (329) |>.gen
 simp only [List.nil_append,List.cons_append] at H
 obtain ⟨W0,hW0,H⟩:=H
 have Lpx:=H.c2 0 rfl
 have Lrs:=H.c2 1 rfl
 have Npxrs:=H.ne2 0 1 rfl rfl rfl
 by_cases h0:D = []
 ·subst h0
  go_enter Tryz.func179,Tryz.ntmps179
  go_wp2_with (go_at_call 183;(with_reducible refine (last_nil _).mono ?_);rintro e wa ⟨rfl,rfl⟩)
  replace H:=H.set 0 rfl 0 (.string ByteArray.empty) |>.set 1 rfl 0 (.string ByteArray.empty) |>.set 1 rfl 1 (.bool b) |>.gen
  simp only [List.set_cons_zero,List.setIfInBounds_toArray,List.set_cons_succ] at H
  obtain ⟨wb,hwb,H⟩:=H
  rw [hwb]
  clear hwb
  clear Lpx Lrs Npxrs
  obtain ⟨rslt,rs0,-,rs1,-⟩:=H.c2 1 rfl
  refine bodyPost_ret (v:=.tuple #[padv ([].dropLast,b),.pointer none]) (by simp [results,Tryz.results179,go_sem,rs0,rs1,padv,(show dstr [] = ByteArray.empty from rfl)];done) rfl ?_
  exact ⟨rfl,H.below⟩
 ·have hpos:0 < D.length:=by cases D <;> simp at h0 ⊢
  have hlI:(0:Int) < D.length:=by omega
  go_enter Tryz.func179,Tryz.ntmps179
  go_wp2_with (go_at_call 183;(with_reducible refine (last_ok D hD hpos (by omega) _).mono ?_);rintro e wa ⟨r,rfl,rfl⟩)
  rw [drop_str]
  skip
  replace H:=H.set 0 rfl 0 (.string (dstr D.dropLast)) |>.set 1 rfl 0 (.string (dstr D.dropLast)) |>.set 1 rfl 1 (.bool b) |>.gen
  simp only [List.set_cons_zero,List.setIfInBounds_toArray,List.set_cons_succ] at H
  obtain ⟨wb,hwb,H⟩:=H
  rw [hwb]
  clear hwb
  clear Lpx Lrs Npxrs
  obtain ⟨rslt,rs0,-,rs1,-⟩:=H.c2 1 rfl
  refine bodyPost_ret (v:=.tuple #[padv (D.dropLast,b),.pointer none]) (by simp [results,Tryz.results179,go_sem,rs0,rs1,padv];done) rfl ?_
  exact ⟨rfl,H.below⟩
theorem press_end_bad (D:List Nat) (w:World) :
 Calls Tryz.prog 179 #[padv (D,true),.int .i32 35] w (RetPress ([],false) (some ([],3)) w):=by
 have hsz:=dstr_size D
 unfold padv
 dsimp only
 have H:=Mem.init w
 replace H:=H.al w.heap.size #[.string (dstr D),.bool true] (329) |>.al (w.heap.size + 1) #[.string ⟨#[]⟩,.bool false] (329) |>.gen
 simp only [List.nil_append,List.cons_append] at H
 obtain ⟨W0,hW0,H⟩:=H
 have Lpx:=H.c2 0 rfl
 have Lrs:=H.c2 1 rfl
 have Npxrs:=H.ne2 0 1 rfl rfl rfl
 go_enter Tryz.func179,Tryz.ntmps179
 go_wp2
 replace H:=H.set 1 rfl 0 (.string ⟨#[]⟩) |>.set 1 rfl 1 (.bool false) |>.al W0.heap.size #[.string ⟨#[]⟩,.int .i64 3] (333) |>.gen
 simp only [List.set_cons_zero,List.set_cons_succ,List.setIfInBounds_toArray,List.cons_append,List.nil_append] at H
 obtain ⟨wb,hwb,H⟩:=H
 rw [hwb]
 clear hwb
 clear Lpx Lrs Npxrs
 obtain ⟨rslt,rs0,-,rs1,-⟩:=H.c2 1 rfl
 refine bodyPost_ret (v:=.tuple #[padv ([],false),.pointer (some ⟨W0.heap.size,0,none⟩)]) (by simp [results,Tryz.results179,go_sem,rs0,rs1,padv,(show dstr [] = ByteArray.empty from rfl),(show (⟨#[]⟩:ByteArray) = ByteArray.empty from rfl)];done) rfl ?_
 exact ⟨_,rfl,Mem.drop_ 0 (Mem.drop_ 0 H)⟩
theorem press_end_none (D:List Nat) (hemp:(dstr D).toList.isEmpty = true) (w:World) :
 Calls Tryz.prog 179 #[padv (D,false),.int .i32 35] w (RetPress ([],false) (none) w):=by
 have hsz:=dstr_size D
 unfold padv
 dsimp only
 have H:=Mem.init w
 replace H:=H.al w.heap.size #[.string (dstr D),.bool false] (329) |>.al (w.heap.size + 1) #[.string ⟨#[]⟩,.bool false] (329) |>.gen
 simp only [List.nil_append,List.cons_append] at H
 obtain ⟨W0,hW0,H⟩:=H
 have Lpx:=H.c2 0 rfl
 have Lrs:=H.c2 1 rfl
 have Npxrs:=H.ne2 0 1 rfl rfl rfl
 go_enter Tryz.func179,Tryz.ntmps179
 go_wp2
 replace H:=H.set 1 rfl 0 (.string ⟨#[]⟩) |>.set 1 rfl 1 (.bool false) |>.gen
 simp only [List.set_cons_zero,List.set_cons_succ,List.setIfInBounds_toArray] at H
 obtain ⟨wb,hwb,H⟩:=H
 rw [hwb]
 clear hwb
 clear Lpx Lrs Npxrs
 obtain ⟨rslt,rs0,-,rs1,-⟩:=H.c2 1 rfl
 refine bodyPost_ret (v:=.tuple #[padv ([],false),.pointer none]) (by simp [results,Tryz.results179,go_sem,rs0,rs1,padv,(show dstr [] = ByteArray.empty from rfl),(show (⟨#[]⟩:ByteArray) = ByteArray.empty from rfl)];done) rfl ?_
 exact ⟨rfl,H.below⟩
theorem press_end_some (D:List Nat) (h0:0 < D.length) (w:World) :
 Calls Tryz.prog 179 #[padv (D,false),.int .i32 35] w (RetPress ([],false) (some (D,0)) w):=by
 have hsz:=dstr_size D
 unfold padv
 dsimp only
 have H:=Mem.init w
 replace H:=H.al w.heap.size #[.string (dstr D),.bool false] (329) |>.al (w.heap.size + 1) #[.string ⟨#[]⟩,.bool false] (329) |>.gen
 simp only [List.nil_append,List.cons_append] at H
 obtain ⟨W0,hW0,H⟩:=H
 have Lpx:=H.c2 0 rfl
 have Lrs:=H.c2 1 rfl
 have Npxrs:=H.ne2 0 1 rfl rfl rfl
 have hne:=dstr_empty h0
 go_enter Tryz.func179,Tryz.ntmps179
 go_wp2
 go_region
 go_wp2
 replace H:=H.set 1 rfl 0 (.string ⟨#[]⟩) |>.set 1 rfl 1 (.bool false) |>.al W0.heap.size #[.string (dstr D),()] (333) |>.drew |>.gen
 simp only [List.set_cons_zero,List.set_cons_succ,List.setIfInBounds_toArray,List.cons_append,List.nil_append] at H
 obtain ⟨wb,hwb,H⟩:=H
 rw [hwb]
 clear hwb
 clear Lpx Lrs Npxrs
 obtain ⟨rslt,rs0,-,rs1,-⟩:=H.c2 1 rfl
 refine bodyPost_ret (v:=.tuple #[padv ([],false),.pointer (some ⟨W0.heap.size,0,none⟩)]) (by simp [results,Tryz.results179,go_sem,rs0,rs1,padv,(show dstr [] = ByteArray.empty from rfl),(show (⟨#[]⟩:ByteArray) = ByteArray.empty from rfl)];done) rfl ?_
 exact ⟨_,rfl,Mem.drop_ 0 (Mem.drop_ 0 H)⟩
theorem press_end (D:List Nat) (b:Bool) (w:World) :
 Calls Tryz.prog 179 #[padv (D,b),.int .i32 35] w (RetPress ([],false) (if b then some ([],3) else if D = [] then none else some (D,0)) w):=by
 cases b with
 | true => rw [if_pos rfl];exact press_end_bad D w
 | false =>
  rw [if_neg (by simp)]
  by_cases h0:D = []
  ·rw [if_pos h0];exact press_end_none D (by rw [h0,Lib.toList_data];rfl) w
  ·rw [if_neg h0];exact press_end_some D (by cases D <;> simp at h0 ⊢) w
theorem press_bad (D:List Nat) (b:Bool) (r:Int) (w:World) (h0:0 ≤ r) (h1:r ≤ 2147483647) (n1:¬ (r = 32 ∨ r = 45 ∨ r = 160)) (n2:¬ r = 42) (n3:¬ r = 35) (hb:kv r < 0 ∨ D.length = 30) (hl:D.length ≤ 30) :
 Calls Tryz.prog 179 #[padv (D,b),.int .i32 r] w (RetPress (D,true) none w):=by
 have hsz:=dstr_size D
 have m1:(r == 32) = false:=by simp;omega
 have m2:(r == 45) = false:=by simp;omega
 have m3:(r == 160) = false:=by simp;omega
 have m4:(r == 42) = false:=by simp;omega
 have m5:(r == 35) = false:=by simp;omega
 have hv:=fun W => value_ok r W h0 h1
 have hk:=kv_bd r
 generalize kv r = v at *
 clear n1 n2 n3 h0 h1
 unfold padv
 dsimp only
 have H:=Mem.init w
 replace H:=H.al w.heap.size #[.string (dstr D),.bool b] (329) |>.al (w.heap.size + 1) #[.string ⟨#[]⟩,.bool false] (329) |>.gen
 simp only [List.nil_append,List.cons_append] at H
 obtain ⟨W0,hW0,H⟩:=H
 have Lpx:=H.c2 0 rfl
 have Lrs:=H.c2 1 rfl
 have Npxrs:=H.ne2 0 1 rfl rfl rfl
 go_enter Tryz.func179,Tryz.ntmps179
 go_wp2_with fail
 with_reducible refine (hv _).mono ?_
 rintro e wa ⟨rfl,hba⟩
 replace H:=Mem.call H hba
 clear Lpx Lrs Npxrs
 have Lpx:=H.c2 0 rfl
 have Lrs:=H.c2 1 rfl
 have Npxrs:=H.ne2 0 1 rfl rfl rfl
 clear hba hv
 by_cases hv0:v < 0
 ·clear hb
  go_wp2
  replace H:=H.set 0 rfl 1 (.bool true) |>.set 1 rfl 0 (.string (dstr D)) |>.set 1 rfl 1 (.bool true) |>.gen
  simp only [List.set_cons_zero,List.set_cons_succ,List.setIfInBounds_toArray] at H
  obtain ⟨wb,hwb,H⟩:=H
  rw [hwb]
  clear hwb
  clear Lpx Lrs Npxrs
  obtain ⟨rslt,rs0,-,rs1,-⟩:=H.c2 1 rfl
  refine bodyPost_ret (v:=.tuple #[padv (D,true),.pointer none]) (by simp [results,Tryz.results179,go_sem,rs0,rs1,padv];done) rfl ?_
  exact ⟨rfl,H.below⟩
 ·skip
  have h30:((D.length:Int) == 30) = true:=by simp;omega
  clear hb
  go_wp2
  replace H:=H.set 0 rfl 1 (.bool true) |>.set 1 rfl 0 (.string (dstr D)) |>.set 1 rfl 1 (.bool true) |>.gen
  simp only [List.set_cons_zero,List.set_cons_succ,List.setIfInBounds_toArray] at H
  obtain ⟨wb,hwb,H⟩:=H
  rw [hwb]
  clear hwb
  clear Lpx Lrs Npxrs
  obtain ⟨rslt,rs0,-,rs1,-⟩:=H.c2 1 rfl
  refine bodyPost_ret (v:=.tuple #[padv (D,true),.pointer none]) (by simp [results,Tryz.results179,go_sem,rs0,rs1,padv];done) rfl ?_
  exact ⟨rfl,H.below⟩
theorem press_more (D:List Nat) (b:Bool) (r:Int) (w:World) (h0:0 ≤ r) (h1:r ≤ 2147483647) (n1:¬ (r = 32 ∨ r = 45 ∨ r = 160)) (n2:¬ r = 42) (n3:¬ r = 35) (hv0:0 ≤ kv r) (hl:D.length < 30) :
 Calls Tryz.prog 179 #[padv (D,b),.int .i32 r] w (RetPress (D ++ [(kv r).toNat],b) none w):=by
 have hsz:=dstr_size D
 have m1:(r == 32) = false:=by simp;omega
 have m2:(r == 45) = false:=by simp;omega
 have m3:(r == 160) = false:=by simp;omega
 have m4:(r == 42) = false:=by simp;omega
 have m5:(r == 35) = false:=by simp;omega
 have h30:((D.length:Int) == 30) = false:=by simp;omega
 have hv:=fun W => value_ok r W h0 h1
 have hk:=kv_bd r
 obtain ⟨v,hvv⟩:∃ v:Nat,kv r = (v:Int):=⟨(kv r).toNat,by omega⟩
 rw [hvv] at hv hk ⊢
 rw [show ((v:Int)).toNat = v by omega]
 have hk9:v ≤ 9:=by omega
 have hen:=enc_digitP hk9
 have hcv:=fun W => run_convert_int_string (P:=Tryz.prog) W 21 9 .i32 (48 + (v:Int)) (by kernel_rfl) Tryz.underlying9
 rw [hen] at hcv
 clear n1 n2 n3 h0 h1 hvv hv0
 unfold padv
 dsimp only
 have H:=Mem.init w
 replace H:=H.al w.heap.size #[.string (dstr D),.bool b] (329) |>.al (w.heap.size + 1) #[.string ⟨#[]⟩,.bool false] (329) |>.gen
 simp only [List.nil_append,List.cons_append] at H
 obtain ⟨W0,hW0,H⟩:=H
 have Lpx:=H.c2 0 rfl
 have Lrs:=H.c2 1 rfl
 have Npxrs:=H.ne2 0 1 rfl rfl rfl
 go_enter Tryz.func179,Tryz.ntmps179
 go_wp2_with fail
 with_reducible refine (hv _).mono ?_
 rintro e wa ⟨rfl,hba⟩
 replace H:=Mem.call H hba
 clear Lpx Lrs Npxrs
 have Lpx:=H.c2 0 rfl
 have Lrs:=H.c2 1 rfl
 have Npxrs:=H.ne2 0 1 rfl rfl rfl
 clear hba hv
 have hneg:decide ((v:Int) < 0) = false:=by simp
 have hk9I:(v:Int) ≤ 9:=by omega
 clear hk9
 have hcap:¬ 9223372036854775807 < D.length + (dstr [v]).size:=by rw [dstr_size];simp;omega
 clear hl hk
 go_wp2
 replace H:=H.set 0 rfl 0 (.string (dstr D ++ dstr [v])) |>.set 1 rfl 0 (.string (dstr D ++ dstr [v])) |>.set 1 rfl 1 (.bool b) |>.gen
 simp only [List.set_cons_zero,List.setIfInBounds_toArray,List.set_cons_succ] at H
 obtain ⟨wb,hwb,H⟩:=H
 rw [hwb]
 clear hwb
 clear Lpx Lrs Npxrs
 obtain ⟨rslt,rs0,-,rs1,-⟩:=H.c2 1 rfl
 refine bodyPost_ret (v:=.tuple #[padv (D ++ [v],b),.pointer none]) (by simp [results,Tryz.results179,go_sem,rs0,rs1,padv,dstr_append];done) rfl ?_
 exact ⟨rfl,H.below⟩
theorem press_ok (p:PadS) (hp:PadOk p) (r:Int) (w:World) (h0:0 ≤ r) (h1:r ≤ 2147483647) :
 Calls Tryz.prog 179 #[padv p,.int .i32 r] w (RetPress (kpress p r).1 (kpress p r).2 w):=by
 obtain ⟨D,b⟩:=p
 obtain ⟨hl,hD⟩:=hp
 unfold kpress
 by_cases n1:r = 32 ∨ r = 45 ∨ r = 160
 ·rw [if_pos n1];exact press_stay D b r w n1
 ·rw [if_neg n1]
  by_cases n2:r = 42
  ·rw [if_pos n2,n2];exact press_back D b w hD hl
  ·rw [if_neg n2]
   by_cases n3:r = 35
   ·rw [if_pos n3,n3];exact press_end D b w
   ·rw [if_neg n3]
    by_cases n4:kv r < 0 ∨ D.length = 30
    ·rw [if_pos n4];exact press_bad D b r w h0 h1 n1 n2 n3 n4 hl
    ·rw [if_neg n4];exact press_more D b r w h0 h1 n1 n2 n3 (by omega) (by simp at hl;omega)
theorem el_ent:Elem Tryz.prog 327 333 2 24:=elem_of Tryz.underlying327 (show _ = some (some (.agg #[.string ⟨#[]⟩,()]),2,24) by kernel_rfl) rfl (by omega)
def entsV (es:List EntS):List Value:=es.flatMap fun e => [.string (dstr e.1),.int .i64 ↑e.2]
theorem entsV_snoc (es:List EntS) (e:EntS):entsV es ++ [.string (dstr e.1),.int .i64 ↑e.2] = entsV (es ++ [e]):=by simp [entsV]
theorem retpress_none {D:List Nat} {b:Bool} {w:World} {e:Ending} {w':World} (h:RetPress (D,b) none w e w'):e = .returned (.tuple #[.agg #[.string (dstr D),.bool b],.pointer none]) ∧ Below w.heap.size w w':=h
theorem retpress_some {D T:List Nat} {b:Bool} {c:Nat} {w:World} {e:Ending} {w':World} (h:RetPress (D,b) (some (T,c)) w e w'):∃ g,e = .returned (.tuple #[.agg #[.string (dstr D),.bool b],.pointer (some ⟨g,0,none⟩)]) ∧ Mem w [] w' [.blk g 333 #[.string (dstr T),c]]:=h
theorem press_at (D:List Nat) (b:Bool) (hp:PadOk (D,b)) (r:Int) (w:World) (h0:0 ≤ r) (h1:r ≤ 2147483647) :
 Calls Tryz.prog 179 #[.agg #[.string (dstr D),.bool b],.int .i32 r] w (RetPress (kpress (D,b) r).1 (kpress (D,b) r).2 w):=press_ok (D,b) hp r w h0 h1
def RetKeys (x:PadS × List EntS) (w:World) (e:Ending) (w':World):Prop :=
 ∃ (A:Option Addr) (c:Nat),e = .returned (.tuple #[.slice A x.2.length c,padv x.1,()]) ∧ w'.ownsRow w.heap.size 333 2 (.slice A x.2.length c) x.2.length (entsV x.2) ∧ Below w.heap.size w w'
theorem keys_told (s:ByteArray) (R:List Nat) (w:World) (hT:Told s 0 R) (hs:s.size ≤ 2000) :
 Calls Tryz.prog 177 #[.string s] w (RetKeys (kkeys (R.map fun (n:Nat) => (n:Int)) (([],false),[])) w):=by
 obtain ⟨X,hX⟩:∃ X,kkeys (R.map fun (n:Nat) => (n:Int)) (([],false),[]) = X:=⟨_,rfl⟩
 have HX:=Lib.hid hX
 rw [hX]
 clear hX
 have hsI:¬ (2000:Int) < (s.size:Int):=by omega
 have hnil:dstr [] = ⟨#[]⟩:=rfl
 have H:=Mem.init w
 replace H:=Mem.alloc H (w.heap.size) (by first | (simp;done) | (simp;omega)) #[.string (dstr []),.bool false] 329
 replace H:=Mem.alloc H (w.heap.size + 1) (by first | (simp;done) | (simp;omega)) #[.string (dstr []),.bool false] 329
 replace H:Mem (w) [] _ [.blk (w.heap.size) 329 #[.string (dstr []),.bool false],.blk (w.heap.size + 1) 329 #[.string (dstr []),.bool false],.obj (w.heap.size + 1 + 1) (.stringIter (s) 0)]:=Mem.iter H (w.heap.size + 1 + 1) (by first | (simp;done) | (simp;omega)) (s)
 go_enter Tryz.func177,Tryz.ntmps177
 go_wp2
 clear hsI
 go_loopw [6] (fun v wr => ∃ (j:Nat) (R2:List Nat) (D:List Nat) (b:Bool) (es:List EntS) (A:Option Addr) (c:Nat),Told s j R2 ∧ Hid (kkeys (R2.map fun (n:Nat) => (n:Int)) ((D,b),es) = X) ∧ PadOk (D,b) ∧ es.length ≤ j ∧ v = .slice A es.length c ∧ Mem w [] wr [.blk w.heap.size 329 #[.string (dstr []),.bool false],.blk (w.heap.size + 1) 329 #[.string (dstr D),.bool b],.obj (w.heap.size + 1 + 1) (.stringIter s j),.row w.heap.size 333 2 (.slice A es.length c) es.length (entsV es)]) (fun _ wr => s.size - wr.iterPos (w.heap.size + 1 + 1))
 case atStart => exact ⟨0,R,[],false,[],none,0,hT,HX,⟨by simp,by simp⟩,by simp,rfl,H.nilrow _ _ _⟩
 case round =>
  obtain ⟨j,R2,D,b,es,A,c,hTj,hk,hp,hel,rfl,HM⟩:=hrel
  clear H hT HX
  obtain ⟨n,hn⟩:∃ n,es.length = n:=⟨_,rfl⟩
  rw [hn] at HM hel ⊢
  have HN:=Lib.hid hn
  clear hn
  have H:Mem (w) [] (wr) [.blk (w.heap.size) 329 #[.string (dstr []),.bool false],.blk (w.heap.size + 1) 329 #[.string (dstr D),.bool b],.obj (w.heap.size + 1 + 1) (.stringIter s j),.row (w.heap.size) (333) (2) (.slice A n c) (n) (entsV es)]:=HM
  clear HM
  have hit:=H.obj_ 2 rfl
  cases R2 with
  | nil =>
   have hnx:=fun ty => Lib.run_next_end_at (P:=Tryz.prog) wr (w.heap.size + 1 + 1) s j ty hit (Nat.not_lt.2 hTj)
   have hk2:((D,b),es) = X:=hk.out
   clear hit hk hTj
   have Lrs:=H.c2 0 rfl
   have Lpv:=H.c2 1 rfl
   have Nrspv:=H.ne2 0 1 rfl rfl rfl
   go_wp2
   go_region
   go_wp2
   replace H:=H.set 0 rfl 0 (.string (dstr D)) |>.set 0 rfl 1 (.bool b) |>.drew |>.gen
   simp only [List.set_cons_zero,List.setIfInBounds_toArray,List.set_cons_succ] at H
   obtain ⟨wz,hwz,H⟩:=H
   rw [hwz]
   clear hwz
   clear Lrs Lpv Nrspv
   obtain ⟨rslt,rs0,-,rs1,-⟩:=H.c2 0 rfl
   refine bodyPost_ret (v:=.tuple #[.slice A n c,padv (D,b),()]) (by simp [results,Tryz.results177,go_sem,rs0,rs1,padv];done) rfl ?_
   subst hk2
   exact ⟨A,c,by simp only [HN.out],by simp only [HN.out];exact H.ownb 3 rfl,H.below⟩
  | cons r R2 =>
   skip
   obtain ⟨hj,hr,hT2⟩:=hTj
   have hr2:=decode_le s j
   have hm:=dec_posP s j hj
   have hnx:=fun ty => Lib.run_next_any_at (P:=Tryz.prog) wr (w.heap.size + 1 + 1) s j ty hit hj
   obtain ⟨m,hmm⟩:∃ m,(Utf8.decode s j).2 = m:=⟨_,rfl⟩
   rw [hr,hmm] at hnx
   rw [hr] at hr2
   rw [hmm] at hT2 hm
   have HIT:=Lib.hid hit
   have HJ:=Lib.hid hj
   have HM2:=Lib.hid hm
   have HT2:=Lib.hid hT2
   obtain ⟨⟨D',b'⟩,hq⟩:∃ q,(kpress (D,b) (r:Int)).1 = q:=⟨_,rfl⟩
   obtain ⟨o,ho⟩:∃ o,(kpress (D,b) (r:Int)).2 = o:=⟨_,rfl⟩
   have hP:=fun W => press_at D b hp (r:Int) W (by omega) (by omega)
   have hp2:PadOk (D',b'):=by rw [← hq];exact kpress_ok hp _
   have hk2:Hid (kkeys (R2.map fun (n:Nat) => (n:Int)) ((D',b'),es ++ o.toList) = X):=by
    have h:=hk.out
    rw [List.map_cons] at h
    rw [← hq,← ho]
    exact h
   have HP2:=Lib.hid hp2
   rw [hq,ho] at hP
   clear hq ho hk hp hit hr hmm hj hm hT2 hp2
   replace H:Mem (w) [] _ [.blk (w.heap.size) 329 #[.string (dstr []),.bool false],.blk (w.heap.size + 1) 329 #[.string (dstr D),.bool b],.obj (w.heap.size + 1 + 1) (.stringIter (s) (j + m)),.row (w.heap.size) (333) (2) (.slice A n c) (n) (entsV es)]:=Mem.next 2 H rfl (j + m)
   have Lrs:=H.c2 0 rfl
   have Lpv:=H.c2 1 rfl
   have Nrspv:=H.ne2 0 1 rfl rfl rfl
   cases o with
   | none =>
    go_wp2_with fail
    with_reducible refine (hP _).mono ?_
    intro e wa hx
    obtain ⟨rfl,hba⟩:=retpress_none hx
    clear hx
    replace H:=Mem.call H hba
    clear Lrs Lpv Nrspv
    have Lrs:=H.c2 0 rfl
    have Lpv:=H.c2 1 rfl
    have Nrspv:=H.ne2 0 1 rfl rfl rfl
    clear hba hP
    go_wp2
    replace H:=H.set 1 rfl 0 (.string (dstr D')) |>.set 1 rfl 1 (.bool b') |>.al wa.heap.size #[.string (dstr D'),.bool b'] (329) |>.gen
    simp only [List.set_cons_zero,List.set_cons_succ,List.setIfInBounds_toArray,List.cons_append,List.nil_append] at H
    obtain ⟨wz,hwz,H⟩:=H
    rw [hwz]
    clear hwz
    go_roundw
    case rel => exact ⟨j + m,R2,D',b',es,A,c,HT2.out,(by have h:=hk2.out;simp at h;exact h),HP2.out,by rw [HN.out];omega,by rw [HN.out],by rw [HN.out];exact Mem.drop_ 4 H⟩
    case measure =>
     have h9:=iterPos_of (H.obj_ 2 rfl)
     have h8:=iterPos_of HIT.out
     have h7:=HJ.out
     have h6:=HM2.out
     omega
   | some en =>
    skip
    obtain ⟨T,cd⟩:=en
    go_wp2_with fail
    with_reducible refine (hP _).mono ?_
    intro e wa hx
    obtain ⟨g,rfl,hK⟩:=retpress_some hx
    clear hx
    replace H:Mem (w) [] (wa) [.blk (w.heap.size) 329 #[.string (dstr []),.bool false],.blk (w.heap.size + 1) 329 #[.string (dstr D),.bool b],.obj (w.heap.size + 1 + 1) (.stringIter (s) (j + m)),.row (w.heap.size) (333) (2) (.slice A n c) (n) (entsV es),.blk (g) 333 #[.string (dstr T),cd]]:=Mem.join H hK
    clear hK hP
    replace H:=H.al wa.heap.size #[.string (dstr D'),.bool b'] (329)
    simp only [List.cons_append,List.nil_append] at H
    clear Lrs Lpv Nrspv
    have Lrs:=H.c2 0 rfl
    have Lpv:=H.c2 1 rfl
    have Len:=H.c2 4 rfl
    have Lnq:=H.c2 5 rfl
    have Nrspv:=H.ne2 0 1 rfl rfl rfl
    have Nrsen:=H.ne2 0 4 rfl rfl rfl
    have Nrsnq:=H.ne2 0 5 rfl rfl rfl
    have Npven:=H.ne2 1 4 rfl rfl rfl
    have Npvnq:=H.ne2 1 5 rfl rfl rfl
    have Nennq:=H.ne2 4 5 rfl rfl rfl
    have hnj:n ≤ 2000:=by have:=HJ.out;omega
    go_wp2_with (at_builtin;refine wpList_pushM el_ent rfl (.tmp 28) (.tmp 32) rfl 3 H rfl rfl _ (World.size_alloc _ _) rfl (news:=[.string (dstr T),.int .i64 ↑cd]) rfl (fun u hu => by simp at hu;rcases hu with rfl | rfl <;> rfl) (by omega) (by unfold maxLen;omega) H.keep.size ?_;intro A1 c1 w1 H1;obtain ⟨pvlt,pv0,pvf0,pv1,pvf1⟩:=H1.c2 1 rfl;obtain ⟨nqlt,nq0,nqf0,nq1,nqf1⟩:=H1.c2 5 rfl;obtain ⟨ne_pv_nq,ne_nq_pv⟩:=H1.ne2 1 5 rfl rfl rfl)
    replace H:Mem (w) [] (w1) [.blk (w.heap.size) 329 #[.string (dstr []),.bool false],.blk (w.heap.size + 1) 329 #[.string (dstr D),.bool b],.obj (w.heap.size + 1 + 1) (.stringIter (s) (j + m)),.row (w.heap.size) (333) (2) (.slice A1 (n + 1) c1) (n + 1) (entsV es ++ [.string (dstr T),.int .i64 ↑cd]),.blk (g) 333 #[.string (dstr T),cd],.blk (wa.heap.size) 329 #[.string (dstr D'),.bool b']]:=H1
    clear H1
    replace H:=H.set 1 rfl 0 (.string (dstr D')) |>.set 1 rfl 1 (.bool b') |>.gen
    simp only [List.set_cons_zero,List.set_cons_succ,List.setIfInBounds_toArray] at H
    obtain ⟨wz,hwz,H⟩:=H
    rw [hwz]
    clear hwz
    go_roundw
    case rel =>
     have hk3:=hk2.out
     simp only [Option.toList] at hk3
     have hel2:(es ++ [(T,cd)]).length = n + 1:=by simp [HN.out]
     exact ⟨j + m,R2,D',b',es ++ [(T,cd)],A1,c1,HT2.out,hk3,HP2.out,by rw [hel2];have:=HM2.out;omega,by rw [hel2],by rw [hel2,← entsV_snoc];exact Mem.drop_ 4 (Mem.drop_ 4 H)⟩
    case measure =>
     have h9:=iterPos_of (H.obj_ 2 rfl)
     have h8:=iterPos_of HIT.out
     have h7:=HJ.out
     have h6:=HM2.out
     omega
end Go.Proofs.YtfgiehkfcoodbaaGreat
