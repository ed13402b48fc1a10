/- words.Bits, words.Put. -/
import Derived.Test.YtfgiehkfcoodbaaGreatM0
import Derived.Test.YtfgiehkfcoodbaaGreatM24
import Derived.Test.YtfgiehkfcoodbaaGreatM6
import Derived.Test.YtfgiehkfcoodbaaGreatM30
import Derived.Test.YtfgiehkfcoodbaaGreatM7
import Derived.Laws.BitsAllLaws
import Derived.Test.YtfgiehkfcoodbaaGreatM17
namespace Go.Proofs.YtfgiehkfcoodbaaGreat
open Go.RowKit
set_option linter.unusedVariables false
set_option maxRecDepth 100000
set_option maxHeartbeats 16000000
theorem and_bit32 {x t:Nat} (hx:x < 4294967296):bits .and .u32 ((x:Int) / 2 ^ t) 1 = (((x.testBit t).toNat:Nat):Int):=by
 have h:=u32_and_nat (x / 2 ^ t) 1 (Nat.lt_of_le_of_lt (Nat.div_le_self _ _) hx) (by omega)
 rw [Nat.and_one_is_mod,word_bit] at h
 rw [← h,Int.natCast_ediv,Int.natCast_pow];rfl
theorem or_low64 {V b:Nat} (hV:V < 9223372036854775808) (hb:b ≤ 1):bits .or .u64 ((V:Int) * 2) (b:Int) = ((2 * V + b:Nat):Int):=by
 have h:=u64_or_nat (V * 2) b (by omega) (by omega)
 have e:V * 2 ||| b = 2 * V + b:=by
  have:=Nat.shiftLeft_add_eq_or_of_lt (b:=b) (i:=1) (by omega) V
  rw [Nat.shiftLeft_eq] at this
  rw [← this];omega
 rw [e] at h
 rw [← h,Int.natCast_mul];rfl
def IsWide2 (n:Nat) (w:World) (e:Ending) (w':World):Prop :=
 ∃ y0 y1 y2:Nat,e = .returned (.tuple #[.agg #[.int .u32 y0,.int .u32 y1,.int .u32 y2],()]) ∧ y0 < 4294967296 ∧ y1 < 4294967296 ∧ y2 < 4294967296 ∧ val3 y0 y1 y2 = n ∧ Below w.heap.size w w'
theorem field_ok (lo m:Nat) (w:World) (h1:1 ≤ m) (h2:m ≤ 64) (h3:lo + m ≤ 96):Calls Tryz.prog 162 #[lo,m] w fun e w' => e = .returned (.bool true) ∧ w = w':=by
 go_enter Tryz.func162,Tryz.ntmps162
 go_wp2
 go_ret
 exact ⟨ret_true (by simp;omega),rfl⟩
theorem bits_ok (x0 x1 x2 lo m:Nat) (w:World) (a0:x0 < 4294967296) (a1:x1 < 4294967296) (a2:x2 < 4294967296) (h1:1 ≤ m) (h2:m ≤ 64) (h3:lo + m ≤ 96) :
 Calls Tryz.prog 188 #[.agg #[.int .u32 x0,.int .u32 x1,.int .u32 x2],lo,m] w fun e w' => e = .returned (.tuple #[.int .u64 (bitsN (val3 x0 x1 x2) lo m),()]) ∧ Below w.heap.size w w':=by
 obtain ⟨N,hN⟩:∃ N,val3 x0 x1 x2 = N:=⟨_,rfl⟩
 have hT:=fun i => testBit_val3 (x2:=x2) a0 a1 i
 rw [hN] at hT ⊢
 clear hN
 have hT0:∀ i,i < 32 → N.testBit i = x0.testBit i:=fun i h => by rw [hT,if_pos h]
 have hT1:∀ i,i < 32 → N.testBit (32 + i) = x1.testBit i:=fun i h => by rw [hT,if_neg (by omega),if_pos (by omega),show 32 + i - 32 = i by omega]
 have hT2:∀ i,i < 32 → N.testBit (64 + i) = x2.testBit i:=fun i h => by rw [hT,if_neg (by omega),if_neg (by omega),show 64 + i - 64 = i by omega]
 clear hT
 go_enter Tryz.func188,Tryz.ntmps188
 go_wp2_with fail
 refine (field_ok lo m _ h1 h2 h3).mono ?_
 rintro e w' ⟨rfl,rfl⟩
 go_wp2_with fail
 go_loop [8,9] (fun v i => ∃ (z:Int) (V:Nat),-1 ≤ z ∧ z < m ∧ v = .int .u64 V ∧ i = .int .i64 z ∧ Hid (V = bitsN N (lo + (z + 1).toNat) (m - (z + 1).toNat))) (fun _ i => (intOf i + 1).toNat)
 case atStart => exact ⟨_,0,by omega,by omega,rfl,rfl,by show _ = _;rw [show ((m:Int) - 1 + 1).toNat = m by omega,Nat.sub_self];unfold bitsN;simp [Nat.mod_one]⟩
 case round =>
  obtain ⟨z,V,hz1,hz2,rfl,rfl,HV⟩:=hrel
  by_cases hz:0 ≤ z
  ·obtain ⟨i,rfl⟩:∃ i:Nat,z = i:=⟨z.toNat,by omega⟩
   obtain ⟨a,ha⟩:∃ a:Nat,(lo:Int) + (i:Int) = (a:Int):=⟨lo + i,by omega⟩
   obtain ⟨t,ht⟩:∃ t:Nat,(a:Int) % 32 = (t:Int):=⟨a % 32,by omega⟩
   have ht32:t < 32:=by omega
   have hst:=bits_step N lo i m (by omega)
   rw [show lo + i = a by omega] at hst
   have HV2:V = bitsN N (lo + (i + 1)) (m - (i + 1)):=by rw [HV.out,show ((i:Int) + 1).toNat = i + 1 by omega]
   have hV:V < 9223372036854775808:=by
    have:=bitsN_lt N (lo + (i + 1)) (m - (i + 1))
    have h:=Nat.pow_le_pow_right (n:=2) (by omega) (show m - (i + 1) ≤ 63 by omega)
    rw [← HV2] at this;omega
   rw [← HV2] at hst
   clear HV2 HV
   have hbl:=Bool.toNat_le (N.testBit a)
   have HF:Hid (bitsN N a (m - i) = bitsN N (lo + ((i:Int) - 1 + 1).toNat) (m - ((i:Int) - 1 + 1).toNat)):=by show _ = _;rw [show ((i:Int) - 1 + 1).toNat = i by omega,show lo + i = a by omega]
   rcases (show a < 32 ∨ (32 ≤ a ∧ a < 64) ∨ (64 ≤ a ∧ a < 96) by omega) with g | g | g
   ·have hq:(a:Int) / 32 = 0:=by omega
    have hB:N.testBit a = x0.testBit t:=by rw [← hT0 t ht32];congr 1;omega
    have hA:=and_bit32 (x:=x0) (t:=t) a0
    rw [← hB] at hA
    generalize (N.testBit a).toNat = b at *
    have hb1:b ≤ 1:=hbl
    have hO:=or_low64 hV hb1
    rw [← hst] at hO
    generalize bitsN N a (m - i) = V2 at *
    clear hB hst
    go_wp2
    go_round
    case rel => exact ⟨(i:Int) - 1,V2,by omega,by omega,rfl,rfl,HF⟩
    case measure => (simp [intOf];try omega)
   ·have hq:(a:Int) / 32 = 1:=by omega
    have hB:N.testBit a = x1.testBit t:=by rw [← hT1 t ht32];congr 1;omega
    have hA:=and_bit32 (x:=x1) (t:=t) a1
    rw [← hB] at hA
    generalize (N.testBit a).toNat = b at *
    have hb1:b ≤ 1:=hbl
    have hO:=or_low64 hV hb1
    rw [← hst] at hO
    generalize bitsN N a (m - i) = V2 at *
    clear hB hst
    go_wp2
    go_round
    case rel => exact ⟨(i:Int) - 1,V2,by omega,by omega,rfl,rfl,HF⟩
    case measure => (simp [intOf];try omega)
   ·have hq:(a:Int) / 32 = 2:=by omega
    have hB:N.testBit a = x2.testBit t:=by rw [← hT2 t ht32];congr 1;omega
    have hA:=and_bit32 (x:=x2) (t:=t) a2
    rw [← hB] at hA
    generalize (N.testBit a).toNat = b at *
    have hb1:b ≤ 1:=hbl
    have hO:=or_low64 hV hb1
    rw [← hst] at hO
    generalize bitsN N a (m - i) = V2 at *
    clear hB hst
    go_wp2
    go_round
    case rel => exact ⟨(i:Int) - 1,V2,by omega,by omega,rfl,rfl,HF⟩
    case measure => (simp [intOf];try omega)
  ·have HF:Hid (V = bitsN N lo m):=by show _ = _;rw [HV.out,show (z + 1).toNat = 0 by omega];rfl
   go_wp2
   go_ret2
   exact ⟨by rw [← HF.out];rfl,below_a1 _ _⟩
theorem shl_one32 {t:Nat} (ht:t < 32):IntKind.u32.wrap (2 ^ t) = ((2 ^ t:Nat):Int):=by
 have h32:(2:Nat) ^ t < 2 ^ 32:=Nat.pow_lt_pow_right (by omega) ht
 rw [IntKind.wrap_u32,Int.natCast_pow]
 have:((2:Nat) ^ t:Int) < 4294967296:=by
  have:(((2:Nat) ^ t:Nat):Int) < 4294967296:=by omega
  rwa [Int.natCast_pow] at this
 exact Int.emod_eq_of_lt (by exact Int.le_of_lt (Int.pow_pos (by omega))) this
theorem put_ok (x0 x1 x2 lo m v:Nat) (w:World) (a0:x0 < 4294967296) (a1:x1 < 4294967296) (a2:x2 < 4294967296) (h1:1 ≤ m) (h2:m ≤ 64) (h3:lo + m ≤ 96) (hv:v < 2 ^ m) :
 Calls Tryz.prog 151 #[.agg #[.int .u32 x0,.int .u32 x1,.int .u32 x2],lo,m,.int .u64 v] w (IsWide2 (putN (val3 x0 x1 x2) lo m v) w):=by
 have hv64:v < 2 ^ 64:=Nat.lt_of_lt_of_le hv (Nat.pow_le_pow_right (by omega) h2)
 obtain ⟨l,hl⟩:∃ l,Lib.bitLen v = l:=⟨_,rfl⟩
 have hl2:l ≤ m:=by rw [← hl];exact (bl_le hv64).2 hv
 have hLen:∀ W:World,Calls Tryz.prog 102 #[.int .u64 (v:Int)] W fun e w' => e = .returned (.int .i64 ↑l) ∧ W = w':=fun W => by
  refine (Tryz.bits_Len64 (v:Int) W (by omega) (by omega)).mono ?_
  rintro e w' ⟨rfl,rfl⟩
  rw [Int.toNat_natCast,hl]
  exact ⟨rfl,rfl⟩
 clear hl
 go_enter Tryz.func151,Tryz.ntmps151
 go_wp2_with fail
 refine (field_ok lo m _ h1 h2 h3).mono ?_
 rintro e w' ⟨rfl,rfl⟩
 go_wp2_with fail
 refine (hLen _).mono ?_
 rintro e w' ⟨rfl,rfl⟩
 go_wp2_with fail
 go_loopw [25] (fun u wr => ∃ (i y0 y1 y2:Nat),i ≤ m ∧ u = .int .i64 i ∧ y0 < 4294967296 ∧ y1 < 4294967296 ∧ y2 < 4294967296 ∧ Hid (val3 y0 y1 y2 = putN (val3 x0 x1 x2) lo i (v % 2 ^ i)) ∧ Blk wr w.heap.size 288 #[.int .u32 y0,.int .u32 y1,.int .u32 y2] ∧ Blk wr (w.heap.size + 1) 288 #[.int .u32 0,.int .u32 0,.int .u32 0] ∧ Below w.heap.size w wr) (fun u _ => m - (intOf u).toNat)
 case atStart => exact ⟨0,x0,x1,x2,by omega,rfl,a0,a1,a2,by show _ = _;rw [Nat.pow_zero,Nat.mod_one,putN_zero],(Blk.new _ _ _).alloc _,heap_alloc2 _ _ _,below_a2 _ _ _⟩
 case round =>
  obtain ⟨i,y0,y1,y2,hi,rfl,b0,b1,b2,HV,hblk,hzero,hb⟩:=hrel
  have hglt:=hblk.lt
  have hzlt:=hzero.lt
  have r0:wr.cell? ⟨w.heap.size,0,none⟩ = some (.int .u32 y0):=hblk.cell 0
  have rf0:wr.frozen? ⟨w.heap.size,0,none⟩ = false:=hblk.frozen 0
  have r1:wr.cell? ⟨w.heap.size,1,none⟩ = some (.int .u32 y1):=hblk.cell 1
  have rf1:wr.frozen? ⟨w.heap.size,1,none⟩ = false:=hblk.frozen 1
  have r2:wr.cell? ⟨w.heap.size,2,none⟩ = some (.int .u32 y2):=hblk.cell 2
  have rf2:wr.frozen? ⟨w.heap.size,2,none⟩ = false:=hblk.frozen 2
  have s0:wr.cell? ⟨w.heap.size + 1,0,none⟩ = some (.int .u32 0):=hzero.cell 0
  have sf0:wr.frozen? ⟨w.heap.size + 1,0,none⟩ = false:=hzero.frozen 0
  have s1:wr.cell? ⟨w.heap.size + 1,1,none⟩ = some (.int .u32 0):=hzero.cell 1
  have sf1:wr.frozen? ⟨w.heap.size + 1,1,none⟩ = false:=hzero.frozen 1
  have s2:wr.cell? ⟨w.heap.size + 1,2,none⟩ = some (.int .u32 0):=hzero.cell 2
  have sf2:wr.frozen? ⟨w.heap.size + 1,2,none⟩ = false:=hzero.frozen 2
  by_cases him:i < m
  ·obtain ⟨a,ha⟩:∃ a:Nat,(lo:Int) + (i:Int) = (a:Int):=⟨lo + i,by omega⟩
   obtain ⟨t,ht⟩:∃ t:Nat,(a:Int) % 32 = (t:Int):=⟨a % 32,by omega⟩
   have ht32:t < 32:=by omega
   obtain ⟨P,hP⟩:∃ P:Nat,2 ^ t = P:=⟨_,rfl⟩
   have hP2:=Lib.hid hP
   have hPw:=shl_one32 ht32
   rw [hP] at hPw
   have hP32:P < 4294967296:=by rw [← hP];exact (show 2 ^ t < 2 ^ 32 from Nat.pow_lt_pow_right (by omega) ht32)
   clear hP
   rcases (show a < 32 ∨ (32 ≤ a ∧ a < 64) ∨ (64 ≤ a ∧ a < 96) by omega) with g | g | g
   ·have hq:(a:Int) / 32 = 0:=by omega
    have hAN:=u32_andNot_nat y0 P b0 hP32
    obtain ⟨Z,hZ⟩:∃ Z:Nat,y0 &&& (4294967295 - P) = Z:=⟨_,rfl⟩
    rw [hZ] at hAN
    have hZ32:Z < 4294967296:=by rw [← hZ];exact Nat.lt_of_le_of_lt Nat.and_le_left b0
    have hsl:=setB_lt b0 ht32 (v.testBit i)
    have hval:=put_word0 b0 b1 HV.out (show lo + i = t by omega) ht32
    cases hbv:v.testBit i
    ·have hT:=shr_bit hv64 hbv
     simp only [Bool.false_eq_true,if_false] at hT
     have hs:setB y0 t false = Z:=by unfold setB;rw [hP2.out,hZ];rfl
     rw [hbv,hs] at hsl hval
     have HVal:=Lib.hid hval
     have hblk2:=hblk.set_ 0 (.int .u32 Z)
     have hz2:=hzero.far (p:=⟨w.heap.size,0,none⟩) (by show _ ≠ _;dsimp only;omega) (.int .u32 Z)
     have hb2:=hb.setCell (p:=⟨w.heap.size,0,none⟩) (Nat.le_refl _) (.int .u32 Z)
     clear hZ hbv hs hval
     go_wp2
     go_roundw
     case rel => exact ⟨i + 1,Z,y1,y2,by omega,by go_num,hsl,b1,b2,HVal,hblk2,hz2,hb2⟩
     case measure => (simp [intOf];try omega)
    ·have hT:=shr_bit hv64 hbv
     simp only [if_true] at hT
     have hO:=u32_or_nat Z P hZ32 hP32
     obtain ⟨O,hOO⟩:∃ O:Nat,Z ||| P = O:=⟨_,rfl⟩
     rw [hOO] at hO
     have hs:setB y0 t true = O:=by unfold setB;rw [hP2.out,hZ,hOO];rfl
     rw [hbv,hs] at hsl hval
     have HVal:=Lib.hid hval
     have hblk2:=(hblk.set_ 0 (.int .u32 Z)).set_ 0 (.int .u32 O)
     have hz2:=(hzero.far (p:=⟨w.heap.size,0,none⟩) (by show _ ≠ _;dsimp only;omega) (.int .u32 Z)).far (p:=⟨w.heap.size,0,none⟩) (by show _ ≠ _;dsimp only;omega) (.int .u32 O)
     have hb2:=(hb.setCell (p:=⟨w.heap.size,0,none⟩) (Nat.le_refl _) (.int .u32 Z)).setCell (p:=⟨w.heap.size,0,none⟩) (Nat.le_refl _) (.int .u32 O)
     clear hZ hbv hs hval hOO
     go_wp2
     go_roundw
     case rel => exact ⟨i + 1,O,y1,y2,by omega,by go_num,hsl,b1,b2,HVal,hblk2,hz2,hb2⟩
     case measure => (simp [intOf];try omega)
   ·have hq:(a:Int) / 32 = 1:=by omega
    have hAN:=u32_andNot_nat y1 P b1 hP32
    obtain ⟨Z,hZ⟩:∃ Z:Nat,y1 &&& (4294967295 - P) = Z:=⟨_,rfl⟩
    rw [hZ] at hAN
    have hZ32:Z < 4294967296:=by rw [← hZ];exact Nat.lt_of_le_of_lt Nat.and_le_left b1
    have hsl:=setB_lt b1 ht32 (v.testBit i)
    have hval:=put_word1 b0 b1 HV.out (show lo + i = 32 + t by omega) ht32
    cases hbv:v.testBit i
    ·have hT:=shr_bit hv64 hbv
     simp only [Bool.false_eq_true,if_false] at hT
     have hs:setB y1 t false = Z:=by unfold setB;rw [hP2.out,hZ];rfl
     rw [hbv,hs] at hsl hval
     have HVal:=Lib.hid hval
     have hblk2:=hblk.set_ 1 (.int .u32 Z)
     have hz2:=hzero.far (p:=⟨w.heap.size,1,none⟩) (by show _ ≠ _;dsimp only;omega) (.int .u32 Z)
     have hb2:=hb.setCell (p:=⟨w.heap.size,1,none⟩) (Nat.le_refl _) (.int .u32 Z)
     clear hZ hbv hs hval
     go_wp2
     go_roundw
     case rel => exact ⟨i + 1,y0,Z,y2,by omega,by go_num,b0,hsl,b2,HVal,hblk2,hz2,hb2⟩
     case measure => (simp [intOf];try omega)
    ·have hT:=shr_bit hv64 hbv
     simp only [if_true] at hT
     have hO:=u32_or_nat Z P hZ32 hP32
     obtain ⟨O,hOO⟩:∃ O:Nat,Z ||| P = O:=⟨_,rfl⟩
     rw [hOO] at hO
     have hs:setB y1 t true = O:=by unfold setB;rw [hP2.out,hZ,hOO];rfl
     rw [hbv,hs] at hsl hval
     have HVal:=Lib.hid hval
     have hblk2:=(hblk.set_ 1 (.int .u32 Z)).set_ 1 (.int .u32 O)
     have hz2:=(hzero.far (p:=⟨w.heap.size,1,none⟩) (by show _ ≠ _;dsimp only;omega) (.int .u32 Z)).far (p:=⟨w.heap.size,1,none⟩) (by show _ ≠ _;dsimp only;omega) (.int .u32 O)
     have hb2:=(hb.setCell (p:=⟨w.heap.size,1,none⟩) (Nat.le_refl _) (.int .u32 Z)).setCell (p:=⟨w.heap.size,1,none⟩) (Nat.le_refl _) (.int .u32 O)
     clear hZ hbv hs hval hOO
     go_wp2
     go_roundw
     case rel => exact ⟨i + 1,y0,O,y2,by omega,by go_num,b0,hsl,b2,HVal,hblk2,hz2,hb2⟩
     case measure => (simp [intOf];try omega)
   ·have hq:(a:Int) / 32 = 2:=by omega
    have hAN:=u32_andNot_nat y2 P b2 hP32
    obtain ⟨Z,hZ⟩:∃ Z:Nat,y2 &&& (4294967295 - P) = Z:=⟨_,rfl⟩
    rw [hZ] at hAN
    have hZ32:Z < 4294967296:=by rw [← hZ];exact Nat.lt_of_le_of_lt Nat.and_le_left b2
    have hsl:=setB_lt b2 ht32 (v.testBit i)
    have hval:=put_word2 b0 b1 b2 HV.out (show lo + i = 64 + t by omega) ht32
    cases hbv:v.testBit i
    ·have hT:=shr_bit hv64 hbv
     simp only [Bool.false_eq_true,if_false] at hT
     have hs:setB y2 t false = Z:=by unfold setB;rw [hP2.out,hZ];rfl
     rw [hbv,hs] at hsl hval
     have HVal:=Lib.hid hval
     have hblk2:=hblk.set_ 2 (.int .u32 Z)
     have hz2:=hzero.far (p:=⟨w.heap.size,2,none⟩) (by show _ ≠ _;dsimp only;omega) (.int .u32 Z)
     have hb2:=hb.setCell (p:=⟨w.heap.size,2,none⟩) (Nat.le_refl _) (.int .u32 Z)
     clear hZ hbv hs hval
     go_wp2
     go_roundw
     case rel => exact ⟨i + 1,y0,y1,Z,by omega,by go_num,b0,b1,hsl,HVal,hblk2,hz2,hb2⟩
     case measure => (simp [intOf];try omega)
    ·have hT:=shr_bit hv64 hbv
     simp only [if_true] at hT
     have hO:=u32_or_nat Z P hZ32 hP32
     obtain ⟨O,hOO⟩:∃ O:Nat,Z ||| P = O:=⟨_,rfl⟩
     rw [hOO] at hO
     have hs:setB y2 t true = O:=by unfold setB;rw [hP2.out,hZ,hOO];rfl
     rw [hbv,hs] at hsl hval
     have HVal:=Lib.hid hval
     have hblk2:=(hblk.set_ 2 (.int .u32 Z)).set_ 2 (.int .u32 O)
     have hz2:=(hzero.far (p:=⟨w.heap.size,2,none⟩) (by show _ ≠ _;dsimp only;omega) (.int .u32 Z)).far (p:=⟨w.heap.size,2,none⟩) (by show _ ≠ _;dsimp only;omega) (.int .u32 O)
     have hb2:=(hb.setCell (p:=⟨w.heap.size,2,none⟩) (Nat.le_refl _) (.int .u32 Z)).setCell (p:=⟨w.heap.size,2,none⟩) (Nat.le_refl _) (.int .u32 O)
     clear hZ hbv hs hval hOO
     go_wp2
     go_roundw
     case rel => exact ⟨i + 1,y0,y1,O,by omega,by go_num,b0,b1,hsl,HVal,hblk2,hz2,hb2⟩
     case measure => (simp [intOf];try omega)
  ·obtain rfl:i = m:=by omega
   have HF:Hid (val3 y0 y1 y2 = putN (val3 x0 x1 x2) lo i v):=by show _ = _;rw [HV.out,Nat.mod_eq_of_lt hv]
   go_wp2
   refine bodyPost_ret (v:=.tuple #[.agg #[.int .u32 y0,.int .u32 y1,.int .u32 y2],()]) (by simp [results,Tryz.results151,go_sem,s0,s1,s2];done) rfl ?_
   refine ⟨y0,y1,y2,rfl,b0,b1,b2,HF.out,?_⟩
   repeat (first | with_reducible exact hb | with_reducible refine Below.drew ?_ | (with_reducible refine Below.setCell ?_ ?bd _;case bd => (show _ ≤ _;dsimp only;omega)))
theorem andnot_top {b t:Nat} (hb:b < 2 ^ 64) (ht:t < 64) (h1:2 ^ t ≤ b) (h2:b < 2 ^ (t + 1)):bits .andNot .u64 (b:Int) (IntKind.u64.wrap (2 ^ t)) = ((b - 2 ^ t:Nat):Int):=by
 have h64:(2:Nat) ^ t < 2 ^ 64:=Nat.pow_lt_pow_right (by omega) ht
 have e:IntKind.u64.wrap (2 ^ t) = ((2 ^ t:Nat):Int):=by
  rw [IntKind.wrap_u64,Int.natCast_pow]
  have:((2:Nat) ^ t:Int) < 18446744073709551616:=by
   have:(((2:Nat) ^ t:Nat):Int) < 18446744073709551616:=by omega
   rwa [Int.natCast_pow] at this
  exact Int.emod_eq_of_lt (by exact Int.le_of_lt (Int.pow_pos (by omega))) this
 rw [e,u64_andNot_nat b _ (by omega) (by omega)]
 congr 1
 have hlt:b - 2 ^ t < 2 ^ t:=by rw [Nat.pow_succ] at h2;omega
 refine Nat.eq_of_testBit_eq fun i => ?_
 rw [Nat.testBit_and,show 18446744073709551615 - 2 ^ t = 2 ^ 64 - (2 ^ t + 1) by omega,Nat.testBit_two_pow_sub_succ h64,Nat.testBit_two_pow]
 have e:b = 2 ^ t + (b - 2 ^ t):=by omega
 rcases Nat.lt_trichotomy i t with h | h | h
 ·have:b.testBit i = (b - 2 ^ t).testBit i:=by
   conv => lhs;rw [e]
   exact Nat.testBit_two_pow_add_gt h _
  rw [this];simp;intro _;omega
 ·subst h
  rw [Nat.testBit_lt_two_pow hlt];simp
 ·rw [Nat.testBit_lt_two_pow (Nat.lt_of_lt_of_le h2 (Nat.pow_le_pow_right (by omega) h)),Nat.testBit_lt_two_pow (Nat.lt_of_lt_of_le hlt (Nat.pow_le_pow_right (by omega) (by omega)))]
  simp
def RetNs (l:List Nat) (w:World) (e:Ending) (w':World):Prop:=∃ (A:Option Addr) (c:Nat),e = .returned (.tuple #[.slice A l.length c,()]) ∧ IsNs w' (.slice A l.length c) l ∧ Below w.heap.size w w'
theorem used_ok (H B:Nat) (w:World) (hm:WMay H B) :
 Calls Tryz.prog 96 #[.agg #[H,.int .u64 B]] w (RetNs (lowIds H B 64) w):=by
 have hB:=hm.lt
 have hH:=hm.le
 have hHB:=hm.high
 have hM:=Lib.hid (wmayB_of hm)
 have hW:(Lit.int .i64 ↑H).wf = true:=WalkArith.wf_i64 (by omega)
 have hlen:=low_len H B 64
 go_enter Tryz.func96,Tryz.ntmps96
 go_wp2_with fail
 refine (may_is hM _ hW hB).mono ?_
 rintro e wa ⟨rfl,hb⟩
 have hs:=hb.size
 simp at hs
 have n1:w.heap.size < wa.heap.size:=by omega
 have hblk:=(Blk.new w 79 #[H,.int .u64 B]).below hb (by simp)
 have bb:=(below_a1 _ _).step hb
 have r0:wa.cell? ⟨w.heap.size,0,none⟩ = some (.int .i64 H):=hblk.cell 0
 have rf0:wa.frozen? ⟨w.heap.size,0,none⟩ = false:=hblk.frozen 0
 have r1:wa.cell? ⟨w.heap.size,1,none⟩ = some (.int .u64 B):=hblk.cell 1
 have rf1:wa.frozen? ⟨w.heap.size,1,none⟩ = false:=hblk.frozen 1
 clear hb
 go_wp2
 go_loopw [4,5] (fun v u wr => ∃ (m b:Nat) (L:List Nat) (A':Option Addr) (c':Nat),b ≤ B ∧ Hid (L.length = m) ∧ Hid (L ++ lowIds H b 64 = lowIds H B 64) ∧ v = .slice A' m c' ∧ u = .int .u64 b ∧ wr.ownsRow (w.heap.size + 1) 3 1 (.slice A' m c') m (nis L) ∧ Blk wr w.heap.size 79 #[H,.int .u64 B] ∧ Below w.heap.size w wr) (fun _ u _ => (intOf u).toNat)
 case atStart => exact ⟨0,B,[],none,0,Nat.le_refl _,rfl,rfl,rfl,rfl,World.ownsRow_nil _ _ _ _,hblk,bb⟩
 case round =>
  obtain ⟨m,b,L,A',c',hbB,HL,HE,rfl,rfl,hown,hblk,hb⟩:=hrel
  have hglt:=hblk.lt
  have hml:m + (lowIds H b 64).length ≤ 64:=by
   have h:=congrArg List.length HE.out
   rw [List.length_append,HL.out] at h
   omega
  clear r0 rf0 r1 rf1 bb
  have r0:wr.cell? ⟨w.heap.size,0,none⟩ = some (.int .i64 H):=hblk.cell 0
  have rf0:wr.frozen? ⟨w.heap.size,0,none⟩ = false:=hblk.frozen 0
  have r1:wr.cell? ⟨w.heap.size,1,none⟩ = some (.int .u64 B):=hblk.cell 1
  have rf1:wr.frozen? ⟨w.heap.size,1,none⟩ = false:=hblk.frozen 1
  by_cases h0:b = 0
  ·have e1:((b:Int) != 0) = false:=by simp;omega
   have HF:Hid (L = lowIds H B 64):=by
    have h:=HE.out
    rw [h0,low_zero,List.append_nil] at h
    exact h
   clear hml
   go_wp2
   go_ret2
   rw [← HF.out]
   exact ⟨A',c',by rw [HL.out];rfl,by rw [HL.out];exact isns_own HL.out hown,hb⟩
  ·have e1:((b:Int) != 0) = true:=by simp;omega
   obtain ⟨g1,g2⟩:=bl_spec b (by omega)
   obtain ⟨g3,g4⟩:=g2 h0
   have g5:=bl_64 (x:=b) (by omega)
   obtain ⟨t,ht⟩:∃ t,Lib.bitLen b = t + 1:=⟨Lib.bitLen b - 1,by omega⟩
   rw [ht] at g1 g4 g5
   simp only [Nat.add_sub_cancel] at g4
   have htH:t < H:=by
    rcases Nat.lt_or_ge t H with h | h
    ·exact h
    ·have:=Nat.pow_le_pow_right (n:=2) (by omega) h
     omega
   have hAN:=andnot_top (by omega) (by omega) g4 g1
   have hst:=low_step H b t g4 g1 (by omega)
   obtain ⟨b2,hb2⟩:∃ b2,b - 2 ^ t = b2:=⟨_,rfl⟩
   have hlt2:b2 < b:=by have:=Nat.two_pow_pos t;omega
   rw [hb2] at hAN hst
   obtain ⟨d,hd⟩:∃ d:Nat,(H:Int) - (t:Int) = (d:Int):=⟨H - t,by omega⟩
   have hd2:H - t = d:=by omega
   rw [hd2] at hst
   have hml2:m + 1 ≤ 64:=by rw [hst] at hml;simp at hml;omega
   have HST:=Lib.hid hst
   have hLen:∀ W:World,Calls Tryz.prog 102 #[.int .u64 (b:Int)] W fun e w' => e = .returned (.int .i64 ((t:Int) + 1)) ∧ W = w':=fun W => by
    refine (Tryz.bits_Len64 (b:Int) W (by omega) (by omega)).mono ?_
    rintro e w' ⟨rfl,rfl⟩
    rw [Int.toNat_natCast,ht]
    exact ⟨rfl,rfl⟩
   have ht64:t < 64:=by omega
   clear hst hml ht g1 g2 g4 hb2 hd2 g3 g5
   go_wp2_with fail
   refine (hLen _).mono ?_
   rintro e w' ⟨rfl,rfl⟩
   go_wp2_with (at_builtin;refine wpList_push el_int rfl (.tmp 17) (.tmp 22) rfl wr (w.heap.size + 1) _ m _ [.int .i64 d] rfl hown rfl rfl (fun u hu => by simp at hu;subst hu;rfl) (by omega) (by unfold maxLen;omega) (by omega) ?_;intro A1 c1 w1 hown' hb' _)
   go_roundw
   case rel => exact ⟨m + 1,b2,L ++ [d],A1,c1,by omega,by show _ = _;rw [List.length_append,HL.out];rfl,by show _ = _;rw [List.append_assoc];have:=HE.out;rw [HST.out] at this;exact this,rfl,rfl,by rw [nis_append];exact hown',hblk.below hb' (by omega),hb.trans (hb'.mono (by omega))⟩
   case measure => simp [intOf];omega
theorem used_bad (h:Int) (B:Nat) (w:World) (hw:(Lit.int .i64 h).wf = true) (hB:B < 2 ^ 64) (hm:wmayB h B = false) :
 Calls Tryz.prog 96 #[.agg #[h,.int .u64 B]] w fun e w' => e = .returned (.tuple #[.slice none 0 0,.int .i64 5]) ∧ Below w.heap.size w w':=by
 have hM:=Lib.hid hm
 clear hm
 go_enter Tryz.func96,Tryz.ntmps96
 go_wp2_with fail
 refine (may_is hM _ hw hB).mono ?_
 rintro e wa ⟨rfl,hb⟩
 go_wp2
 go_ret2
 exact ⟨rfl,(below_a1 _ _).step hb⟩
def may1 (me rev cr:Int):Prop:=0 ≤ me ∧ me < 50 ∧ 0 ≤ rev ∧ rev ≤ 15 ∧ 0 ≤ cr ∧ cr ≤ 99999999
def may2 (bad lock:Int):Prop:=0 ≤ bad ∧ bad < 5 ∧ 0 ≤ lock ∧ lock ≤ 30 ∧ ¬ (0 < bad ∧ 0 < lock)
instance (me rev cr:Int):Decidable (may1 me rev cr):=by unfold may1;infer_instance
instance (bad lock:Int):Decidable (may2 bad lock):=by unfold may2;infer_instance
def mmay (me rev cr h:Int) (b:Nat) (bad lock:Int):Bool:=if may1 me rev cr then if may2 bad lock then wmayB h b else false else false
theorem mmay_any (me rev cr h:Int) (b:Nat) (bad lock:Int) (w:World) (w4:(Lit.int .i64 h).wf = true) (hb:b < 2 ^ 64) (w5:(Lit.int .i64 bad).wf = true) (w6:(Lit.int .i64 lock).wf = true) :
 Calls Tryz.prog 86 #[.agg #[me,rev,cr,h,.int .u64 b,bad,lock]] w fun e w' => e = .returned (.bool (mmay me rev cr h b bad lock)) ∧ Below w.heap.size w w':=by
 by_cases g1:may1 me rev cr
 ·by_cases g2:may2 bad lock
  ·have HV:=Lib.hid (show mmay me rev cr h b bad lock = wmayB h b by unfold mmay;rw [if_pos g1,if_pos g2])
   obtain ⟨a1,a2,a3,a4,a5,a6⟩:=g1
   obtain ⟨b1,b2,b3,b4,b5⟩:=g2
   have hc:(bad = 0) ∨ (0 < bad ∧ lock = 0):=by omega
   cases hv:wmayB h b
   ·have hU:=fun W => used_bad h b W w4 hb hv
    rcases hc with rfl | ⟨c1,rfl⟩
    all_goals
     go_enter Tryz.func86,Tryz.ntmps86
     go_wp2_with fail
     refine (hU _).mono ?_
     rintro e wa ⟨rfl,hba⟩
     go_wp2
     go_ret
     exact ⟨by rw [HV.out,hv];rfl,(below_a1 _ _).step hba⟩
   ·obtain ⟨H,rfl,hW⟩:=(wmayB_iff hb).1 hv
    have hU:=fun W => used_ok H b W hW
    rcases hc with rfl | ⟨c1,rfl⟩
    all_goals
     go_enter Tryz.func86,Tryz.ntmps86
     go_wp2_with fail
     refine (hU _).mono ?_
     rintro e wa ⟨A1,c1,rfl,_,hba⟩
     go_wp2
     go_ret
     exact ⟨by rw [HV.out,hv];rfl,(below_a1 _ _).step hba⟩
  ·have HV:=Lib.hid (show mmay me rev cr h b bad lock = false by unfold mmay;rw [if_pos g1,if_neg g2])
   obtain ⟨a1,a2,a3,a4,a5,a6⟩:=g1
   have hx:bad < 0 ∨ 5 ≤ bad ∨ (0 ≤ bad ∧ bad < 5 ∧ (lock < 0 ∨ 30 < lock ∨ (0 < bad ∧ 0 < lock ∧ lock ≤ 30))):=by unfold may2 at g2;omega
   clear g2
   rcases hx with g | g | ⟨k1,k2,g | g | ⟨k3,k4,k5⟩⟩
   all_goals
    go_enter Tryz.func86,Tryz.ntmps86
    go_wp2
    go_ret
    exact ⟨by rw [HV.out];rfl,below_a1 _ _⟩
 ·have HV:=Lib.hid (show mmay me rev cr h b bad lock = false by unfold mmay;rw [if_neg g1])
  have hx:me < 0 ∨ 50 ≤ me ∨ (0 ≤ me ∧ me < 50 ∧ (rev < 0 ∨ 15 < rev ∨ (0 ≤ rev ∧ rev ≤ 15 ∧ (cr < 0 ∨ 99999999 < cr)))):=by unfold may1 at g1;omega
  clear g1
  rcases hx with g | g | ⟨k1,k2,g | g | ⟨k3,k4,g | g⟩⟩
  all_goals
   go_enter Tryz.func86,Tryz.ntmps86
   go_wp2
   go_ret
   exact ⟨by rw [HV.out];rfl,below_a1 _ _⟩
theorem mmay_is {me rev cr h:Int} {b:Nat} {bad lock:Int} {v:Bool} (hv:Hid (mmay me rev cr h b bad lock = v)) (w:World) (w4:(Lit.int .i64 h).wf = true) (hb:b < 2 ^ 64) (w5:(Lit.int .i64 bad).wf = true) (w6:(Lit.int .i64 lock).wf = true) :
 Calls Tryz.prog 86 #[.agg #[me,rev,cr,h,.int .u64 b,bad,lock]] w fun e w' => e = .returned (.bool v) ∧ Below w.heap.size w w':=by
 rw [← hv.out];exact mmay_any me rev cr h b bad lock w w4 hb w5 w6
end Go.Proofs.YtfgiehkfcoodbaaGreat
