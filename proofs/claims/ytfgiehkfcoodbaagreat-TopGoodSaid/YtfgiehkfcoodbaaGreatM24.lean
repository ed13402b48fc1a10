/- Where a meter's customer stands: a map of integers. -/
import Derived.Test.YtfgiehkfcoodbaaGreatM0
import Derived.Test.YtfgiehkfcoodbaaGreatM19
import Derived.Test.YtfgiehkfcoodbaaGreatM7
import Derived.Maps.OwnSet
import Derived.Maps.OwnOps
import Derived.Maps.Views
import Derived.ChangeKeys
import Derived.Laws.Bits64b
import Derived.WalkKit
import Derived.Lib.Hide
import Derived.IntWalk
import Derived.Test.YtfgiehkfcoodbaaGreatM23
import Derived.Laws.BitsAllLaws
import Derived.Lib.OthersKept
import Derived.Lib.Strings
import Derived.Test.YtfgiehkfcoodbaaGreatM9
import Derived.Test.YtfgiehkfcoodbaaGreatShelf
import Derived.Sort.OwnSorted
import Derived.Lib.Join
import Derived.DeepKeys4
namespace Go.Proofs.YtfgiehkfcoodbaaGreat
open Go.RowKit Go.Maps Go.ChangeShapes Go.WideShapes
set_option linter.unusedVariables false
set_option maxRecDepth 100000
set_option maxHeartbeats 16000000
def PlIs (D:DataW Unit) (B:List Cu):Prop :=
 IsMap D ∧ ∀ me:Nat,me ≤ 49 → has D (.int .i64 ↑me) = (place B me).isSome ∧ D.atKey (.int .i64 ↑me) (.lit (.int .i64 0)) = .lit (.int .i64 (((place B me).getD 0:Nat):Int))
theorem pl_lit (n:Int):WideAt.IsKeyLit (.int .i64 n):=trivial
theorem plIs_nil:PlIs (.map []) []:=⟨isMap_empty,fun _ _ => ⟨rfl,rfl⟩⟩
theorem place_snoc (B:List Cu) (c:Cu) (me:Nat):place (B ++ [c]) me = (place B me).or (if c.a.me = me then some B.length else none):=by
 unfold place
 rw [List.findIdx?_append]
 congr 1
 simp only [List.findIdx?_singleton]
 by_cases h:c.a.me = me
 ·simp [h]
 ·simp [h]
theorem plIs_put {D:DataW Unit} {B:List Cu} {c:Cu} (h:PlIs D B) (hc:c.a.me ≤ 49) (hn:place B c.a.me = none):PlIs (D.put (.int .i64 ↑c.a.me) (.lit (.int .i64 ↑B.length))) (B ++ [c]):=by
 obtain ⟨h1,h2⟩:=h
 refine ⟨h1.put _ _,fun me hm => ?_⟩
 rw [place_snoc]
 by_cases e:c.a.me = me
 ·subst e
  rw [if_pos rfl,hn]
  exact ⟨has_put_same h1 (pl_lit _) _,atKey_put_same h1 (pl_lit _) _ _⟩
 ·have hne:(Lit.int .i64 ↑me) ≠ .int .i64 ↑c.a.me:=fun h => by injection h with _ h;omega
  rw [if_neg e,has_put_other hne,atKey_put_other hne,Option.or_none]
  exact h2 me hm
theorem lit_inj {a b:Int} (h:(DataW.lit (.int .i64 a):DataW Unit) = .lit (.int .i64 b)):a = b:=by
 cases h;rfl
theorem zeroI (w:World):(zeroValue 3).run Tryz.prog w = .ok (.int .i64 0) w:=by kernel_rfl
theorem int_key:Keyed Tryz.prog 3:=int_keyed Tryz.underlying3
def MapF (es:Array MapEntry) (clock n:Nat) (D:DataW Unit):Prop:=∀ (w:World) (b:Nat),w.heap[b]? = some (.map es clock) → w.ownsMap Tryz.prog 3 (plainElem Tryz.prog 3) b n D
theorem mapF_of {w:World} {b n:Nat} {D:DataW Unit} (h:w.ownsMap Tryz.prog 3 (plainElem Tryz.prog 3) b n D):∃ es clock,w.heap[b]? = some (.map es clock) ∧ MapF es clock n D:=by
 obtain ⟨es,clock,h1,h2⟩:=h
 exact ⟨es,clock,h1,fun w b h => ⟨es,clock,h,h2⟩⟩
theorem place_look {es:Array MapEntry} {clock n:Nat} {D:DataW Unit} {B:List Cu} (hF:MapF es clock n D) (hP:PlIs D B) {me:Nat} (hm:me ≤ 49) (w:World) (b:Nat) (hb:w.heap[b]? = some (.map es clock)) :
 (Instr.lookup 187 (.map (some b)) (.int .i64 ↑me) true).run Tryz.prog w = .ok (.tuple #[.int .i64 (((place B me).getD 0:Nat):Int),.bool (place B me).isSome]) w:=by
 have ho:=hF w b hb
 have hw:(Lit.int .i64 ↑me).wf = true:=WalkArith.wf_i64 (by omega)
 obtain ⟨v,ps,hrun,hv⟩:=ho.look_ok int_key Tryz.underlying187 (z:=.int .i64 0) (zeroI w) (plainElem_int Tryz.underlying3 (by decide)) (keyOf_int_mk Tryz.underlying3 hw)
 obtain ⟨c,rfl,hc,_⟩:=plainElem_int_inv Tryz.underlying3 hv
 obtain ⟨h1,h2⟩:=hP.2 me hm
 rw [hrun,h1]
 have hc1:=congrArg Prod.fst hc
 dsimp only at hc1
 rw [h2] at hc1
 rw [lit_inj hc1]
theorem place_put {es:Array MapEntry} {clock n:Nat} {D:DataW Unit} {B:List Cu} {c:Cu} (hF:MapF es clock n D) (hP:PlIs D B) (hm:c.a.me ≤ 49) (hn:place B c.a.me = none) (hl:B.length ≤ 1000) (hn2:n < maxLen) (w:World) (b:Nat) (hb:w.heap[b]? = some (.map es clock)) :
 ∃ w' es' clock' D',(Instr.mapUpdate 187 (.map (some b)) (.int .i64 ↑c.a.me) (.int .i64 ↑B.length)).run Tryz.prog w = .ok () w' ∧ w'.heap[b]? = some (.map es' clock') ∧ MapF es' clock' (n + 1) D' ∧ PlIs D' (B ++ [c]) ∧ w.grownBy w' (some b):=by
 have ho:=hF w b hb
 have hw:(Lit.int .i64 ↑c.a.me).wf = true:=WalkArith.wf_i64 (by omega)
 have hw2:(Lit.int .i64 ↑B.length).wf = true:=WalkArith.wf_i64 (by omega)
 obtain ⟨w',hrun,ho',hg⟩:=ho.update int_key Tryz.underlying187 hn2 (keyOf_int_mk Tryz.underlying3 hw) (plainElem_int Tryz.underlying3 hw2)
 obtain ⟨es',clock',hb',hF'⟩:=mapF_of ho'
 exact ⟨w',es',clock',_,hrun,hb',hF',plIs_put hP hm hn,hg⟩
end Go.Proofs.YtfgiehkfcoodbaaGreat
namespace Go.Proofs.YtfgiehkfcoodbaaGreat
open Go.RowKit
set_option linter.unusedVariables false
set_option maxRecDepth 100000
set_option maxHeartbeats 16000000
def cb (cls:Int):Int × Int × Bool:=if cls = 0 then (1,2097151,true) else if cls = 2 then (1,15,true) else if cls = 1 ∨ cls = 3 then (0,0,true) else (0,0,false)
def tfault (cls id am tag:Int):Int :=
 if (cb cls).2.2 = false then 9 else if id < 1 ∨ 1048575 < id ∨ am < (cb cls).1 ∨ (cb cls).2.1 < am ∨ tag < 0 ∨ 65535 < tag then 2 else 0
structure TkOk (cls id am tag:Nat):Prop where
 h1:cls ≤ 3
 h2:1 ≤ id
 h3:id ≤ 1048575
 h4:(cls = 0 ∧ 1 ≤ am ∧ am ≤ 2097151) ∨ (cls = 1 ∧ am = 0) ∨ (cls = 2 ∧ 1 ≤ am ∧ am ≤ 15) ∨ (cls = 3 ∧ am = 0)
 h5:tag ≤ 65535
theorem TkOk.am {cls id am tag:Nat} (h:TkOk cls id am tag):am ≤ 2097151:=by have:=h.h4;omega
theorem tfault_zero {cls id am tag:Int} (h:tfault cls id am tag = 0):∃ c i a t:Nat,cls = c ∧ id = i ∧ am = a ∧ tag = t ∧ TkOk c i a t:=by
 have key:∀ lo hi:Int,cb cls = (lo,hi,true) → 1 ≤ id ∧ id ≤ 1048575 ∧ lo ≤ am ∧ am ≤ hi ∧ 0 ≤ tag ∧ tag ≤ 65535:=by
  intro lo hi hc
  unfold tfault at h
  rw [hc] at h
  dsimp only at h
  rw [if_neg (by simp)] at h
  by_cases hx:id < 1 ∨ 1048575 < id ∨ am < lo ∨ hi < am ∨ tag < 0 ∨ 65535 < tag
  ·rw [if_pos hx] at h;cases h
  ·omega
 by_cases c0:cls = 0
 ·subst c0
  have:=key 1 2097151 (by unfold cb;rw [if_pos rfl])
  exact ⟨0,id.toNat,am.toNat,tag.toNat,by omega,by omega,by omega,by omega,⟨by omega,by omega,by omega,by omega,by omega⟩⟩
 ·by_cases c2:cls = 2
  ·subst c2
   have:=key 1 15 (by unfold cb;rw [if_neg c0,if_pos rfl])
   exact ⟨2,id.toNat,am.toNat,tag.toNat,by omega,by omega,by omega,by omega,⟨by omega,by omega,by omega,by omega,by omega⟩⟩
  ·by_cases c13:cls = 1 ∨ cls = 3
   ·have:=key 0 0 (by unfold cb;rw [if_neg c0,if_neg c2,if_pos c13])
    exact ⟨cls.toNat,id.toNat,am.toNat,tag.toNat,by omega,by omega,by omega,by omega,⟨by omega,by omega,by omega,by omega,by omega⟩⟩
   ·unfold tfault at h
    rw [show cb cls = (0,0,false) by unfold cb;rw [if_neg c0,if_neg c2,if_neg c13]] at h
    simp at h
theorem tfault_ok {cls id am tag:Nat} (h:TkOk cls id am tag):tfault cls id am tag = 0:=by
 obtain ⟨h1,h2,h3,h4,h5⟩:=h
 unfold tfault cb
 rcases h4 with ⟨rfl,h6,h7⟩ | ⟨rfl,h6⟩ | ⟨rfl,h6,h7⟩ | ⟨rfl,h6⟩ <;> simp <;> omega
def tbody (cls id am:Nat):Nat:=cls * 2199023255552 + id * 2097152 + am
theorem tbody_eq (cls id am:Nat):(cls * 1048576 + id) * 2097152 + am = tbody cls id am:=by
 unfold tbody
 rw [Nat.add_mul,Nat.mul_assoc]
theorem tbody_le {cls id am tag:Nat} (h:TkOk cls id am tag):tbody cls id am ≤ 8796093022207:=by
 have:=h.am
 obtain ⟨h1,h2,h3,h4,h5⟩:=h
 unfold tbody;omega
theorem tbody_inj {cls id am tag cls' id' am' tag':Nat} (h:TkOk cls id am tag) (k:TkOk cls' id' am' tag') (e:tbody cls id am = tbody cls' id' am'):cls = cls' ∧ id = id' ∧ am = am':=by
 have h1:=h.am
 have h2:=k.am
 have h3:=h.h3
 have h4:=k.h3
 unfold tbody at e
 omega
theorem or_i64_nat (a b:Nat) (ha:a < 4611686018427387904) (hb:b < 4611686018427387904):bits .or .i64 (a:Int) (b:Int) = ((a ||| b:Nat):Int):=by
 have hx:a ||| b < 2 ^ 62:=Nat.or_lt_two_pow (by omega) (by omega)
 have h1:(BitVec.ofInt 64 (a:Int)).toNat = a:=by
  rw [BitVec.ofInt_natCast,BitVec.toNat_ofNat];exact Nat.mod_eq_of_lt (by omega)
 have h2:(BitVec.ofInt 64 (b:Int)).toNat = b:=by
  rw [BitVec.ofInt_natCast,BitVec.toNat_ofNat];exact Nat.mod_eq_of_lt (by omega)
 show IntKind.i64.wrap ((BitVec.ofInt 64 (a:Int) ||| BitVec.ofInt 64 (b:Int)).toNat:Int) = _
 rw [BitVec.toNat_or,h1,h2]
 exact IntWalk.i64_in _ (by omega)
theorem or_addN (a i c:Nat) (h:c < 2 ^ i):(a * 2 ^ i ||| c) = a * 2 ^ i + c:=by
 have:=Nat.shiftLeft_add_eq_or_of_lt h a
 rw [Nat.shiftLeft_eq] at this
 exact this.symm
theorem body_e1 {cls id:Nat} (h1:cls ≤ 3) (h2:id ≤ 1048575):bits .or .i64 ((cls:Int) * 1048576) (id:Int) = ((cls * 1048576 + id:Nat):Int):=by
 have h:=or_i64_nat (cls * 1048576) id (by omega) (by omega)
 have k:=or_addN cls 20 id (by omega)
 rw [show (2:Nat) ^ 20 = 1048576 by decide] at k
 rw [k] at h
 rw [← h,Int.natCast_mul];rfl
theorem body_e2 {x am:Nat} (h1:x ≤ 4194303) (h2:am ≤ 2097151):bits .or .i64 ((x:Int) * 2097152) (am:Int) = ((x * 2097152 + am:Nat):Int):=by
 have h:=or_i64_nat (x * 2097152) am (by omega) (by omega)
 have k:=or_addN x 21 am (by omega)
 rw [show (2:Nat) ^ 21 = 2097152 by decide] at k
 rw [k] at h
 rw [← h,Int.natCast_mul];rfl
end Go.Proofs.YtfgiehkfcoodbaaGreat
namespace Go.Proofs.YtfgiehkfcoodbaaGreat
set_option linter.unusedVariables false
set_option maxRecDepth 100000
set_option maxHeartbeats 16000000
def bitsN (N lo m:Nat):Nat:=N / 2 ^ lo % 2 ^ m
theorem bitsN_lt (N lo m:Nat):bitsN N lo m < 2 ^ m:=Nat.mod_lt _ (Nat.two_pow_pos m)
theorem testBit_bitsN (N lo m i:Nat):(bitsN N lo m).testBit i = (decide (i < m) && N.testBit (lo + i)):=by
 unfold bitsN
 rw [Nat.testBit_mod_two_pow,Nat.testBit_div_two_pow,Nat.add_comm]
def setB (x t:Nat) (b:Bool):Nat:=if b then (x &&& (4294967295 - 2 ^ t)) ||| 2 ^ t else x &&& (4294967295 - 2 ^ t)
theorem testBit_clr {x t:Nat} (hx:x < 4294967296) (ht:t < 32) (i:Nat):(x &&& (4294967295 - 2 ^ t)).testBit i = (x.testBit i && !decide (t = i)):=by
 have h32:(2:Nat) ^ t < 2 ^ 32:=Nat.pow_lt_pow_right (by omega) ht
 rw [Nat.testBit_and,show 4294967295 - 2 ^ t = 2 ^ 32 - (2 ^ t + 1) by omega,Nat.testBit_two_pow_sub_succ h32,Nat.testBit_two_pow]
 by_cases h:i < 32
 ·simp [h]
 ·rw [Nat.testBit_lt_two_pow (show x < 2 ^ i from Nat.lt_of_lt_of_le (show x < 2 ^ 32 by omega) (Nat.pow_le_pow_right (by omega) (by omega)))];simp
theorem testBit_setB {x t:Nat} (hx:x < 4294967296) (ht:t < 32) (b:Bool) (i:Nat):(setB x t b).testBit i = if t = i then b else x.testBit i:=by
 unfold setB
 cases b
 ·simp only [Bool.false_eq_true,if_false]
  rw [testBit_clr hx ht]
  by_cases h:t = i <;> simp [h]
 ·simp only [if_true]
  rw [Nat.testBit_or,testBit_clr hx ht,Nat.testBit_two_pow]
  by_cases h:t = i <;> simp [h]
theorem setB_lt {x t:Nat} (hx:x < 4294967296) (ht:t < 32) (b:Bool):setB x t b < 4294967296:=by
 have h32:(2:Nat) ^ t < 2 ^ 32:=Nat.pow_lt_pow_right (by omega) ht
 have h1:x &&& (4294967295 - 2 ^ t) < 2 ^ 32:=Nat.lt_of_le_of_lt Nat.and_le_left (by omega)
 unfold setB
 split
 ·exact Nat.or_lt_two_pow h1 h32
 ·exact h1
theorem testBit_val3 {x0 x1 x2:Nat} (h0:x0 < 4294967296) (h1:x1 < 4294967296) (i:Nat):(val3 x0 x1 x2).testBit i = if i < 32 then x0.testBit i else if i < 64 then x1.testBit (i - 32) else x2.testBit (i - 64):=by
 have e:val3 x0 x1 x2 = 2 ^ 32 * (2 ^ 32 * x2 + x1) + x0:=by unfold val3;omega
 rw [e,Nat.testBit_two_pow_mul_add _ (by omega:x0 < 2 ^ 32)]
 split
 ·rfl
 ·rw [Nat.testBit_two_pow_mul_add _ (by omega:x1 < 2 ^ 32)]
  by_cases h:i < 64
  ·rw [if_pos h,if_pos (by omega)]
  ·rw [if_neg h,if_neg (by omega),show i - 32 - 32 = i - 64 by omega]
def putN (N lo m v:Nat):Nat:=N % 2 ^ lo + 2 ^ lo * (v + 2 ^ m * (N / 2 ^ (lo + m)))
theorem testBit_putN {N lo m v:Nat} (hv:v < 2 ^ m) (i:Nat):(putN N lo m v).testBit i = if i < lo then N.testBit i else if i < lo + m then v.testBit (i - lo) else N.testBit i:=by
 unfold putN
 rw [Nat.add_comm,Nat.testBit_two_pow_mul_add _ (Nat.mod_lt _ (Nat.two_pow_pos lo)),Nat.testBit_mod_two_pow]
 split
 ·rename_i h;simp [h]
 ·rename_i h
  rw [Nat.add_comm v,Nat.testBit_two_pow_mul_add _ hv]
  by_cases h2:i < lo + m
  ·rw [if_pos h2,if_pos (by omega)]
  ·rw [if_neg h2,if_neg (by omega),Nat.testBit_div_two_pow];congr 1;omega
theorem putN_zero (N lo:Nat):putN N lo 0 0 = N:=by
 unfold putN
 have:=Nat.mod_add_div N (2 ^ lo)
 simpa using this
theorem putN_step {N lo i v:Nat} (j:Nat):(putN N lo (i + 1) (v % 2 ^ (i + 1))).testBit j = if j = lo + i then v.testBit i else (putN N lo i (v % 2 ^ i)).testBit j:=by
 rw [testBit_putN (Nat.mod_lt _ (Nat.two_pow_pos _)),testBit_putN (Nat.mod_lt _ (Nat.two_pow_pos _)),Nat.testBit_mod_two_pow,Nat.testBit_mod_two_pow]
 by_cases h:j = lo + i
 ·subst h
  rw [if_pos rfl,if_neg (by omega),if_pos (by omega),show lo + i - lo = i by omega];simp
 ·rw [if_neg h]
  by_cases h1:j < lo
  ·rw [if_pos h1,if_pos h1]
  ·rw [if_neg h1,if_neg h1]
   by_cases h2:j < lo + i
   ·rw [if_pos (by omega),if_pos h2,decide_eq_true (by omega),decide_eq_true (by omega)]
   ·rw [if_neg (by omega),if_neg h2]
theorem put_word {N lo i v x0 x1 x2 y0 y1 y2:Nat} (a0:x0 < 4294967296) (a1:x1 < 4294967296) (b0:y0 < 4294967296) (b1:y1 < 4294967296) (hx:val3 x0 x1 x2 = putN N lo i (v % 2 ^ i))
 (hy:∀ j,(if j < 32 then y0.testBit j else if j < 64 then y1.testBit (j - 32) else y2.testBit (j - 64)) = if j = lo + i then v.testBit i else if j < 32 then x0.testBit j else if j < 64 then x1.testBit (j - 32) else x2.testBit (j - 64)) :
 val3 y0 y1 y2 = putN N lo (i + 1) (v % 2 ^ (i + 1)):=by
 refine Nat.eq_of_testBit_eq fun j => ?_
 rw [testBit_val3 b0 b1,putN_step,← hx,testBit_val3 a0 a1]
 exact hy j
theorem put_word0 {N lo i v x0 x1 x2 t:Nat} (a0:x0 < 4294967296) (a1:x1 < 4294967296) (hx:val3 x0 x1 x2 = putN N lo i (v % 2 ^ i)) (ht:lo + i = t) (h:t < 32):val3 (setB x0 t (v.testBit i)) x1 x2 = putN N lo (i + 1) (v % 2 ^ (i + 1)):=by
 refine put_word a0 a1 (setB_lt a0 h _) a1 hx fun j => ?_
 rw [testBit_setB a0 h,ht]
 by_cases e:j = t
 ·subst e;rw [if_pos h,if_pos rfl,if_pos rfl]
 ·rw [if_neg e,if_neg (show ¬ t = j from fun h => e h.symm)]
theorem put_word1 {N lo i v x0 x1 x2 t:Nat} (a0:x0 < 4294967296) (a1:x1 < 4294967296) (hx:val3 x0 x1 x2 = putN N lo i (v % 2 ^ i)) (ht:lo + i = 32 + t) (h:t < 32):val3 x0 (setB x1 t (v.testBit i)) x2 = putN N lo (i + 1) (v % 2 ^ (i + 1)):=by
 refine put_word a0 a1 a0 (setB_lt a1 h _) hx fun j => ?_
 rw [testBit_setB a1 h,ht]
 by_cases e:j = 32 + t
 ·subst e
  rw [if_neg (by omega),if_pos (by omega),if_pos (by omega),if_pos rfl]
 ·rw [if_neg e]
  by_cases h1:j < 32
  ·rw [if_pos h1,if_pos h1]
  ·rw [if_neg h1,if_neg h1]
   by_cases h2:j < 64
   ·rw [if_pos h2,if_pos h2,if_neg (by omega)]
   ·rw [if_neg h2,if_neg h2]
theorem put_word2 {N lo i v x0 x1 x2 t:Nat} (a0:x0 < 4294967296) (a1:x1 < 4294967296) (a2:x2 < 4294967296) (hx:val3 x0 x1 x2 = putN N lo i (v % 2 ^ i)) (ht:lo + i = 64 + t) (h:t < 32):val3 x0 x1 (setB x2 t (v.testBit i)) = putN N lo (i + 1) (v % 2 ^ (i + 1)):=by
 refine put_word a0 a1 a0 a1 hx fun j => ?_
 rw [testBit_setB a2 h,ht]
 by_cases e:j = 64 + t
 ·subst e
  rw [if_neg (by omega),if_neg (by omega),if_pos (by omega),if_pos rfl]
 ·rw [if_neg e]
  by_cases h1:j < 32
  ·rw [if_pos h1,if_pos h1]
  ·rw [if_neg h1,if_neg h1]
   by_cases h2:j < 64
   ·rw [if_pos h2,if_pos h2]
   ·rw [if_neg h2,if_neg h2,if_neg (by omega)]
theorem bits_step (N lo i m:Nat) (hi:i < m):bitsN N (lo + i) (m - i) = 2 * bitsN N (lo + (i + 1)) (m - (i + 1)) + (N.testBit (lo + i)).toNat:=by
 refine Nat.eq_of_testBit_eq fun j => ?_
 rw [testBit_bitsN]
 have e:2 * bitsN N (lo + (i + 1)) (m - (i + 1)) + (N.testBit (lo + i)).toNat = 2 ^ 1 * bitsN N (lo + (i + 1)) (m - (i + 1)) + (N.testBit (lo + i)).toNat:=rfl
 rw [e,Nat.testBit_two_pow_mul_add _ (by have:=Bool.toNat_le (N.testBit (lo + i));omega)]
 by_cases h:j < 1
 ·obtain rfl:j = 0:=by omega
  rw [if_pos h,Nat.add_zero,decide_eq_true (by omega)]
  cases N.testBit (lo + i) <;> rfl
 ·rw [if_neg h,testBit_bitsN]
  have e1:lo + (i + 1) + (j - 1) = lo + i + j:=by omega
  rw [e1]
  congr 1
  exact decide_eq_decide.2 (by omega)
theorem word_bit {x t:Nat}:x / 2 ^ t % 2 = (x.testBit t).toNat:=by
 rw [Nat.testBit_eq_decide_div_mod_eq]
 rcases Nat.mod_two_eq_zero_or_one (x / 2 ^ t) with h | h <;> rw [h] <;> rfl
def WMay (H B:Nat):Prop:=(H = 0 ∧ B = 0) ∨ (1 ≤ H ∧ H ≤ 1048575 ∧ B.testBit 0 = true ∧ B < 2 ^ min H 64)
def wk (H B j:Nat):Bool:=decide (j ≤ H) && B.testBit (H - j)
def judge (H B j:Nat):Nat:=if j + 64 ≤ H then 13 else if wk H B j = true then 14 else 0
def wtake (H B j:Nat):Nat × Nat:=if H < j then (j,(B <<< (j - H)) % 2 ^ 64 ||| 1) else (H,B ||| 2 ^ (H - j))
theorem WMay.lt {H B:Nat} (h:WMay H B):B < 2 ^ 64:=by
 rcases h with ⟨_,rfl⟩ | ⟨_,_,_,h⟩
 ·decide
 ·exact Nat.lt_of_lt_of_le h (Nat.pow_le_pow_right (by omega) (Nat.min_le_right _ _))
theorem WMay.le {H B:Nat} (h:WMay H B):H ≤ 1048575:=by
 rcases h with ⟨rfl,_⟩ | ⟨_,h,_⟩ <;> omega
theorem WMay.high {H B:Nat} (h:WMay H B):B < 2 ^ H:=by
 rcases h with ⟨rfl,rfl⟩ | ⟨_,_,_,h⟩
 ·decide
 ·exact Nat.lt_of_lt_of_le h (Nat.pow_le_pow_right (by omega) (Nat.min_le_left _ _))
theorem take_may {H B j:Nat} (h:WMay H B) (h1:1 ≤ j) (h2:j ≤ 1048575) (hj:judge H B j = 0):WMay (wtake H B j).1 (wtake H B j).2:=by
 unfold judge at hj
 have h64:H < j + 64:=by
  by_cases g:j + 64 ≤ H
  ·rw [if_pos g] at hj;cases hj
  ·omega
 unfold wtake
 split
 ·rename_i hlt
  refine .inr ⟨h1,h2,by simp,?_⟩
  dsimp only
  by_cases hm:j ≤ 64
  ·rw [Nat.min_eq_left hm]
   refine Nat.or_lt_two_pow (Nat.lt_of_le_of_lt (Nat.mod_le _ _) ?_) (Nat.one_lt_two_pow (by omega))
   rw [Nat.shiftLeft_eq]
   have:=Nat.mul_lt_mul_of_pos_right h.high (Nat.two_pow_pos (j - H))
   rwa [← Nat.pow_add,show H + (j - H) = j by omega] at this
  ·rw [Nat.min_eq_right (by omega)]
   exact Nat.or_lt_two_pow (Nat.mod_lt _ (by decide)) (by decide)
 ·rename_i hlt
  rcases h with ⟨rfl,rfl⟩ | ⟨g1,g2,g3,g4⟩
  ·omega
  ·refine .inr ⟨g1,g2,by rw [Nat.testBit_or,g3];rfl,Nat.or_lt_two_pow g4 (Nat.pow_lt_pow_right (by omega) (by omega))⟩
def lowIds (H B:Nat):Nat → List Nat
 | 0 => []
 | t + 1 => if B.testBit t = true then (H - t) :: lowIds H B t else lowIds H B t
theorem low_none (H B:Nat) (t u:Nat) (h:∀ k,t ≤ k → B.testBit k = false):lowIds H B (t + u) = lowIds H B t:=by
 induction u with
 | zero => rfl
 | succ u ih =>
  show (if B.testBit (t + u) = true then _ else lowIds H B (t + u)) = _
  rw [h (t + u) (by omega),if_neg (by simp),ih]
theorem low_same (H B C:Nat) (t:Nat) (h:∀ k,k < t → B.testBit k = C.testBit k):lowIds H B t = lowIds H C t:=by
 induction t with
 | zero => rfl
 | succ t ih =>
  show (if B.testBit t = true then _ else _) = (if C.testBit t = true then _ else _)
  rw [h t (by omega),ih (fun k hk => h k (by omega))]
theorem low_step (H b top:Nat) (h1:2 ^ top ≤ b) (h2:b < 2 ^ (top + 1)) (h3:top < 64):lowIds H b 64 = (H - top) :: lowIds H (b - 2 ^ top) 64:=by
 have hlt:b - 2 ^ top < 2 ^ top:=by rw [Nat.pow_succ] at h2;omega
 have e:b = 2 ^ top + (b - 2 ^ top):=by omega
 have hb:∀ k,top + 1 ≤ k → b.testBit k = false:=fun k hk => Nat.testBit_lt_two_pow (Nat.lt_of_lt_of_le h2 (Nat.pow_le_pow_right (by omega) hk))
 have hc:∀ k,top ≤ k → (b - 2 ^ top).testBit k = false:=fun k hk => Nat.testBit_lt_two_pow (Nat.lt_of_lt_of_le hlt (Nat.pow_le_pow_right (by omega) hk))
 have ht:b.testBit top = true:=by
  rw [e,Nat.testBit_two_pow_add_eq,hc top (Nat.le_refl _)];rfl
 have hs:∀ k,k < top → b.testBit k = (b - 2 ^ top).testBit k:=fun k hk => by
  conv => lhs;rw [e]
  exact Nat.testBit_two_pow_add_gt hk _
 have a1:=low_none H b (top + 1) (63 - top) hb
 rw [show top + 1 + (63 - top) = 64 by omega] at a1
 have a2:=low_none H (b - 2 ^ top) top (64 - top) hc
 rw [show top + (64 - top) = 64 by omega] at a2
 rw [a1,a2]
 show (if b.testBit top = true then _ else _) = _
 rw [if_pos ht,low_same H b (b - 2 ^ top) top hs]
theorem low_zero (H:Nat):∀ t,lowIds H 0 t = []
 | 0 => rfl
 | t + 1 => by show (if Nat.testBit 0 t = true then _ else _) = _;simp [low_zero H t]
theorem low_len (H B:Nat):∀ t,(lowIds H B t).length ≤ t
 | 0 => Nat.le_refl _
 | t + 1 => by
  have:=low_len H B t
  show (if B.testBit t = true then _ else _:List Nat).length ≤ _
  split
  ·simp;omega
  ·omega
end Go.Proofs.YtfgiehkfcoodbaaGreat
namespace Go.Proofs.YtfgiehkfcoodbaaGreat
open Go.RowKit
set_option linter.unusedVariables false
set_option maxRecDepth 100000
set_option maxHeartbeats 16000000
def dg (d:Nat):UInt8:=UInt8.ofNat (48 + d)
def dstr (l:List Nat):ByteArray:=⟨(l.map dg).toArray⟩
theorem dg_toNat {d:Nat} (h:d ≤ 9):(dg d).toNat = 48 + d:=by
 unfold dg;rw [UInt8.toNat_ofNat'];omega
theorem dstr_size (l:List Nat):(dstr l).size = l.length:=by
 unfold dstr;show (l.map dg).toArray.size = _;simp
theorem dstr_get (l:List Nat) (i:Nat) (h:i < (dstr l).size):(dstr l)[i] = dg (l[i]'(by rw [dstr_size] at h;exact h)):=by
 have h2:i < l.length:=by rw [dstr_size] at h;exact h
 have:((l.map dg).toArray)[i]'(by simpa using h2) = dg (l[i]'h2):=by simp
 exact this
theorem dstr_byte {l:List Nat} (hl:∀ d ∈ l,d ≤ 9) (i:Nat) (h:i < (dstr l).size):((dstr l)[i]).toNat = 48 + l[i]'(by rw [dstr_size] at h;exact h):=by
 rw [dstr_get,dg_toNat (hl _ (List.getElem_mem _))]
theorem dstr_toList (l:List Nat):(dstr l).data.toList = l.map dg:=by unfold dstr;simp
theorem str_ext {a b:ByteArray} (h:a.data.toList = b.data.toList):a = b:=by
 cases a;cases b;congr;exact Array.ext' h
theorem dg_inj {a b:Nat} (ha:a ≤ 9) (hb:b ≤ 9) (h:dg a = dg b):a = b:=by
 have:=congrArg UInt8.toNat h
 rw [dg_toNat ha,dg_toNat hb] at this
 omega
theorem dstr_empty {l:List Nat} (h:0 < l.length):(dstr l).toList.isEmpty = false:=by
 rw [Lib.toList_data,dstr_toList];cases l <;> simp at h ⊢
theorem app_toList (a b:ByteArray):(a ++ b).data.toList = a.data.toList ++ b.data.toList:=by simp [ByteArray.data_append]
theorem dstr_append (a b:List Nat):dstr (a ++ b) = dstr a ++ dstr b:=by
 apply str_ext;rw [app_toList,dstr_toList,dstr_toList,dstr_toList,List.map_append]
theorem dstr_extract (l:List Nat) (i j:Nat):(dstr l).extract i j = dstr ((l.drop i).take (j - i)):=by
 apply str_ext
 rw [Lib.extract_data,dstr_toList,dstr_toList,List.map_take,List.map_drop]
theorem iterPos_of {w:World} {k:Nat} {s:ByteArray} {p:Nat} (h:w.heap[k]? = some (.stringIter s p)):w.iterPos k = p:=by simp [World.iterPos,h]
end Go.Proofs.YtfgiehkfcoodbaaGreat
namespace Go.Proofs.YtfgiehkfcoodbaaGreat
open Go.RowKit Go.Sort
set_option linter.unusedVariables false
set_option maxRecDepth 100000
set_option maxHeartbeats 16000000
section
variable {P:Program} {w0 w:World} {G:List Nat} {L:List Chunk} {base c n i:Nat} {e:TypeId} {A:Option Addr}
def strs (ss:List (List UInt8)):List Value:=ss.map encStr
theorem strs_len (ss:List (List UInt8)):(strs ss).length = ss.length:=by simp [strs]
theorem mem_reversed {g q:Nat} {ss:List (List UInt8)} (H:Mem w0 G w L) (hi:L[i]? = some (.row base e 1 (.slice (some ⟨g,0,none⟩) n c) n (strs ss))) :
 Mem w0 G (putRow encStr (Sort.ahead w q) g 0 ss.reverse.toArray) (L.set i (.row base e 1 (.slice (some ⟨g,0,none⟩) n c) n (strs ss.reverse))):=by
 have hown:=H.own_ i hi
 have hn:ss.length = n:=by have:=hown.1;rw [strs_len] at this;omega
 subst hn
 rcases hown.2 with ⟨h0,_⟩ | ⟨g',cap',cur,hv,hb0,hb,h1,h2,h3,h4⟩
 ·cases h0
 ·cases hv
  have k1:=ownsRow_sorted (n:=q) (os:=#[]) (ss:=ss) (ts:=ss.reverse) (by simp) hb0 hb h1 h2 h3
  have k2:=grownBy_sorted (w:=w) (g:=g) (n:=q) (os:=#[]) ss.reverse.toArray
  rw [grow_empty] at k1 k2
  exact H.turn hi k2 (c':=.row base e 1 (.slice (some ⟨g,0,none⟩) ss.length c) ss.length (strs ss.reverse)) k1 (fun k hk => .inl hk)
theorem own_holds {g:Nat} {ss:List (List UInt8)} (hown:w.ownsRow base e 1 (.slice (some ⟨g,0,none⟩) n c) n (strs ss)):Holds encStr w g 0 ss.toArray ∧ g < w.heap.size ∧ n ≤ c ∧ n ≤ 9223372036854775807:=by
 have hn:ss.length = n:=by have:=hown.1;rw [strs_len] at this;omega
 subst hn
 rcases hown.2 with ⟨h0,_⟩ | ⟨g',cap',cur,hv,hb0,hb,h1,h2,h3,h4⟩
 ·cases h0
 ·cases hv
  exact ⟨holds_of_block hb (by simpa [strs] using h4),(Array.getElem?_eq_some_iff.1 hb).1,h1,by unfold maxLen at h2;omega⟩
end
theorem revS_mem (ss:List (List UInt8)) (A:Option Addr) (n c i base:Nat) (e:TypeId) (w0 w:World) (G:List Nat) (L:List Chunk) (H:Mem w0 G w L) (hi:L[i]? = some (.row base e 1 (.slice A n c) n (strs ss))) :
 Calls Tryz.prog 154 #[.slice A n c] w fun e' w' => e' = .returned (.tuple #[]) ∧ Mem w0 G w' (L.set i (.row base e 1 (.slice A n c) n (strs ss.reverse))):=by
 have hown:=H.own_ i hi
 have hn:ss.length = n:=by have:=hown.1;rw [strs_len] at this;omega
 rcases hown.2 with ⟨h0,h0'⟩ | ⟨g',cap',cur,hv,_⟩
 ·cases h0
  have hs:ss = []:=List.eq_nil_of_length_eq_zero (by omega)
  subst hs
  refine (Tryz.slices_Reverse_string_empty none 0 w).mono ?_
  rintro e' w' ⟨he,rfl⟩
  refine ⟨he,?_⟩
  have hil:i < L.length:=(List.getElem?_eq_some_iff.1 hi).1
  have:L.set i (.row base e 1 (.slice none 0 0) 0 (strs [].reverse)) = L:=by
   apply List.ext_getElem?
   intro j
   rw [List.getElem?_set]
   split
   ·subst_vars;rw [hi];rfl
   ·rfl
  rw [this];exact H
 ·cases hv
  obtain ⟨k1,k2,k3,k4⟩:=own_holds hown
  have hc:=Tryz.slices_Reverse_string_arr g' 0 c ss.toArray w k1 (by simp;omega)
  simp only [List.size_toArray,hn] at hc
  refine hc.mono ?_
  rintro e' w' ⟨he,q,rfl⟩
  refine ⟨he,?_⟩
  have:=mem_reversed (q:=q) H hi
  simpa using this
theorem joinS_own (ss:List (List UInt8)) (A:Option Addr) (n c base:Nat) (e:TypeId) (sep:ByteArray) (w:World) (hown:w.ownsRow base e 1 (.slice A n c) n (strs ss)) (hn48:n ≤ 100000) (hlen:(Lib.join ss sep.data.toList).length ≤ 100000000) :
 Calls Tryz.prog 155 #[.slice A n c,.string sep] w fun e w' => e = .returned (.string ⟨(Lib.join ss sep.data.toList).toArray⟩) ∧ Below w.heap.size w w':=by
 have hn:ss.length = n:=by have:=hown.1;rw [strs_len] at this;omega
 rcases hown.2 with ⟨h0,h0'⟩ | ⟨g',cap',cur,hv,_⟩
 ·cases h0
  have hs:ss = []:=List.eq_nil_of_length_eq_zero (by omega)
  subst hs
  refine (Tryz.strings_Join_none none 0 sep w).mono ?_
  rintro e' w' ⟨he,rfl⟩
  exact ⟨he,Below.refl _ _⟩
 ·cases hv
  obtain ⟨k1,k2,k3,k4⟩:=own_holds hown
  have hm:(ss.map fun l => (⟨l.toArray⟩:ByteArray)).map (fun b => b.data.toList) = ss:=by
   rw [List.map_map]
   exact (List.map_congr_left (fun l _ => rfl)).trans (List.map_id ss)
  have hc:=Tryz.strings_Join g' 0 c (ss.map fun l => (⟨l.toArray⟩:ByteArray)) sep w (fun j x hx => by
   rw [List.getElem?_map] at hx
   obtain ⟨l,hl,rfl⟩:=Option.map_eq_some_iff.1 hx
   have hj:j < ss.length:=(List.getElem?_eq_some_iff.1 hl).1
   have h2:=(k1 j (by simpa using hj)).1
   rw [h2]
   have:ss.toArray[j]! = l:=by
    rw [getElem!_pos _ j (by simpa using hj)]
    have:=(List.getElem?_eq_some_iff.1 hl).2
    simpa using this
   rw [this]) k2 (by simp;omega) (by simp;omega) (by rw [hm];omega)
  rw [hm,List.length_map,hn] at hc
  exact hc
theorem join_flat (xs:List (List UInt8)):Lib.join xs [] = xs.flatten:=by
 cases xs with
 | nil => rfl
 | cons x r => rw [Lib.join_cons];simp [Lib.joinTail]
end Go.Proofs.YtfgiehkfcoodbaaGreat
namespace Go.Proofs.YtfgiehkfcoodbaaGreat
open Go.RowKit Go.Maps Go.ChangeShapes Go.WideShapes
set_option linter.unusedVariables false
set_option maxRecDepth 100000
set_option maxHeartbeats 16000000
def kls (a b c:Int):List Lit:=[.int .i64 a,.int .i64 b,.int .i64 c]
def kl (a b c:Int):Lit:=.string (keyBytes (kls a b c))
def wf3 (a b c:Int):Prop:=(Lit.int .i64 a).wf = true ∧ (Lit.int .i64 b).wf = true ∧ (Lit.int .i64 c).wf = true
theorem what_laid:laidOutB Tryz.prog = true:=by kernel_rfl
theorem what_law:Keyed Tryz.prog 284:=Keyed.of_law (deep_law_laid what_laid (m:=9) (by omega) (by decide +kernel) (by kernel_rfl) (by kernel_rfl))
theorem what_key {a b c:Int} (h:wf3 a b c):keyOf Tryz.prog 284 (.agg #[a,b,c]) = some (kl a b c):=by
 obtain ⟨ha,hb,hc⟩:=h
 have c3:Tryz.prog.cellsOf 284 = 3:=by kernel_rfl
 have c1:Tryz.prog.cellsOf 3 = 1:=by kernel_rfl
 have hf:(Tryz.prog.keyType 284 && (Value.agg #[a,b,c]).formed Tryz.prog 284) = true:=by kernel_rfl
 obtain ⟨d,hd⟩:∃ d,Tryz.prog.types.size + 1 = d + 1 + 1:=⟨Tryz.prog.types.size - 1,by
  have:1 ≤ Tryz.prog.types.size:=by decide +kernel
  omega⟩
 have hk:Tryz.prog.keyLits (Tryz.prog.types.size + 1) 284 [.int .i64 a,.int .i64 b,.int .i64 c] = some (kls a b c):=by
  rw [hd]
  simp only [Program.keyLits,Tryz.underlying284,c3]
  simp [c1,ha,hb,hc,kls]
 unfold keyOf
 rw [Tryz.underlying284]
 simp only [hf,if_true]
 have e:(Value.agg #[a,b,c]).cells.toList = [.int .i64 a,.int .i64 b,.int .i64 c]:=rfl
 rw [e,hk]
 rfl
theorem kl_inj {a b c a' b' c':Int} (h:wf3 a b c) (h':wf3 a' b' c') (e:kl a b c = kl a' b' c'):a = a' ∧ b = b' ∧ c = c':=by
 have h1:=what_key h
 have h2:=what_key h'
 rw [← e] at h2
 have:=what_law.inj h1 h2
 simp at this
 exact this
theorem kl_lit (a b c:Int):WideAt.IsKeyLit (kl a b c):=trivial
abbrev Pr:=Int × Int × Int × Int
def keyP (p:Pr):Int × Int × Int:=(p.1,p.2.1,p.2.2.1)
def wfP (p:Pr):Prop:=wf3 p.1 p.2.1 p.2.2.1 ∧ (Lit.int .i64 p.2.2.2).wf = true
def mayK (k:Int × Int × Int):Prop:=0 ≤ k.1 ∧ k.1 < 50 ∧ 0 ≤ k.2.1 ∧ k.2.1 ≤ 15 ∧ 0 ≤ k.2.2 ∧ k.2.2 ≤ 8796093022207
def okP (p:Pr):Prop:=mayK (keyP p) ∧ 0 ≤ p.2.2.2 ∧ p.2.2.2 ≤ 65535
def OOk (l:List Pr):Prop:=l.length ≤ 500 ∧ (∀ p ∈ l,okP p) ∧ (l.map keyP).Nodup
def look (l:List Pr) (k:Int × Int × Int):Option Int:=(l.find? (fun p => keyP p == k)).map fun p => p.2.2.2
theorem look_snoc (l:List Pr) (p:Pr) (k:Int × Int × Int):look (l ++ [p]) k = (look l k).or (if keyP p = k then some p.2.2.2 else none):=by
 unfold look
 rw [List.find?_append]
 cases l.find? (fun p => keyP p == k) with
 | some q => rfl
 | none =>
  by_cases h:keyP p = k
  ·simp [h]
  ·simp [h]
theorem look_none {l:List Pr} {k:Int × Int × Int}:look l k = none ↔ k ∉ l.map keyP:=by
 unfold look
 rw [Option.map_eq_none_iff,List.find?_eq_none,List.mem_map]
 constructor
 ·rintro h ⟨p,hp,rfl⟩
  exact h p hp (by simp)
 ·intro h p hp hk
  exact h ⟨p,hp,by simpa using hk⟩
theorem look_some_mem {l:List Pr} {k:Int × Int × Int} {t:Int} (h:look l k = some t):∃ p ∈ l,keyP p = k ∧ p.2.2.2 = t:=by
 unfold look at h
 rw [Option.map_eq_some_iff] at h
 obtain ⟨p,hp,rfl⟩:=h
 exact ⟨p,List.mem_of_find?_eq_some hp,by simpa using List.find?_some hp,rfl⟩
theorem ook_snoc {l:List Pr} {p:Pr} (h:OOk l) (hp:okP p) (hl:l.length < 500) (hn:look l (keyP p) = none):OOk (l ++ [p]):=by
 obtain ⟨h1,h2,h3⟩:=h
 refine ⟨by simp;omega,fun q hq => ?_,?_⟩
 ·rcases List.mem_append.1 hq with h | h
  ·exact h2 q h
  ·simp at h;subst h;exact hp
 ·rw [List.map_append,List.nodup_append]
  refine ⟨h3,by simp,?_⟩
  intro a ha b hb
  simp at hb
  subst hb
  intro h
  subst h
  exact look_none.1 hn ha
theorem ook_take {l:List Pr} (h:OOk l) (k:Nat):OOk (l.take k):=by
 obtain ⟨h1,h2,h3⟩:=h
 exact ⟨by rw [List.length_take];omega,fun p hp => h2 p (List.mem_of_mem_take hp),by rw [List.map_take];exact h3.sublist (List.take_sublist _ _)⟩
theorem ook_next {l:List Pr} {k:Nat} (h:OOk l) (hk:k < l.length):look (l.take k) (keyP l[k]) = none:=by
 have h1:=(ook_take h (k + 1)).2.2
 rw [List.take_succ_eq_append_getElem hk,List.map_append,List.nodup_append] at h1
 rw [look_none]
 intro hm
 exact h1.2.2 _ hm (keyP l[k]) (by simp) rfl
def prs (l:List Pr):List Value:=l.flatMap fun (p:Pr) => [Value.int .i64 p.1,.int .i64 p.2.1,.int .i64 p.2.2.1,.int .i64 p.2.2.2]
theorem prs_get {l:List Pr} {i:Nat} (h:i < l.length):(prs l)[i * 4]? = some (.int .i64 l[i].1) ∧ (prs l)[i * 4 + 1]? = some (.int .i64 l[i].2.1) ∧ (prs l)[i * 4 + 2]? = some (.int .i64 l[i].2.2.1) ∧ (prs l)[i * 4 + 3]? = some (.int .i64 l[i].2.2.2):=by
 induction l generalizing i with
 | nil => simp at h
 | cons p l ih =>
  cases i with
  | zero => exact ⟨rfl,rfl,rfl,rfl⟩
  | succ i =>
   have:=ih (i:=i) (by simp at h;omega)
   simp only [List.getElem_cons_succ]
   rw [Nat.succ_mul]
   exact this
theorem prs_append (a b:List Pr):prs (a ++ b) = prs a ++ prs b:=by simp [prs]
theorem prs_one (l:List Pr):∀ u ∈ prs l,u.oneCell' = true:=by
 intro u hu
 obtain ⟨p,_,hp⟩:=List.mem_flatMap.1 hu
 simp at hp
 rcases hp with rfl | rfl | rfl | rfl <;> rfl
def IsPs (w:World) (v:Value) (l:List Pr):Prop :=
 ∃ (A:Option Addr) (c:Nat),v = .slice A l.length c ∧ l.length ≤ c ∧ c ≤ maxLen ∧ (∀ p ∈ l,wfP p) ∧ Rd w w.heap.size 4 A l.length (prs l)
theorem IsPs.below {w w':World} {v:Value} {l:List Pr} (h:IsPs w v l) (hb:Below w.heap.size w w'):IsPs w' v l:=by
 obtain ⟨A,c,h1,h2,h3,h4,h5⟩:=h
 exact ⟨A,c,h1,h2,h3,h4,(h5.below hb).more hb.size⟩
theorem isps_nil (w:World):IsPs w (.slice none 0 0) []:=⟨none,0,rfl,Nat.le_refl _,Nat.zero_le _,by simp,Rd.nil_⟩
theorem isps_own {w:World} {base e:Nat} {A:Option Addr} {n c:Nat} {l:List Pr} (hn:l.length = n) (hw:∀ p ∈ l,wfP p) (h:w.ownsRow base e 4 (.slice A n c) n (prs l)):IsPs w (.slice A n c) l:=by
 subst hn
 exact ⟨A,c,rfl,(own_cap h).1,(own_cap h).2,hw,Rd.of_own h⟩
theorem IsPs.at_ {w:World} {A:Option Addr} {n c:Nat} {l:List Pr} (h:IsPs w (.slice A n c) l) {k:Nat} (hk:k < l.length) :
 ∃ b off,A = some ⟨b,off,none⟩ ∧ b < w.heap.size ∧ w.cell? ⟨b,off + k * 4,none⟩ = some (.int .i64 l[k].1) ∧ w.cell? ⟨b,off + k * 4 + 1,none⟩ = some (.int .i64 l[k].2.1) ∧ w.cell? ⟨b,off + k * 4 + 2,none⟩ = some (.int .i64 l[k].2.2.1) ∧ w.cell? ⟨b,off + k * 4 + 3,none⟩ = some (.int .i64 l[k].2.2.2):=by
 obtain ⟨A',c',e,_,_,_,hr⟩:=h
 injection e with e1 e2
 subst e1
 obtain ⟨b,off,rfl,hB,hc⟩:=hr.at_ (by omega)
 have g:=prs_get hk
 exact ⟨b,off,rfl,hB,hc _ _ g.1,hc (k * 4 + 1) _ g.2.1,hc (k * 4 + 2) _ g.2.2.1,hc (k * 4 + 3) _ g.2.2.2⟩
def MapIs (D:DataW Unit) (l:List Pr):Prop :=
 IsMap D ∧ ∀ a b c:Int,wf3 a b c → has D (kl a b c) = (look l (a,b,c)).isSome ∧ D.atKey (kl a b c) (.lit (.int .i64 0)) = .lit (.int .i64 ((look l (a,b,c)).getD 0))
theorem mapIs_nil:MapIs (.map []) []:=⟨isMap_empty,fun _ _ _ _ => ⟨rfl,rfl⟩⟩
theorem mapIs_put {D:DataW Unit} {l:List Pr} {p:Pr} (h:MapIs D l) (hw:wfP p) (hn:look l (keyP p) = none):MapIs (D.put (kl p.1 p.2.1 p.2.2.1) (.lit (.int .i64 p.2.2.2))) (l ++ [p]):=by
 obtain ⟨h1,h2⟩:=h
 refine ⟨h1.put _ _,fun a b c hk => ?_⟩
 rw [look_snoc]
 by_cases e:keyP p = (a,b,c)
 ·have e2:=e
  unfold keyP at e2
  injection e2 with ea e2
  injection e2 with eb ec
  rw [if_pos e,← e,hn,← ea,← eb,← ec]
  exact ⟨has_put_same h1 (kl_lit _ _ _) _,atKey_put_same h1 (kl_lit _ _ _) _ _⟩
 ·have hne:kl a b c ≠ kl p.1 p.2.1 p.2.2.1:=fun h => by
   obtain ⟨ea,eb,ec⟩:=kl_inj hk hw.1 h
   exact e (by unfold keyP;rw [ea,eb,ec])
  rw [if_neg e,has_put_other hne,atKey_put_other hne,Option.or_none]
  exact h2 a b c hk
theorem map_below {H:Type} {P:Program} {k:TypeId} {R:Value → Option (DataW H × List MemPlace)} {b n:Nat} {D:DataW H} {w w':World} (h:w.ownsMap P k R b n D) (hb:Below w.heap.size w w'):w'.ownsMap P k R b n D:=by
 obtain ⟨es,clock,h1,h2⟩:=h
 have hlt:b < w.heap.size:=by
  rcases Nat.lt_or_ge b w.heap.size with h | h
  ·exact h
  ·rw [Array.getElem?_eq_none h] at h1;cases h1
 exact ⟨es,clock,(hb.block b hlt).trans h1,h2⟩
end Go.Proofs.YtfgiehkfcoodbaaGreat
namespace Go.Proofs.YtfgiehkfcoodbaaGreat
open Go.RowKit
set_option linter.unusedVariables false
set_option maxRecDepth 100000
set_option maxHeartbeats 16000000
def soldE (l:List Pr) (me body rev0:Nat) (tag:Int):Nat → Nat
 | 0 => 12
 | n + 1 => if look l ((me:Int),(n:Int),(body:Int)) = some tag then (if n < rev0 then 11 else 0) else soldE l me body rev0 tag n
def badS (E bad lock:Nat):Nat × Nat:=if E = 12 then (if bad + 1 = 5 then (0,30) else (bad + 1,lock)) else (bad,lock)
def takeS (rev cr H B bad cls id am:Nat):Nat × Nat × Nat × Nat × Nat × Nat × Nat :=
 if judge H B id ≠ 0 then (rev,cr,H,B,bad,0,judge H B id)
 else if cls = 0 then (if 99999999 < cr + am then (rev,cr,H,B,bad,0,15) else (rev,cr + am,(wtake H B id).1,(wtake H B id).2,0,am,0))
 else if cls = 1 then (rev,0,(wtake H B id).1,(wtake H B id).2,0,0,0)
 else (if am ≤ rev then (rev,cr,H,B,bad,0,24) else (am,cr,(wtake H B id).1,(wtake H B id).2,0,0,0))
def keyS (l:List Pr) (me rev cr H B bad lock cls id am tag:Nat):Nat × Nat × Nat × Nat × Nat × Nat × Nat × Nat :=
 if 0 < lock then (rev,cr,H,B,bad,lock,0,10)
 else if cls = 3 then (rev,cr,H,B,bad,lock,0,0)
 else if soldE l me (tbody cls id am) rev tag (rev + 1) = 0 then
  (let r:=takeS rev cr H B bad cls id am;(r.1,r.2.1,r.2.2.1,r.2.2.2.1,r.2.2.2.2.1,lock,r.2.2.2.2.2.1,r.2.2.2.2.2.2))
 else (rev,cr,H,B,(badS (soldE l me (tbody cls id am) rev tag (rev + 1)) bad lock).1,(badS (soldE l me (tbody cls id am) rev tag (rev + 1)) bad lock).2,0,soldE l me (tbody cls id am) rev tag (rev + 1))
theorem soldE_vals (l:List Pr) (me body rev0:Nat) (tag:Int):∀ n,soldE l me body rev0 tag n = 0 ∨ soldE l me body rev0 tag n = 11 ∨ soldE l me body rev0 tag n = 12
 | 0 => .inr (.inr rfl)
 | n + 1 => by
  unfold soldE
  split
  ·split
   ·exact .inr (.inl rfl)
   ·exact .inl rfl
  ·exact soldE_vals l me body rev0 tag n
end Go.Proofs.YtfgiehkfcoodbaaGreat
