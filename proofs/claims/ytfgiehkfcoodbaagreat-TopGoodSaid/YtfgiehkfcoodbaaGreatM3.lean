/- cents: what its functions compute. -/
import Derived.Test.YtfgiehkfcoodbaaGreatM0
import Derived.Test.YtfgiehkfcoodbaaGreatM1
import Derived.Test.YtfgiehkfcoodbaaGreatM2
namespace Go.Proofs.YtfgiehkfcoodbaaGreat
open Go.RowKit
set_option linter.unusedVariables false
set_option maxRecDepth 100000
set_option maxHeartbeats 16000000
theorem part_ok (a b:Int) (w:World) (h1:0 ≤ a) (h2:a ≤ 1000000000000) (h3:0 ≤ b) (h4:b ≤ 10000) :
 Calls Tryz.prog 65 #[a,b] w fun e w' => e = .returned (.tuple #[.int .i64 (a * b / 10000),()]) ∧ w = w':=by
 have h5:0 ≤ a * b:=Int.mul_nonneg h1 h3
 have h6:a * b ≤ 1000000000000 * 10000:=Int.mul_le_mul h2 h4 h3 (by omega)
 go_enter Tryz.func65,Tryz.ntmps65
 go_wp2
 go_ret2
 exact ⟨rfl,rfl⟩
def tmV (m x c:Nat):Nat:=(x * m + c) % 4294967296
def tmC (m x c:Nat):Nat:=(x * m + c) / 4294967296
def adV (x c:Nat):Nat:=(x + c) % 4294967296
def adC (x c:Nat):Nat:=(x + c) / 4294967296
theorem mul_lt32 {a b:Nat} (ha:a < 4294967296) (hb:b < 4294967296):a * b ≤ 4294967295 * 4294967295:=Nat.mul_le_mul (by omega) (by omega)
theorem tmC_lt {m x c:Nat} (hm:m < 4294967296) (hx:x < 4294967296) (hc:c < 4294967296):tmC m x c < 4294967296:=by
 have:=mul_lt32 hx hm
 unfold tmC;omega
theorem add32_ok (a b:Nat) (w:World) (ha:a < 4294967296) (hb:b < 4294967296) :
 Calls Tryz.prog 166 #[.int .u32 a,.int .u32 b,.int .u32 0] w fun e w' => e = .returned (.tuple #[.int .u32 (adV a b),.int .u32 (adC a b)]) ∧ w = w':=by
 go_enter Tryz.func166,Tryz.ntmps166
 go_wp2
 go_ret2
 exact ⟨ret_int2 (by unfold adV;omega) (by unfold adC;omega),rfl⟩
theorem mul32_ok (a b:Nat) (w:World) (ha:a < 4294967296) (hb:b < 4294967296) :
 Calls Tryz.prog 165 #[.int .u32 a,.int .u32 b] w fun e w' => e = .returned (.tuple #[.int .u32 ((a * b / 4294967296:Nat):Int),.int .u32 ((a * b % 4294967296:Nat):Int)]) ∧ w = w':=by
 have h:=mul_lt32 ha hb
 go_enter Tryz.func165,Tryz.ntmps165
 go_wp2
 go_ret2
 exact ⟨ret_int2 (by simp) (by simp),rfl⟩
theorem times_fn (x c m:Nat) (a:Addr) (w:World) (hx:x < 4294967296) (hc:c < 4294967296) (hm:m < 4294967296) (hcell:w.cell? a = some (.int .u32 m)) :
 Calls Tryz.prog 164 #[.int .u32 x,.int .u32 c,.pointer (some a)] w fun e w' => e = .returned (.tuple #[.int .u32 (tmV m x c),.int .u32 (tmC m x c)]) ∧ w = w':=by
 have h:=mul_lt32 hx hm
 have h1:x * m % 4294967296 < 4294967296:=by omega
 have h2:adC (x * m % 4294967296) c ≤ 1:=by unfold adC;omega
 have h3:x * m / 4294967296 + adC (x * m % 4294967296) c < 4294967296:=by unfold adC;omega
 have HV:=Lib.hid (show adV (x * m % 4294967296) c = tmV m x c by unfold adV tmV;omega)
 have HC:=Lib.hid (show x * m / 4294967296 + adC (x * m % 4294967296) c = tmC m x c by unfold adC tmC;omega)
 go_enter Tryz.func164,Tryz.ntmps164
 go_wp2_with fail
 refine (mul32_ok x m _ hx hm).mono ?_
 rintro e w' ⟨rfl,rfl⟩
 generalize x * m / 4294967296 = p at *
 generalize x * m % 4294967296 = q at *
 go_wp2_with fail
 refine (add32_ok q c _ h1 hc).mono ?_
 rintro e w' ⟨rfl,rfl⟩
 generalize adC q c = r at *
 go_wp2
 go_ret2
 exact ⟨ret_int2 (by rw [HV.out]) (by rw [← HC.out];omega),rfl⟩
theorem plus_fn (x c:Nat) (w:World) (hx:x < 4294967296) (hc:c < 4294967296) :
 Calls Tryz.prog 209 #[.int .u32 x,.int .u32 c] w fun e w' => e = .returned (.tuple #[.int .u32 (adV x c),.int .u32 (adC x c)]) ∧ w = w':=by
 go_enter Tryz.func209,Tryz.ntmps209
 go_wp2_with fail
 refine (add32_ok x c _ hx hc).mono ?_
 rintro e w' ⟨rfl,rfl⟩
 go_wp2
 go_ret2
 exact ⟨rfl,rfl⟩
theorem up_ptr (p:Addr) (x0 x1 x2 c0 v0 c1 v1 c2 v2 c3:Int) (w:World)
 (hf:∀ W:World,Below w.heap.size w W → (Calls Tryz.prog 164 #[.int .u32 x0,.int .u32 c0,.pointer (some p)] W fun e w' => e = .returned (.tuple #[.int .u32 v0,.int .u32 c1]) ∧ W = w') ∧
  (Calls Tryz.prog 164 #[.int .u32 x1,.int .u32 c1,.pointer (some p)] W fun e w' => e = .returned (.tuple #[.int .u32 v1,.int .u32 c2]) ∧ W = w') ∧
  (Calls Tryz.prog 164 #[.int .u32 x2,.int .u32 c2,.pointer (some p)] W fun e w' => e = .returned (.tuple #[.int .u32 v2,.int .u32 c3]) ∧ W = w')) :
 Calls Tryz.prog 163 #[.agg #[.int .u32 x0,.int .u32 x1,.int .u32 x2],.int .u32 c0,.func (.func 164) #[] #[.pointer (some p)]] w fun e w' =>
  e = .returned (.tuple #[.agg #[.int .u32 v0,.int .u32 v1,.int .u32 v2],.int .u32 c3]) ∧ Below w.heap.size w w':=by
 have H:=Lib.hid hf
 clear hf
 have two:∀ a b:Obj,Below w.heap.size w ((w.alloc a).alloc b):=fun a b => ((Below.refl _ _).alloc (Nat.le_refl _) a).alloc (by simp) b
 have H2:=Lib.hid two
 clear two
 go_enter Tryz.func163,Tryz.ntmps163
 go_wp2
 refine wp_loop_rounds 4 ?_
 rw [rounds_succ]
 go_wp2_with fail
 refine (H.out _ (H2.out _ _)).1.mono ?_
 rintro e w' ⟨rfl,rfl⟩
 go_wp2_with fail
 rw [rounds_succ]
 go_wp2_with fail
 refine (H.out _ (H2.out _ _)).2.1.mono ?_
 rintro e w' ⟨rfl,rfl⟩
 go_wp2_with fail
 rw [rounds_succ]
 go_wp2_with fail
 refine (H.out _ (H2.out _ _)).2.2.mono ?_
 rintro e w' ⟨rfl,rfl⟩
 go_wp2_with fail
 rw [rounds_succ]
 go_wp2
 exact bodyPost_ret (v:=.tuple #[.agg #[.int .u32 v0,.int .u32 v1,.int .u32 v2],.int .u32 c3]) (by simp [results,Tryz.results163,go_sem]) rfl ⟨rfl,H2.out _ _⟩
theorem up_none (x0 x1 x2 c0 v0 c1 v1 c2 v2 c3:Int) (w:World)
 (hf:∀ W:World,Below w.heap.size w W → (Calls Tryz.prog 209 #[.int .u32 x0,.int .u32 c0] W fun e w' => e = .returned (.tuple #[.int .u32 v0,.int .u32 c1]) ∧ W = w') ∧
  (Calls Tryz.prog 209 #[.int .u32 x1,.int .u32 c1] W fun e w' => e = .returned (.tuple #[.int .u32 v1,.int .u32 c2]) ∧ W = w') ∧
  (Calls Tryz.prog 209 #[.int .u32 x2,.int .u32 c2] W fun e w' => e = .returned (.tuple #[.int .u32 v2,.int .u32 c3]) ∧ W = w')) :
 Calls Tryz.prog 163 #[.agg #[.int .u32 x0,.int .u32 x1,.int .u32 x2],.int .u32 c0,.func (.func 209) #[] #[]] w fun e w' =>
  e = .returned (.tuple #[.agg #[.int .u32 v0,.int .u32 v1,.int .u32 v2],.int .u32 c3]) ∧ Below w.heap.size w w':=by
 have H:=Lib.hid hf
 clear hf
 have two:∀ a b:Obj,Below w.heap.size w ((w.alloc a).alloc b):=fun a b => ((Below.refl _ _).alloc (Nat.le_refl _) a).alloc (by simp) b
 have H2:=Lib.hid two
 clear two
 go_enter Tryz.func163,Tryz.ntmps163
 go_wp2
 refine wp_loop_rounds 4 ?_
 rw [rounds_succ]
 go_wp2_with fail
 refine (H.out _ (H2.out _ _)).1.mono ?_
 rintro e w' ⟨rfl,rfl⟩
 go_wp2_with fail
 rw [rounds_succ]
 go_wp2_with fail
 refine (H.out _ (H2.out _ _)).2.1.mono ?_
 rintro e w' ⟨rfl,rfl⟩
 go_wp2_with fail
 rw [rounds_succ]
 go_wp2_with fail
 refine (H.out _ (H2.out _ _)).2.2.mono ?_
 rintro e w' ⟨rfl,rfl⟩
 go_wp2_with fail
 rw [rounds_succ]
 go_wp2
 exact bodyPost_ret (v:=.tuple #[.agg #[.int .u32 v0,.int .u32 v1,.int .u32 v2],.int .u32 c3]) (by simp [results,Tryz.results163,go_sem]) rfl ⟨rfl,H2.out _ _⟩
structure Dr where
 d0:Int
 d1:Int
 d2:Int
 d3:Int
 d4:Int
 d5:Int
 d6:Int
 s:ByteArray
structure Dr.Wf (d:Dr):Prop where
 u0:(Lit.int .i64 d.d0).wf = true
 u1:(Lit.int .i64 d.d1).wf = true
 u2:(Lit.int .i64 d.d2).wf = true
 u3:(Lit.int .i64 d.d3).wf = true
 u4:(Lit.int .i64 d.d4).wf = true
 u5:(Lit.int .i64 d.d5).wf = true
 u6:(Lit.int .i64 d.d6).wf = true
def Dr.vs (d:Dr):List Value:=[.int .i64 d.d0,.int .i64 d.d1,.int .i64 d.d2,.int .i64 d.d3,.int .i64 d.d4,.int .i64 d.d5,.int .i64 d.d6,.string d.s]
def IsDr (w:World) (v:Value) (l:List Dr):Prop:=∃ (A:Option Addr) (c:Nat),v = .slice A l.length c ∧ l.length ≤ maxLen ∧ (∀ d ∈ l,d.Wf) ∧ Rd w w.heap.size 8 A l.length (l.map Dr.vs).flatten
theorem IsDr.below {w w':World} {v:Value} {l:List Dr} (h:IsDr w v l) (hb:Below w.heap.size w w'):IsDr w' v l:=by
 obtain ⟨A,c,h1,h2,h3,h4⟩:=h
 exact ⟨A,c,h1,h2,h3,(h4.below hb).more hb.size⟩
theorem choose_list {α β:Type} (f:β → α) (p:β → Prop):∀ l:List α,(∀ a ∈ l,∃ b,a = f b ∧ p b) → ∃ m:List β,l = m.map f ∧ ∀ b ∈ m,p b
 | [],_ => ⟨[],rfl,by simp⟩
 | a :: l,h => by
  obtain ⟨b,hb,hp⟩:=h a (by simp)
  obtain ⟨m,hm,hq⟩:=choose_list f p l (fun x hx => h x (by simp [hx]))
  exact ⟨b :: m,by rw [hb,hm];rfl,fun x hx => by rcases List.mem_cons.1 hx with rfl | hx;exact hp;exact hq x hx⟩
theorem IsDr.at_ {w:World} {A:Option Addr} {n c:Nat} {l:List Dr} (h:IsDr w (.slice A n c) l) (i:Nat) (hi:i < l.length):∃ b off,A = some ⟨b,off,none⟩ ∧ b < w.heap.size ∧ ∀ j v,j < 8 → l[i].vs[j]? = some v → w.cell? ⟨b,off + (i * 8 + j),none⟩ = some v:=by
 obtain ⟨A',c',e,_,_,hr⟩:=h
 injection e with e1 e2
 subst e1
 obtain ⟨b,off,hA,hb,hc⟩:=hr.at_ (by omega)
 refine ⟨b,off,hA,hb,fun j v hj hv => hc _ _ ?_⟩
 rw [flat_get (l.map Dr.vs) (s:=8) (fun r hr => by obtain ⟨d,_,rfl⟩:=List.mem_map.1 hr;rfl) i (by simpa using hi) j hj,List.getElem_map]
 exact hv
theorem IsDr.len {w:World} {A:Option Addr} {n c:Nat} {l:List Dr} (h:IsDr w (.slice A n c) l):n = l.length:=by
 obtain ⟨A',c',e,_⟩:=h
 injection e
theorem deed_row {w:World} {r:List Value} (h:CFit Tryz.prog w 96 r):∃ d:Dr,r = d.vs ∧ d.Wf:=by
 obtain ⟨hl,hc⟩:=h.leaves 9 _ _ [3,3,3,3,3,3,3,9] (by kernel_rfl)
 have hI:=fun (i:Nat) (q:[3,3,3,3,3,3,3,9][i]? = some 3) => hc i _ q
 have key:∀ i,[3,3,3,3,3,3,3,9][i]? = some 3 → ∃ n:Int,r[i]? = some (Value.int .i64 n) ∧ (Lit.int .i64 n).wf = true:=fun i q => by
  obtain ⟨v,hv,hf⟩:=hc i _ q
  obtain ⟨n,hn,hw⟩:=hf.int Tryz.underlying3
  obtain rfl:v = _:=by simpa using hn
  exact ⟨n,hv,hw⟩
 obtain ⟨n0,h0,u0⟩:=key 0 rfl
 obtain ⟨n1,h1,u1⟩:=key 1 rfl
 obtain ⟨n2,h2,u2⟩:=key 2 rfl
 obtain ⟨n3,h3,u3⟩:=key 3 rfl
 obtain ⟨n4,h4,u4⟩:=key 4 rfl
 obtain ⟨n5,h5,u5⟩:=key 5 rfl
 obtain ⟨n6,h6,u6⟩:=key 6 rfl
 obtain ⟨v,hv,hf⟩:=hc 7 _ rfl
 obtain ⟨s,hs,_⟩:=hf.string Tryz.underlying9
 obtain rfl:v = _:=by simpa using hs
 refine ⟨⟨n0,n1,n2,n3,n4,n5,n6,s⟩,?_,⟨u0,u1,u2,u3,u4,u5,u6⟩⟩
 apply List.ext_getElem?
 intro i
 match i with
 | 0 => exact h0
 | 1 => exact h1
 | 2 => exact h2
 | 3 => exact h3
 | 4 => exact h4
 | 5 => exact h5
 | 6 => exact h6
 | 7 => exact hv
 | i + 8 => rw [List.getElem?_eq_none (by rw [hl];simp),List.getElem?_eq_none (by simp [Dr.vs])]
theorem deeds_fit {w:World} {v:Value} (h:Fit Tryz.prog w 25 v):∃ l,IsDr w v l:=by
 obtain ⟨A,n,c,rfl,hc⟩:=h.slice Tryz.underlying25
 obtain ⟨hn,hm,rows,hr,hw,hrd⟩:=hc.slice (s:=8) Tryz.underlying25 (by kernel_rfl) (by omega)
 obtain ⟨l,rfl,hl⟩:=choose_list Dr.vs Dr.Wf rows (fun r hr => deed_row (hw r hr).2)
 rw [List.length_map] at hr
 subst hr
 exact ⟨l,A,c,rfl,Nat.le_trans hn hm,hl,hrd⟩
end Go.Proofs.YtfgiehkfcoodbaaGreat
