/- book: want, within, check. -/
import Derived.Test.YtfgiehkfcoodbaaGreatM0
import Derived.Test.YtfgiehkfcoodbaaGreatM17
import Derived.Test.YtfgiehkfcoodbaaGreatM2
import Derived.Test.YtfgiehkfcoodbaaGreatM1
namespace Go.Proofs.YtfgiehkfcoodbaaGreat
open Go.RowKit
set_option linter.unusedVariables false
set_option maxRecDepth 100000
set_option maxHeartbeats 16000000
def thrown (code:Int):List PanicEntry:=[{ v:=.iface 178 (.agg #[code]),recovered:=false }]
theorem want_ok (code:Int) (w:World):Calls Tryz.prog 46 #[.bool true,code] w fun e w' => e = .returned (.tuple #[]) ∧ w = w':=by
 go_enter Tryz.func46,Tryz.ntmps46
 go_wp2
 go_end0
 exact ⟨rfl,rfl⟩
theorem want_no (code:Int) (w:World):Calls Tryz.prog 46 #[.bool false,code] w fun e w' => e = .panicked (thrown code) ∧ w = w':=by
 go_enter Tryz.func46,Tryz.ntmps46
 go_wp2
 exact ⟨rfl,rfl,rfl⟩
def RetWant (b:Bool) (code:Int) (w:World) (e:Ending) (w':World):Prop:=((b = true ∧ e = .returned (.tuple #[])) ∨ (b = false ∧ e = .panicked (thrown code))) ∧ w = w'
theorem want_if (b:Bool) (code:Int) (w:World):Calls Tryz.prog 46 #[.bool b,code] w (RetWant b code w):=by
 cases b with
 | true => exact (want_ok code w).mono fun _ _ h => ⟨.inl ⟨rfl,h.1⟩,h.2⟩
 | false => exact (want_no code w).mono fun _ _ h => ⟨.inr ⟨rfl,h.1⟩,h.2⟩
def wB (n lo hi:Int):Bool:=decide (lo ≤ n ∧ n ≤ hi)
theorem wB_iff {n lo hi:Int}:wB n lo hi = true ↔ (lo ≤ n ∧ n ≤ hi):=by unfold wB;simp
theorem within_ev (n lo hi:Int) (w:World):Calls Tryz.prog 69 #[n,lo,hi] w fun e w' => e = .returned (.bool (wB n lo hi)) ∧ w = w':=by
 by_cases h1:lo ≤ n
 ·by_cases h2:n ≤ hi
  ·have h:wB n lo hi = true:=by unfold wB;simp [h1,h2]
   rw [h]
   go_enter Tryz.func69,Tryz.ntmps69
   go_wp2
   go_ret
   exact ⟨rfl,rfl⟩
  ·have h:wB n lo hi = false:=by unfold wB;simp [h1,h2]
   rw [h]
   go_enter Tryz.func69,Tryz.ntmps69
   go_wp2
   go_ret
   exact ⟨rfl,rfl⟩
 ·have h:wB n lo hi = false:=by unfold wB;simp [h1]
  rw [h]
  go_enter Tryz.func69,Tryz.ntmps69
  go_wp2
  go_ret
  exact ⟨rfl,rfl⟩
theorem ev_eql (a0 a1 a2 a3 a4 a5 a6 a7 a8 a9 a10 a11 a12:Int) (W:World) :
 (Op.equalIn 10000 92 (.agg #[a0,a1,a2,a3,a4,a5,a6,a7,a8,a9,a10,a11,a12]) (.agg #[(),(),(),(),(),(),(),(),(),(),(),(),()])).run Tryz.prog W = .ok (a0 == 0 && (a1 == 0 && (a2 == 0 && (a3 == 0 && (a4 == 0 && (a5 == 0 && (a6 == 0 && (a7 == 0 && (a8 == 0 && (a9 == 0 && (a10 == 0 && (a11 == 0 && a12 == 0)))))))))))) W:=by
 have h:=eq_is (P:=Tryz.prog) (t:=92) [.int .i64 a0,.int .i64 a1,.int .i64 a2,.int .i64 a3,.int .i64 a4,.int .i64 a5,.int .i64 a6,.int .i64 a7,.int .i64 a8,.int .i64 a9,.int .i64 a10,.int .i64 a11,.int .i64 a12] [.int .i64 0,.int .i64 0,.int .i64 0,.int .i64 0,.int .i64 0,.int .i64 0,.int .i64 0,.int .i64 0,.int .i64 0,.int .i64 0,.int .i64 0,.int .i64 0,.int .i64 0] W (by kernel_rfl) (mkv_struct Tryz.underlying92)
 simpa [cellsEq,leafEq] using h
theorem max4_is (x y z u:Int):∃ M:Int,(∀ (P:Program) (ts:Array TypeId) (t:TypeId) (W:World),(Builtin.max_ ts t #[x,y,z,u]).run P W = .ok (.int .i64 M) W) ∧ x ≤ M ∧ y ≤ M ∧ z ≤ M ∧ u ≤ M ∧ (M = x ∨ M = y ∨ M = z ∨ M = u):=by
 refine ⟨_,fun P ts t W => by simp [Builtin.max_,Builtin.max2];rfl,?_⟩
 split <;> split <;> split <;> omega
def RetChk (P:Prop) (w:World) (e:Ending) (w':World):Prop:=((P ∧ e = .returned (.tuple #[])) ∨ (¬ P ∧ e = .panicked (thrown 5))) ∧ Below w.heap.size w w'
--CHECK
theorem check_k1 (me mo id te de fe pr ch un tg ow bp:Int) (w:World) :
 Calls Tryz.prog 48 #[.agg #[.int .i64 1,me,mo,id,te,de,fe,pr,ch,un,tg,ow,bp]] w (RetChk (0 ≤ me ∧ me ≤ 49 ∧ mo = 0 ∧ id = 0 ∧ te = 0 ∧ de = 0 ∧ fe = 0 ∧ pr = 0 ∧ ch = 0 ∧ un = 0 ∧ tg = 0 ∧ ow = 0 ∧ bp = 0) w):=by
 have hE:=ev_eql
 go_enter Tryz.func48,Tryz.ntmps48
 go_wp2_with (first | (go_at_call 69;(with_reducible refine (within_ev _ _ _ _).mono ?_);rintro e w' ⟨rfl,rfl⟩) | (go_at_call 46;(with_reducible refine (want_if _ _ _).mono ?_);rintro e w' ⟨⟨hb,rfl⟩ | ⟨hb,rfl⟩,rfl⟩ <;> simp [wB] at hb))
 clear hE
 all_goals (try simp only [wB_iff] at *)
 all_goals first
  | (go_end0;exact ⟨.inl ⟨by omega,rfl⟩,by first | exact below_a1 _ _ | exact below_a2 _ _ _ | exact below_a3 _ _ _ _⟩)
  | exact ⟨rfl,.inr ⟨fun h => by omega,rfl⟩,by first | exact below_a1 _ _ | exact below_a2 _ _ _ | exact below_a3 _ _ _ _⟩
theorem check_k3 (me mo id te de fe pr ch un tg ow bp:Int) (w:World) :
 Calls Tryz.prog 48 #[.agg #[.int .i64 3,me,mo,id,te,de,fe,pr,ch,un,tg,ow,bp]] w (RetChk (0 ≤ me ∧ me ≤ 49 ∧ 1 ≤ un ∧ un ≤ 2097151 ∧ 0 ≤ mo ∧ mo ≤ 2399 ∧ 1 ≤ id ∧ id ≤ 1048575 ∧ 0 ≤ tg ∧ tg ≤ 65535 ∧ te = 0 ∧ de = 0 ∧ fe = 0 ∧ pr = 0 ∧ ch = 0 ∧ ow = 0 ∧ bp = 0) w):=by
 have hE:=ev_eql
 go_enter Tryz.func48,Tryz.ntmps48
 go_wp2_with (first | (go_at_call 69;(with_reducible refine (within_ev _ _ _ _).mono ?_);rintro e w' ⟨rfl,rfl⟩) | (go_at_call 46;(with_reducible refine (want_if _ _ _).mono ?_);rintro e w' ⟨⟨hb,rfl⟩ | ⟨hb,rfl⟩,rfl⟩ <;> simp [wB] at hb))
 clear hE
 all_goals (try simp only [wB_iff] at *)
 all_goals first
  | (go_end0;exact ⟨.inl ⟨by omega,rfl⟩,by first | exact below_a1 _ _ | exact below_a2 _ _ _ | exact below_a3 _ _ _ _⟩)
  | exact ⟨rfl,.inr ⟨fun h => by omega,rfl⟩,by first | exact below_a1 _ _ | exact below_a2 _ _ _ | exact below_a3 _ _ _ _⟩
theorem check_k4 (me mo id te de fe pr ch un tg ow bp:Int) (w:World) :
 Calls Tryz.prog 48 #[.agg #[.int .i64 4,me,mo,id,te,de,fe,pr,ch,un,tg,ow,bp]] w (RetChk (0 ≤ me ∧ me ≤ 49 ∧ 1 ≤ id ∧ id ≤ 1048575 ∧ 0 ≤ tg ∧ tg ≤ 65535 ∧ mo = 0 ∧ te = 0 ∧ de = 0 ∧ fe = 0 ∧ pr = 0 ∧ ch = 0 ∧ un = 0 ∧ ow = 0 ∧ bp = 0) w):=by
 have hE:=ev_eql
 go_enter Tryz.func48,Tryz.ntmps48
 go_wp2_with (first | (go_at_call 69;(with_reducible refine (within_ev _ _ _ _).mono ?_);rintro e w' ⟨rfl,rfl⟩) | (go_at_call 46;(with_reducible refine (want_if _ _ _).mono ?_);rintro e w' ⟨⟨hb,rfl⟩ | ⟨hb,rfl⟩,rfl⟩ <;> simp [wB] at hb))
 clear hE
 all_goals (try simp only [wB_iff] at *)
 all_goals first
  | (go_end0;exact ⟨.inl ⟨by omega,rfl⟩,by first | exact below_a1 _ _ | exact below_a2 _ _ _ | exact below_a3 _ _ _ _⟩)
  | exact ⟨rfl,.inr ⟨fun h => by omega,rfl⟩,by first | exact below_a1 _ _ | exact below_a2 _ _ _ | exact below_a3 _ _ _ _⟩
theorem check_k5 (me mo id te de fe pr ch un tg ow bp:Int) (w:World) :
 Calls Tryz.prog 48 #[.agg #[.int .i64 5,me,mo,id,te,de,fe,pr,ch,un,tg,ow,bp]] w (RetChk (0 ≤ me ∧ me ≤ 49 ∧ 1 ≤ ow ∧ ow ≤ 1000000000 ∧ 0 ≤ bp ∧ bp ≤ 10000 ∧ mo = 0 ∧ id = 0 ∧ te = 0 ∧ de = 0 ∧ fe = 0 ∧ pr = 0 ∧ ch = 0 ∧ un = 0 ∧ tg = 0) w):=by
 have hE:=ev_eql
 go_enter Tryz.func48,Tryz.ntmps48
 go_wp2_with (first | (go_at_call 69;(with_reducible refine (within_ev _ _ _ _).mono ?_);rintro e w' ⟨rfl,rfl⟩) | (go_at_call 46;(with_reducible refine (want_if _ _ _).mono ?_);rintro e w' ⟨⟨hb,rfl⟩ | ⟨hb,rfl⟩,rfl⟩ <;> simp [wB] at hb))
 clear hE
 all_goals (try simp only [wB_iff] at *)
 all_goals first
  | (go_end0;exact ⟨.inl ⟨by omega,rfl⟩,by first | exact below_a1 _ _ | exact below_a2 _ _ _ | exact below_a3 _ _ _ _⟩)
  | exact ⟨rfl,.inr ⟨fun h => by omega,rfl⟩,by first | exact below_a1 _ _ | exact below_a2 _ _ _ | exact below_a3 _ _ _ _⟩
theorem check_k2 (me mo id te de fe pr ch un tg ow bp:Int) (w:World) :
 Calls Tryz.prog 48 #[.agg #[.int .i64 2,me,mo,id,te,de,fe,pr,ch,un,tg,ow,bp]] w (RetChk (0 ≤ me ∧ me ≤ 49 ∧ 0 ≤ de ∧ 0 ≤ fe ∧ 0 ≤ pr ∧ 0 ≤ ch ∧ 1 ≤ te ∧ te ≤ 100000000 ∧ de ≤ 100000000 ∧ fe ≤ 100000000 ∧ pr ≤ 100000000 ∧ ch ≤ 100000000 ∧ te = de + fe + pr + ch ∧ 1 ≤ un ∧ un ≤ 2097151 ∧ 0 ≤ mo ∧ mo ≤ 2399 ∧ 1 ≤ id ∧ id ≤ 1048575 ∧ 0 ≤ tg ∧ tg ≤ 65535 ∧ ow = 0 ∧ bp = 0) w):=by
 have hE:=ev_eql
 obtain ⟨M,hM,m1,m2,m3,m4,m5⟩:=max4_is de fe pr ch
 have hMx:=fun W => hM Tryz.prog #[3,3,3,3] 3 W
 clear hM
 go_enter Tryz.func48,Tryz.ntmps48
 go_wp2_with (first | (go_at_call 69;(with_reducible refine (within_ev _ _ _ _).mono ?_);rintro e w' ⟨rfl,rfl⟩) | (go_at_call 46;(with_reducible refine (want_if _ _ _).mono ?_);rintro e w' ⟨⟨hb,rfl⟩ | ⟨hb,rfl⟩,rfl⟩ <;> simp [wB] at hb))
 clear hE
 all_goals (try simp only [wB_iff] at *)
 all_goals first
  | (go_end0;exact ⟨.inl ⟨by omega,rfl⟩,by first | exact below_a1 _ _ | exact below_a2 _ _ _ | exact below_a3 _ _ _ _⟩)
  | exact ⟨rfl,.inr ⟨fun h => by omega,rfl⟩,by first | exact below_a1 _ _ | exact below_a2 _ _ _ | exact below_a3 _ _ _ _⟩
theorem check_k0 (k me mo id te de fe pr ch un tg ow bp:Int) (w:World) (h1:(k == 1) = false) (h2:(k == 2) = false) (h3:(k == 3) = false) (h4:(k == 4) = false) (h5:(k == 5) = false) :
 Calls Tryz.prog 48 #[.agg #[k,me,mo,id,te,de,fe,pr,ch,un,tg,ow,bp]] w (RetChk (False) w):=by
 have hE:=ev_eql
 go_enter Tryz.func48,Tryz.ntmps48
 go_wp2_with (first | (go_at_call 69;(with_reducible refine (within_ev _ _ _ _).mono ?_);rintro e w' ⟨rfl,rfl⟩) | (go_at_call 46;(with_reducible refine (want_if _ _ _).mono ?_);rintro e w' ⟨⟨hb,rfl⟩ | ⟨hb,rfl⟩,rfl⟩ <;> simp [wB] at hb))
 clear hE
 all_goals (try simp only [wB_iff] at *)
 all_goals first
  | (go_end0;exact ⟨.inl ⟨by omega,rfl⟩,by first | exact below_a1 _ _ | exact below_a2 _ _ _ | exact below_a3 _ _ _ _⟩)
  | exact ⟨rfl,.inr ⟨fun h => by omega,rfl⟩,by first | exact below_a1 _ _ | exact below_a2 _ _ _ | exact below_a3 _ _ _ _⟩
theorem RetChk.of {P Q:Prop} {w:World} {e:Ending} {w':World} (h:RetChk P w e w') (hPQ:P ↔ Q):RetChk Q w e w':=by
 obtain ⟨h | h,hb⟩:=h
 ·exact ⟨.inl ⟨hPQ.1 h.1,h.2⟩,hb⟩
 ·exact ⟨.inr ⟨fun q => h.1 (hPQ.2 q),h.2⟩,hb⟩
theorem check_is (k me mo id te de fe pr ch un tg ow bp:Int) (w:World) :
 Calls Tryz.prog 48 #[.agg #[k,me,mo,id,te,de,fe,pr,ch,un,tg,ow,bp]] w (RetChk (evOk k me mo id te de fe pr ch un tg ow bp) w):=by
 by_cases h1:k = 1
 ·subst h1
  exact (check_k1 me mo id te de fe pr ch un tg ow bp w).mono fun _ _ h => h.of (by simp [evOk])
 by_cases h2:k = 2
 ·subst h2
  exact (check_k2 me mo id te de fe pr ch un tg ow bp w).mono fun _ _ h => h.of (by simp [evOk])
 by_cases h3:k = 3
 ·subst h3
  exact (check_k3 me mo id te de fe pr ch un tg ow bp w).mono fun _ _ h => h.of (by simp [evOk])
 by_cases h4:k = 4
 ·subst h4
  exact (check_k4 me mo id te de fe pr ch un tg ow bp w).mono fun _ _ h => h.of (by simp [evOk])
 by_cases h5:k = 5
 ·subst h5
  exact (check_k5 me mo id te de fe pr ch un tg ow bp w).mono fun _ _ h => h.of (by simp [evOk])
 refine (check_k0 k me mo id te de fe pr ch un tg ow bp w (by simp [h1]) (by simp [h2]) (by simp [h3]) (by simp [h4]) (by simp [h5])).mono fun _ _ h => h.of ⟨False.elim,?_⟩
 rintro ⟨_,_,h | h | h | h | h⟩
 ·exact h1 h.1
 ·exact h2 h.1
 ·exact h3 h.1
 ·exact h4 h.1
 ·exact h5 h.1
--END
end Go.Proofs.YtfgiehkfcoodbaaGreat
