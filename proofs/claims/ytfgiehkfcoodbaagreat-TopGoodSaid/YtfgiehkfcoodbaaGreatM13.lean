/- tariff.Bill: line by line. -/
import Derived.Test.YtfgiehkfcoodbaaGreatM0
import Derived.Test.YtfgiehkfcoodbaaGreatM12
import Derived.Test.YtfgiehkfcoodbaaGreatM2
import Derived.Test.YtfgiehkfcoodbaaGreatM7
import Derived.Test.YtfgiehkfcoodbaaGreatM10
import Derived.Maps.AppendAt
namespace Go.Proofs.YtfgiehkfcoodbaaGreat
open Go Go.RowKit Go.Shelf
set_option linter.unusedVariables false
set_option maxRecDepth 100000
set_option maxHeartbeats 16000000
attribute [local go_sem] Oper.semAt_some
def lns (l:List (Nat × Nat)):List Value:=l.flatMap fun (p:Nat × Nat) => [Value.int .i64 ↑p.1,Value.int .i64 ↑p.2,Value.int .i64 ((p.1 * p.2:Nat):Int)]
structure Ask (l:List (Nat × Nat)) (f n:Nat):Prop where
 tariff:TOk l
 most:n ≤ 2097151
 sum:f + n ≤ 10000000
theorem kept_box {W W':World} {row:Option Nat} {B:Nat} {t:TypeId} {v:Value} (h:Boxed W B t v) (hg:W.grownBy W' row) (hr:∀ r,row = some r → ∃ o:Obj,W.heap[r]? = some o ∧ o.isCells = false):Boxed W' B t v :=
 h.kept hg fun e => by obtain ⟨o,ho,hc⟩:=hr B e.symm;rw [show W.heap[B]? = _ from h] at ho;cases ho;cases hc
theorem Kp2.grown {n₀ bf:Nat} {A B:World} {row:Option Nat} (hg:A.grownBy B row) (hn:n₀ ≤ A.heap.size) (hb:bf < A.heap.size) (hr:∀ r,row = some r → n₀ ≤ r ∧ r ≠ bf ∧ ∃ cs t,A.heap[r]? = some (Obj.cells cs t (0,0)) ∧ t ≠ 209):Kp2 n₀ bf A B :=
 ⟨(Below.refl n₀ A).grown hg hn (fun k e => (hr k e).1),hg.block bf hb (fun e => (hr bf e.symm).2.1 rfl),fun b cs hc => by
   refine (hg.block b (Array.getElem?_eq_some_iff.1 hc).1 (fun e => ?_)).trans hc
   obtain ⟨_,_,cs',t,h1,h2⟩:=hr b e.symm
   rw [hc] at h1
   cases h1
   exact h2 rfl⟩
theorem asked_ok (v:Value) (l:List (Nat × Nat)) (f n:Nat) (w:World) (hv:IsDs w v l) (ha:Ask l f n) :
 Calls Tryz.prog 82 #[v,f,n] w fun e w' => e = .returned (.int .i64 0) ∧ Below w.heap.size w w':=by
 obtain ⟨hl,h1,h2⟩:=ha
 have f0:¬ (f:Int) < 0:=by omega
 have f1:¬ (10000000:Int) < (f:Int):=by omega
 have n0:¬ (n:Int) < 0:=by omega
 have n1:¬ (2097151:Int) < (n:Int):=by omega
 have s1:¬ (10000000:Int) < (f:Int) + (n:Int):=by omega
 go_enter Tryz.func82,Tryz.ntmps82
 go_wp2_with fail
 refine (tcheck_ok v l w hv hl).mono ?_
 rintro e w' ⟨rfl,hb⟩
 go_wp2
 go_ret
 exact ⟨rfl,hb⟩
end Go.Proofs.YtfgiehkfcoodbaaGreat
