/- A region that draws its order and only reads, in a round of a range over a function. -/
import Derived.Sort.QuietThIn
import Derived.Sort.BigQuietIn
import Derived.RangeFuncCalls
import Derived.OwnWalkIn
import Derived.Deep.Draws
import Derived.Laws.Cover1
import Derived.BigFrame
namespace Go.Proofs.Ytnpkondgpmncnaa
open Go
theorem wpIn_round {F : Fence} {n : Nat} {P : Program} {o : Oper} {a : Act} {w : World} {K : Act → World → Prop} {Q : Exit → Act → World → Prop} (l : Nat) (hd : ∀ c, o.op ≠ .defer c) (h : o.wpIn F n P a w K Q) : o.wpIn (F.inRound l) n P a w K Q := by
  refine ⟨h.1, ?_⟩
  have h2 := h.2
  rw [Oper.semAt_plain F _ _ hd] at h2
  rw [Oper.semAt_plain (F.inRound l) _ _ hd]
  generalize (execOp a.eval o).run P w = r at *
  cases r with
  | ok x w' => cases x <;> exact h2
  | halt x w' => cases x <;> exact h2
theorem wpAnyIn_round {F : Fence} {n : Nat} {P : Program} {md : Region.Mode} {ops : Array Oper} {Q : Exit → Act → World → Prop} (l : Nat) (hd : ∀ o ∈ ops.toList, ∀ c, o.op ≠ .defer c) :
    ∀ (fuel : Nat) (listed : Array Bool) (a : Act) (w : World), wpAnyIn F n P md ops Q fuel listed a w → wpAnyIn (F.inRound l) n P md ops Q fuel listed a w
  | 0, _, _, _, h => h
  | fuel + 1, listed, a, w, h => by
    refine ⟨h.1, fun i hi => ?_⟩
    have h2 := wpOpIn_mono (fun a' w' => wpAnyIn_round l hd fuel (listed.setIfInBounds i true) a' w') (h.2 i hi)
    unfold wpOpIn at *
    split
    · rename_i ho; simpa [ho] using h2
    · rename_i o ho
      simp only [ho] at h2
      split
      · rename_i hw
        simp only [hw, if_true] at h2
        exact wpIn_round l (hd o (by obtain ⟨hi, he⟩ := Array.getElem?_eq_some_iff.1 ho; rw [← he]; simp)) h2
      · rename_i hw
        simp only [hw] at h2
        exact h2
/-- One walk of the text's order serves every order. -/
theorem wpIn_region_quiet_round {F : Fence} {n : Nat} {P : Program} {id : Nat} {Q : Exit → Act → World → Prop} {a : Act} {w : World} {l : List Oper} (lp : Nat) (hro : F.round = none) (hm : P.follows .mixedOrders = true) (hB : Region.lexB .any l.toArray = true) (hd : ∀ o ∈ l, ∀ c, o.op ≠ .defer c)
    (h : wpQuietIn F n P l.toArray (fun w' => ∃ n, w' = w.drewN n) (fun a' => ∀ w', (∃ n, w' = w.drewN n) → Q .normal a' w') l a) : (Code.region id l.toArray true).wpIn (F.inRound lp) n P Q a w := by
  simp only [Region.lexB, Bool.and_eq_true] at hB
  refine wpIn_region_any hm (wpAnyIn_round lp (by simpa using hd) _ _ _ _ (wpAnyIn_of_quiet (Q := fun a' => ∀ w', (∃ n, w' = w.drewN n) → Q .normal a' w') hro (fun _ w' hw' h => h w' hw') _ _ _ _ ⟨1, rfl⟩ ?_))
  have := wpAnyQIn_lex (F := F) (n := n) (C := fun w' => ∃ n, w' = w.drewN n) (md := .any) hB.1 l 0 (Array.replicate l.length false) a (by simp) (by simpa using hB.2) (by simpa using h)
  simpa using this
/-- min of three, in such a region. -/
theorem quiet_min3 {F : Fence} {n : Nat} {P : Program} {ops : Array Oper} {C : World → Prop} {Q : Act → Prop} {rest : List Oper} {o : Oper} {a : Act} (s1 s2 s3 : Operand) (ats : Array TypeId) (ho : o.op = .call { callee := .builtin .min, args := #[s1, s2, s3], argTypes := ats }) (hg : o.guard = none)
    (x y z r : Int) (h1 : a.eval s1 = .int .i64 x) (h2 : a.eval s2 = .int .i64 y) (h3 : a.eval s3 = .int .i64 z) (hr : r = min (min x y) z) (h : wpQuietIn F n P ops C Q rest (a.put o.dst (.int .i64 r))) : wpQuietIn F n P ops C Q (o :: rest) a := by
  subst hr
  refine BigFrame.wpQuietIn_want ?_ ?_ fun K hK => ⟨_, fun W hW => ?_, hK _ h⟩
  · intro w _ f hf
    simp [Oper.about, ho, resolve, Target.leads, Sem.run_pure] at hf
  · simp [Region.wanted, hg]
  · unfold Oper.quietAtIn
    simp only [execOp, ho, resolve, invoke, builtin]
    have : (Builtin.min_ ats o.type #[.int .i64 x, .int .i64 y, .int .i64 z]).run P W = .ok (.int .i64 (min (min x y) z)) W := by
      rw [run_min_int3]
      congr 2
      split <;> split <;> omega
    simp [h1, h2, h3, this, Result.andThen, Oper.quietUponIn]
end Go.Proofs.Ytnpkondgpmncnaa
