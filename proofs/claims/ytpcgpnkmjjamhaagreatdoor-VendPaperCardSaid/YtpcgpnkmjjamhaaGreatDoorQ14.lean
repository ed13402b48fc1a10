/- A range over a function whose iterator keeps a cell of its own between two rounds: the iterator's contract over a list that is known ahead, and the caller's law -/
import Derived.RangeFuncNested
import Derived.RangeFuncBound
import Derived.RangeFuncCalls
import Derived.RangeFuncLeaves
import Derived.Sort.QuietThIn
import Derived.Sort.BigQuietIn
import Derived.OwnWalkIn
import Derived.Deep.Draws
import Derived.Laws.Cover1
import Derived.BigFrame
import Derived.Test.YtpcgpnkmjjamhaaGreatDoorQ10
import Derived.Test.YtpcgpnkmjjamhaaGreatDoorQ8
import Derived.Test.YtpcgpnkmjjamhaaGreatDoorQ9
import Derived.Test.YtpcgpnkmjjamhaaGreatDoorQ7
import Derived.Deep.RegionHeld3
import Derived.IntWalk
import Derived.Deep.DeepCutAuto
import Derived.WalkKit
import Derived.Lib.Hide
import Derived.Test.YtpcgpnkmjjamhaaGreatDoorQ1
import Derived.Test.YtpcgpnkmjjamhaaGreatDoorQ2
import Derived.Test.YtpcgpnkmjjamhaaGreatDoorShelf
import Derived.Laws.Bits64b
import Derived.OwnWalk
import Derived.Test.YtpcgpnkmjjamhaaGreatDoorQ13
import Derived.StillTailTactics
namespace Go.Proofs.YtpcgpnkmjjamhaaGreatDoor
open Go Go.RowKit
set_option linter.unusedVariables false
set_option maxRecDepth 100000

def Bears (bc : Nat) (J : Nat → World → Prop) : Prop := ∀ k W v, J k W → J k (W.setCell ⟨bc, 0, none⟩ v)

def Hands (m : Nat) (P : Program) (g : Nat) (lb : Array Value) (Kp : World → World → Prop) (L : List (Nat × Nat)) (bc : Nat) (w : World) : Prop :=
 ∀ (l : Nat) (J Jx : Nat → World → Prop) (W : World), Below w.heap.size w W → AbidesFrom W.heap.size J → Bears bc J →
   (∀ (k : Nat) (h : k < L.length) (W1 : World), J k W1 → YieldAt Fence.wide (m - 1) P l #[.int .i64 (L[k].1 : Int), .int .i64 (L[k].2 : Int)] W1 fun e W' =>
     (e = .returned (.bool true) ∧ J (k + 1) W' ∧ Kp W1 W') ∨ (e = .returned (.bool false) ∧ Jx (k + 1) W')) →
   J 0 W →
   CallsIn Fence.wide m P g (#[.func (.yield l) #[] #[]] ++ lb) W fun e W' => (∃ v, e = .returned v) ∧ (J L.length W' ∨ ∃ k, k ≤ L.length ∧ Jx k W')

def RoundEnds (B : Nat) (Kp : World → World → Prop) (I : Nat → World → Prop) (Ix : Code → Nat → World → Prop) (k : Nat) (W : World) : Exit → Act → World → Prop
 | .normal, _, W' => KeepsFrom B W W' ∧ Kp W W' ∧ I k W'
 | .ret, _, W' => KeepsFrom B W W' ∧ Ix .ret k W'
 | .exit id, _, W' => KeepsFrom B W W' ∧ Ix (.exit id) k W'
 | .goto t, _, W' => KeepsFrom B W W' ∧ Ix (.goto t) k W'
 | .panic _, _, _ => False
 | .outgrown, _, _ => False

set_option maxHeartbeats 1000000 in
theorem range_hands {n : Nat} {P : Program} {g : Operand} {ps : Array Tmp} {assign body : Code} {Q : Exit → Act → World → Prop} {a : Act} {w : World} {gf : Nat} {lb : Array Value}
   (hg : a.eval g = .func (.func gf) #[] lb) (eg : ∀ args w, (callFunc gf args).run P w = .ok (.enter gf args) w)
   {Kp : World → World → Prop} {L : List (Nat × Nat)} {bc : Nat} {w0 : World} (hseq : Hands (n - 1) P gf lb Kp L bc w0) (hKt : ∀ {A B C : World}, Kp A B → Kp B C → Kp A C)
   (hKb : ∀ (W : World) (l : Nat) (o o' : Obj), w.heap.size ≤ l → W.heap[l]? = some o → o.isCells = false → Kp W (W.putObj l o')) (hb0 : Below w0.heap.size w0 w) (hps : ps.size = 2)
   (I : Nat → World → Prop) (Ix : Code → Nat → World → Prop) (hI : OwnFrom w.heap.size I) (hIx : ∀ c, OwnFrom w.heap.size (Ix c)) (hIc : Bears bc I) (h0 : I 0 w) (a₁ : Nat → Nat → Act)
   (hassign : ∀ (l x y : Nat) (W : World) (K : Act → World → Prop), K (a₁ x y) W →
     assign.wpIn (Fence.wide.inRound l) (n - 1 - 1) P (Exit.then K (fun _ _ _ => False)) { tmps := (ps.zip #[Value.int .i64 ↑x, Value.int .i64 ↑y]).foldl (fun t (p, v) => t.setIfInBounds p v) a.tmps, defers := [] } W)
   (hbody : ∀ (l k : Nat) (h : k < L.length) (W : World), I k W → body.wpIn (Fence.wide.inRound l) (n - 1 - 1) P (RoundEnds w.heap.size Kp I Ix (k + 1) W) (a₁ L[k].1 L[k].2) W)
   (hdone : ∀ (D : Nat) (W : World), w.heap.size ≤ D → I L.length W → W.heap[D]? = some (.deferred (some [])) → Q .normal { a with defers := { target := .collected D, args := #[] } :: a.defers } W)
   (hstop : ∀ (D : Nat) (c : Code) (k : Nat) (W : World), w.heap.size ≤ D → k ≤ L.length → Ix c k W → W.heap[D]? = some (.deferred (some [])) → c.wpIn Fence.wide n P Q { a with defers := { target := .collected D, args := #[] } :: a.defers } W) :
   (Code.rangeFunc g ps assign body).wpIn Fence.wide n P Q a w := by
 refine wpIn_rangeFunc fun fn hfn => ?_
 rw [show Fence.wide.round = none from rfl]
 -- the loop's record, and the block of the rounds' deferred calls
 obtain ⟨R, hR⟩ : ∃ R : LoopState → Option Code → Loop, R = fun st pe => { state := st, pending := pe, fn, tmps := a.tmps, params := ps, assign, body, defers := w.heap.size } := ⟨_, rfl⟩
 obtain ⟨D, hD⟩ : ∃ D, w.heap.size = D := ⟨_, rfl⟩
 obtain ⟨V, hV⟩ : ∃ V, (w.alloc (.deferred (some []))).alloc (.loop (R .ready none)) = V := ⟨_, rfl⟩
 have q1 : V.heap[D + 1]? = some (.loop (R .ready none)) := by
   rw [← hV, ← hD]
   have := World.alloc_heap_new (w.alloc (.deferred (some []))) (.loop (R .ready none))
   rwa [World.size_alloc] at this
 have q2 : V.heap[D]? = some (.deferred (some [])) := by
   rw [← hV, ← hD]
   exact (Below.heap_alloc _ _ _ (by simp)).trans (World.alloc_heap_new w _)
 have q3 : I 0 V := by rw [← hV]; exact hI.alloc _ (hI.alloc _ h0)
 have q4 : Below w0.heap.size w0 V := by
   rw [← hV]
   exact hb0.trans ((((Below.refl _ w).alloc (Nat.le_refl _) _).alloc (by simp) _).mono hb0.size)
 have q5 : V.heap.size = D + 2 := by rw [← hV, ← hD]; simp
 refine ⟨D + 1, [{ target := .collected D, args := #[] }], V, { target := .fn (.func gf) lb, args := #[.func (.yield (D + 1)) #[] #[]] }, V, gf, #[.func (.yield (D + 1)) #[] #[]] ++ lb, V, ?_, ?_, ?_, ?_, fun h => absurd h (by simp [Fence.wide]), ?_⟩
 · rw [← hV, hR, ← hD]; exact run_enterLoop_outer _ _ _ _ _
 · simp only [resolve, hg]
   simp [go_sem]
 · intro f' _; exact trivial
 · simp [invoke, go_sem, eg]
 rw [hD] at hI hKb hdone hstop hbody
 have hIx' : ∀ c, OwnFrom D (Ix c) := fun c => by have := hIx c; rwa [hD] at this
 clear hIx
 refine (hseq (D + 1) (fun k W => I k W ∧ W.heap[D + 1]? = some (.loop (R .ready none)) ∧ W.heap[D]? = some (.deferred (some [])))
   (fun k W => ∃ c, Ix c k W ∧ W.heap[D + 1]? = some (.loop (R .done (some c))) ∧ W.heap[D]? = some (.deferred (some []))) V q4 ?_ ?_ ?_ ⟨q3, q1, q2⟩).mono ?_
 · -- a walk's turn beyond V touches none of it
   rintro k A B row ⟨s1, s2, s3⟩ hg' hr
   have hno : ∀ r, row = some r → ∃ o : Obj, A.heap[r]? = some o ∧ o.isCells = false := fun r e => by
     obtain ⟨_, o, ho, hw⟩ := hr r e; exact ⟨o, ho, Obj.not_cells_of_walk hw⟩
   refine ⟨hI k A B row s1 hg' (fun r e => ⟨by have := (hr r e).1; omega, hno r e⟩), (hg'.block (D + 1) (Array.getElem?_eq_some_iff.1 s2).1 fun e => ?_).trans s2, (hg'.block D (Array.getElem?_eq_some_iff.1 s3).1 fun e => ?_).trans s3⟩
   · have := (hr _ e.symm).1; omega
   · have := (hr _ e.symm).1; omega
 · -- nor does a store into the iterator's cell
   rintro k W v ⟨s1, s2, s3⟩
   exact ⟨hIc k W v s1, (KeepsOthers.setCell W _ v).same _ _ s2 rfl, (KeepsOthers.setCell W _ v).same _ _ s3 rfl⟩
 · -- one round
   rintro k hk W ⟨s1, s2, s3⟩
   have hy := run_yield (P := P) (args := #[.int .i64 (L[k].1 : Int), .int .i64 (L[k].2 : Int)]) s2 (by rw [hR]; exact hps.symm)
   rw [hR] at hy
   refine ⟨fn, _, assign, body, hy, roundIn_of_wpIn hfn (hassign _ L[k].1 L[k].2 W _ ⟨_, run_beginRound s2 (by rw [hR]), ?_⟩)⟩
   obtain ⟨U, hU⟩ : ∃ U, W.putObj (D + 1) (.loop { R .ready none with state := .busy }) = U := ⟨_, rfl⟩
   rw [hU]
   have u1 : U.heap[D + 1]? = some (.loop { R .ready none with state := .busy }) := by rw [← hU]; exact World.putObj_heap_same (Array.getElem?_eq_some_iff.1 s2).1
   have u2 : U.heap[D]? = some (.deferred (some [])) := by rw [← hU]; exact (World.putObj_heap_other (by omega)).trans s3
   have u3 : Kp W U := by rw [← hU]; exact hKb _ _ _ _ (by omega) s2 rfl
   have u4 : I k U := by rw [← hU]; exact hI.putObj _ s1 (by omega) s2 rfl
   have ends : ∀ (jump : Option Code) (X : World), KeepsFrom D U X → ∃ Y, X.putObj (D + 1) (.loop (R (if jump.isNone then .ready else .done) jump)) = Y ∧ (Instr.endRound (D + 1) jump).run P X = .ok (.bool jump.isNone) Y ∧
       X.heap[D + 1]? = some (.loop { R .ready none with state := .busy }) ∧ Y.heap[D + 1]? = some (.loop (R (if jump.isNone then .ready else .done) jump)) ∧ Y.heap[D]? = some (.deferred (some [])) := fun jump X hX => by
     have x1 := hX.same _ _ (by omega) u1 rfl
     have x2 := hX.same _ _ (Nat.le_refl _) u2 rfl
     refine ⟨_, rfl, ?_, x1, World.putObj_heap_same (Array.getElem?_eq_some_iff.1 x1).1, (World.putObj_heap_other (by omega)).trans x2⟩
     have := run_endRound (P := P) jump x1
     rw [hR] at this ⊢
     exact this
   refine wpIn_mono (hbody (D + 1) k hk U u4) ?_
   rintro e a3 X hp
   have left : ∀ c : Code, KeepsFrom D U X → Ix c (k + 1) X → ∃ v w', (Instr.endRound (D + 1) (some c)).run P X = .ok v w' ∧
       ((Ending.returned v = .returned (.bool true) ∧ (I (k + 1) w' ∧ w'.heap[D + 1]? = some (.loop (R .ready none)) ∧ w'.heap[D]? = some (.deferred (some []))) ∧ Kp W w') ∨
         (Ending.returned v = .returned (.bool false) ∧ ∃ c, Ix c (k + 1) w' ∧ w'.heap[D + 1]? = some (.loop (R .done (some c))) ∧ w'.heap[D]? = some (.deferred (some [])))) := fun c hk' hi' => by
     obtain ⟨Y, hY, r1, r2, r3, r4⟩ := ends (some c) X hk'
     exact ⟨_, Y, r1, .inr ⟨rfl, c, by rw [← hY]; exact (hIx' c).putObj _ hi' (by omega) r2 rfl, r3, r4⟩⟩
   cases e with
   | normal =>
     obtain ⟨p1, p2, p3⟩ := hp
     obtain ⟨Y, hY, r1, r2, r3, r4⟩ := ends none X p1
     exact ⟨_, Y, r1, .inl ⟨rfl, ⟨by rw [← hY]; exact hI.putObj _ p3 (by omega) r2 rfl, r3, r4⟩, hKt u3 (hKt p2 (by rw [← hY]; exact hKb _ _ _ _ (by omega) r2 rfl))⟩⟩
   | ret => exact left _ hp.1 hp.2
   | exit id => exact left _ hp.1 hp.2
   | goto t => exact left _ hp.1 hp.2
   | panic ch => exact hp.elim
   | outgrown => exact hp.elim
 · -- behind the iterator
   rintro e W2 ⟨⟨v, rfl⟩, ⟨s1, s2, s3⟩ | ⟨k, hk, c, s1, s2, s3⟩⟩
   · have := run_endLoop (P := P) s2 (by rw [hR]; simp)
     exact ⟨none, _, by rw [hR] at this; exact this, hdone D _ (Nat.le_refl _) (hI.putObj _ s1 (by omega) s2 rfl) ((World.putObj_heap_other (by omega)).trans s3)⟩
   · have := run_endLoop (P := P) s2 (by rw [hR]; simp)
     exact ⟨some c, _, by rw [hR] at this; exact this, hstop D c k _ (Nat.le_refl _) hk ((hIx' c).putObj _ s1 (by omega) s2 rfl) ((World.putObj_heap_other (by omega)).trans s3)⟩
end Go.Proofs.YtpcgpnkmjjamhaaGreatDoor
namespace Go.Proofs.YtpcgpnkmjjamhaaGreatDoor
open Go
set_option linter.unusedVariables false
set_option maxRecDepth 100000
theorem wpIn_round {F : Fence} {n : Nat} {P : Program} {o : Oper} {a : Act} {w : World} {K : Act → World → Prop} {Q : Exit → Act → World → Prop} (l : Nat) (hd : ∀ c, o.op ≠ .defer c) (h : o.wpIn F n P a w K Q) : o.wpIn (F.inRound l) n P a w K Q := by
 refine ⟨h.1, ?_⟩
 have h2 := h.2
 rw [Oper.semAt_plain F _ _ hd] at h2
 rw [Oper.semAt_plain (F.inRound l) _ _ hd]
 generalize (execOp a.eval o).run P w = r at *
 cases r with
 | ok x w' => cases x <;> exact h2
 | halt x w' => cases x <;> exact h2
theorem wpAnyIn_round {F : Fence} {n : Nat} {P : Program} {md : Region.Mode} {ops : Array Oper} {Q : Exit → Act → World → Prop} (l : Nat) (hd : ∀ o ∈ ops.toList, ∀ c, o.op ≠ .defer c) :
   ∀ (fuel : Nat) (listed : Array Bool) (a : Act) (w : World), wpAnyIn F n P md ops Q fuel listed a w → wpAnyIn (F.inRound l) n P md ops Q fuel listed a w
 | 0, _, _, _, h => h
 | fuel + 1, listed, a, w, h => by
   refine ⟨h.1, fun i hi => ?_⟩
   have h2 := wpOpIn_mono (fun a' w' => wpAnyIn_round l hd fuel (listed.setIfInBounds i true) a' w') (h.2 i hi)
   unfold wpOpIn at *
   split
   · rename_i ho; simpa [ho] using h2
   · rename_i o ho
     simp only [ho] at h2
     split
     · rename_i hw
       simp only [hw, if_true] at h2
       exact wpIn_round l (hd o (by obtain ⟨hi, he⟩ := Array.getElem?_eq_some_iff.1 ho; rw [← he]; simp)) h2
     · rename_i hw
       simp only [hw] at h2
       exact h2
theorem wpIn_region_quiet_round {F : Fence} {n : Nat} {P : Program} {id : Nat} {Q : Exit → Act → World → Prop} {a : Act} {w : World} {l : List Oper} (lp : Nat) (hro : F.round = none) (hm : P.follows .mixedOrders = true) (hB : Region.lexB .any l.toArray = true) (hd : ∀ o ∈ l, ∀ c, o.op ≠ .defer c)
   (h : wpQuietIn F n P l.toArray (fun w' => ∃ n, w' = w.drewN n) (fun a' => ∀ w', (∃ n, w' = w.drewN n) → Q .normal a' w') l a) : (Code.region id l.toArray true).wpIn (F.inRound lp) n P Q a w := by
 simp only [Region.lexB, Bool.and_eq_true] at hB
 refine wpIn_region_any hm (wpAnyIn_round lp (by simpa using hd) _ _ _ _ (wpAnyIn_of_quiet (Q := fun a' => ∀ w', (∃ n, w' = w.drewN n) → Q .normal a' w') hro (fun _ w' hw' h => h w' hw') _ _ _ _ ⟨1, rfl⟩ ?_))
 have := wpAnyQIn_lex (F := F) (n := n) (C := fun w' => ∃ n, w' = w.drewN n) (md := .any) hB.1 l 0 (Array.replicate l.length false) a (by simp) (by simpa using hB.2) (by simpa using h)
 simpa using this
theorem quiet_min3 {F : Fence} {n : Nat} {P : Program} {ops : Array Oper} {C : World → Prop} {Q : Act → Prop} {rest : List Oper} {o : Oper} {a : Act} (s1 s2 s3 : Operand) (ats : Array TypeId) (ho : o.op = .call { callee := .builtin .min, args := #[s1, s2, s3], argTypes := ats }) (hg : o.guard = none)
   (x y z r : Int) (h1 : a.eval s1 = .int .i64 x) (h2 : a.eval s2 = .int .i64 y) (h3 : a.eval s3 = .int .i64 z) (hr : r = min (min x y) z) (h : wpQuietIn F n P ops C Q rest (a.put o.dst (.int .i64 r))) : wpQuietIn F n P ops C Q (o :: rest) a := by
 subst hr
 refine BigFrame.wpQuietIn_want ?_ ?_ fun K hK => ⟨_, fun W hW => ?_, hK _ h⟩
 · intro w _ f hf
   simp [Oper.about, ho, resolve, Target.leads, Sem.run_pure] at hf
 · simp [Region.wanted, hg]
 · unfold Oper.quietAtIn
   simp only [execOp, ho, resolve, invoke, builtin]
   have : (Builtin.min_ ats o.type #[.int .i64 x, .int .i64 y, .int .i64 z]).run P W = .ok (.int .i64 (min (min x y) z)) W := by
     rw [run_min_int3]
     congr 2
     split <;> split <;> omega
   simp [h1, h2, h3, this, Result.andThen, Oper.quietUponIn]
end Go.Proofs.YtpcgpnkmjjamhaaGreatDoor
namespace Go.Proofs.YtpcgpnkmjjamhaaGreatDoor
open Go.RowKit
set_option linter.unusedVariables false
set_option maxRecDepth 100000
end Go.Proofs.YtpcgpnkmjjamhaaGreatDoor
namespace Go.Proofs.YtpcgpnkmjjamhaaGreatDoor
set_option linter.unusedVariables false
set_option maxRecDepth 100000
def evOk (k me mo id te de fe pr ch un tg ow bp : Int) : Prop :=
 0 ≤ me ∧ me ≤ 49 ∧
 ((k = 1 ∧ mo = 0 ∧ id = 0 ∧ te = 0 ∧ de = 0 ∧ fe = 0 ∧ pr = 0 ∧ ch = 0 ∧ un = 0 ∧ tg = 0 ∧ ow = 0 ∧ bp = 0) ∨
  (k = 2 ∧ 0 ≤ de ∧ 0 ≤ fe ∧ 0 ≤ pr ∧ 0 ≤ ch ∧ 1 ≤ te ∧ te ≤ 100000000 ∧ de ≤ 100000000 ∧ fe ≤ 100000000 ∧ pr ≤ 100000000 ∧ ch ≤ 100000000 ∧ te = de + fe + pr + ch ∧ 1 ≤ un ∧ un ≤ 2097151 ∧ 0 ≤ mo ∧ mo ≤ 2399 ∧ 1 ≤ id ∧ id ≤ 1048575 ∧ 0 ≤ tg ∧ tg ≤ 65535 ∧ ow = 0 ∧ bp = 0) ∨
  (k = 3 ∧ 1 ≤ un ∧ un ≤ 2097151 ∧ 0 ≤ mo ∧ mo ≤ 2399 ∧ 1 ≤ id ∧ id ≤ 1048575 ∧ 0 ≤ tg ∧ tg ≤ 65535 ∧ te = 0 ∧ de = 0 ∧ fe = 0 ∧ pr = 0 ∧ ch = 0 ∧ ow = 0 ∧ bp = 0) ∨
  (k = 4 ∧ 1 ≤ id ∧ id ≤ 1048575 ∧ 0 ≤ tg ∧ tg ≤ 65535 ∧ mo = 0 ∧ te = 0 ∧ de = 0 ∧ fe = 0 ∧ pr = 0 ∧ ch = 0 ∧ un = 0 ∧ ow = 0 ∧ bp = 0) ∨
  (k = 5 ∧ 1 ≤ ow ∧ ow ≤ 1000000000 ∧ 0 ≤ bp ∧ bp ≤ 10000 ∧ mo = 0 ∧ id = 0 ∧ te = 0 ∧ de = 0 ∧ fe = 0 ∧ pr = 0 ∧ ch = 0 ∧ un = 0 ∧ tg = 0))
theorem evOk.bd {k me mo id te de fe pr ch un tg ow bp : Int} (h : evOk k me mo id te de fe pr ch un tg ow bp) :
   (1 ≤ k ∧ k ≤ 5) ∧ (0 ≤ me ∧ me ≤ 49) ∧ (0 ≤ mo ∧ mo ≤ 2399) ∧ (0 ≤ id ∧ id ≤ 1048575) ∧ (0 ≤ te ∧ te ≤ 100000000) ∧ (0 ≤ de ∧ de ≤ 100000000) ∧ (0 ≤ fe ∧ fe ≤ 100000000) ∧ (0 ≤ pr ∧ pr ≤ 100000000) ∧ (0 ≤ ch ∧ ch ≤ 100000000) ∧ (0 ≤ un ∧ un ≤ 2097151) ∧ (0 ≤ tg ∧ tg ≤ 65535) ∧ (0 ≤ ow ∧ ow ≤ 1000000000) ∧ (0 ≤ bp ∧ bp ≤ 10000) := by
 unfold evOk at h
 omega
def WMay (H B : Nat) : Prop := (H = 0 ∧ B = 0) ∨ (1 ≤ H ∧ H ≤ 1048575 ∧ B.testBit 0 = true ∧ B < 2 ^ min H 64)
def wk (H B j : Nat) : Bool := decide (j ≤ H) && B.testBit (H - j)
def judge (H B j : Nat) : Nat := if j + 64 ≤ H then 13 else if wk H B j = true then 14 else 0
def wtake (H B j : Nat) : Nat × Nat := if H < j then (j, (B <<< (j - H)) % 2 ^ 64 ||| 1) else (H, B ||| 2 ^ (H - j))
theorem WMay.lt {H B : Nat} (h : WMay H B) : B < 2 ^ 64 := by
 rcases h with ⟨_, rfl⟩ | ⟨_, _, _, h⟩
 · decide
 · exact Nat.lt_of_lt_of_le h (Nat.pow_le_pow_right (by omega) (Nat.min_le_right _ _))
theorem WMay.le {H B : Nat} (h : WMay H B) : H ≤ 1048575 := by
 rcases h with ⟨rfl, _⟩ | ⟨_, h, _⟩ <;> omega
def lowIds (H B : Nat) : Nat → List Nat
 | 0 => []
 | t + 1 => if B.testBit t = true then (H - t) :: lowIds H B t else lowIds H B t
end Go.Proofs.YtpcgpnkmjjamhaaGreatDoor
namespace Go.Proofs.YtpcgpnkmjjamhaaGreatDoor
open Go.RowKit
set_option linter.unusedVariables false
set_option maxRecDepth 100000
theorem bl_spec : ∀ x : Nat, x < 2 ^ 64 → x < 2 ^ Lib.bitLen x ∧ (x ≠ 0 → 1 ≤ Lib.bitLen x ∧ 2 ^ (Lib.bitLen x - 1) ≤ x) := by
 intro x
 induction x using Nat.strongRecOn with
 | ind x ih =>
   intro hx
   by_cases h0 : x = 0
   · subst h0; exact ⟨by decide, fun h => absurd rfl h⟩
   · obtain ⟨h1, h2⟩ := ih (x / 2) (by omega) (by omega)
     rw [Lib.bitLen_half x h0 hx]
     refine ⟨?_, fun _ => ⟨by omega, ?_⟩⟩
     · rw [Nat.add_comm, Nat.pow_succ]; omega
     · by_cases h3 : x / 2 = 0
       · obtain rfl : x = 1 := by omega
         decide
       · obtain ⟨h4, h5⟩ := h2 h3
         rw [show 1 + Lib.bitLen (x / 2) - 1 = (Lib.bitLen (x / 2) - 1) + 1 by omega, Nat.pow_succ]; omega
theorem bl_le {x k : Nat} (hx : x < 2 ^ 64) : Lib.bitLen x ≤ k ↔ x < 2 ^ k := by
 obtain ⟨h1, h2⟩ := bl_spec x hx
 constructor
 · intro h; exact Nat.lt_of_lt_of_le h1 (Nat.pow_le_pow_right (by omega) h)
 · intro h
   by_cases h0 : x = 0
   · subst h0; exact Nat.zero_le _
   · obtain ⟨h3, h4⟩ := h2 h0
     have : ¬ k < Lib.bitLen x := fun hk => by
       have := Nat.pow_le_pow_right (n := 2) (by omega) (show k ≤ Lib.bitLen x - 1 by omega)
       omega
     omega
def wmayB (h : Int) (b : Nat) : Bool := if h < 1 then h == 0 && (b : Int) == 0 else if h ≤ 1048575 then if b % 2 = 1 then decide ((Lib.bitLen b : Int) ≤ min h 64) else false else false
theorem and_one (b : Nat) (hb : b < 2 ^ 64) : bits .and .u64 (b : Int) 1 = ((b % 2 : Nat) : Int) := by
 have := bits_and_u64_nat b 1 (by omega) (by omega)
 rw [Nat.and_one_is_mod] at this
 exact this
theorem shr_cast (B k : Nat) : (B : Int) / 2 ^ k = ((B / 2 ^ k : Nat) : Int) := by rw [Int.natCast_ediv, Int.natCast_pow]; rfl
theorem shr_bit {B k : Nat} {b : Bool} (hB : B < 2 ^ 64) (h : B.testBit k = b) : bits .and .u64 ((B : Int) / 2 ^ k) 1 = if b then 1 else 0 := by
 rw [shr_cast, and_one _ (Nat.lt_of_le_of_lt (Nat.div_le_self _ _) hB)]
 rw [Nat.testBit_eq_decide_div_mod_eq] at h
 subst h
 rcases Nat.mod_two_eq_zero_or_one (B / 2 ^ k) with h1 | h1 <;> rw [h1] <;> rfl
end Go.Proofs.YtpcgpnkmjjamhaaGreatDoor
namespace Go.Proofs.YtpcgpnkmjjamhaaGreatDoor
set_option linter.unusedVariables false
set_option maxRecDepth 100000
def dec (n : Nat) : List Nat := if n < 10 then [n] else dec (n / 10) ++ [n % 10]
termination_by n
decreasing_by omega
def val10 (l : List Nat) : Nat := l.foldl (fun n d => n * 10 + d) 0
theorem dec_small {n : Nat} (h : n < 10) : dec n = [n] := by rw [dec, if_pos h]
theorem dec_big {n : Nat} (h : ¬ n < 10) : dec n = dec (n / 10) ++ [n % 10] := by rw [dec, if_neg h]
theorem val10_snoc (l : List Nat) (d : Nat) : val10 (l ++ [d]) = val10 l * 10 + d := by simp [val10]
theorem val10_dec (n : Nat) : val10 (dec n) = n := by
 induction n using Nat.strongRecOn with
 | ind n ih =>
   by_cases h : n < 10
   · rw [dec_small h]; simp [val10]
   · rw [dec_big h, val10_snoc, ih (n / 10) (by omega)]; omega
theorem dec_le (n : Nat) : ∀ d ∈ dec n, d ≤ 9 := by
 induction n using Nat.strongRecOn with
 | ind n ih =>
   by_cases h : n < 10
   · rw [dec_small h]; intro d hd; simp at hd; omega
   · rw [dec_big h]
     intro d hd
     rcases List.mem_append.1 hd with h1 | h1
     · exact ih (n / 10) (by omega) d h1
     · simp at h1; omega
theorem dec_pos (n : Nat) : 0 < (dec n).length := by
 by_cases h : n < 10
 · rw [dec_small h]; simp
 · rw [dec_big h]; simp
theorem dec_len (n : Nat) : ∀ k, n < 10 ^ k → 0 < k → (dec n).length ≤ k := by
 induction n using Nat.strongRecOn with
 | ind n ih =>
   intro k hk h0
   by_cases h : n < 10
   · rw [dec_small h]; simp; omega
   · rw [dec_big h]
     obtain ⟨j, rfl⟩ : ∃ j, k = j + 1 := ⟨k - 1, by omega⟩
     rw [Nat.pow_succ] at hk
     have hj : 0 < j := by
       rcases Nat.eq_zero_or_pos j with rfl | hj
       · simp at hk; omega
       · exact hj
     have := ih (n / 10) (by omega) j (by omega) hj
     simp; omega
theorem val10_from (l : List Nat) : ∀ a : Nat, l.foldl (fun n d => n * 10 + d) a = a * 10 ^ l.length + val10 l := by
 induction l with
 | nil => intro a; simp [val10]
 | cons d l ih =>
   intro a
   have h2 : val10 (d :: l) = d * 10 ^ l.length + val10 l := by
     show List.foldl _ _ l = _
     rw [ih (0 * 10 + d)]; simp
   rw [List.foldl_cons, ih, h2, List.length_cons, Nat.pow_succ, Nat.add_mul, Nat.mul_assoc, Nat.mul_comm 10, Nat.add_assoc]
theorem val10_cons (d : Nat) (l : List Nat) : val10 (d :: l) = d * 10 ^ l.length + val10 l := by
 show List.foldl _ _ l = _
 rw [val10_from l (0 * 10 + d)]; simp
theorem val10_append (a b : List Nat) : val10 (a ++ b) = val10 a * 10 ^ b.length + val10 b := by
 show List.foldl _ _ (a ++ b) = _
 rw [List.foldl_append]
 exact val10_from b _
theorem val10_lt {l : List Nat} (h : ∀ d ∈ l, d ≤ 9) : val10 l < 10 ^ l.length := by
 induction l with
 | nil => simp [val10]
 | cons d l ih =>
   have h1 := ih (fun x hx => h x (List.mem_cons_of_mem _ hx))
   have h2 := h d (List.mem_cons_self ..)
   rw [val10_cons, List.length_cons, Nat.pow_succ]
   have : d * 10 ^ l.length ≤ 9 * 10 ^ l.length := Nat.mul_le_mul_right _ h2
   omega
theorem val10_zeros (k : Nat) (l : List Nat) : val10 (List.replicate k 0 ++ l) = val10 l := by
 induction k with
 | zero => simp
 | succ k ih => rw [List.replicate_succ, List.cons_append, val10_cons, ih]; omega
def pad (k n : Nat) : List Nat := List.replicate (k - (dec n).length) 0 ++ dec n
theorem pad_len {k n : Nat} (h : n < 10 ^ k) (h0 : 0 < k) : (pad k n).length = k := by
 have := dec_len n k h h0
 unfold pad; simp; omega
theorem pad_le (k n : Nat) : ∀ d ∈ pad k n, d ≤ 9 := by
 intro d hd
 rcases List.mem_append.1 hd with h | h
 · have := List.eq_of_mem_replicate h; omega
 · exact dec_le n d h
theorem val10_pad (k n : Nat) : val10 (pad k n) = n := by unfold pad; rw [val10_zeros, val10_dec]
end Go.Proofs.YtpcgpnkmjjamhaaGreatDoor
namespace Go.Proofs.YtpcgpnkmjjamhaaGreatDoor
open Go.RowKit Go.Maps Go.ChangeShapes Go.WideShapes
set_option linter.unusedVariables false
set_option maxRecDepth 100000
def issL (l : List Pr) (x y z d : Int) : List Pr := if look l (x, y, z) = none then l ++ [(x, y, z, d)] else l
def issT (l : List Pr) (x y z d : Int) : Int := (look l (x, y, z)).getD d
theorem issL_ok {l : List Pr} {x y z d : Int} (h : OOk l) (hk : mayK (x, y, z)) (hd1 : 0 ≤ d) (hd2 : d ≤ 65535) (h5 : l.length < 500) : OOk (issL l x y z d) := by
 unfold issL
 by_cases g : look l (x, y, z) = none
 · rw [if_pos g]; exact ook_snoc h ⟨hk, hd1, hd2⟩ h5 g
 · rw [if_neg g]; exact h
theorem issL_len (l : List Pr) (x y z d : Int) : l.length ≤ (issL l x y z d).length ∧ (issL l x y z d).length ≤ l.length + 1 := by
 unfold issL; split <;> simp
theorem issL_look (l : List Pr) (x y z d : Int) (k : Int × Int × Int) : look (issL l x y z d) k = if k = (x, y, z) then some (issT l x y z d) else look l k := by
 unfold issL issT
 by_cases e : k = (x, y, z)
 · subst e
   rw [if_pos rfl]
   cases h : look l (x, y, z) with
   | none => rw [if_pos rfl, look_snoc, h, if_pos (show keyP (x, y, z, d) = (x, y, z) from rfl)]; rfl
   | some t => rw [if_neg (by simp), h]; rfl
 · rw [if_neg e]
   split
   · rw [look_snoc, if_neg (show ¬ keyP (x, y, z, d) = k from fun h => e h.symm), Option.or_none]
   · rfl
theorem ook_wf {l : List Pr} (h : OOk l) : ∀ p ∈ l, wfP p := fun p hp => by
 obtain ⟨⟨h1, h2, h3, h4, h5, h6⟩, h7, h8⟩ := h.2.1 p hp
 unfold keyP at *
 dsimp only at *
 exact ⟨⟨WalkArith.wf_i64 (by omega), WalkArith.wf_i64 (by omega), WalkArith.wf_i64 (by omega)⟩, WalkArith.wf_i64 (by omega)⟩
theorem issT_bd {l : List Pr} {x y z d : Int} (h : OOk l) (hd1 : 0 ≤ d) (hd2 : d ≤ 65535) : 0 ≤ issT l x y z d ∧ issT l x y z d ≤ 65535 := by
 unfold issT
 cases hl : look l (x, y, z) with
 | none => exact ⟨hd1, hd2⟩
 | some t =>
   obtain ⟨p, hp, _, rfl⟩ := look_some_mem hl
   exact (h.2.1 p hp).2
theorem issue_ok (v : Value) (l l2 : List Pr) (x y z d t : Int) (w : World) (hv : IsPs w v l) (hl : OOk l) (hk : mayK (x, y, z)) (hw : wf3 x y z) (hd1 : 0 ≤ d) (hd2 : d ≤ 65535) (h5 : l.length < 500) (hl2 : Hid (issL l x y z d = l2)) (ht : Hid (issT l x y z d = t)) :
   Calls Tryz.prog 72 #[.agg #[v], .int .i64 x, .int .i64 y, .int .i64 z, .int .i64 d] w (RetIss l2 t w) := by
 rw [← hl2.out, ← ht.out]
 unfold issL issT
 cases h : look l (x, y, z) with
 | none => rw [if_pos rfl]; exact issue_new v l x y z d w hv hl hk hw hd1 hd2 h h5
 | some t => rw [if_neg (by simp)]; exact issue_had v l x y z d t w hv hl hk hw hd1 hd2 h
end Go.Proofs.YtpcgpnkmjjamhaaGreatDoor
