/- A range over a function whose iterator keeps a cell of its own between two rounds: the iterator's contract over a list that is known ahead, and the caller's law. -/
import Derived.RangeFuncNested
import Derived.RangeFuncBound
import Derived.RangeFuncCalls
import Derived.RangeFuncLeaves
namespace Go.Proofs.Ytnpkondgpmncnaa
open Go Go.RowKit
set_option linter.unusedVariables false

/-- A statement that bears whatever is stored in one block. -/
def Bears (bc : Nat) (J : Nat → World → Prop) : Prop := ∀ k W v, J k W → J k (W.setCell ⟨bc, 0, none⟩ v)

/-- The iterator hands over the pairs of L in their order, till a round says no. -/
def Hands (m : Nat) (P : Program) (g : Nat) (lb : Array Value) (Kp : World → World → Prop) (L : List (Nat × Nat)) (bc : Nat) (w : World) : Prop :=
  ∀ (l : Nat) (J Jx : Nat → World → Prop) (W : World), Below w.heap.size w W → AbidesFrom W.heap.size J → Bears bc J →
    (∀ (k : Nat) (h : k < L.length) (W1 : World), J k W1 → YieldAt Fence.wide (m - 1) P l #[.int .i64 (L[k].1 : Int), .int .i64 (L[k].2 : Int)] W1 fun e W' =>
      (e = .returned (.bool true) ∧ J (k + 1) W' ∧ Kp W1 W') ∨ (e = .returned (.bool false) ∧ Jx (k + 1) W')) →
    J 0 W →
    CallsIn Fence.wide m P g (#[.func (.yield l) #[] #[]] ++ lb) W fun e W' => (∃ v, e = .returned v) ∧ (J L.length W' ∨ ∃ k, k ≤ L.length ∧ Jx k W')

/-- How a round of the caller's may end. -/
def RoundEnds (B : Nat) (Kp : World → World → Prop) (I : Nat → World → Prop) (Ix : Code → Nat → World → Prop) (k : Nat) (W : World) : Exit → Act → World → Prop
  | .normal, _, W' => KeepsFrom B W W' ∧ Kp W W' ∧ I k W'
  | .ret, _, W' => KeepsFrom B W W' ∧ Ix .ret k W'
  | .exit id, _, W' => KeepsFrom B W W' ∧ Ix (.exit id) k W'
  | .goto t, _, W' => KeepsFrom B W W' ∧ Ix (.goto t) k W'
  | .panic _, _, _ => False
  | .outgrown, _, _ => False

theorem OwnFrom.putAt {B : Nat} {I : Nat → World → Prop} (h : OwnFrom B I) {k : Nat} {W : World} {l : Nat} {o : Obj} (o' : Obj) (hs : I k W) (hB : B ≤ l) (hl : W.heap[l]? = some o) (ho : o.isCells = false) : I k (W.putObj l o') :=
  h.putObj o' hs hB hl ho

set_option maxHeartbeats 1000000 in
theorem range_hands {n : Nat} {P : Program} {g : Operand} {ps : Array Tmp} {assign body : Code} {Q : Exit → Act → World → Prop} {a : Act} {w : World} {gf : Nat} {lb : Array Value}
    (hg : a.eval g = .func (.func gf) #[] lb) (eg : ∀ args w, (callFunc gf args).run P w = .ok (.enter gf args) w)
    {Kp : World → World → Prop} {L : List (Nat × Nat)} {bc : Nat} {w0 : World} (hseq : Hands (n - 1) P gf lb Kp L bc w0) (hKt : ∀ {A B C : World}, Kp A B → Kp B C → Kp A C)
    (hKb : ∀ (W : World) (l : Nat) (o o' : Obj), w.heap.size ≤ l → W.heap[l]? = some o → o.isCells = false → Kp W (W.putObj l o')) (hb0 : Below w0.heap.size w0 w) (hps : ps.size = 2)
    (I : Nat → World → Prop) (Ix : Code → Nat → World → Prop) (hI : OwnFrom w.heap.size I) (hIx : ∀ c, OwnFrom w.heap.size (Ix c)) (hIc : Bears bc I) (h0 : I 0 w) (a₁ : Nat → Nat → Act)
    (hassign : ∀ (l x y : Nat) (W : World) (K : Act → World → Prop), K (a₁ x y) W →
      assign.wpIn (Fence.wide.inRound l) (n - 1 - 1) P (Exit.then K (fun _ _ _ => False)) { tmps := (ps.zip #[Value.int .i64 (x : Int), Value.int .i64 (y : Int)]).foldl (fun t (p, v) => t.setIfInBounds p v) a.tmps, defers := [] } W)
    (hbody : ∀ (l k : Nat) (h : k < L.length) (W : World), I k W → body.wpIn (Fence.wide.inRound l) (n - 1 - 1) P (RoundEnds w.heap.size Kp I Ix (k + 1) W) (a₁ L[k].1 L[k].2) W)
    (hdone : ∀ (D : Nat) (W : World), w.heap.size ≤ D → I L.length W → W.heap[D]? = some (.deferred (some [])) → Q .normal { a with defers := { target := .collected D, args := #[] } :: a.defers } W)
    (hstop : ∀ (D : Nat) (c : Code) (k : Nat) (W : World), w.heap.size ≤ D → k ≤ L.length → Ix c k W → W.heap[D]? = some (.deferred (some [])) → c.wpIn Fence.wide n P Q { a with defers := { target := .collected D, args := #[] } :: a.defers } W) :
    (Code.rangeFunc g ps assign body).wpIn Fence.wide n P Q a w := by
  refine wpIn_rangeFunc fun fn hfn => ?_
  rw [show Fence.wide.round = none from rfl]
  -- the loop's record, and the block of the rounds' deferred calls
  obtain ⟨R, hR⟩ : ∃ R : LoopState → Option Code → Loop, R = fun st pe => { state := st, pending := pe, fn, tmps := a.tmps, params := ps, assign, body, defers := w.heap.size } := ⟨_, rfl⟩
  obtain ⟨D, hD⟩ : ∃ D, w.heap.size = D := ⟨_, rfl⟩
  obtain ⟨V, hV⟩ : ∃ V, (w.alloc (.deferred (some []))).alloc (.loop (R .ready none)) = V := ⟨_, rfl⟩
  have q1 : V.heap[D + 1]? = some (.loop (R .ready none)) := by
    rw [← hV, ← hD]
    have := World.alloc_heap_new (w.alloc (.deferred (some []))) (.loop (R .ready none))
    rwa [World.size_alloc] at this
  have q2 : V.heap[D]? = some (.deferred (some [])) := by
    rw [← hV, ← hD]
    exact (Below.heap_alloc _ _ _ (by simp)).trans (World.alloc_heap_new w _)
  have q3 : I 0 V := by rw [← hV]; exact hI.alloc _ (hI.alloc _ h0)
  have q4 : Below w0.heap.size w0 V := by
    rw [← hV]
    exact hb0.trans ((((Below.refl _ w).alloc (Nat.le_refl _) _).alloc (by simp) _).mono hb0.size)
  have q5 : V.heap.size = D + 2 := by rw [← hV, ← hD]; simp
  refine ⟨D + 1, [{ target := .collected D, args := #[] }], V, { target := .fn (.func gf) lb, args := #[.func (.yield (D + 1)) #[] #[]] }, V, gf, #[.func (.yield (D + 1)) #[] #[]] ++ lb, V, ?_, ?_, ?_, ?_, fun h => absurd h (by simp [Fence.wide]), ?_⟩
  · rw [← hV, hR, ← hD]; exact run_enterLoop_outer _ _ _ _ _
  · simp only [resolve, hg]
    simp [go_sem]
  · intro f' _; exact trivial
  · simp [invoke, go_sem, eg]
  rw [hD] at hI hKb hdone hstop hbody
  have hIx' : ∀ c, OwnFrom D (Ix c) := fun c => by have := hIx c; rwa [hD] at this
  clear hIx
  refine (hseq (D + 1) (fun k W => I k W ∧ W.heap[D + 1]? = some (.loop (R .ready none)) ∧ W.heap[D]? = some (.deferred (some [])))
    (fun k W => ∃ c, Ix c k W ∧ W.heap[D + 1]? = some (.loop (R .done (some c))) ∧ W.heap[D]? = some (.deferred (some []))) V q4 ?_ ?_ ?_ ⟨q3, q1, q2⟩).mono ?_
  · -- a walk's turn beyond V touches none of it
    rintro k A B row ⟨s1, s2, s3⟩ hg' hr
    have hno : ∀ r, row = some r → ∃ o : Obj, A.heap[r]? = some o ∧ o.isCells = false := fun r e => by
      obtain ⟨_, o, ho, hw⟩ := hr r e; exact ⟨o, ho, Obj.not_cells_of_walk hw⟩
    refine ⟨hI k A B row s1 hg' (fun r e => ⟨by have := (hr r e).1; omega, hno r e⟩), (hg'.block (D + 1) (Array.getElem?_eq_some_iff.1 s2).1 fun e => ?_).trans s2, (hg'.block D (Array.getElem?_eq_some_iff.1 s3).1 fun e => ?_).trans s3⟩
    · have := (hr _ e.symm).1; omega
    · have := (hr _ e.symm).1; omega
  · -- nor does a store into the iterator's cell
    rintro k W v ⟨s1, s2, s3⟩
    exact ⟨hIc k W v s1, (KeepsOthers.setCell W _ v).same _ _ s2 rfl, (KeepsOthers.setCell W _ v).same _ _ s3 rfl⟩
  · -- one round
    rintro k hk W ⟨s1, s2, s3⟩
    have hy := run_yield (P := P) (args := #[.int .i64 (L[k].1 : Int), .int .i64 (L[k].2 : Int)]) s2 (by rw [hR]; exact hps.symm)
    rw [hR] at hy
    refine ⟨fn, _, assign, body, hy, roundIn_of_wpIn hfn (hassign _ L[k].1 L[k].2 W _ ⟨_, run_beginRound s2 (by rw [hR]), ?_⟩)⟩
    obtain ⟨U, hU⟩ : ∃ U, W.putObj (D + 1) (.loop { R .ready none with state := .busy }) = U := ⟨_, rfl⟩
    rw [hU]
    have u1 : U.heap[D + 1]? = some (.loop { R .ready none with state := .busy }) := by rw [← hU]; exact World.putObj_heap_same (Array.getElem?_eq_some_iff.1 s2).1
    have u2 : U.heap[D]? = some (.deferred (some [])) := by rw [← hU]; exact (World.putObj_heap_other (by omega)).trans s3
    have u3 : Kp W U := by rw [← hU]; exact hKb _ _ _ _ (by omega) s2 rfl
    have u4 : I k U := by rw [← hU]; exact hI.putObj _ s1 (by omega) s2 rfl
    have ends : ∀ (jump : Option Code) (X : World), KeepsFrom D U X → ∃ Y, X.putObj (D + 1) (.loop (R (if jump.isNone then .ready else .done) jump)) = Y ∧ (Instr.endRound (D + 1) jump).run P X = .ok (.bool jump.isNone) Y ∧
        X.heap[D + 1]? = some (.loop { R .ready none with state := .busy }) ∧ Y.heap[D + 1]? = some (.loop (R (if jump.isNone then .ready else .done) jump)) ∧ Y.heap[D]? = some (.deferred (some [])) := fun jump X hX => by
      have x1 := hX.same _ _ (by omega) u1 rfl
      have x2 := hX.same _ _ (Nat.le_refl _) u2 rfl
      refine ⟨_, rfl, ?_, x1, World.putObj_heap_same (Array.getElem?_eq_some_iff.1 x1).1, (World.putObj_heap_other (by omega)).trans x2⟩
      have := run_endRound (P := P) jump x1
      rw [hR] at this ⊢
      exact this
    refine wpIn_mono (hbody (D + 1) k hk U u4) ?_
    rintro e a3 X hp
    have left : ∀ c : Code, KeepsFrom D U X → Ix c (k + 1) X → ∃ v w', (Instr.endRound (D + 1) (some c)).run P X = .ok v w' ∧
        ((Ending.returned v = .returned (.bool true) ∧ (I (k + 1) w' ∧ w'.heap[D + 1]? = some (.loop (R .ready none)) ∧ w'.heap[D]? = some (.deferred (some []))) ∧ Kp W w') ∨
          (Ending.returned v = .returned (.bool false) ∧ ∃ c, Ix c (k + 1) w' ∧ w'.heap[D + 1]? = some (.loop (R .done (some c))) ∧ w'.heap[D]? = some (.deferred (some [])))) := fun c hk' hi' => by
      obtain ⟨Y, hY, r1, r2, r3, r4⟩ := ends (some c) X hk'
      exact ⟨_, Y, r1, .inr ⟨rfl, c, by rw [← hY]; exact (hIx' c).putObj _ hi' (by omega) r2 rfl, r3, r4⟩⟩
    cases e with
    | normal =>
      obtain ⟨p1, p2, p3⟩ := hp
      obtain ⟨Y, hY, r1, r2, r3, r4⟩ := ends none X p1
      exact ⟨_, Y, r1, .inl ⟨rfl, ⟨by rw [← hY]; exact hI.putObj _ p3 (by omega) r2 rfl, r3, r4⟩, hKt u3 (hKt p2 (by rw [← hY]; exact hKb _ _ _ _ (by omega) r2 rfl))⟩⟩
    | ret => exact left _ hp.1 hp.2
    | exit id => exact left _ hp.1 hp.2
    | goto t => exact left _ hp.1 hp.2
    | panic ch => exact hp.elim
    | outgrown => exact hp.elim
  · -- behind the iterator
    rintro e W2 ⟨⟨v, rfl⟩, ⟨s1, s2, s3⟩ | ⟨k, hk, c, s1, s2, s3⟩⟩
    · have := run_endLoop (P := P) s2 (by rw [hR]; simp)
      exact ⟨none, _, by rw [hR] at this; exact this, hdone D _ (Nat.le_refl _) (hI.putObj _ s1 (by omega) s2 rfl) ((World.putObj_heap_other (by omega)).trans s3)⟩
    · have := run_endLoop (P := P) s2 (by rw [hR]; simp)
      exact ⟨some c, _, by rw [hR] at this; exact this, hstop D c k _ (Nat.le_refl _) hk ((hIx' c).putObj _ s1 (by omega) s2 rfl) ((World.putObj_heap_other (by omega)).trans s3)⟩
end Go.Proofs.Ytnpkondgpmncnaa
