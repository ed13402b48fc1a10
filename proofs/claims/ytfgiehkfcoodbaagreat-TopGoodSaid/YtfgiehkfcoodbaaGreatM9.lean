/- A range over a function whose iterator keeps a cell of its own between two rounds: the iterator's contract over a list that is known ahead, and the caller's law -/
import Derived.Test.YtfgiehkfcoodbaaGreatM0
import Derived.RangeFuncNested
import Derived.RangeFuncBound
import Derived.RangeFuncCalls
import Derived.RangeFuncLeaves
import Derived.Sort.QuietThIn
import Derived.Sort.BigQuietIn
import Derived.OwnWalkIn
import Derived.Deep.Draws
import Derived.Laws.Cover1
import Derived.BigFrame
import Derived.Test.YtfgiehkfcoodbaaGreatM7
import Derived.Laws.OwnMore
import Derived.Lib.OthersKept
import Derived.Test.YtfgiehkfcoodbaaGreatM2
import Derived.Test.YtfgiehkfcoodbaaGreatProg
import Derived.WalkKit
namespace Go.Proofs.YtfgiehkfcoodbaaGreat
open Go Go.RowKit
set_option linter.unusedVariables false
set_option maxRecDepth 100000
set_option maxHeartbeats 16000000
def Bears (bc:Nat) (J:Nat → World → Prop):Prop:=∀ k W v,J k W → J k (W.setCell ⟨bc,0,none⟩ v)
def Hands (m:Nat) (P:Program) (g:Nat) (lb:Array Value) (Kp:World → World → Prop) (L:List (Nat × Nat)) (bc:Nat) (w:World):Prop :=
 ∀ (l:Nat) (J Jx:Nat → World → Prop) (W:World),Below w.heap.size w W → AbidesFrom W.heap.size J → Bears bc J →
  (∀ (k:Nat) (h:k < L.length) (W1:World),J k W1 → YieldAt Fence.wide (m - 1) P l #[.int .i64 (L[k].1:Int),.int .i64 (L[k].2:Int)] W1 fun e W' =>
   (e = .returned (.bool true) ∧ J (k + 1) W' ∧ Kp W1 W') ∨ (e = .returned (.bool false) ∧ Jx (k + 1) W')) →
  J 0 W →
  CallsIn Fence.wide m P g (#[.func (.yield l) #[] #[]] ++ lb) W fun e W' => (∃ v,e = .returned v) ∧ (J L.length W' ∨ ∃ k,k ≤ L.length ∧ Jx k W')
def RoundEnds (B:Nat) (Kp:World → World → Prop) (I:Nat → World → Prop) (Ix:Code → Nat → World → Prop) (k:Nat) (W:World):Exit → Act → World → Prop
 | .normal,_,W' => KeepsFrom B W W' ∧ Kp W W' ∧ I k W'
 | .ret,_,W' => KeepsFrom B W W' ∧ Ix .ret k W'
 | .exit id,_,W' => KeepsFrom B W W' ∧ Ix (.exit id) k W'
 | .goto t,_,W' => KeepsFrom B W W' ∧ Ix (.goto t) k W'
 | .panic _,_,_ => False
 | .outgrown,_,_ => False
theorem range_hands {n:Nat} {P:Program} {g:Operand} {ps:Array Tmp} {assign body:Code} {Q:Exit → Act → World → Prop} {a:Act} {w:World} {gf:Nat} {lb:Array Value}
 (hg:a.eval g = .func (.func gf) #[] lb) (eg:∀ args w,(callFunc gf args).run P w = .ok (.enter gf args) w)
 {Kp:World → World → Prop} {L:List (Nat × Nat)} {bc:Nat} {w0:World} (hseq:Hands (n - 1) P gf lb Kp L bc w0) (hKt:∀ {A B C:World},Kp A B → Kp B C → Kp A C)
 (hKb:∀ (W:World) (l:Nat) (o o':Obj),w.heap.size ≤ l → W.heap[l]? = some o → o.isCells = false → Kp W (W.putObj l o')) (hb0:Below w0.heap.size w0 w) (hps:ps.size = 2)
 (I:Nat → World → Prop) (Ix:Code → Nat → World → Prop) (hI:OwnFrom w.heap.size I) (hIx:∀ c,OwnFrom w.heap.size (Ix c)) (hIc:Bears bc I) (h0:I 0 w) (a₁:Nat → Nat → Act)
 (hassign:∀ (l x y:Nat) (W:World) (K:Act → World → Prop),K (a₁ x y) W →
  assign.wpIn (Fence.wide.inRound l) (n - 1 - 1) P (Exit.then K (fun _ _ _ => False)) { tmps:=(ps.zip #[Value.int .i64 ↑x,Value.int .i64 ↑y]).foldl (fun t (p,v) => t.setIfInBounds p v) a.tmps,defers:=[] } W)
 (hbody:∀ (l k:Nat) (h:k < L.length) (W:World),I k W → body.wpIn (Fence.wide.inRound l) (n - 1 - 1) P (RoundEnds w.heap.size Kp I Ix (k + 1) W) (a₁ L[k].1 L[k].2) W)
 (hdone:∀ (D:Nat) (W:World),w.heap.size ≤ D → I L.length W → W.heap[D]? = some (.deferred (some [])) → Q .normal { a with defers:={ target:=.collected D,args:=#[] } :: a.defers } W)
 (hstop:∀ (D:Nat) (c:Code) (k:Nat) (W:World),w.heap.size ≤ D → k ≤ L.length → Ix c k W → W.heap[D]? = some (.deferred (some [])) → c.wpIn Fence.wide n P Q { a with defers:={ target:=.collected D,args:=#[] } :: a.defers } W) :
 (Code.rangeFunc g ps assign body).wpIn Fence.wide n P Q a w:=by
 refine wpIn_rangeFunc fun fn hfn => ?_
 rw [show Fence.wide.round = none from rfl]
 -- the loop's record, and the block of the rounds' deferred calls
 obtain ⟨R,hR⟩:∃ R:LoopState → Option Code → Loop,R = fun st pe => { state:=st,pending:=pe,fn,tmps:=a.tmps,params:=ps,assign,body,defers:=w.heap.size }:=⟨_,rfl⟩
 obtain ⟨D,hD⟩:∃ D,w.heap.size = D:=⟨_,rfl⟩
 obtain ⟨V,hV⟩:∃ V,(w.alloc (.deferred (some []))).alloc (.loop (R .ready none)) = V:=⟨_,rfl⟩
 have q1:V.heap[D + 1]? = some (.loop (R .ready none)):=by
  rw [← hV,← hD]
  have:=World.alloc_heap_new (w.alloc (.deferred (some []))) (.loop (R .ready none))
  rwa [World.size_alloc] at this
 have q2:V.heap[D]? = some (.deferred (some [])):=by
  rw [← hV,← hD]
  exact (Below.heap_alloc _ _ _ (by simp)).trans (World.alloc_heap_new w _)
 have q3:I 0 V:=by rw [← hV];exact hI.alloc _ (hI.alloc _ h0)
 have q4:Below w0.heap.size w0 V:=by
  rw [← hV]
  exact hb0.trans ((((Below.refl _ w).alloc (Nat.le_refl _) _).alloc (by simp) _).mono hb0.size)
 have q5:V.heap.size = D + 2:=by rw [← hV,← hD];simp
 refine ⟨D + 1,[{ target:=.collected D,args:=#[] }],V,{ target:=.fn (.func gf) lb,args:=#[.func (.yield (D + 1)) #[] #[]] },V,gf,#[.func (.yield (D + 1)) #[] #[]] ++ lb,V,?_,?_,?_,?_,fun h => absurd h (by simp [Fence.wide]),?_⟩
 ·rw [← hV,hR,← hD];exact run_enterLoop_outer _ _ _ _ _
 ·simp only [resolve,hg]
  simp [go_sem]
 ·intro f' _;exact trivial
 ·simp [invoke,go_sem,eg]
 rw [hD] at hI hKb hdone hstop hbody
 have hIx':∀ c,OwnFrom D (Ix c):=fun c => by have:=hIx c;rwa [hD] at this
 clear hIx
 refine (hseq (D + 1) (fun k W => I k W ∧ W.heap[D + 1]? = some (.loop (R .ready none)) ∧ W.heap[D]? = some (.deferred (some [])))
  (fun k W => ∃ c,Ix c k W ∧ W.heap[D + 1]? = some (.loop (R .done (some c))) ∧ W.heap[D]? = some (.deferred (some []))) V q4 ?_ ?_ ?_ ⟨q3,q1,q2⟩).mono ?_
 ·-- a walk's turn beyond V touches none of it
  rintro k A B row ⟨s1,s2,s3⟩ hg' hr
  have hno:∀ r,row = some r → ∃ o:Obj,A.heap[r]? = some o ∧ o.isCells = false:=fun r e => by
   obtain ⟨_,o,ho,hw⟩:=hr r e;exact ⟨o,ho,Obj.not_cells_of_walk hw⟩
  refine ⟨hI k A B row s1 hg' (fun r e => ⟨by have:=(hr r e).1;omega,hno r e⟩),(hg'.block (D + 1) (Array.getElem?_eq_some_iff.1 s2).1 fun e => ?_).trans s2,(hg'.block D (Array.getElem?_eq_some_iff.1 s3).1 fun e => ?_).trans s3⟩
  ·have:=(hr _ e.symm).1;omega
  ·have:=(hr _ e.symm).1;omega
 ·-- nor does a store into the iterator's cell
  rintro k W v ⟨s1,s2,s3⟩
  exact ⟨hIc k W v s1,(KeepsOthers.setCell W _ v).same _ _ s2 rfl,(KeepsOthers.setCell W _ v).same _ _ s3 rfl⟩
 ·-- one round
  rintro k hk W ⟨s1,s2,s3⟩
  have hy:=run_yield (P:=P) (args:=#[.int .i64 (L[k].1:Int),.int .i64 (L[k].2:Int)]) s2 (by rw [hR];exact hps.symm)
  rw [hR] at hy
  refine ⟨fn,_,assign,body,hy,roundIn_of_wpIn hfn (hassign _ L[k].1 L[k].2 W _ ⟨_,run_beginRound s2 (by rw [hR]),?_⟩)⟩
  obtain ⟨U,hU⟩:∃ U,W.putObj (D + 1) (.loop { R .ready none with state:=.busy }) = U:=⟨_,rfl⟩
  rw [hU]
  have u1:U.heap[D + 1]? = some (.loop { R .ready none with state:=.busy }):=by rw [← hU];exact World.putObj_heap_same (Array.getElem?_eq_some_iff.1 s2).1
  have u2:U.heap[D]? = some (.deferred (some [])):=by rw [← hU];exact (World.putObj_heap_other (by omega)).trans s3
  have u3:Kp W U:=by rw [← hU];exact hKb _ _ _ _ (by omega) s2 rfl
  have u4:I k U:=by rw [← hU];exact hI.putObj _ s1 (by omega) s2 rfl
  have ends:∀ (jump:Option Code) (X:World),KeepsFrom D U X → ∃ Y,X.putObj (D + 1) (.loop (R (if jump.isNone then .ready else .done) jump)) = Y ∧ (Instr.endRound (D + 1) jump).run P X = .ok (.bool jump.isNone) Y ∧
   X.heap[D + 1]? = some (.loop { R .ready none with state:=.busy }) ∧ Y.heap[D + 1]? = some (.loop (R (if jump.isNone then .ready else .done) jump)) ∧ Y.heap[D]? = some (.deferred (some [])):=fun jump X hX => by
   have x1:=hX.same _ _ (by omega) u1 rfl
   have x2:=hX.same _ _ (Nat.le_refl _) u2 rfl
   refine ⟨_,rfl,?_,x1,World.putObj_heap_same (Array.getElem?_eq_some_iff.1 x1).1,(World.putObj_heap_other (by omega)).trans x2⟩
   have:=run_endRound (P:=P) jump x1
   rw [hR] at this ⊢
   exact this
  refine wpIn_mono (hbody (D + 1) k hk U u4) ?_
  rintro e a3 X hp
  have left:∀ c:Code,KeepsFrom D U X → Ix c (k + 1) X → ∃ v w',(Instr.endRound (D + 1) (some c)).run P X = .ok v w' ∧
   ((Ending.returned v = .returned (.bool true) ∧ (I (k + 1) w' ∧ w'.heap[D + 1]? = some (.loop (R .ready none)) ∧ w'.heap[D]? = some (.deferred (some []))) ∧ Kp W w') ∨
     (Ending.returned v = .returned (.bool false) ∧ ∃ c,Ix c (k + 1) w' ∧ w'.heap[D + 1]? = some (.loop (R .done (some c))) ∧ w'.heap[D]? = some (.deferred (some [])))):=fun c hk' hi' => by
   obtain ⟨Y,hY,r1,r2,r3,r4⟩:=ends (some c) X hk'
   exact ⟨_,Y,r1,.inr ⟨rfl,c,by rw [← hY];exact (hIx' c).putObj _ hi' (by omega) r2 rfl,r3,r4⟩⟩
  cases e with
  | normal =>
   obtain ⟨p1,p2,p3⟩:=hp
   obtain ⟨Y,hY,r1,r2,r3,r4⟩:=ends none X p1
   exact ⟨_,Y,r1,.inl ⟨rfl,⟨by rw [← hY];exact hI.putObj _ p3 (by omega) r2 rfl,r3,r4⟩,hKt u3 (hKt p2 (by rw [← hY];exact hKb _ _ _ _ (by omega) r2 rfl))⟩⟩
  | ret => exact left _ hp.1 hp.2
  | exit id => exact left _ hp.1 hp.2
  | goto t => exact left _ hp.1 hp.2
  | panic ch => exact hp.elim
  | outgrown => exact hp.elim
 ·-- behind the iterator
  rintro e W2 ⟨⟨v,rfl⟩,⟨s1,s2,s3⟩ | ⟨k,hk,c,s1,s2,s3⟩⟩
  ·have:=run_endLoop (P:=P) s2 (by rw [hR];simp)
   exact ⟨none,_,by rw [hR] at this;exact this,hdone D _ (Nat.le_refl _) (hI.putObj _ s1 (by omega) s2 rfl) ((World.putObj_heap_other (by omega)).trans s3)⟩
  ·have:=run_endLoop (P:=P) s2 (by rw [hR];simp)
   exact ⟨some c,_,by rw [hR] at this;exact this,hstop D c k _ (Nat.le_refl _) hk ((hIx' c).putObj _ s1 (by omega) s2 rfl) ((World.putObj_heap_other (by omega)).trans s3)⟩
end Go.Proofs.YtfgiehkfcoodbaaGreat
namespace Go.Proofs.YtfgiehkfcoodbaaGreat
open Go
set_option linter.unusedVariables false
set_option maxRecDepth 100000
set_option maxHeartbeats 16000000
theorem wpIn_round {F:Fence} {n:Nat} {P:Program} {o:Oper} {a:Act} {w:World} {K:Act → World → Prop} {Q:Exit → Act → World → Prop} (l:Nat) (hd:∀ c,o.op ≠ .defer c) (h:o.wpIn F n P a w K Q):o.wpIn (F.inRound l) n P a w K Q:=by
 refine ⟨h.1,?_⟩
 have h2:=h.2
 rw [Oper.semAt_plain F _ _ hd] at h2
 rw [Oper.semAt_plain (F.inRound l) _ _ hd]
 generalize (execOp a.eval o).run P w = r at *
 cases r with
 | ok x w' => cases x <;> exact h2
 | halt x w' => cases x <;> exact h2
theorem wpAnyIn_round {F:Fence} {n:Nat} {P:Program} {md:Region.Mode} {ops:Array Oper} {Q:Exit → Act → World → Prop} (l:Nat) (hd:∀ o ∈ ops.toList,∀ c,o.op ≠ .defer c) :
 ∀ (fuel:Nat) (listed:Array Bool) (a:Act) (w:World),wpAnyIn F n P md ops Q fuel listed a w → wpAnyIn (F.inRound l) n P md ops Q fuel listed a w
 | 0,_,_,_,h => h
 | fuel + 1,listed,a,w,h => by
  refine ⟨h.1,fun i hi => ?_⟩
  have h2:=wpOpIn_mono (fun a' w' => wpAnyIn_round l hd fuel (listed.setIfInBounds i true) a' w') (h.2 i hi)
  unfold wpOpIn at *
  split
  ·rename_i ho;simpa [ho] using h2
  ·rename_i o ho
   simp only [ho] at h2
   split
   ·rename_i hw
    simp only [hw,if_true] at h2
    exact wpIn_round l (hd o (by obtain ⟨hi,he⟩:=Array.getElem?_eq_some_iff.1 ho;rw [← he];simp)) h2
   ·rename_i hw
    simp only [hw] at h2
    exact h2
theorem wpIn_region_quiet_round {F:Fence} {n:Nat} {P:Program} {id:Nat} {Q:Exit → Act → World → Prop} {a:Act} {w:World} {l:List Oper} (lp:Nat) (hro:F.round = none) (hm:P.follows .mixedOrders = true) (hB:Region.lexB .any l.toArray = true) (hd:∀ o ∈ l,∀ c,o.op ≠ .defer c)
 (h:wpQuietIn F n P l.toArray (fun w' => ∃ n,w' = w.drewN n) (fun a' => ∀ w',(∃ n,w' = w.drewN n) → Q .normal a' w') l a):(Code.region id l.toArray true).wpIn (F.inRound lp) n P Q a w:=by
 simp only [Region.lexB,Bool.and_eq_true] at hB
 refine wpIn_region_any hm (wpAnyIn_round lp (by simpa using hd) _ _ _ _ (wpAnyIn_of_quiet (Q:=fun a' => ∀ w',(∃ n,w' = w.drewN n) → Q .normal a' w') hro (fun _ w' hw' h => h w' hw') _ _ _ _ ⟨1,rfl⟩ ?_))
 have:=wpAnyQIn_lex (F:=F) (n:=n) (C:=fun w' => ∃ n,w' = w.drewN n) (md:=.any) hB.1 l 0 (Array.replicate l.length false) a (by simp) (by simpa using hB.2) (by simpa using h)
 simpa using this
theorem quiet_min3 {F:Fence} {n:Nat} {P:Program} {ops:Array Oper} {C:World → Prop} {Q:Act → Prop} {rest:List Oper} {o:Oper} {a:Act} (s1 s2 s3:Operand) (ats:Array TypeId) (ho:o.op = .call { callee:=.builtin .min,args:=#[s1,s2,s3],argTypes:=ats }) (hg:o.guard = none)
 (x y z r:Int) (h1:a.eval s1 = .int .i64 x) (h2:a.eval s2 = .int .i64 y) (h3:a.eval s3 = .int .i64 z) (hr:r = min (min x y) z) (h:wpQuietIn F n P ops C Q rest (a.put o.dst (.int .i64 r))):wpQuietIn F n P ops C Q (o :: rest) a:=by
 subst hr
 refine BigFrame.wpQuietIn_want ?_ ?_ fun K hK => ⟨_,fun W hW => ?_,hK _ h⟩
 ·intro w _ f hf
  simp [Oper.about,ho,resolve,Target.leads,Sem.run_pure] at hf
 ·simp [Region.wanted,hg]
 ·unfold Oper.quietAtIn
  simp only [execOp,ho,resolve,invoke,builtin]
  have:(Builtin.min_ ats o.type #[x,y,z]).run P W = .ok (.int .i64 (min (min x y) z)) W:=by
   rw [run_min_int3]
   congr 2
   split <;> split <;> omega
  simp [h1,h2,h3,this,Result.andThen,Oper.quietUponIn]
end Go.Proofs.YtfgiehkfcoodbaaGreat
namespace Go.Proofs.YtfgiehkfcoodbaaGreat
open Go.RowKit
set_option linter.unusedVariables false
set_option maxRecDepth 100000
set_option maxHeartbeats 16000000
inductive Chunk where
 | blk (g:Nat) (t:TypeId) (cs:Array Value)
 | row (base:Nat) (e:TypeId) (size:Nat) (v:Value) (n:Nat) (xs:List Value)
 | obj (g:Nat) (o:Obj)
def Chunk.num:Chunk → Option Nat
 | .blk g _ _ => some g
 | .row _ _ _ v _ _ => v.ownBlock
 | .obj g _ => some g
def Chunk.ok (w:World):Chunk → Prop
 | .blk g t cs => Blk w g t cs
 | .row base e size v n xs => w.ownsRow base e size v n xs
 | .obj g o => w.heap[g]? = some o
def Chunk.apart (c d:Chunk):Prop:=∀ k,c.num = some k → d.num ≠ some k
theorem Chunk.apart.symm {c d:Chunk} (h:c.apart d):d.apart c:=fun k hk hc => h k hc hk
theorem Chunk.lt {w:World} {c:Chunk} (h:c.ok w):∀ k,c.num = some k → k < w.heap.size:=by
 intro k hk
 cases c with
 | blk g t cs => obtain rfl:g = k:=by simpa [Chunk.num] using hk
                 exact Blk.lt h
 | row base e size v n xs => exact (World.ownsRow.lt h k hk).2
 | obj g o => obtain rfl:g = k:=by simpa [Chunk.num] using hk
              exact (Array.getElem?_eq_some_iff.1 (show w.heap[g]? = some o from h)).1
theorem Chunk.kept {w w':World} {c:Chunk} {row:Option Nat} (h:c.ok w) (hg:w.grownBy w' row) (hne:c.num = none ∨ c.num ≠ row):c.ok w':=by
 cases c with
 | blk g t cs => exact (hg.block g (Blk.lt h) (by simpa [Chunk.num] using hne)).trans h
 | row base e size v n xs => exact World.ownsRow.kept h hg hne
 | obj g o =>
  have hlt:g < w.heap.size:=(Array.getElem?_eq_some_iff.1 (show w.heap[g]? = some o from h)).1
  exact (hg.block g hlt (by simpa [Chunk.num] using hne)).trans h
structure Keep (w0:World) (G:List Nat) (w:World):Prop where
 os:w.os = w0.os
 tape:w.tape = w0.tape
 output:w.output = w0.output
 size:w0.heap.size ≤ w.heap.size
 block:∀ k,k < w0.heap.size → k ∉ G → w.heap[k]? = w0.heap[k]?
theorem Keep.below {w0 w:World} (h:Keep w0 [] w):Below w0.heap.size w0 w:=⟨h.os,h.tape,h.output,h.size,fun k hk => h.block k hk (by simp)⟩
theorem Keep.grown {w0 w:World} {g:Nat} (h:Keep w0 [g] w):w0.grownBy w (some g):=⟨h.os,h.tape,h.output,h.size,fun k hk hn => h.block k hk (by simp;intro e;exact hn (by rw [e]))⟩
theorem grown_of_below {w w':World} (hb:Below w.heap.size w w'):w.grownBy w' none:=⟨hb.os,hb.tape,hb.output,hb.size,fun k hk _ => hb.block k hk⟩
theorem grown_setCell (w:World) (p:Addr) (v:Value):w.grownBy (w.setCell p v) (some p.block):=⟨rfl,rfl,rfl,by simp,fun k _ hk => heap_setCell_other w p k v (fun e => hk (by simp [e]))⟩
structure Mem (w0:World) (G:List Nat) (w:World) (l:List Chunk):Prop where
 keep:Keep w0 G w
 ok:∀ c ∈ l,c.ok w
 pair:l.Pairwise Chunk.apart
 own:∀ c ∈ l,∀ k,c.num = some k → w0.heap.size ≤ k ∨ k ∈ G
section
variable {w0 w w':World} {G:List Nat} {l:List Chunk} {c c':Chunk}
theorem Mem.init (w:World):Mem w [] w []:=⟨⟨rfl,rfl,rfl,Nat.le_refl _,fun _ _ _ => rfl⟩,by simp,by simp,by simp⟩
theorem Mem.init1 {g:Nat} {t:TypeId} {cs:Array Value} (h:Blk w g t cs):Mem w [g] w [.blk g t cs] :=
 ⟨⟨rfl,rfl,rfl,Nat.le_refl _,fun _ _ _ => rfl⟩,fun c hc => (List.mem_singleton.1 hc) ▸ h,by simp,by simp [Chunk.num]⟩
theorem Mem.keeps {row:Option Nat} (H:Mem w0 G w l) (hg:w.grownBy w' row) (hr:∀ k,row = some k → w0.heap.size ≤ k ∨ k ∈ G):Keep w0 G w' :=
 ⟨hg.os.trans H.keep.os,hg.tape.trans H.keep.tape,hg.output.trans H.keep.output,Nat.le_trans H.keep.size hg.size,fun k hk hG =>
  (hg.block k (Nat.lt_of_lt_of_le hk H.keep.size) (fun e => by rcases hr k e.symm with h | h;omega;exact hG h)).trans (H.keep.block k hk hG)⟩
theorem pair_get {R:Chunk → Chunk → Prop} (hs:∀ {a b},R a b → R b a):∀ {l:List Chunk} {i j:Nat} {a b:Chunk},l.Pairwise R → l[i]? = some a → l[j]? = some b → i ≠ j → R a b
 | [],i,j,a,b,_,h,_,_ => by simp at h
 | x :: t,0,0,a,b,_,_,_,hn => absurd rfl hn
 | x :: t,0,j + 1,a,b,hp,ha,hb,_ => by
  rw [List.pairwise_cons] at hp
  obtain rfl:x = a:=by simpa using ha
  exact hp.1 b (List.mem_of_getElem? (by simpa using hb))
 | x :: t,i + 1,0,a,b,hp,ha,hb,_ => by
  rw [List.pairwise_cons] at hp
  obtain rfl:x = b:=by simpa using hb
  exact hs (hp.1 a (List.mem_of_getElem? (by simpa using ha)))
 | x :: t,i + 1,j + 1,a,b,hp,ha,hb,hn => by
  rw [List.pairwise_cons] at hp
  exact pair_get hs hp.2 (by simpa using ha) (by simpa using hb) (by omega)
theorem pair_set {R:Chunk → Chunk → Prop} (hs:∀ {a b},R a b → R b a):∀ {l:List Chunk} {i:Nat} {c':Chunk},l.Pairwise R → (∀ j d,l[j]? = some d → j ≠ i → R c' d) → (l.set i c').Pairwise R
 | [],i,c',_,_ => by simp
 | x :: t,0,c',hp,h => by
  rw [List.pairwise_cons] at hp
  rw [List.set_cons_zero,List.pairwise_cons]
  refine ⟨fun d hd => ?_,hp.2⟩
  obtain ⟨j,hj⟩:=List.getElem?_of_mem hd
  exact h (j + 1) d (by simpa using hj) (by omega)
 | x :: t,i + 1,c',hp,h => by
  rw [List.pairwise_cons] at hp
  rw [List.set_cons_succ,List.pairwise_cons]
  refine ⟨fun d hd => ?_,pair_set hs hp.2 (fun j d hj hn => h (j + 1) d (by simpa using hj) (by omega))⟩
  rcases List.mem_or_eq_of_mem_set hd with hm | rfl
  ·exact hp.1 d hm
  ·exact hs (h 0 x (by simp) (by omega))
theorem Mem.turn {i:Nat} (H:Mem w0 G w l) (hi:l[i]? = some c) (hg:w.grownBy w' c.num) (hok:c'.ok w') (hn:∀ k,c'.num = some k → c.num = some k ∨ w.heap.size ≤ k):Mem w0 G w' (l.set i c'):=by
 have hc:=List.mem_of_getElem? hi
 have hap:∀ j d,l[j]? = some d → j ≠ i → c'.apart d:=fun j d hj hne k hk hd => by
  have hdl:=Chunk.lt (H.ok d (List.mem_of_getElem? hj)) k hd
  rcases hn k hk with h | h
  ·exact pair_get Chunk.apart.symm H.pair hi hj (Ne.symm hne) k h hd
  ·omega
 refine ⟨H.keeps hg (fun k hk => H.own c hc k hk),fun d hd => ?_,pair_set Chunk.apart.symm H.pair hap,fun d hd k hk => ?_⟩
 ·obtain ⟨j,hj⟩:=List.getElem?_of_mem hd
  rw [List.getElem?_set] at hj
  split at hj
  ·split at hj
   ·obtain rfl:c' = d:=by simpa using hj
    exact hok
   ·simp at hj
  ·rename_i hne
   have hdm:=List.mem_of_getElem? hj
   refine Chunk.kept (H.ok d hdm) hg ?_
   cases hdn:d.num with
   | none => exact .inl rfl
   | some k => exact .inr fun e => pair_get Chunk.apart.symm H.pair hi hj hne k e.symm hdn
 ·rcases List.mem_or_eq_of_mem_set hd with hm | rfl
  ·exact H.own d hm k hk
  ·rcases hn k hk with h | h
   ·exact H.own c hc k h
   ·exact .inl (Nat.le_trans H.keep.size h)
theorem Mem.more (H:Mem w0 G w l) (hg:w.grownBy w' none) (hok:c'.ok w') (hn:∀ k,c'.num = some k → w.heap.size ≤ k):Mem w0 G w' (l ++ [c']):=by
 refine ⟨H.keeps hg (by simp),fun d hd => ?_,?_,fun d hd k hk => ?_⟩
 ·rcases List.mem_append.1 hd with h | h
  ·exact Chunk.kept (H.ok d h) hg (by cases d.num <;> simp)
  ·obtain rfl:d = c':=by simpa using h
   exact hok
 ·rw [List.pairwise_append]
  refine ⟨H.pair,by simp,fun a ha b hb k hk hk' => ?_⟩
  obtain rfl:b = c':=by simpa using hb
  have:=Chunk.lt (H.ok a ha) k hk
  have:=hn k hk'
  omega
 ·rcases List.mem_append.1 hd with h | h
  ·exact H.own d h k hk
  ·obtain rfl:d = c':=by simpa using h
   exact .inl (Nat.le_trans H.keep.size (hn k hk))
theorem Mem.call (H:Mem w0 G w l) (hb:Below w.heap.size w w'):Mem w0 G w' l :=
 ⟨H.keeps (grown_of_below hb) (by simp),fun c hc => Chunk.kept (H.ok c hc) (grown_of_below hb) (by cases c.num <;> simp),H.pair,H.own⟩
theorem Mem.drewN (H:Mem w0 G w l) (n:Nat):Mem w0 G (w.drewN n) l :=
 ⟨⟨H.keep.os,H.keep.tape,H.keep.output,H.keep.size,H.keep.block⟩,fun c hc => by
  have:=H.ok c hc
  cases c with
  | blk g t cs => exact this
  | row base e size v n xs => exact this
  | obj g o => exact this,H.pair,H.own⟩
theorem Mem.drew (H:Mem w0 G w l):Mem w0 G w.drew l:=H.drewN 1
theorem Mem.alloc (H:Mem w0 G w l) (g:Nat) (hg:w.heap.size = g) (cs:Array Value) (t:TypeId):Mem w0 G (w.alloc (.cells cs t)) (l ++ [.blk g t cs]):=by
 subst hg
 exact H.more (World.grownBy_alloc w _ none) (Blk.new w t cs) (by simp [Chunk.num])
theorem Mem.set {g:Nat} {t:TypeId} {cs:Array Value} (i:Nat) (H:Mem w0 G w l) (hi:l[i]? = some (.blk g t cs)) (o:Nat) (v:Value):Mem w0 G (w.setCell ⟨g,o,none⟩ v) (l.set i (.blk g t (cs.setIfInBounds o v))) :=
 H.turn hi (grown_setCell w ⟨g,o,none⟩ v) (Blk.set_ (H.ok _ (List.mem_of_getElem? hi)) o v) (fun k hk => .inl hk)
theorem Mem.objNew (H:Mem w0 G w l) (g:Nat) (hg:w.heap.size = g) (o:Obj):Mem w0 G (w.alloc o) (l ++ [.obj g o]):=by
 subst hg
 exact H.more (World.grownBy_alloc w _ none) (heap_alloc_new w o) (by simp [Chunk.num])
theorem Mem.iter (H:Mem w0 G w l) (g:Nat) (hg:w.heap.size = g) (s:ByteArray):Mem w0 G (w.iter s 0) (l ++ [.obj g (.stringIter s 0)]):=H.objNew g hg (.stringIter s 0)
theorem grown_iterAt (w:World) (g:Nat) (s:ByteArray) (p:Nat):w.grownBy (w.iterAt g s p) (some g):=⟨rfl,rfl,rfl,by rw [Lib.iterAt_size];exact Nat.le_refl _,fun k _ hk => Lib.iterAt_other w g k s p (fun e => hk (by simp [e]))⟩
theorem Mem.next {g:Nat} {s:ByteArray} {p:Nat} (i:Nat) (H:Mem w0 G w l) (hi:l[i]? = some (.obj g (.stringIter s p))) (p':Nat):Mem w0 G (w.iterAt g s p') (l.set i (.obj g (.stringIter s p'))) :=
 H.turn hi (c':=.obj g (.stringIter s p')) (grown_iterAt w g s p') (Lib.iterAt_heap w g s p p' (H.ok _ (List.mem_of_getElem? hi))) (fun k hk => .inl hk)
theorem Mem.obj_ {g:Nat} {o:Obj} (H:Mem w0 G w l) (i:Nat) (hi:l[i]? = some (.obj g o)):w.heap[g]? = some o:=H.ok _ (List.mem_of_getElem? hi)
theorem Mem.mod {g:Nat} {t:TypeId} {cs cs':Array Value} (i:Nat) (H:Mem w0 G w l) (hi:l[i]? = some (.blk g t cs)) (hg:w.grownBy w' (some g)) (hok:Blk w' g t cs'):Mem w0 G w' (l.set i (.blk g t cs')) :=
 H.turn hi hg (c':=.blk g t cs') hok (fun k hk => .inl hk)
theorem Mem.row {base:Nat} {e:TypeId} {size:Nat} {v:Value} {n:Nat} {xs:List Value} (H:Mem w0 G w l) (hb:Below w.heap.size w w') (ho:w'.ownsRow base e size v n xs) (hB:w.heap.size ≤ base):Mem w0 G w' (l ++ [.row base e size v n xs]) :=
 H.more (grown_of_below hb) (c':=.row base e size v n xs) ho (fun k hk => Nat.le_trans hB (World.ownsRow.lt ho k hk).1)
theorem Mem.nilrow (H:Mem w0 G w l) (base:Nat) (e:TypeId) (size:Nat):Mem w0 G w (l ++ [.row base e size (.slice none 0 0) 0 []]) :=
 H.more (c':=.row base e size (.slice none 0 0) 0 []) (w':=w) ⟨rfl,rfl,rfl,Nat.le_refl _,fun _ _ _ => rfl⟩ (World.ownsRow_nil w base e size) (by simp [Chunk.num,Value.ownBlock])
theorem Mem.push {base base':Nat} {e:TypeId} {size:Nat} {v v':Value} {n n':Nat} {xs xs':List Value} (i:Nat) (H:Mem w0 G w l) (hi:l[i]? = some (.row base e size v n xs)) (hg:w.grownBy w' v.ownBlock) (ho:w'.ownsRow base' e size v' n' xs')
 (hn:∀ k,v'.ownBlock = some k → v.ownBlock = some k ∨ w.heap.size ≤ k):Mem w0 G w' (l.set i (.row base' e size v' n' xs')) :=
 H.turn hi hg (c':=.row base' e size v' n' xs') ho hn
theorem Mem.join {l':List Chunk} (H:Mem w0 G w l) (K:Mem w [] w' l'):Mem w0 G w' (l ++ l'):=by
 have hb:=K.keep.below
 have hg:=grown_of_below hb
 have hge:∀ c ∈ l',∀ k,c.num = some k → w.heap.size ≤ k:=fun c hc k hk => by
  rcases K.own c hc k hk with h | h
  ·exact h
  ·simp at h
 refine ⟨H.keeps hg (by simp),fun d hd => ?_,?_,fun d hd k hk => ?_⟩
 ·rcases List.mem_append.1 hd with h | h
  ·exact Chunk.kept (H.ok d h) hg (by cases d.num <;> simp)
  ·exact K.ok d h
 ·rw [List.pairwise_append]
  refine ⟨H.pair,K.pair,fun a ha b hb k hk hk' => ?_⟩
  have:=Chunk.lt (H.ok a ha) k hk
  have:=hge b hb k hk'
  omega
 ·rcases List.mem_append.1 hd with h | h
  ·exact H.own d h k hk
  ·exact .inl (Nat.le_trans H.keep.size (hge d h k hk))
theorem Mem.joinAt {l':List Chunk} {g:Nat} {t:TypeId} {cs cs':Array Value} (i:Nat) (H:Mem w0 G w l) (hi:l[i]? = some (.blk g t cs)) (K:Mem w [g] w' (.blk g t cs' :: l')):Mem w0 G w' (l.set i (.blk g t cs') ++ l'):=by
 have hg:=K.keep.grown
 have H1:=Mem.mod (cs':=cs') i H hi hg (K.ok _ (List.mem_cons_self ..))
 have hge:∀ c ∈ l',∀ k,c.num = some k → w.heap.size ≤ k:=fun c hc k hk => by
  rcases K.own c (List.mem_cons_of_mem _ hc) k hk with h | h
  ·exact h
  ·have hap:=K.pair
   rw [List.pairwise_cons] at hap
   obtain rfl:k = g:=by simpa using h
   exact absurd hk (hap.1 c hc k rfl)
 have hlt:∀ a ∈ l.set i (.blk g t cs'),∀ k,a.num = some k → k < w.heap.size:=fun a ha k hk => by
  rcases List.mem_or_eq_of_mem_set ha with hm | rfl
  ·exact Chunk.lt (H.ok a hm) k hk
  ·obtain rfl:g = k:=by simpa [Chunk.num] using hk
   exact Blk.lt (show Blk w g t cs from H.ok _ (List.mem_of_getElem? hi))
 refine ⟨H1.keep,fun d hd => ?_,?_,fun d hd k hk => ?_⟩
 ·rcases List.mem_append.1 hd with h | h
  ·exact H1.ok d h
  ·exact K.ok d (List.mem_cons_of_mem _ h)
 ·rw [List.pairwise_append]
  have hap:=K.pair
  rw [List.pairwise_cons] at hap
  refine ⟨H1.pair,hap.2,fun a ha b hb k hk hk' => ?_⟩
  have:=hlt a ha k hk
  have:=hge b hb k hk'
  omega
 ·rcases List.mem_append.1 hd with h | h
  ·exact H1.own d h k hk
  ·exact .inl (Nat.le_trans H.keep.size (hge d h k hk))
theorem Mem.sub {l':List Chunk} (H:Mem w0 G w l) (hs:l'.Sublist l):Mem w0 G w l':=⟨H.keep,fun c hc => H.ok c (hs.subset hc),H.pair.sublist hs,fun c hc => H.own c (hs.subset hc)⟩
theorem Mem.drop_ (i:Nat) (H:Mem w0 G w l):Mem w0 G w (l.eraseIdx i):=H.sub (List.eraseIdx_sublist l i)
theorem Mem.blk {g:Nat} {t:TypeId} {cs:Array Value} (H:Mem w0 G w l) (i:Nat) (hi:l[i]? = some (.blk g t cs)):Blk w g t cs:=H.ok _ (List.mem_of_getElem? hi)
theorem Mem.own_ {base:Nat} {e:TypeId} {size:Nat} {v:Value} {n:Nat} {xs:List Value} (H:Mem w0 G w l) (i:Nat) (hi:l[i]? = some (.row base e size v n xs)):w.ownsRow base e size v n xs:=H.ok _ (List.mem_of_getElem? hi)
theorem Mem.ne {g g':Nat} {t t':TypeId} {cs cs':Array Value} (H:Mem w0 G w l) (i j:Nat) (hi:l[i]? = some (.blk g t cs)) (hj:l[j]? = some (.blk g' t' cs')) (hn:i ≠ j):g ≠ g':=fun e =>
 pair_get Chunk.apart.symm H.pair hi hj hn g rfl (by rw [e];rfl)
theorem Mem.lt {g:Nat} {t:TypeId} {cs:Array Value} (H:Mem w0 G w l) (i:Nat) (hi:l[i]? = some (.blk g t cs)):g < w.heap.size:=Blk.lt (H.blk i hi)
theorem Mem.ge {g:Nat} {t:TypeId} {cs:Array Value} (H:Mem w0 [] w l) (i:Nat) (hi:l[i]? = some (.blk g t cs)):w0.heap.size ≤ g:=by
 rcases H.own _ (List.mem_of_getElem? hi) g rfl with h | h
 ·exact h
 ·simp at h
theorem Mem.below (H:Mem w0 [] w l):Below w0.heap.size w0 w:=H.keep.below
theorem Mem.grown {g:Nat} (H:Mem w0 [g] w l):w0.grownBy w (some g):=H.keep.grown
theorem Mem.ownb {base:Nat} {e:TypeId} {size:Nat} {v:Value} {n:Nat} {xs:List Value} (H:Mem w0 [] w l) (i:Nat) (hi:l[i]? = some (.row base e size v n xs)):w.ownsRow w0.heap.size e size v n xs:=by
 have h:=H.own_ i hi
 refine ⟨h.1,?_⟩
 rcases h.2 with h2 | ⟨g,cap,cur,rfl,h2,h3⟩
 ·exact .inl h2
 ·refine .inr ⟨g,cap,cur,rfl,?_,h3⟩
  rcases H.own _ (List.mem_of_getElem? hi) g (by simp [Chunk.num,Value.ownBlock]) with h | h
  ·exact h
  ·simp at h
theorem Mem.gen (H:Mem w0 G w l):∃ W,w = W ∧ Mem w0 G W l:=⟨w,rfl,H⟩
theorem Mem.al (H:Mem w0 G w l) (g:Nat) (cs:Array Value) (t:TypeId) (hg:w.heap.size = g:=by first | (simp;done) | (simp;omega)):Mem w0 G (w.alloc (.cells cs t)) (l ++ [.blk g t cs]):=H.alloc g hg cs t
theorem Mem.ne2 {g g':Nat} {t t':TypeId} {cs cs':Array Value} (H:Mem w0 G w l) (i j:Nat) (hi:l[i]? = some (.blk g t cs)) (hj:l[j]? = some (.blk g' t' cs')) (hn:(i == j) = false):g ≠ g' ∧ g' ≠ g :=
 have h:=H.ne i j hi hj (by simpa using hn)
 ⟨h,Ne.symm h⟩
theorem Mem.c1 {g:Nat} {t:TypeId} {v0:Value} (H:Mem w0 G w l) (i:Nat) (hi:l[i]? = some (.blk g t #[v0])):g < w.heap.size ∧ w.cell? ⟨g,0,none⟩ = some v0 ∧ w.frozen? ⟨g,0,none⟩ = false:=⟨H.lt i hi,(H.blk i hi).cell 0,(H.blk i hi).frozen 0⟩
theorem Mem.c2 {g:Nat} {t:TypeId} {v0 v1:Value} (H:Mem w0 G w l) (i:Nat) (hi:l[i]? = some (.blk g t #[v0,v1])):g < w.heap.size ∧ w.cell? ⟨g,0,none⟩ = some v0 ∧ w.frozen? ⟨g,0,none⟩ = false ∧ w.cell? ⟨g,1,none⟩ = some v1 ∧ w.frozen? ⟨g,1,none⟩ = false:=⟨H.lt i hi,(H.blk i hi).cell 0,(H.blk i hi).frozen 0,(H.blk i hi).cell 1,(H.blk i hi).frozen 1⟩
theorem Mem.c3 {g:Nat} {t:TypeId} {v0 v1 v2:Value} (H:Mem w0 G w l) (i:Nat) (hi:l[i]? = some (.blk g t #[v0,v1,v2])):g < w.heap.size ∧ w.cell? ⟨g,0,none⟩ = some v0 ∧ w.frozen? ⟨g,0,none⟩ = false ∧ w.cell? ⟨g,1,none⟩ = some v1 ∧ w.frozen? ⟨g,1,none⟩ = false ∧ w.cell? ⟨g,2,none⟩ = some v2 ∧ w.frozen? ⟨g,2,none⟩ = false:=⟨H.lt i hi,(H.blk i hi).cell 0,(H.blk i hi).frozen 0,(H.blk i hi).cell 1,(H.blk i hi).frozen 1,(H.blk i hi).cell 2,(H.blk i hi).frozen 2⟩
theorem Mem.c4 {g:Nat} {t:TypeId} {v0 v1 v2 v3:Value} (H:Mem w0 G w l) (i:Nat) (hi:l[i]? = some (.blk g t #[v0,v1,v2,v3])):g < w.heap.size ∧ w.cell? ⟨g,0,none⟩ = some v0 ∧ w.frozen? ⟨g,0,none⟩ = false ∧ w.cell? ⟨g,1,none⟩ = some v1 ∧ w.frozen? ⟨g,1,none⟩ = false ∧ w.cell? ⟨g,2,none⟩ = some v2 ∧ w.frozen? ⟨g,2,none⟩ = false ∧ w.cell? ⟨g,3,none⟩ = some v3 ∧ w.frozen? ⟨g,3,none⟩ = false:=⟨H.lt i hi,(H.blk i hi).cell 0,(H.blk i hi).frozen 0,(H.blk i hi).cell 1,(H.blk i hi).frozen 1,(H.blk i hi).cell 2,(H.blk i hi).frozen 2,(H.blk i hi).cell 3,(H.blk i hi).frozen 3⟩
theorem Mem.c5 {g:Nat} {t:TypeId} {v0 v1 v2 v3 v4:Value} (H:Mem w0 G w l) (i:Nat) (hi:l[i]? = some (.blk g t #[v0,v1,v2,v3,v4])):g < w.heap.size ∧ w.cell? ⟨g,0,none⟩ = some v0 ∧ w.frozen? ⟨g,0,none⟩ = false ∧ w.cell? ⟨g,1,none⟩ = some v1 ∧ w.frozen? ⟨g,1,none⟩ = false ∧ w.cell? ⟨g,2,none⟩ = some v2 ∧ w.frozen? ⟨g,2,none⟩ = false ∧ w.cell? ⟨g,3,none⟩ = some v3 ∧ w.frozen? ⟨g,3,none⟩ = false ∧ w.cell? ⟨g,4,none⟩ = some v4 ∧ w.frozen? ⟨g,4,none⟩ = false:=⟨H.lt i hi,(H.blk i hi).cell 0,(H.blk i hi).frozen 0,(H.blk i hi).cell 1,(H.blk i hi).frozen 1,(H.blk i hi).cell 2,(H.blk i hi).frozen 2,(H.blk i hi).cell 3,(H.blk i hi).frozen 3,(H.blk i hi).cell 4,(H.blk i hi).frozen 4⟩
theorem Mem.c7 {g:Nat} {t:TypeId} {v0 v1 v2 v3 v4 v5 v6:Value} (H:Mem w0 G w l) (i:Nat) (hi:l[i]? = some (.blk g t #[v0,v1,v2,v3,v4,v5,v6])):g < w.heap.size ∧ w.cell? ⟨g,0,none⟩ = some v0 ∧ w.frozen? ⟨g,0,none⟩ = false ∧ w.cell? ⟨g,1,none⟩ = some v1 ∧ w.frozen? ⟨g,1,none⟩ = false ∧ w.cell? ⟨g,2,none⟩ = some v2 ∧ w.frozen? ⟨g,2,none⟩ = false ∧ w.cell? ⟨g,3,none⟩ = some v3 ∧ w.frozen? ⟨g,3,none⟩ = false ∧ w.cell? ⟨g,4,none⟩ = some v4 ∧ w.frozen? ⟨g,4,none⟩ = false ∧ w.cell? ⟨g,5,none⟩ = some v5 ∧ w.frozen? ⟨g,5,none⟩ = false ∧ w.cell? ⟨g,6,none⟩ = some v6 ∧ w.frozen? ⟨g,6,none⟩ = false:=⟨H.lt i hi,(H.blk i hi).cell 0,(H.blk i hi).frozen 0,(H.blk i hi).cell 1,(H.blk i hi).frozen 1,(H.blk i hi).cell 2,(H.blk i hi).frozen 2,(H.blk i hi).cell 3,(H.blk i hi).frozen 3,(H.blk i hi).cell 4,(H.blk i hi).frozen 4,(H.blk i hi).cell 5,(H.blk i hi).frozen 5,(H.blk i hi).cell 6,(H.blk i hi).frozen 6⟩
theorem Mem.c8 {g:Nat} {t:TypeId} {v0 v1 v2 v3 v4 v5 v6 v7:Value} (H:Mem w0 G w l) (i:Nat) (hi:l[i]? = some (.blk g t #[v0,v1,v2,v3,v4,v5,v6,v7])):g < w.heap.size ∧ w.cell? ⟨g,0,none⟩ = some v0 ∧ w.frozen? ⟨g,0,none⟩ = false ∧ w.cell? ⟨g,1,none⟩ = some v1 ∧ w.frozen? ⟨g,1,none⟩ = false ∧ w.cell? ⟨g,2,none⟩ = some v2 ∧ w.frozen? ⟨g,2,none⟩ = false ∧ w.cell? ⟨g,3,none⟩ = some v3 ∧ w.frozen? ⟨g,3,none⟩ = false ∧ w.cell? ⟨g,4,none⟩ = some v4 ∧ w.frozen? ⟨g,4,none⟩ = false ∧ w.cell? ⟨g,5,none⟩ = some v5 ∧ w.frozen? ⟨g,5,none⟩ = false ∧ w.cell? ⟨g,6,none⟩ = some v6 ∧ w.frozen? ⟨g,6,none⟩ = false ∧ w.cell? ⟨g,7,none⟩ = some v7 ∧ w.frozen? ⟨g,7,none⟩ = false:=⟨H.lt i hi,(H.blk i hi).cell 0,(H.blk i hi).frozen 0,(H.blk i hi).cell 1,(H.blk i hi).frozen 1,(H.blk i hi).cell 2,(H.blk i hi).frozen 2,(H.blk i hi).cell 3,(H.blk i hi).frozen 3,(H.blk i hi).cell 4,(H.blk i hi).frozen 4,(H.blk i hi).cell 5,(H.blk i hi).frozen 5,(H.blk i hi).cell 6,(H.blk i hi).frozen 6,(H.blk i hi).cell 7,(H.blk i hi).frozen 7⟩
theorem Mem.c9 {g:Nat} {t:TypeId} {v0 v1 v2 v3 v4 v5 v6 v7 v8:Value} (H:Mem w0 G w l) (i:Nat) (hi:l[i]? = some (.blk g t #[v0,v1,v2,v3,v4,v5,v6,v7,v8])):g < w.heap.size ∧ w.cell? ⟨g,0,none⟩ = some v0 ∧ w.frozen? ⟨g,0,none⟩ = false ∧ w.cell? ⟨g,1,none⟩ = some v1 ∧ w.frozen? ⟨g,1,none⟩ = false ∧ w.cell? ⟨g,2,none⟩ = some v2 ∧ w.frozen? ⟨g,2,none⟩ = false ∧ w.cell? ⟨g,3,none⟩ = some v3 ∧ w.frozen? ⟨g,3,none⟩ = false ∧ w.cell? ⟨g,4,none⟩ = some v4 ∧ w.frozen? ⟨g,4,none⟩ = false ∧ w.cell? ⟨g,5,none⟩ = some v5 ∧ w.frozen? ⟨g,5,none⟩ = false ∧ w.cell? ⟨g,6,none⟩ = some v6 ∧ w.frozen? ⟨g,6,none⟩ = false ∧ w.cell? ⟨g,7,none⟩ = some v7 ∧ w.frozen? ⟨g,7,none⟩ = false ∧ w.cell? ⟨g,8,none⟩ = some v8 ∧ w.frozen? ⟨g,8,none⟩ = false:=⟨H.lt i hi,(H.blk i hi).cell 0,(H.blk i hi).frozen 0,(H.blk i hi).cell 1,(H.blk i hi).frozen 1,(H.blk i hi).cell 2,(H.blk i hi).frozen 2,(H.blk i hi).cell 3,(H.blk i hi).frozen 3,(H.blk i hi).cell 4,(H.blk i hi).frozen 4,(H.blk i hi).cell 5,(H.blk i hi).frozen 5,(H.blk i hi).cell 6,(H.blk i hi).frozen 6,(H.blk i hi).cell 7,(H.blk i hi).frozen 7,(H.blk i hi).cell 8,(H.blk i hi).frozen 8⟩
theorem Mem.c10 {g:Nat} {t:TypeId} {v0 v1 v2 v3 v4 v5 v6 v7 v8 v9:Value} (H:Mem w0 G w l) (i:Nat) (hi:l[i]? = some (.blk g t #[v0,v1,v2,v3,v4,v5,v6,v7,v8,v9])):g < w.heap.size ∧ w.cell? ⟨g,0,none⟩ = some v0 ∧ w.frozen? ⟨g,0,none⟩ = false ∧ w.cell? ⟨g,1,none⟩ = some v1 ∧ w.frozen? ⟨g,1,none⟩ = false ∧ w.cell? ⟨g,2,none⟩ = some v2 ∧ w.frozen? ⟨g,2,none⟩ = false ∧ w.cell? ⟨g,3,none⟩ = some v3 ∧ w.frozen? ⟨g,3,none⟩ = false ∧ w.cell? ⟨g,4,none⟩ = some v4 ∧ w.frozen? ⟨g,4,none⟩ = false ∧ w.cell? ⟨g,5,none⟩ = some v5 ∧ w.frozen? ⟨g,5,none⟩ = false ∧ w.cell? ⟨g,6,none⟩ = some v6 ∧ w.frozen? ⟨g,6,none⟩ = false ∧ w.cell? ⟨g,7,none⟩ = some v7 ∧ w.frozen? ⟨g,7,none⟩ = false ∧ w.cell? ⟨g,8,none⟩ = some v8 ∧ w.frozen? ⟨g,8,none⟩ = false ∧ w.cell? ⟨g,9,none⟩ = some v9 ∧ w.frozen? ⟨g,9,none⟩ = false:=⟨H.lt i hi,(H.blk i hi).cell 0,(H.blk i hi).frozen 0,(H.blk i hi).cell 1,(H.blk i hi).frozen 1,(H.blk i hi).cell 2,(H.blk i hi).frozen 2,(H.blk i hi).cell 3,(H.blk i hi).frozen 3,(H.blk i hi).cell 4,(H.blk i hi).frozen 4,(H.blk i hi).cell 5,(H.blk i hi).frozen 5,(H.blk i hi).cell 6,(H.blk i hi).frozen 6,(H.blk i hi).cell 7,(H.blk i hi).frozen 7,(H.blk i hi).cell 8,(H.blk i hi).frozen 8,(H.blk i hi).cell 9,(H.blk i hi).frozen 9⟩
theorem Mem.c11 {g:Nat} {t:TypeId} {v0 v1 v2 v3 v4 v5 v6 v7 v8 v9 v10:Value} (H:Mem w0 G w l) (i:Nat) (hi:l[i]? = some (.blk g t #[v0,v1,v2,v3,v4,v5,v6,v7,v8,v9,v10])):g < w.heap.size ∧ w.cell? ⟨g,0,none⟩ = some v0 ∧ w.frozen? ⟨g,0,none⟩ = false ∧ w.cell? ⟨g,1,none⟩ = some v1 ∧ w.frozen? ⟨g,1,none⟩ = false ∧ w.cell? ⟨g,2,none⟩ = some v2 ∧ w.frozen? ⟨g,2,none⟩ = false ∧ w.cell? ⟨g,3,none⟩ = some v3 ∧ w.frozen? ⟨g,3,none⟩ = false ∧ w.cell? ⟨g,4,none⟩ = some v4 ∧ w.frozen? ⟨g,4,none⟩ = false ∧ w.cell? ⟨g,5,none⟩ = some v5 ∧ w.frozen? ⟨g,5,none⟩ = false ∧ w.cell? ⟨g,6,none⟩ = some v6 ∧ w.frozen? ⟨g,6,none⟩ = false ∧ w.cell? ⟨g,7,none⟩ = some v7 ∧ w.frozen? ⟨g,7,none⟩ = false ∧ w.cell? ⟨g,8,none⟩ = some v8 ∧ w.frozen? ⟨g,8,none⟩ = false ∧ w.cell? ⟨g,9,none⟩ = some v9 ∧ w.frozen? ⟨g,9,none⟩ = false ∧ w.cell? ⟨g,10,none⟩ = some v10 ∧ w.frozen? ⟨g,10,none⟩ = false:=⟨H.lt i hi,(H.blk i hi).cell 0,(H.blk i hi).frozen 0,(H.blk i hi).cell 1,(H.blk i hi).frozen 1,(H.blk i hi).cell 2,(H.blk i hi).frozen 2,(H.blk i hi).cell 3,(H.blk i hi).frozen 3,(H.blk i hi).cell 4,(H.blk i hi).frozen 4,(H.blk i hi).cell 5,(H.blk i hi).frozen 5,(H.blk i hi).cell 6,(H.blk i hi).frozen 6,(H.blk i hi).cell 7,(H.blk i hi).frozen 7,(H.blk i hi).cell 8,(H.blk i hi).frozen 8,(H.blk i hi).cell 9,(H.blk i hi).frozen 9,(H.blk i hi).cell 10,(H.blk i hi).frozen 10⟩
theorem Mem.c12 {g:Nat} {t:TypeId} {v0 v1 v2 v3 v4 v5 v6 v7 v8 v9 v10 v11:Value} (H:Mem w0 G w l) (i:Nat) (hi:l[i]? = some (.blk g t #[v0,v1,v2,v3,v4,v5,v6,v7,v8,v9,v10,v11])):g < w.heap.size ∧ w.cell? ⟨g,0,none⟩ = some v0 ∧ w.frozen? ⟨g,0,none⟩ = false ∧ w.cell? ⟨g,1,none⟩ = some v1 ∧ w.frozen? ⟨g,1,none⟩ = false ∧ w.cell? ⟨g,2,none⟩ = some v2 ∧ w.frozen? ⟨g,2,none⟩ = false ∧ w.cell? ⟨g,3,none⟩ = some v3 ∧ w.frozen? ⟨g,3,none⟩ = false ∧ w.cell? ⟨g,4,none⟩ = some v4 ∧ w.frozen? ⟨g,4,none⟩ = false ∧ w.cell? ⟨g,5,none⟩ = some v5 ∧ w.frozen? ⟨g,5,none⟩ = false ∧ w.cell? ⟨g,6,none⟩ = some v6 ∧ w.frozen? ⟨g,6,none⟩ = false ∧ w.cell? ⟨g,7,none⟩ = some v7 ∧ w.frozen? ⟨g,7,none⟩ = false ∧ w.cell? ⟨g,8,none⟩ = some v8 ∧ w.frozen? ⟨g,8,none⟩ = false ∧ w.cell? ⟨g,9,none⟩ = some v9 ∧ w.frozen? ⟨g,9,none⟩ = false ∧ w.cell? ⟨g,10,none⟩ = some v10 ∧ w.frozen? ⟨g,10,none⟩ = false ∧ w.cell? ⟨g,11,none⟩ = some v11 ∧ w.frozen? ⟨g,11,none⟩ = false:=⟨H.lt i hi,(H.blk i hi).cell 0,(H.blk i hi).frozen 0,(H.blk i hi).cell 1,(H.blk i hi).frozen 1,(H.blk i hi).cell 2,(H.blk i hi).frozen 2,(H.blk i hi).cell 3,(H.blk i hi).frozen 3,(H.blk i hi).cell 4,(H.blk i hi).frozen 4,(H.blk i hi).cell 5,(H.blk i hi).frozen 5,(H.blk i hi).cell 6,(H.blk i hi).frozen 6,(H.blk i hi).cell 7,(H.blk i hi).frozen 7,(H.blk i hi).cell 8,(H.blk i hi).frozen 8,(H.blk i hi).cell 9,(H.blk i hi).frozen 9,(H.blk i hi).cell 10,(H.blk i hi).frozen 10,(H.blk i hi).cell 11,(H.blk i hi).frozen 11⟩
theorem Mem.c13 {g:Nat} {t:TypeId} {v0 v1 v2 v3 v4 v5 v6 v7 v8 v9 v10 v11 v12:Value} (H:Mem w0 G w l) (i:Nat) (hi:l[i]? = some (.blk g t #[v0,v1,v2,v3,v4,v5,v6,v7,v8,v9,v10,v11,v12])):g < w.heap.size ∧ w.cell? ⟨g,0,none⟩ = some v0 ∧ w.frozen? ⟨g,0,none⟩ = false ∧ w.cell? ⟨g,1,none⟩ = some v1 ∧ w.frozen? ⟨g,1,none⟩ = false ∧ w.cell? ⟨g,2,none⟩ = some v2 ∧ w.frozen? ⟨g,2,none⟩ = false ∧ w.cell? ⟨g,3,none⟩ = some v3 ∧ w.frozen? ⟨g,3,none⟩ = false ∧ w.cell? ⟨g,4,none⟩ = some v4 ∧ w.frozen? ⟨g,4,none⟩ = false ∧ w.cell? ⟨g,5,none⟩ = some v5 ∧ w.frozen? ⟨g,5,none⟩ = false ∧ w.cell? ⟨g,6,none⟩ = some v6 ∧ w.frozen? ⟨g,6,none⟩ = false ∧ w.cell? ⟨g,7,none⟩ = some v7 ∧ w.frozen? ⟨g,7,none⟩ = false ∧ w.cell? ⟨g,8,none⟩ = some v8 ∧ w.frozen? ⟨g,8,none⟩ = false ∧ w.cell? ⟨g,9,none⟩ = some v9 ∧ w.frozen? ⟨g,9,none⟩ = false ∧ w.cell? ⟨g,10,none⟩ = some v10 ∧ w.frozen? ⟨g,10,none⟩ = false ∧ w.cell? ⟨g,11,none⟩ = some v11 ∧ w.frozen? ⟨g,11,none⟩ = false ∧ w.cell? ⟨g,12,none⟩ = some v12 ∧ w.frozen? ⟨g,12,none⟩ = false:=⟨H.lt i hi,(H.blk i hi).cell 0,(H.blk i hi).frozen 0,(H.blk i hi).cell 1,(H.blk i hi).frozen 1,(H.blk i hi).cell 2,(H.blk i hi).frozen 2,(H.blk i hi).cell 3,(H.blk i hi).frozen 3,(H.blk i hi).cell 4,(H.blk i hi).frozen 4,(H.blk i hi).cell 5,(H.blk i hi).frozen 5,(H.blk i hi).cell 6,(H.blk i hi).frozen 6,(H.blk i hi).cell 7,(H.blk i hi).frozen 7,(H.blk i hi).cell 8,(H.blk i hi).frozen 8,(H.blk i hi).cell 9,(H.blk i hi).frozen 9,(H.blk i hi).cell 10,(H.blk i hi).frozen 10,(H.blk i hi).cell 11,(H.blk i hi).frozen 11,(H.blk i hi).cell 12,(H.blk i hi).frozen 12⟩
theorem Mem.c15 {g:Nat} {t:TypeId} {v0 v1 v2 v3 v4 v5 v6 v7 v8 v9 v10 v11 v12 v13 v14:Value} (H:Mem w0 G w l) (i:Nat) (hi:l[i]? = some (.blk g t #[v0,v1,v2,v3,v4,v5,v6,v7,v8,v9,v10,v11,v12,v13,v14])):g < w.heap.size ∧ w.cell? ⟨g,0,none⟩ = some v0 ∧ w.frozen? ⟨g,0,none⟩ = false ∧ w.cell? ⟨g,1,none⟩ = some v1 ∧ w.frozen? ⟨g,1,none⟩ = false ∧ w.cell? ⟨g,2,none⟩ = some v2 ∧ w.frozen? ⟨g,2,none⟩ = false ∧ w.cell? ⟨g,3,none⟩ = some v3 ∧ w.frozen? ⟨g,3,none⟩ = false ∧ w.cell? ⟨g,4,none⟩ = some v4 ∧ w.frozen? ⟨g,4,none⟩ = false ∧ w.cell? ⟨g,5,none⟩ = some v5 ∧ w.frozen? ⟨g,5,none⟩ = false ∧ w.cell? ⟨g,6,none⟩ = some v6 ∧ w.frozen? ⟨g,6,none⟩ = false ∧ w.cell? ⟨g,7,none⟩ = some v7 ∧ w.frozen? ⟨g,7,none⟩ = false ∧ w.cell? ⟨g,8,none⟩ = some v8 ∧ w.frozen? ⟨g,8,none⟩ = false ∧ w.cell? ⟨g,9,none⟩ = some v9 ∧ w.frozen? ⟨g,9,none⟩ = false ∧ w.cell? ⟨g,10,none⟩ = some v10 ∧ w.frozen? ⟨g,10,none⟩ = false ∧ w.cell? ⟨g,11,none⟩ = some v11 ∧ w.frozen? ⟨g,11,none⟩ = false ∧ w.cell? ⟨g,12,none⟩ = some v12 ∧ w.frozen? ⟨g,12,none⟩ = false ∧ w.cell? ⟨g,13,none⟩ = some v13 ∧ w.frozen? ⟨g,13,none⟩ = false ∧ w.cell? ⟨g,14,none⟩ = some v14 ∧ w.frozen? ⟨g,14,none⟩ = false:=⟨H.lt i hi,(H.blk i hi).cell 0,(H.blk i hi).frozen 0,(H.blk i hi).cell 1,(H.blk i hi).frozen 1,(H.blk i hi).cell 2,(H.blk i hi).frozen 2,(H.blk i hi).cell 3,(H.blk i hi).frozen 3,(H.blk i hi).cell 4,(H.blk i hi).frozen 4,(H.blk i hi).cell 5,(H.blk i hi).frozen 5,(H.blk i hi).cell 6,(H.blk i hi).frozen 6,(H.blk i hi).cell 7,(H.blk i hi).frozen 7,(H.blk i hi).cell 8,(H.blk i hi).frozen 8,(H.blk i hi).cell 9,(H.blk i hi).frozen 9,(H.blk i hi).cell 10,(H.blk i hi).frozen 10,(H.blk i hi).cell 11,(H.blk i hi).frozen 11,(H.blk i hi).cell 12,(H.blk i hi).frozen 12,(H.blk i hi).cell 13,(H.blk i hi).frozen 13,(H.blk i hi).cell 14,(H.blk i hi).frozen 14⟩
theorem Mem.c36 {g:Nat} {t:TypeId} {v0 v1 v2 v3 v4 v5 v6 v7 v8 v9 v10 v11 v12 v13 v14 v15 v16 v17 v18 v19 v20 v21 v22 v23 v24 v25 v26 v27 v28 v29 v30 v31 v32 v33 v34 v35:Value} (H:Mem w0 G w l) (i:Nat) (hi:l[i]? = some (.blk g t #[v0,v1,v2,v3,v4,v5,v6,v7,v8,v9,v10,v11,v12,v13,v14,v15,v16,v17,v18,v19,v20,v21,v22,v23,v24,v25,v26,v27,v28,v29,v30,v31,v32,v33,v34,v35])):g < w.heap.size ∧ w.cell? ⟨g,0,none⟩ = some v0 ∧ w.frozen? ⟨g,0,none⟩ = false ∧ w.cell? ⟨g,1,none⟩ = some v1 ∧ w.frozen? ⟨g,1,none⟩ = false ∧ w.cell? ⟨g,2,none⟩ = some v2 ∧ w.frozen? ⟨g,2,none⟩ = false ∧ w.cell? ⟨g,3,none⟩ = some v3 ∧ w.frozen? ⟨g,3,none⟩ = false ∧ w.cell? ⟨g,4,none⟩ = some v4 ∧ w.frozen? ⟨g,4,none⟩ = false ∧ w.cell? ⟨g,5,none⟩ = some v5 ∧ w.frozen? ⟨g,5,none⟩ = false ∧ w.cell? ⟨g,6,none⟩ = some v6 ∧ w.frozen? ⟨g,6,none⟩ = false ∧ w.cell? ⟨g,7,none⟩ = some v7 ∧ w.frozen? ⟨g,7,none⟩ = false ∧ w.cell? ⟨g,8,none⟩ = some v8 ∧ w.frozen? ⟨g,8,none⟩ = false ∧ w.cell? ⟨g,9,none⟩ = some v9 ∧ w.frozen? ⟨g,9,none⟩ = false ∧ w.cell? ⟨g,10,none⟩ = some v10 ∧ w.frozen? ⟨g,10,none⟩ = false ∧ w.cell? ⟨g,11,none⟩ = some v11 ∧ w.frozen? ⟨g,11,none⟩ = false ∧ w.cell? ⟨g,12,none⟩ = some v12 ∧ w.frozen? ⟨g,12,none⟩ = false ∧ w.cell? ⟨g,13,none⟩ = some v13 ∧ w.frozen? ⟨g,13,none⟩ = false ∧ w.cell? ⟨g,14,none⟩ = some v14 ∧ w.frozen? ⟨g,14,none⟩ = false ∧ w.cell? ⟨g,15,none⟩ = some v15 ∧ w.frozen? ⟨g,15,none⟩ = false ∧ w.cell? ⟨g,16,none⟩ = some v16 ∧ w.frozen? ⟨g,16,none⟩ = false ∧ w.cell? ⟨g,17,none⟩ = some v17 ∧ w.frozen? ⟨g,17,none⟩ = false ∧ w.cell? ⟨g,18,none⟩ = some v18 ∧ w.frozen? ⟨g,18,none⟩ = false ∧ w.cell? ⟨g,19,none⟩ = some v19 ∧ w.frozen? ⟨g,19,none⟩ = false ∧ w.cell? ⟨g,20,none⟩ = some v20 ∧ w.frozen? ⟨g,20,none⟩ = false ∧ w.cell? ⟨g,21,none⟩ = some v21 ∧ w.frozen? ⟨g,21,none⟩ = false ∧ w.cell? ⟨g,22,none⟩ = some v22 ∧ w.frozen? ⟨g,22,none⟩ = false ∧ w.cell? ⟨g,23,none⟩ = some v23 ∧ w.frozen? ⟨g,23,none⟩ = false ∧ w.cell? ⟨g,24,none⟩ = some v24 ∧ w.frozen? ⟨g,24,none⟩ = false ∧ w.cell? ⟨g,25,none⟩ = some v25 ∧ w.frozen? ⟨g,25,none⟩ = false ∧ w.cell? ⟨g,26,none⟩ = some v26 ∧ w.frozen? ⟨g,26,none⟩ = false ∧ w.cell? ⟨g,27,none⟩ = some v27 ∧ w.frozen? ⟨g,27,none⟩ = false ∧ w.cell? ⟨g,28,none⟩ = some v28 ∧ w.frozen? ⟨g,28,none⟩ = false ∧ w.cell? ⟨g,29,none⟩ = some v29 ∧ w.frozen? ⟨g,29,none⟩ = false ∧ w.cell? ⟨g,30,none⟩ = some v30 ∧ w.frozen? ⟨g,30,none⟩ = false ∧ w.cell? ⟨g,31,none⟩ = some v31 ∧ w.frozen? ⟨g,31,none⟩ = false ∧ w.cell? ⟨g,32,none⟩ = some v32 ∧ w.frozen? ⟨g,32,none⟩ = false ∧ w.cell? ⟨g,33,none⟩ = some v33 ∧ w.frozen? ⟨g,33,none⟩ = false ∧ w.cell? ⟨g,34,none⟩ = some v34 ∧ w.frozen? ⟨g,34,none⟩ = false ∧ w.cell? ⟨g,35,none⟩ = some v35 ∧ w.frozen? ⟨g,35,none⟩ = false:=⟨H.lt i hi,(H.blk i hi).cell 0,(H.blk i hi).frozen 0,(H.blk i hi).cell 1,(H.blk i hi).frozen 1,(H.blk i hi).cell 2,(H.blk i hi).frozen 2,(H.blk i hi).cell 3,(H.blk i hi).frozen 3,(H.blk i hi).cell 4,(H.blk i hi).frozen 4,(H.blk i hi).cell 5,(H.blk i hi).frozen 5,(H.blk i hi).cell 6,(H.blk i hi).frozen 6,(H.blk i hi).cell 7,(H.blk i hi).frozen 7,(H.blk i hi).cell 8,(H.blk i hi).frozen 8,(H.blk i hi).cell 9,(H.blk i hi).frozen 9,(H.blk i hi).cell 10,(H.blk i hi).frozen 10,(H.blk i hi).cell 11,(H.blk i hi).frozen 11,(H.blk i hi).cell 12,(H.blk i hi).frozen 12,(H.blk i hi).cell 13,(H.blk i hi).frozen 13,(H.blk i hi).cell 14,(H.blk i hi).frozen 14,(H.blk i hi).cell 15,(H.blk i hi).frozen 15,(H.blk i hi).cell 16,(H.blk i hi).frozen 16,(H.blk i hi).cell 17,(H.blk i hi).frozen 17,(H.blk i hi).cell 18,(H.blk i hi).frozen 18,(H.blk i hi).cell 19,(H.blk i hi).frozen 19,(H.blk i hi).cell 20,(H.blk i hi).frozen 20,(H.blk i hi).cell 21,(H.blk i hi).frozen 21,(H.blk i hi).cell 22,(H.blk i hi).frozen 22,(H.blk i hi).cell 23,(H.blk i hi).frozen 23,(H.blk i hi).cell 24,(H.blk i hi).frozen 24,(H.blk i hi).cell 25,(H.blk i hi).frozen 25,(H.blk i hi).cell 26,(H.blk i hi).frozen 26,(H.blk i hi).cell 27,(H.blk i hi).frozen 27,(H.blk i hi).cell 28,(H.blk i hi).frozen 28,(H.blk i hi).cell 29,(H.blk i hi).frozen 29,(H.blk i hi).cell 30,(H.blk i hi).frozen 30,(H.blk i hi).cell 31,(H.blk i hi).frozen 31,(H.blk i hi).cell 32,(H.blk i hi).frozen 32,(H.blk i hi).cell 33,(H.blk i hi).frozen 33,(H.blk i hi).cell 34,(H.blk i hi).frozen 34,(H.blk i hi).cell 35,(H.blk i hi).frozen 35⟩
end
end Go.Proofs.YtfgiehkfcoodbaaGreat
namespace Go.Proofs.YtfgiehkfcoodbaaGreat
open Go.RowKit
set_option linter.unusedVariables false
set_option maxRecDepth 100000
set_option maxHeartbeats 16000000
section
variable {P:Program} {w:World}
theorem CFit.slice_val {t e:TypeId} {v:Value} (h:CFit P w t [v]) (hu:P.underlying t = some (.slice e)):∃ A n c,v = .slice A n c:=by
 obtain ⟨H,enc,fu,y,hy⟩:=h
 rcases DataW.trod_slice hu hy with ⟨h0,_⟩ | ⟨a,len,cap,elems,rest,m,_,h1,_⟩
 ·simp only [List.cons.injEq,and_true] at h0;exact ⟨_,_,_,h0⟩
 ·simp only [List.cons.injEq,and_true] at h1;exact ⟨_,_,_,h1⟩
theorem CFit.rows {t e:TypeId} {v:Value} {ks:List IntKind} (h:CFit P w t [v]) (hu:P.underlying t = some (.slice e)) (hs:P.cellsOf e = ks.length) (hs0:0 < ks.length) (hl:leafInts P e = some ks) :
 ∃ (n:Nat) (f:Nat → Nat → Int),IsRows w v ks n f:=by
 obtain ⟨A,n,c,rfl⟩:=h.slice_val hu
 obtain ⟨hn,hm,rows,hr,hw,hrd⟩:=h.slice_ints hu hs hs0 hl
 refine ⟨n,fun i j => (rows.getD i []).getD j 0,A,c,rfl,hn,hm,fun i hi j k hk => ?_,fun h0 => ?_⟩
 ·have hi':i < rows.length:=by omega
  have:=hw rows[i] (List.getElem_mem hi')
  obtain ⟨hj,_⟩:=List.getElem?_eq_some_iff.1 hk
  refine this.2 j k _ hk ?_
  have hjl:j < rows[i].length:=by rw [this.1];exact hj
  simp [hi',hjl]
 ·obtain ⟨b,off,rfl,hB,hcell⟩:=hrd.at_ h0
  refine ⟨b,off,rfl,hB,fun i hi j k hk => hcell _ _ ?_⟩
  have hi':i < rows.length:=by omega
  obtain ⟨hj,_⟩:=List.getElem?_eq_some_iff.1 hk
  have h1:=flat_get (rows.map (intsOf ks)) (s:=ks.length) (fun r hr => by
   obtain ⟨x,hx,rfl⟩:=List.mem_map.1 hr
   exact intsOf_len _ _ (hw x hx).1) i (by simpa using hi') j hj
  rw [h1,List.getElem_map,intsOf_get (hw _ (List.getElem_mem hi')).1 hk]
  simp [hi']
end
theorem IsRows.val {w:World} {v:Value} {ks:List IntKind} {n:Nat} {f:Nat → Nat → Int} (h:IsRows w v ks n f):∃ A c,v = .slice A n c:=by
 obtain ⟨A,c,e,_⟩:=h;exact ⟨A,c,e⟩
theorem deal_fit {v:Value} {w:World} (h:Fit Tryz.prog w 24 v):∃ (A:Option Addr) (n m:Nat) (g:Nat → Nat → Int) (a b c d:Int),v = .agg #[.slice A n m,a,b,c,d] ∧
 (Lit.int .i64 a).wf = true ∧ (Lit.int .i64 b).wf = true ∧ (Lit.int .i64 c).wf = true ∧ (Lit.int .i64 d).wf = true ∧ IsRows w (.slice A n m) [.i64,.i64] n g:=by
 obtain ⟨cs,rfl,hcf⟩:=h.struct Tryz.underlying24
 have hl:=CFit.leaves 9 _ cs [22,3,3,3,3] (by kernel_rfl) hcf
 obtain ⟨hlen,hl⟩:=hl
 match cs,hlen with
 | [c0,c1,c2,c3,c4],_ =>
  have gi:∀ (i:Nat) (v:Value),([22,3,3,3,3]:List TypeId)[i]? = some 3 → [c0,c1,c2,c3,c4][i]? = some v → ∃ n,v = .int .i64 n ∧ (Lit.int .i64 n).wf = true:=fun i v h1 h2 => by
   obtain ⟨v',h3,h4⟩:=hl i _ h1
   rw [h2] at h3
   injection h3 with h3
   subst h3
   obtain ⟨n,h5,h6⟩:=h4.int Tryz.underlying3
   simp only [List.cons.injEq,and_true] at h5
   exact ⟨n,h5,h6⟩
  obtain ⟨a,rfl,ha⟩:=gi 1 c1 rfl rfl
  obtain ⟨b,rfl,hb⟩:=gi 2 c2 rfl rfl
  obtain ⟨c,rfl,hc⟩:=gi 3 c3 rfl rfl
  obtain ⟨d,rfl,hd⟩:=gi 4 c4 rfl rfl
  obtain ⟨v',h3,h4⟩:=hl 0 22 rfl
  simp only [List.getElem?_cons_zero,Option.some.injEq] at h3
  subst h3
  obtain ⟨n,g,hr⟩:=h4.rows (ks:=[.i64,.i64]) Tryz.underlying22 (by kernel_rfl) (by simp) (by kernel_rfl)
  obtain ⟨A,m,rfl⟩:=hr.val
  exact ⟨A,n,m,g,a,b,c,d,rfl,ha,hb,hc,hd,hr⟩
end Go.Proofs.YtfgiehkfcoodbaaGreat
namespace Go.Proofs.YtfgiehkfcoodbaaGreat
open Go.RowKit
set_option linter.unusedVariables false
set_option maxRecDepth 100000
set_option maxHeartbeats 16000000
section
variable {P:Program} {ops:Array Oper} {rest:List Oper} {o:Oper} {a:Act} {t e:TypeId} {size bytes:Nat} {w0 W:World} {G:List Nat} {L:List Chunk} {base n:Nat} {v:Value} {xs news:List Value}
theorem mem_pushed {A':Option Addr} {c' i:Nat} {w':World} (H:Mem w0 G W L) (hi:L[i]? = some (.row base e size v n xs)) (ho:w'.ownsRow base e size (.slice A' (n + 1) c') (n + 1) (xs ++ news)) (hg:(W.alloc (.cells ⟨news⟩ e)).grownBy w' v.ownBlock)
 (hb:∀ b,b < (W.alloc (.cells ⟨news⟩ e)).heap.size → some b ≠ v.ownBlock → some b ≠ (Value.slice A' (n + 1) c').ownBlock):Mem w0 G w' (L.set i (.row base e size (.slice A' (n + 1) c') (n + 1) (xs ++ news))):=by
 have H1:=H.alloc _ rfl ⟨news⟩ e
 have hil:i < L.length:=(List.getElem?_eq_some_iff.1 hi).1
 have hi1:(L ++ [Chunk.blk W.heap.size e ⟨news⟩])[i]? = some (.row base e size v n xs):=by rw [List.getElem?_append_left hil];exact hi
 have H2:=Mem.push i H1 hi1 hg ho (fun k hk => by
  by_cases h1:some k = v.ownBlock
  ·exact .inl h1.symm
  ·rcases Nat.lt_or_ge k (W.alloc (.cells ⟨news⟩ e)).heap.size with h2 | h2
   ·exact absurd hk.symm (hb k h2 h1)
   ·exact .inr h2)
 rw [List.set_append_left _ _ hil] at H2
 exact H2.sub (List.sublist_append_left _ _)
theorem wpList_pushM {Q:Exit → Act → World → Prop} (E:Elem P t e size bytes) (hgd:o.guard = none) (s x:Operand)
 (ho:o.op = .call { callee:=.builtin .append,args:=#[s,x],argTypes:=#[t,t] })
 (i:Nat) (H:Mem w0 G W L) (hi:L[i]? = some (.row base e size v n xs)) (hs:a.eval s = v) (g:Nat) (hgW:W.heap.size = g) (hx:a.eval x = .slice (some ⟨g,0,none⟩) 1 1)
 (hl:news.length = size) (h1:∀ u ∈ news,u.oneCell' = true) (hbytes:(n + 1) * bytes ≤ 140737488355328) (hmax:n + 1 ≤ maxLen) (hbase:base ≤ W.heap.size)
 (h:∀ A' c' w',Mem w0 G w' (L.set i (.row base e size (.slice A' (n + 1) c') (n + 1) (xs ++ news))) → wpList P ops Q rest (a.put o.dst (.slice A' (n + 1) c')) w'):wpList P ops Q (o :: rest) a (W.alloc (.cells ⟨news⟩ e)) :=
 wpList_pushk E hgd s x ho _ base g v n xs news hs ((H.own_ i hi).alloc _) hx (hgW ▸ heap_alloc_new W _) hl h1 hbytes hmax (by simp;omega) fun A' c' w' ho' _ hg hb => h A' c' w' (mem_pushed H hi ho' hg hb)
theorem wpList_pushMg {Q:Exit → Act → World → Prop} (E:Elem P t e size bytes) (hgd:o.guard = none) (s x:Operand)
 (ho:o.op = .call { callee:=.builtin .append,args:=#[s,x],argTypes:=#[t,t] })
 (i:Nat) (H:Mem w0 G W L) (hi:L[i]? = some (.row base e size v n xs)) (hs:a.eval s = v) (g:Nat) (hgW:W.heap.size = g) (hx:a.eval x = .slice (some ⟨g,0,none⟩) 1 1)
 (hl:news.length = size) (h1:∀ u ∈ news,u.oneCell' = true) (hbytes:(n + 1) * bytes ≤ 140737488355328) (hmax:n + 1 ≤ maxLen) (hbase:base ≤ W.heap.size)
 (h:∀ A' c' w',Mem w0 G w' (L.set i (.row base e size (.slice A' (n + 1) c') (n + 1) (xs ++ news))) → (W.alloc (.cells ⟨news⟩ e)).grownBy w' v.ownBlock → wpList P ops Q rest (a.put o.dst (.slice A' (n + 1) c')) w'):wpList P ops Q (o :: rest) a (W.alloc (.cells ⟨news⟩ e)) :=
 wpList_pushk E hgd s x ho _ base g v n xs news hs ((H.own_ i hi).alloc _) hx (hgW ▸ heap_alloc_new W _) hl h1 hbytes hmax (by simp;omega) fun A' c' w' ho' _ hg hb => h A' c' w' (mem_pushed H hi ho' hg hb) hg
end
end Go.Proofs.YtfgiehkfcoodbaaGreat
