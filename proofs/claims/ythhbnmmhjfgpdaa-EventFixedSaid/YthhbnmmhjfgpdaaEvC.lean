/- book: caught; the deferred closures of Encode and Decode; fields. -/
import Derived.Test.YthhbnmmhjfgpdaaEv
import Derived.Test.YthhbnmmhjfgpdaaHeap
import Derived.Test.YthhbnmmhjfgpdaaSets
import Derived.Recover
import Derived.BigRegion
namespace Go.Proofs.Ythhbnmmhjfgpdaa
open Go.RowKit
set_option linter.unusedVariables false
/-- A drawn region in a deferred function that may recover. -/
theorem wpS_region_draw {P : Program} {Q : Exit → Act → List Frame → World → Prop} {a : Act} {cs : List Frame} {w : World} {id : Nat} {ops : Array Oper}
    (h : ∀ t, wpOpsS P ops Q (Region.schedule (P.follows .mixedOrders) ops t) a cs { w with drawn := w.drawn + 1 }) : (Code.region id ops true).wpS P Q a cs w :=
  fun b k hb hr => let ⟨e, a', cs', w', q, r⟩ := wp_opsS _ a cs _ (h _) b k hb hr; ⟨e, a', cs', w', q, .of_steps (.one step_region_draw) r⟩
/-- Four operations of which the first two may change places. -/
theorem sched4 {ops : Array Oper} (hs : ops.size = 4) (h0 : Region.ready .any ops #[false, false, false, false] = [0, 1]) (h1 : Region.ready .any ops #[true, false, false, false] = [1]) (h2 : Region.ready .any ops #[false, true, false, false] = [0])
    (h3 : Region.ready .any ops #[true, true, false, false] = [2]) (h4 : Region.ready .any ops #[true, true, true, false] = [3]) (t : Nat) : Region.schedule true ops t = [0, 1, 2, 3] ∨ Region.schedule true ops t = [1, 0, 2, 3] := by
  have step : ∀ fuel t listed acc, Region.linearise.go .any ops (fuel + 1) t listed acc = match (Region.ready .any ops listed)[t % (Region.ready .any ops listed).length]? with
    | some i => Region.linearise.go .any ops fuel (t / (Region.ready .any ops listed).length) (listed.setIfInBounds i true) (i :: acc)
    | none => acc.reverse := fun _ _ _ _ => rfl
  have e : Region.schedule true ops t = Region.linearise.go .any ops 4 t #[false, false, false, false] [] := by
    show Region.linearise.go .any ops ops.size t (Array.replicate ops.size false) [] = _
    rw [hs]; rfl
  rw [e, step, h0]
  rcases Nat.mod_two_eq_zero_or_one t with h | h
  · left
    simp only [List.length_cons, List.length_nil, Nat.zero_add, Nat.reduceAdd, h, List.getElem?_cons_zero]
    show Region.linearise.go .any ops 3 _ #[true, false, false, false] [0] = _
    rw [step, h1]
    simp only [List.length_cons, List.length_nil, Nat.zero_add, Nat.mod_one, List.getElem?_cons_zero]
    show Region.linearise.go .any ops 2 _ #[true, true, false, false] [1, 0] = _
    rw [step, h3]
    simp only [List.length_cons, List.length_nil, Nat.zero_add, Nat.mod_one, List.getElem?_cons_zero]
    show Region.linearise.go .any ops 1 _ #[true, true, true, false] [2, 1, 0] = _
    rw [step, h4]
    simp only [List.length_cons, List.length_nil, Nat.zero_add, Nat.mod_one, List.getElem?_cons_zero]
    rfl
  · right
    simp only [List.length_cons, List.length_nil, Nat.zero_add, Nat.reduceAdd, h, List.getElem?_cons_succ, List.getElem?_cons_zero]
    show Region.linearise.go .any ops 3 _ #[false, true, false, false] [1] = _
    rw [step, h2]
    simp only [List.length_cons, List.length_nil, Nat.zero_add, Nat.mod_one, List.getElem?_cons_zero]
    show Region.linearise.go .any ops 2 _ #[true, true, false, false] [0, 1] = _
    rw [step, h3]
    simp only [List.length_cons, List.length_nil, Nat.zero_add, Nat.mod_one, List.getElem?_cons_zero]
    show Region.linearise.go .any ops 1 _ #[true, true, true, false] [2, 0, 1] = _
    rw [step, h4]
    simp only [List.length_cons, List.length_nil, Nat.zero_add, Nat.mod_one, List.getElem?_cons_zero]
    rfl
theorem sched_case {P : Program} {Q : Exit → Act → List Frame → World → Prop} {a : Act} {cs : List Frame} {w : World} {ops : Array Oper} {t : Nat} (hs : ops.size = 4) (h0 : Region.ready .any ops #[false, false, false, false] = [0, 1]) (h1 : Region.ready .any ops #[true, false, false, false] = [1]) (h2 : Region.ready .any ops #[false, true, false, false] = [0])
    (h3 : Region.ready .any ops #[true, true, false, false] = [2]) (h4 : Region.ready .any ops #[true, true, true, false] = [3]) (hA : wpOpsS P ops Q [0, 1, 2, 3] a cs w) (hB : wpOpsS P ops Q [1, 0, 2, 3] a cs w) : wpOpsS P ops Q (Region.schedule true ops t) a cs w := by
  rcases sched4 hs h0 h1 h2 h3 h4 t with h | h
  · rw [h]; exact hA
  · rw [h]; exact hB
theorem caught_nil (c : Int) (w : World) : Calls Try.prog 22 #[.nilIface, .int .i64 c] w fun e w' => e = .returned (.int .i64 c) ∧ w = w' := by
  go_enter Try.func22, Try.ntmps22
  go_wp2
  go_ret
  exact ⟨rfl, rfl⟩
theorem assert_err (code : Int) (w : World) : (Instr.typeAssert (.iface 90 (.agg #[.int .i64 code])) 20 88 false).run Try.prog w = .ok (.iface 90 (.agg #[.int .i64 code])) w := by kernel_rfl
theorem assert_ref (code : Int) (w : World) : (Instr.typeAssert (.iface 90 (.agg #[.int .i64 code])) 88 90 true).run Try.prog w = .ok (.tuple #[.agg #[.int .i64 code], .bool true]) w := by kernel_rfl
theorem caught_ref (code c : Int) (w : World) : Calls Try.prog 22 #[.iface 90 (.agg #[.int .i64 code]), .int .i64 c] w fun e w' => e = .returned (.int .i64 code) ∧ Below w.heap.size w w' := by
  have h1 := assert_err code
  have h2 := assert_ref code
  go_enter Try.func22, Try.ntmps22
  go_wp2
  go_ret
  exact ⟨rfl, below_a1 _ _⟩
/-- The places of an event's numbers. -/
def ptrs (g : Nat) : Value := .agg #[.pointer (some ⟨g, 0, none⟩), .pointer (some ⟨g, 1, none⟩), .pointer (some ⟨g, 2, none⟩), .pointer (some ⟨g, 3, none⟩), .pointer (some ⟨g, 4, none⟩), .pointer (some ⟨g, 5, none⟩), .pointer (some ⟨g, 6, none⟩), .pointer (some ⟨g, 7, none⟩), .pointer (some ⟨g, 8, none⟩), .pointer (some ⟨g, 9, none⟩), .pointer (some ⟨g, 10, none⟩), .pointer (some ⟨g, 11, none⟩), .pointer (some ⟨g, 12, none⟩)]
set_option maxRecDepth 100000 in
theorem fields_ok (g : Nat) (w : World) : Calls Try.prog 24 #[.pointer (some ⟨g, 0, none⟩)] w fun e w' => e = .returned (ptrs g) ∧ Below w.heap.size w w' := by
  go_enter Try.func24, Try.ntmps24
  go_wp2
  go_region
  go_wp2
  refine bodyPost_ret (v := ptrs g) (by simp [results, Try.results24, go_sem, ptrs]; done) rfl ?_
  exact ⟨rfl, below_ad (Below.refl _ _) (Nat.le_refl _) _⟩
theorem grown_sets {b : Nat} : ∀ (ps : List (Nat × Value)) (w : World), w.grownBy (sets w b ps) (some b)
  | [], w => ⟨rfl, rfl, rfl, Nat.le_refl _, fun _ _ _ => rfl⟩
  | p :: ps, w => by
    have h := grown_sets (b := b) ps (w.setCell ⟨b, p.1, none⟩ p.2)
    have g := grown_setCell w ⟨b, p.1, none⟩ p.2
    exact ⟨h.os.trans g.os, h.tape.trans g.tape, h.output.trans g.output, Nat.le_trans g.size h.size, fun k hk hn => (h.block k (Nat.lt_of_lt_of_le hk g.size) hn).trans (g.block k hk hn)⟩
theorem mem_sets {w0 w : World} {G : List Nat} {L : List Chunk} {j v : Nat} {t : TypeId} {cs : Array Value} (H : Mem w0 G w L) (hj : L[j]? = some (.blk v t cs)) (ps : List (Nat × Value)) :
    Mem w0 G (sets w v ps) (L.set j (.blk v t (ps.foldl (fun cs p => cs.setIfInBounds p.1 p.2) cs))) :=
  H.turn hj (c' := .blk v t _) (grown_sets ps w) (Blk.sets ps (H.blk j hj)) (fun k hk => .inl hk)
section
variable {w0 w : World} {G : List Nat} {L : List Chunk} {i j g v : Nat} {x : Int}
set_option maxRecDepth 100000 in
theorem enc_catch (code : Int) (older : List PanicEntry) (H0 : Mem w0 G w L) (hi : L[i]? = some (.blk g 29 #[.int .i64 x])) :
    CallsD Try.prog 21 #[.pointer (some ⟨g, 0, none⟩)] (.panicking ({ v := .iface 90 (.agg #[.int .i64 code]), recovered := false } :: older)) w fun e u' w' =>
      e = .returned (.tuple #[]) ∧ u' = .panicking ({ v := .iface 90 (.agg #[.int .i64 code]), recovered := true } :: older) ∧ Mem w0 G w' (L.set i (.blk g 29 #[.int .i64 code])) := by
  refine callsD_of_wpS Try.func21 rfl fun c₀ cs hu => ?_
  refine wpS_region_draw fun t => ?_
  rw [show Try.prog.follows .mixedOrders = true by kernel_rfl]
  have hc : w.cell? ⟨g, 0, none⟩ = some (.int .i64 x) := (H0.blk i hi).cell 0
  refine sched_case (by rfl) (by kernel_rfl) (by kernel_rfl) (by kernel_rfl) (by kernel_rfl) (by kernel_rfl) ?_ ?_
  all_goals
    simp [wpOpsS, go_sem, recoverD, hu, hc]
    refine (caught_ref code x _).mono ?_
    rintro e w1 ⟨rfl, hb⟩
    have H := Mem.call (Mem.drew H0) hb
    have hc1 : w1.cell? ⟨g, 0, none⟩ = some (.int .i64 x) := (H.blk i hi).cell 0
    have hf1 : w1.frozen? ⟨g, 0, none⟩ = false := (H.blk i hi).frozen 0
    simp [go_sem, hc1, hf1, bodyPostS, results, Try.results21]
    exact Mem.set i H hi 0 (.int .i64 code)
set_option maxRecDepth 100000 in
theorem enc_idle (H0 : Mem w0 G w L) (hi : L[i]? = some (.blk g 29 #[.int .i64 x])) :
    CallsD Try.prog 21 #[.pointer (some ⟨g, 0, none⟩)] .returning w fun e u' w' => e = .returned (.tuple #[]) ∧ u' = .returning ∧ Mem w0 G w' (L.set i (.blk g 29 #[.int .i64 x])) := by
  refine callsD_of_wpS Try.func21 rfl fun c₀ cs hu => ?_
  refine wpS_region_draw fun t => ?_
  rw [show Try.prog.follows .mixedOrders = true by kernel_rfl]
  have hc : w.cell? ⟨g, 0, none⟩ = some (.int .i64 x) := (H0.blk i hi).cell 0
  have hf : w.frozen? ⟨g, 0, none⟩ = false := (H0.blk i hi).frozen 0
  refine sched_case (by rfl) (by kernel_rfl) (by kernel_rfl) (by kernel_rfl) (by kernel_rfl) (by kernel_rfl) ?_ ?_
  all_goals
    simp [wpOpsS, go_sem, recoverD, hu, hc]
    refine (caught_nil x _).mono ?_
    rintro e w1 ⟨rfl, rfl⟩
    have H := Mem.drew H0
    simp [go_sem, hc, hf, bodyPostS, results, Try.results21]
    exact ⟨.returning, by cases c₀; simp at hu ⊢; exact hu, rfl, (Mem.set i H0 hi 0 (.int .i64 x)).drew⟩
def zeroEv : Array Value := #[.int .i64 0, .int .i64 0, .int .i64 0, .int .i64 0, .int .i64 0, .int .i64 0, .int .i64 0, .int .i64 0, .int .i64 0, .int .i64 0, .int .i64 0, .int .i64 0, .int .i64 0]
set_option maxRecDepth 100000 in
set_option maxHeartbeats 2000000 in
theorem dec_catch (code : Int) (hcode : ¬ code = 0) (older : List PanicEntry) (y0 y1 y2 y3 y4 y5 y6 y7 y8 y9 y10 y11 y12 : Value) (H0 : Mem w0 G w L) (hi : L[i]? = some (.blk g 29 #[.int .i64 x])) (hj : L[j]? = some (.blk v 27 #[y0, y1, y2, y3, y4, y5, y6, y7, y8, y9, y10, y11, y12])) (hij : i ≠ j) :
    CallsD Try.prog 25 #[.pointer (some ⟨g, 0, none⟩), .pointer (some ⟨v, 0, none⟩)] (.panicking ({ v := .iface 90 (.agg #[.int .i64 code]), recovered := false } :: older)) w fun e u' w' =>
      e = .returned (.tuple #[]) ∧ u' = .panicking ({ v := .iface 90 (.agg #[.int .i64 code]), recovered := true } :: older) ∧ Mem w0 G w' ((L.set i (.blk g 29 #[.int .i64 code])).set j (.blk v 27 zeroEv)) := by
  refine callsD_of_wpS Try.func25 rfl fun c₀ cs hu => ?_
  apply wpS_seq
  refine wpS_region_draw fun t => ?_
  rw [show Try.prog.follows .mixedOrders = true by kernel_rfl]
  have hc : w.cell? ⟨g, 0, none⟩ = some (.int .i64 x) := (H0.blk i hi).cell 0
  refine sched_case (by rfl) (by kernel_rfl) (by kernel_rfl) (by kernel_rfl) (by kernel_rfl) (by kernel_rfl) ?_ ?_
  all_goals
    simp [wpOpsS, go_sem, recoverD, hu, hc]
    refine (caught_ref code x _).mono ?_
    rintro e w1 ⟨rfl, hb⟩
    have H := Mem.call (Mem.drew H0) hb
    have hc1 : w1.cell? ⟨g, 0, none⟩ = some (.int .i64 x) := (H.blk i hi).cell 0
    have hf1 : w1.frozen? ⟨g, 0, none⟩ = false := (H.blk i hi).frozen 0
    have H2 := Mem.set i H hi 0 (.int .i64 code)
    simp [go_sem, hc1, hf1, Exit.thenS]
    have hj2 : (L.set i (Chunk.blk g 29 #[.int .i64 code]))[j]? = some (.blk v 27 #[y0, y1, y2, y3, y4, y5, y6, y7, y8, y9, y10, y11, y12]) := by rw [List.getElem?_set_ne hij]; exact hj
    have hi2 : (L.set i (Chunk.blk g 29 #[.int .i64 code]))[i]? = some (.blk g 29 #[.int .i64 code]) := by rw [List.getElem?_set_self (List.getElem?_eq_some_iff.1 hi).1]
    obtain ⟨W2, hW2⟩ : ∃ W2, w1.setCell ⟨g, 0, none⟩ (.int .i64 code) = W2 := ⟨_, rfl⟩
    have H3 : Mem w0 G W2 (L.set i (Chunk.blk g 29 #[.int .i64 code])) := hW2 ▸ H2
    rw [hW2]
    clear H2 hW2
    have e0 : W2.cell? ⟨g, 0, none⟩ = some (.int .i64 code) := (H3.blk i hi2).cell 0
    have B := H3.blk j hj2
    have b0 : W2.cell? ⟨v, 0, none⟩ = some y0 := B.cell 0
    have f0 : W2.frozen? ⟨v, 0, none⟩ = false := B.frozen 0
    have b1 : W2.cell? ⟨v, 1, none⟩ = some y1 := B.cell 1
    have f1 : W2.frozen? ⟨v, 1, none⟩ = false := B.frozen 1
    have b2 : W2.cell? ⟨v, 2, none⟩ = some y2 := B.cell 2
    have f2 : W2.frozen? ⟨v, 2, none⟩ = false := B.frozen 2
    have b3 : W2.cell? ⟨v, 3, none⟩ = some y3 := B.cell 3
    have f3 : W2.frozen? ⟨v, 3, none⟩ = false := B.frozen 3
    have b4 : W2.cell? ⟨v, 4, none⟩ = some y4 := B.cell 4
    have f4 : W2.frozen? ⟨v, 4, none⟩ = false := B.frozen 4
    have b5 : W2.cell? ⟨v, 5, none⟩ = some y5 := B.cell 5
    have f5 : W2.frozen? ⟨v, 5, none⟩ = false := B.frozen 5
    have b6 : W2.cell? ⟨v, 6, none⟩ = some y6 := B.cell 6
    have f6 : W2.frozen? ⟨v, 6, none⟩ = false := B.frozen 6
    have b7 : W2.cell? ⟨v, 7, none⟩ = some y7 := B.cell 7
    have f7 : W2.frozen? ⟨v, 7, none⟩ = false := B.frozen 7
    have b8 : W2.cell? ⟨v, 8, none⟩ = some y8 := B.cell 8
    have f8 : W2.frozen? ⟨v, 8, none⟩ = false := B.frozen 8
    have b9 : W2.cell? ⟨v, 9, none⟩ = some y9 := B.cell 9
    have f9 : W2.frozen? ⟨v, 9, none⟩ = false := B.frozen 9
    have b10 : W2.cell? ⟨v, 10, none⟩ = some y10 := B.cell 10
    have f10 : W2.frozen? ⟨v, 10, none⟩ = false := B.frozen 10
    have b11 : W2.cell? ⟨v, 11, none⟩ = some y11 := B.cell 11
    have f11 : W2.frozen? ⟨v, 11, none⟩ = false := B.frozen 11
    have b12 : W2.cell? ⟨v, 12, none⟩ = some y12 := B.cell 12
    have f12 : W2.frozen? ⟨v, 12, none⟩ = false := B.frozen 12
    have hcode2 : (code == 0) = false := by simpa using hcode
    refine wpS_of_wp ?_
    simp only [Array.replicate_succ, Array.replicate_zero, List.push_toArray, List.append_toArray, List.nil_append, List.cons_append, List.setIfInBounds_toArray, List.set_cons_succ, List.set_cons_zero]
    clear hb H hc1 hf1 hc hu
    go_wp2
    have HZ := mem_sets H3 hj2 [(0, .int .i64 0), (1, .int .i64 0), (2, .int .i64 0), (3, .int .i64 0), (4, .int .i64 0), (5, .int .i64 0), (6, .int .i64 0), (7, .int .i64 0), (8, .int .i64 0), (9, .int .i64 0), (10, .int .i64 0), (11, .int .i64 0), (12, .int .i64 0)]
    simp only [sets, List.foldl_cons, List.foldl_nil, List.setIfInBounds_toArray, List.set_cons_zero, List.set_cons_succ] at HZ
    refine ⟨rfl, _, rfl, _, by simp [results, Try.results25]; done, rfl, rfl, ?_⟩
    unfold zeroEv
    exact HZ
set_option maxRecDepth 100000 in
theorem dec_idle (H0 : Mem w0 G w L) (hi : L[i]? = some (.blk g 29 #[.int .i64 0])) :
    CallsD Try.prog 25 #[.pointer (some ⟨g, 0, none⟩), .pointer (some ⟨v, 0, none⟩)] .returning w fun e u' w' => e = .returned (.tuple #[]) ∧ u' = .returning ∧ Mem w0 G w' (L.set i (.blk g 29 #[.int .i64 0])) := by
  refine callsD_of_wpS Try.func25 rfl fun c₀ cs hu => ?_
  apply wpS_seq
  refine wpS_region_draw fun t => ?_
  rw [show Try.prog.follows .mixedOrders = true by kernel_rfl]
  have hc : w.cell? ⟨g, 0, none⟩ = some (.int .i64 0) := (H0.blk i hi).cell 0
  have hf : w.frozen? ⟨g, 0, none⟩ = false := (H0.blk i hi).frozen 0
  refine sched_case (by rfl) (by kernel_rfl) (by kernel_rfl) (by kernel_rfl) (by kernel_rfl) (by kernel_rfl) ?_ ?_
  all_goals
    simp [wpOpsS, go_sem, recoverD, hu, hc]
    refine (caught_nil 0 _).mono ?_
    rintro e w1 ⟨rfl, rfl⟩
    simp [go_sem, hc, hf, Exit.thenS]
    have H2 := Mem.drew (Mem.set i H0 hi 0 (.int .i64 0))
    have hi2 : (L.set i (Chunk.blk g 29 #[.int .i64 0]))[i]? = some (.blk g 29 #[.int .i64 0]) := by rw [List.getElem?_set_self (List.getElem?_eq_some_iff.1 hi).1]
    obtain ⟨W2, hW2⟩ : ∃ W2, (w.setCell ⟨g, 0, none⟩ (.int .i64 0)).drew = W2 := ⟨_, rfl⟩
    have H3 : Mem w0 G W2 (L.set i (Chunk.blk g 29 #[.int .i64 0])) := hW2 ▸ H2
    rw [hW2]
    clear H2 hW2
    have e0 : W2.cell? ⟨g, 0, none⟩ = some (.int .i64 0) := (H3.blk i hi2).cell 0
    apply wpS_seq
    apply wpS_region
    simp [wpOpsS, go_sem, e0, Exit.thenS]
    refine wpS_cond (t := false) ?_ ?_
    · simp [Act.eval]
    simp only [Bool.false_eq_true, if_false]
    refine wpS_of_wp (wp_skip ?_)
    simp [bodyPostS, results, Try.results25]
    exact ⟨.returning, by cases c₀; simp at hu ⊢; exact hu, rfl, H3⟩
end
end Go.Proofs.Ythhbnmmhjfgpdaa
