/- book: caught; the deferred closures of Encode and Decode; fields. -/
import Derived.Test.YtfgiehkfcoodbaaGreatM0
import Derived.Test.YtfgiehkfcoodbaaGreatM21
import Derived.Test.YtfgiehkfcoodbaaGreatM9
import Derived.Test.YtfgiehkfcoodbaaGreatM7
import Derived.Recover
import Derived.BigRegion
import Derived.Test.YtfgiehkfcoodbaaGreatM6
namespace Go.Proofs.YtfgiehkfcoodbaaGreat
open Go.RowKit
set_option linter.unusedVariables false
set_option maxRecDepth 100000
set_option maxHeartbeats 16000000
theorem wpS_region_draw {P:Program} {Q:Exit → Act → List Frame → World → Prop} {a:Act} {cs:List Frame} {w:World} {id:Nat} {ops:Array Oper}
 (h:∀ t,wpOpsS P ops Q (Region.schedule (P.follows .mixedOrders) ops t) a cs { w with drawn:=w.drawn + 1 }):(Code.region id ops true).wpS P Q a cs w :=
 fun b k hb hr => let ⟨e,a',cs',w',q,r⟩:=wp_opsS _ a cs _ (h _) b k hb hr;⟨e,a',cs',w',q,.of_steps (.one step_region_draw) r⟩
theorem sched4 {ops:Array Oper} (hs:ops.size = 4) (h0:Region.ready .any ops #[false,false,false,false] = [0,1]) (h1:Region.ready .any ops #[true,false,false,false] = [1]) (h2:Region.ready .any ops #[false,true,false,false] = [0])
 (h3:Region.ready .any ops #[true,true,false,false] = [2]) (h4:Region.ready .any ops #[true,true,true,false] = [3]) (t:Nat):Region.schedule true ops t = [0,1,2,3] ∨ Region.schedule true ops t = [1,0,2,3]:=by
 have step:∀ fuel t listed acc,Region.linearise.go .any ops (fuel + 1) t listed acc = match (Region.ready .any ops listed)[t % (Region.ready .any ops listed).length]? with
  | some i => Region.linearise.go .any ops fuel (t / (Region.ready .any ops listed).length) (listed.setIfInBounds i true) (i :: acc)
  | none => acc.reverse:=fun _ _ _ _ => rfl
 have e:Region.schedule true ops t = Region.linearise.go .any ops 4 t #[false,false,false,false] []:=by
  show Region.linearise.go .any ops ops.size t (Array.replicate ops.size false) [] = _
  rw [hs];rfl
 rw [e,step,h0]
 rcases Nat.mod_two_eq_zero_or_one t with h | h
 ·left
  simp only [List.length_cons,List.length_nil,Nat.zero_add,Nat.reduceAdd,h,List.getElem?_cons_zero]
  show Region.linearise.go .any ops 3 _ #[true,false,false,false] [0] = _
  rw [step,h1]
  simp only [List.length_cons,List.length_nil,Nat.zero_add,Nat.mod_one,List.getElem?_cons_zero]
  show Region.linearise.go .any ops 2 _ #[true,true,false,false] [1,0] = _
  rw [step,h3]
  simp only [List.length_cons,List.length_nil,Nat.zero_add,Nat.mod_one,List.getElem?_cons_zero]
  show Region.linearise.go .any ops 1 _ #[true,true,true,false] [2,1,0] = _
  rw [step,h4]
  simp only [List.length_cons,List.length_nil,Nat.zero_add,Nat.mod_one,List.getElem?_cons_zero]
  rfl
 ·right
  simp only [List.length_cons,List.length_nil,Nat.zero_add,Nat.reduceAdd,h,List.getElem?_cons_succ,List.getElem?_cons_zero]
  show Region.linearise.go .any ops 3 _ #[false,true,false,false] [1] = _
  rw [step,h2]
  simp only [List.length_cons,List.length_nil,Nat.zero_add,Nat.mod_one,List.getElem?_cons_zero]
  show Region.linearise.go .any ops 2 _ #[true,true,false,false] [0,1] = _
  rw [step,h3]
  simp only [List.length_cons,List.length_nil,Nat.zero_add,Nat.mod_one,List.getElem?_cons_zero]
  show Region.linearise.go .any ops 1 _ #[true,true,true,false] [2,0,1] = _
  rw [step,h4]
  simp only [List.length_cons,List.length_nil,Nat.zero_add,Nat.mod_one,List.getElem?_cons_zero]
  rfl
theorem sched_case {P:Program} {Q:Exit → Act → List Frame → World → Prop} {a:Act} {cs:List Frame} {w:World} {ops:Array Oper} {t:Nat} (hs:ops.size = 4) (h0:Region.ready .any ops #[false,false,false,false] = [0,1]) (h1:Region.ready .any ops #[true,false,false,false] = [1]) (h2:Region.ready .any ops #[false,true,false,false] = [0])
 (h3:Region.ready .any ops #[true,true,false,false] = [2]) (h4:Region.ready .any ops #[true,true,true,false] = [3]) (hA:wpOpsS P ops Q [0,1,2,3] a cs w) (hB:wpOpsS P ops Q [1,0,2,3] a cs w):wpOpsS P ops Q (Region.schedule true ops t) a cs w:=by
 rcases sched4 hs h0 h1 h2 h3 h4 t with h | h
 ·rw [h];exact hA
 ·rw [h];exact hB
theorem caught_nil (c:Int) (w:World):Calls Tryz.prog 45 #[.nilIface,c] w fun e w' => e = .returned (.int .i64 c) ∧ w = w':=by
 go_enter Tryz.func45,Tryz.ntmps45
 go_wp2
 go_ret
 exact ⟨rfl,rfl⟩
theorem assert_err (code:Int) (w:World):(Instr.typeAssert (.iface 178 (.agg #[code])) 20 176 false).run Tryz.prog w = .ok (.iface 178 (.agg #[code])) w:=by kernel_rfl
theorem assert_ref (code:Int) (w:World):(Instr.typeAssert (.iface 178 (.agg #[code])) 176 178 true).run Tryz.prog w = .ok (.tuple #[.agg #[code],.bool true]) w:=by kernel_rfl
theorem caught_ref (code c:Int) (w:World):Calls Tryz.prog 45 #[.iface 178 (.agg #[code]),c] w fun e w' => e = .returned (.int .i64 code) ∧ Below w.heap.size w w':=by
 have h1:=assert_err code
 have h2:=assert_ref code
 go_enter Tryz.func45,Tryz.ntmps45
 go_wp2
 go_ret
 exact ⟨rfl,below_a1 _ _⟩
def ptrs (g:Nat):Value:=.agg #[.pointer (some ⟨g,0,none⟩),.pointer (some ⟨g,1,none⟩),.pointer (some ⟨g,2,none⟩),.pointer (some ⟨g,3,none⟩),.pointer (some ⟨g,4,none⟩),.pointer (some ⟨g,5,none⟩),.pointer (some ⟨g,6,none⟩),.pointer (some ⟨g,7,none⟩),.pointer (some ⟨g,8,none⟩),.pointer (some ⟨g,9,none⟩),.pointer (some ⟨g,10,none⟩),.pointer (some ⟨g,11,none⟩),.pointer (some ⟨g,12,none⟩)]
theorem fields_ok (g:Nat) (w:World):Calls Tryz.prog 47 #[.pointer (some ⟨g,0,none⟩)] w fun e w' => e = .returned (ptrs g) ∧ Below w.heap.size w w':=by
 go_enter Tryz.func47,Tryz.ntmps47
 go_wp2
 go_region
 go_wp2
 refine bodyPost_ret (v:=ptrs g) (by simp [results,Tryz.results47,go_sem,ptrs];done) rfl ?_
 exact ⟨rfl,below_ad (Below.refl _ _) (Nat.le_refl _) _⟩
theorem grown_sets {b:Nat}:∀ (ps:List (Nat × Value)) (w:World),w.grownBy (sets w b ps) (some b)
 | [],w => ⟨rfl,rfl,rfl,Nat.le_refl _,fun _ _ _ => rfl⟩
 | p :: ps,w => by
  have h:=grown_sets (b:=b) ps (w.setCell ⟨b,p.1,none⟩ p.2)
  have g:=grown_setCell w ⟨b,p.1,none⟩ p.2
  exact ⟨h.os.trans g.os,h.tape.trans g.tape,h.output.trans g.output,Nat.le_trans g.size h.size,fun k hk hn => (h.block k (Nat.lt_of_lt_of_le hk g.size) hn).trans (g.block k hk hn)⟩
theorem mem_sets {w0 w:World} {G:List Nat} {L:List Chunk} {j v:Nat} {t:TypeId} {cs:Array Value} (H:Mem w0 G w L) (hj:L[j]? = some (.blk v t cs)) (ps:List (Nat × Value)) :
 Mem w0 G (sets w v ps) (L.set j (.blk v t (ps.foldl (fun cs p => cs.setIfInBounds p.1 p.2) cs))) :=
 H.turn hj (c':=.blk v t _) (grown_sets ps w) (Blk.sets ps (H.blk j hj)) (fun k hk => .inl hk)
section
variable {w0 w:World} {G:List Nat} {L:List Chunk} {i j g v:Nat} {x:Int}
theorem enc_catch (code:Int) (older:List PanicEntry) (H0:Mem w0 G w L) (hi:L[i]? = some (.blk g 45 #[x])) :
 CallsD Tryz.prog 130 #[.pointer (some ⟨g,0,none⟩)] (.panicking ({ v:=.iface 178 (.agg #[code]),recovered:=false } :: older)) w fun e u' w' =>
  e = .returned (.tuple #[]) ∧ u' = .panicking ({ v:=.iface 178 (.agg #[code]),recovered:=true } :: older) ∧ Mem w0 G w' (L.set i (.blk g 45 #[code])):=by
 refine callsD_of_wpS Tryz.func130 rfl fun c₀ cs hu => ?_
 refine wpS_region_draw fun t => ?_
 rw [show Tryz.prog.follows .mixedOrders = true by kernel_rfl]
 have hc:w.cell? ⟨g,0,none⟩ = some (.int .i64 x):=(H0.blk i hi).cell 0
 refine sched_case (by rfl) (by kernel_rfl) (by kernel_rfl) (by kernel_rfl) (by kernel_rfl) (by kernel_rfl) ?_ ?_
 all_goals
  simp [wpOpsS,go_sem,recoverD,hu,hc]
  refine (caught_ref code x _).mono ?_
  rintro e w1 ⟨rfl,hb⟩
  have H:=Mem.call (Mem.drew H0) hb
  have hc1:w1.cell? ⟨g,0,none⟩ = some (.int .i64 x):=(H.blk i hi).cell 0
  have hf1:w1.frozen? ⟨g,0,none⟩ = false:=(H.blk i hi).frozen 0
  simp [go_sem,hc1,hf1,bodyPostS,results,Tryz.results130]
  exact Mem.set i H hi 0 (.int .i64 code)
theorem enc_idle (H0:Mem w0 G w L) (hi:L[i]? = some (.blk g 45 #[x])) :
 CallsD Tryz.prog 130 #[.pointer (some ⟨g,0,none⟩)] .returning w fun e u' w' => e = .returned (.tuple #[]) ∧ u' = .returning ∧ Mem w0 G w' (L.set i (.blk g 45 #[x])):=by
 refine callsD_of_wpS Tryz.func130 rfl fun c₀ cs hu => ?_
 refine wpS_region_draw fun t => ?_
 rw [show Tryz.prog.follows .mixedOrders = true by kernel_rfl]
 have hc:w.cell? ⟨g,0,none⟩ = some (.int .i64 x):=(H0.blk i hi).cell 0
 have hf:w.frozen? ⟨g,0,none⟩ = false:=(H0.blk i hi).frozen 0
 refine sched_case (by rfl) (by kernel_rfl) (by kernel_rfl) (by kernel_rfl) (by kernel_rfl) (by kernel_rfl) ?_ ?_
 all_goals
  simp [wpOpsS,go_sem,recoverD,hu,hc]
  refine (caught_nil x _).mono ?_
  rintro e w1 ⟨rfl,rfl⟩
  have H:=Mem.drew H0
  simp [go_sem,hc,hf,bodyPostS,results,Tryz.results130]
  exact ⟨.returning,by cases c₀;simp at hu ⊢;exact hu,rfl,(Mem.set i H0 hi 0 (.int .i64 x)).drew⟩
def zeroEv:Array Value:=#[(),(),(),(),(),(),(),(),(),(),(),(),()]
theorem dec_catch (code:Int) (hcode:¬ code = 0) (older:List PanicEntry) (y0 y1 y2 y3 y4 y5 y6 y7 y8 y9 y10 y11 y12:Value) (H0:Mem w0 G w L) (hi:L[i]? = some (.blk g 45 #[x])) (hj:L[j]? = some (.blk v 92 #[y0,y1,y2,y3,y4,y5,y6,y7,y8,y9,y10,y11,y12])) (hij:i ≠ j) :
 CallsD Tryz.prog 44 #[.pointer (some ⟨g,0,none⟩),.pointer (some ⟨v,0,none⟩)] (.panicking ({ v:=.iface 178 (.agg #[code]),recovered:=false } :: older)) w fun e u' w' =>
  e = .returned (.tuple #[]) ∧ u' = .panicking ({ v:=.iface 178 (.agg #[code]),recovered:=true } :: older) ∧ Mem w0 G w' ((L.set i (.blk g 45 #[code])).set j (.blk v 92 zeroEv)):=by
 refine callsD_of_wpS Tryz.func44 rfl fun c₀ cs hu => ?_
 apply wpS_seq
 refine wpS_region_draw fun t => ?_
 rw [show Tryz.prog.follows .mixedOrders = true by kernel_rfl]
 have hc:w.cell? ⟨g,0,none⟩ = some (.int .i64 x):=(H0.blk i hi).cell 0
 refine sched_case (by rfl) (by kernel_rfl) (by kernel_rfl) (by kernel_rfl) (by kernel_rfl) (by kernel_rfl) ?_ ?_
 all_goals
  simp [wpOpsS,go_sem,recoverD,hu,hc]
  refine (caught_ref code x _).mono ?_
  rintro e w1 ⟨rfl,hb⟩
  have H:=Mem.call (Mem.drew H0) hb
  have hc1:w1.cell? ⟨g,0,none⟩ = some (.int .i64 x):=(H.blk i hi).cell 0
  have hf1:w1.frozen? ⟨g,0,none⟩ = false:=(H.blk i hi).frozen 0
  have H2:=Mem.set i H hi 0 (.int .i64 code)
  simp [go_sem,hc1,hf1,Exit.thenS]
  have hj2:(L.set i (Chunk.blk g 45 #[code]))[j]? = some (.blk v 92 #[y0,y1,y2,y3,y4,y5,y6,y7,y8,y9,y10,y11,y12]):=by rw [List.getElem?_set_ne hij];exact hj
  have hi2:(L.set i (Chunk.blk g 45 #[code]))[i]? = some (.blk g 45 #[code]):=by rw [List.getElem?_set_self (List.getElem?_eq_some_iff.1 hi).1]
  obtain ⟨W2,hW2⟩:∃ W2,w1.setCell ⟨g,0,none⟩ (.int .i64 code) = W2:=⟨_,rfl⟩
  have H3:Mem w0 G W2 (L.set i (Chunk.blk g 45 #[code])):=hW2 ▸ H2
  rw [hW2]
  clear H2 hW2
  have e0:W2.cell? ⟨g,0,none⟩ = some (.int .i64 code):=(H3.blk i hi2).cell 0
  have B:=H3.blk j hj2
  have b0:W2.cell? ⟨v,0,none⟩ = some y0:=B.cell 0
  have f0:W2.frozen? ⟨v,0,none⟩ = false:=B.frozen 0
  have b1:W2.cell? ⟨v,1,none⟩ = some y1:=B.cell 1
  have f1:W2.frozen? ⟨v,1,none⟩ = false:=B.frozen 1
  have b2:W2.cell? ⟨v,2,none⟩ = some y2:=B.cell 2
  have f2:W2.frozen? ⟨v,2,none⟩ = false:=B.frozen 2
  have b3:W2.cell? ⟨v,3,none⟩ = some y3:=B.cell 3
  have f3:W2.frozen? ⟨v,3,none⟩ = false:=B.frozen 3
  have b4:W2.cell? ⟨v,4,none⟩ = some y4:=B.cell 4
  have f4:W2.frozen? ⟨v,4,none⟩ = false:=B.frozen 4
  have b5:W2.cell? ⟨v,5,none⟩ = some y5:=B.cell 5
  have f5:W2.frozen? ⟨v,5,none⟩ = false:=B.frozen 5
  have b6:W2.cell? ⟨v,6,none⟩ = some y6:=B.cell 6
  have f6:W2.frozen? ⟨v,6,none⟩ = false:=B.frozen 6
  have b7:W2.cell? ⟨v,7,none⟩ = some y7:=B.cell 7
  have f7:W2.frozen? ⟨v,7,none⟩ = false:=B.frozen 7
  have b8:W2.cell? ⟨v,8,none⟩ = some y8:=B.cell 8
  have f8:W2.frozen? ⟨v,8,none⟩ = false:=B.frozen 8
  have b9:W2.cell? ⟨v,9,none⟩ = some y9:=B.cell 9
  have f9:W2.frozen? ⟨v,9,none⟩ = false:=B.frozen 9
  have b10:W2.cell? ⟨v,10,none⟩ = some y10:=B.cell 10
  have f10:W2.frozen? ⟨v,10,none⟩ = false:=B.frozen 10
  have b11:W2.cell? ⟨v,11,none⟩ = some y11:=B.cell 11
  have f11:W2.frozen? ⟨v,11,none⟩ = false:=B.frozen 11
  have b12:W2.cell? ⟨v,12,none⟩ = some y12:=B.cell 12
  have f12:W2.frozen? ⟨v,12,none⟩ = false:=B.frozen 12
  have hcode2:(code == 0) = false:=by simpa using hcode
  refine wpS_of_wp ?_
  simp only [Array.replicate_succ,Array.replicate_zero,List.push_toArray,List.append_toArray,List.nil_append,List.cons_append,List.setIfInBounds_toArray,List.set_cons_succ,List.set_cons_zero]
  clear hb H hc1 hf1 hc hu
  go_wp2
  have HZ:=mem_sets H3 hj2 [(0,.int .i64 0),(1,.int .i64 0),(2,.int .i64 0),(3,.int .i64 0),(4,.int .i64 0),(5,.int .i64 0),(6,.int .i64 0),(7,.int .i64 0),(8,.int .i64 0),(9,.int .i64 0),(10,.int .i64 0),(11,.int .i64 0),(12,.int .i64 0)]
  simp only [sets,List.foldl_cons,List.foldl_nil,List.setIfInBounds_toArray,List.set_cons_zero,List.set_cons_succ] at HZ
  refine ⟨rfl,_,rfl,_,by simp [results,Tryz.results44];done,rfl,rfl,?_⟩
  unfold zeroEv
  exact HZ
theorem dec_idle (H0:Mem w0 G w L) (hi:L[i]? = some (.blk g 45 #[()])) :
 CallsD Tryz.prog 44 #[.pointer (some ⟨g,0,none⟩),.pointer (some ⟨v,0,none⟩)] .returning w fun e u' w' => e = .returned (.tuple #[]) ∧ u' = .returning ∧ Mem w0 G w' (L.set i (.blk g 45 #[()])):=by
 refine callsD_of_wpS Tryz.func44 rfl fun c₀ cs hu => ?_
 apply wpS_seq
 refine wpS_region_draw fun t => ?_
 rw [show Tryz.prog.follows .mixedOrders = true by kernel_rfl]
 have hc:w.cell? ⟨g,0,none⟩ = some (.int .i64 0):=(H0.blk i hi).cell 0
 have hf:w.frozen? ⟨g,0,none⟩ = false:=(H0.blk i hi).frozen 0
 refine sched_case (by rfl) (by kernel_rfl) (by kernel_rfl) (by kernel_rfl) (by kernel_rfl) (by kernel_rfl) ?_ ?_
 all_goals
  simp [wpOpsS,go_sem,recoverD,hu,hc]
  refine (caught_nil 0 _).mono ?_
  rintro e w1 ⟨rfl,rfl⟩
  simp [go_sem,hc,hf,Exit.thenS]
  have H2:=Mem.drew (Mem.set i H0 hi 0 (.int .i64 0))
  have hi2:(L.set i (Chunk.blk g 45 #[()]))[i]? = some (.blk g 45 #[()]):=by rw [List.getElem?_set_self (List.getElem?_eq_some_iff.1 hi).1]
  obtain ⟨W2,hW2⟩:∃ W2,(w.setCell ⟨g,0,none⟩ (.int .i64 0)).drew = W2:=⟨_,rfl⟩
  have H3:Mem w0 G W2 (L.set i (Chunk.blk g 45 #[()])):=hW2 ▸ H2
  rw [hW2]
  clear H2 hW2
  have e0:W2.cell? ⟨g,0,none⟩ = some (.int .i64 0):=(H3.blk i hi2).cell 0
  apply wpS_seq
  apply wpS_region
  simp [wpOpsS,go_sem,e0,Exit.thenS]
  refine wpS_cond (t:=false) ?_ ?_
  ·simp [Act.eval]
  simp only [Bool.false_eq_true,if_false]
  refine wpS_of_wp (wp_skip ?_)
  simp [bodyPostS,results,Tryz.results44]
  exact ⟨.returning,by cases c₀;simp at hu ⊢;exact hu,rfl,H3⟩
end
end Go.Proofs.YtfgiehkfcoodbaaGreat
namespace Go.Proofs.YtfgiehkfcoodbaaGreat
open Go.RowKit
set_option linter.unusedVariables false
set_option maxRecDepth 100000
set_option maxHeartbeats 16000000
theorem u32_of {x:Int} (h0:0 ≤ x) (h1:x ≤ 1000000000):IntKind.u32.wrap x = x:=by
 simp [IntKind.wrap_u32];omega
def evL (k me mo id te de fe pr ch un tg ow bp:Int):List Int:=[k,me,mo,id,te,de,fe,pr,ch,un,tg,ow,bp]
theorem mk_info (fn:Fn) (first cap:Array Value) (w:World):(Instr.makeFunc fn first cap).run Tryz.prog w = .ok (.func fn first cap) w:=rfl
theorem lt13 {q:Nat} (h:q < 13):q = 0 ∨ q = 1 ∨ q = 2 ∨ q = 3 ∨ q = 4 ∨ q = 5 ∨ q = 6 ∨ q = 7 ∨ q = 8 ∨ q = 9 ∨ q = 10 ∨ q = 11 ∨ q = 12:=by omega
theorem pidx (g q:Nat) (h:q < 13) (W:World):(Instr.index 140 (ptrs g) (.int .i64 ↑q)).run Tryz.prog W = .ok (.pointer (some ⟨g,q,none⟩)) W:=by
 rcases lt13 h with rfl | rfl | rfl | rfl | rfl | rfl | rfl | rfl | rfl | rfl | rfl | rfl | rfl <;> kernel_rfl
theorem ev_cell (k me mo id te de fe pr ch un tg ow bp:Int) (q:Nat) (h:q < 13):(#[k,me,mo,id,te,de,fe,pr,ch,un,tg,ow,bp]:Array Value)[q]? = some (.int .i64 ((evL k me mo id te de fe pr ch un tg ow bp).getD q 0)):=by
 rcases lt13 h with rfl | rfl | rfl | rfl | rfl | rfl | rfl | rfl | rfl | rfl | rfl | rfl | rfl <;> rfl
theorem ev_bd {k me mo id te de fe pr ch un tg ow bp:Int} (h:evOk k me mo id te de fe pr ch un tg ow bp) (q:Nat) (hq:q < 13):0 ≤ (evL k me mo id te de fe pr ch un tg ow bp).getD q 0 ∧ (evL k me mo id te de fe pr ch un tg ow bp).getD q 0 ≤ 1000000000:=by
 have h:=h.bd
 rcases lt13 hq with rfl | rfl | rfl | rfl | rfl | rfl | rfl | rfl | rfl | rfl | rfl | rfl | rfl <;> simp [evL] <;> omega
theorem ev_take (k me mo id te de fe pr ch un tg ow bp:Int) (q:Nat) (h:q < 13):(evL k me mo id te de fe pr ch un tg ow bp).take (q + 1) = (evL k me mo id te de fe pr ch un tg ow bp).take q ++ [(evL k me mo id te de fe pr ch un tg ow bp).getD q 0]:=by
 rcases lt13 h with rfl | rfl | rfl | rfl | rfl | rfl | rfl | rfl | rfl | rfl | rfl | rfl | rfl <;> rfl
def RetEnc (ok:Prop) (l:List Int) (w:World) (e:Ending) (w':World):Prop :=
 (ok ∧ ∃ (A:Option Addr) (c:Nat),e = .returned (.tuple #[.slice A 13 c,()]) ∧ w'.ownsRow w.heap.size 143 1 (.slice A 13 c) 13 (l.map (Value.int .u32)) ∧ Below w.heap.size w w') ∨
 (¬ ok ∧ e = .returned (.tuple #[.slice none 0 0,.int .i64 5]) ∧ Below w.heap.size w w')
theorem encode_ok (k me mo id te de fe pr ch un tg ow bp:Int) (w:World):Calls Tryz.prog 126 #[.agg #[k,me,mo,id,te,de,fe,pr,ch,un,tg,ow,bp]] w (RetEnc (evOk k me mo id te de fe pr ch un tg ow bp) (evL k me mo id te de fe pr ch un tg ow bp) w):=by
 have hmf:=mk_info
 have H:=Mem.init w
 replace H:=H.al w.heap.size #[k,me,mo,id,te,de,fe,pr,ch,un,tg,ow,bp] (92) |>.al (w.heap.size + 1) #[()] (45) |>.gen
 simp only [List.nil_append,List.cons_append] at H
 obtain ⟨W0,hW0,H⟩:=H
 have Lev:=H.c13 0 rfl
 have Ler:=H.c1 1 rfl
 have Never:=H.ne2 0 1 rfl rfl rfl
 go_enter_defers Tryz.func126,Tryz.ntmps126
 go_wp2_with fail
 clear hmf
 refine (check_is k me mo id te de fe pr ch un tg ow bp _).mono ?_
 rintro e wa ⟨⟨hok,rfl⟩ | ⟨hno,rfl⟩,hba⟩
 ·replace H:=Mem.call H hba
  clear Lev Ler Never
  have Lev:=H.c13 0 rfl
  have Ler:=H.c1 1 rfl
  have Never:=H.ne2 0 1 rfl rfl rfl
  have HOK:=Lib.hid hok
  clear hba hW0 hok
  go_wp2_with fail
  refine (fields_ok _ _).mono ?_
  rintro e wb ⟨rfl,hbb⟩
  replace H:=Mem.call H hbb
  clear Lev Ler Never
  have Lev:=H.c13 0 rfl
  have Ler:=H.c1 1 rfl
  have Never:=H.ne2 0 1 rfl rfl rfl
  clear hbb
  go_wp2
  go_loopw [2,10] (fun v i wr => ∃ (q:Nat) (A:Option Addr) (c:Nat),q ≤ 13 ∧ i = .int .i64 ↑q ∧ v = .slice A q c ∧ Mem w [] wr [.blk w.heap.size 92 #[k,me,mo,id,te,de,fe,pr,ch,un,tg,ow,bp],.blk (w.heap.size + 1) 45 #[()],.row w.heap.size 143 1 (.slice A q c) q (((evL k me mo id te de fe pr ch un tg ow bp).take q).map (Value.int .u32))]) (fun _ i _ => 13 - (intOf i).toNat)
  case atStart => exact ⟨0,none,0,by omega,rfl,rfl,H.nilrow _ _ _⟩
  case round =>
   obtain ⟨q,A,c,hq,rfl,rfl,HM⟩:=hrel
   clear Lev Ler Never
   clear H
   have H:Mem (w) [] (wr) [.blk (w.heap.size) 92 #[k,me,mo,id,te,de,fe,pr,ch,un,tg,ow,bp],.blk (w.heap.size + 1) 45 #[()],.row (w.heap.size) (143) (1) (.slice A q c) (q) (((evL k me mo id te de fe pr ch un tg ow bp).take q).map (Value.int .u32))]:=HM
   clear HM
   by_cases hlt:q < 13
   ·have hp:=fun W => pidx w.heap.size q hlt W
    have hc:wr.cell? ⟨w.heap.size,q,none⟩ = some (.int .i64 ((evL k me mo id te de fe pr ch un tg ow bp).getD q 0)):=((H.blk 0 rfl).cell q).trans (ev_cell k me mo id te de fe pr ch un tg ow bp q hlt)
    obtain ⟨x0,x1⟩:=ev_bd HOK.out q hlt
    have ht:=ev_take k me mo id te de fe pr ch un tg ow bp q hlt
    obtain ⟨x,hx⟩:∃ x,(evL k me mo id te de fe pr ch un tg ow bp).getD q 0 = x:=⟨_,rfl⟩
    rw [hx] at hc x0 x1 ht
    have hw:=u32_of x0 x1
    have HT:=Lib.hid ht
    clear hx ht
    go_wp2_with (at_builtin;refine wpList_pushM el_u32 rfl (.tmp 13) (.tmp 18) rfl 2 H rfl rfl _ rfl rfl (news:=[.int .u32 x]) rfl (fun u hu => by simp at hu;subst hu;rfl) (by omega) (by unfold maxLen;omega) H.keep.size ?_;intro A1 c1 w1 H1)
    replace H:Mem (w) [] (w1) [.blk (w.heap.size) 92 #[k,me,mo,id,te,de,fe,pr,ch,un,tg,ow,bp],.blk (w.heap.size + 1) 45 #[()],.row (w.heap.size) (143) (1) (.slice A1 (q + 1) c1) (q + 1) (((evL k me mo id te de fe pr ch un tg ow bp).take q).map (Value.int .u32) ++ [.int .u32 x])]:=H1
    clear H1
    go_roundw
    case rel =>
     refine ⟨q + 1,A1,c1,by omega,by go_num,rfl,?_⟩
     rw [HT.out,List.map_append]
     exact H
    case measure => simp [intOf];omega
   ·skip
    have Ler:=H.c1 1 rfl
    go_wp2
    replace H:=H.set 1 rfl 0 () |>.gen
    simp only [List.set_cons_zero,List.set_cons_succ,List.setIfInBounds_toArray] at H
    obtain ⟨wz,hwz,H⟩:=H
    rw [hwz]
    clear hwz
    have hl:=enc_idle (i:=1) H rfl
    refine leaves_cons (f:=130) (args:=#[.pointer (some ⟨w.heap.size + 1,0,none⟩)]) (by simp) (by simp [go_sem]) ?_
    refine hl.mono ?_
    rintro e u' wy ⟨rfl,rfl,HY⟩
    have e0:wy.cell? ⟨w.heap.size + 1,0,none⟩ = some (.int .i64 0):=(HY.blk 1 rfl).cell 0
    obtain rfl:q = 13:=by omega
    simp [Go.Leaves,settle,results,Tryz.results126,go_sem,e0]
    exact .inl ⟨HOK.out,A,c,rfl,HY.ownb 2 rfl,HY.below⟩
 ·skip
  replace H:=Mem.call H hba
  have HNO:=Lib.hid hno
  clear hba hW0 hno
  go_wp2
  have hl:=enc_catch (i:=1) 5 [] H rfl
  refine leaves_cons (f:=130) (args:=#[.pointer (some ⟨w.heap.size + 1,0,none⟩)]) (by simp) (by simp [go_sem]) ?_
  refine hl.mono ?_
  rintro e u' wy ⟨rfl,rfl,HY⟩
  have e0:wy.cell? ⟨w.heap.size + 1,0,none⟩ = some (.int .i64 5):=(HY.blk 1 rfl).cell 0
  simp [Go.Leaves,settle,results,Tryz.results126,go_sem,e0]
  exact .inr ⟨HNO.out,rfl,HY.below⟩
def evAt (q:Nat) (k me mo id te de fe pr ch un tg ow bp:Int):Array Value:=(((evL k me mo id te de fe pr ch un tg ow bp).take q ++ List.replicate (13 - q) 0).map (Value.int .i64)).toArray
theorem ev_at_cell (k me mo id te de fe pr ch un tg ow bp:Int) (q:Nat) (h:q < 13):(evAt q k me mo id te de fe pr ch un tg ow bp)[q]? = some (.int .i64 0):=by
 rcases lt13 h with rfl | rfl | rfl | rfl | rfl | rfl | rfl | rfl | rfl | rfl | rfl | rfl | rfl <;> rfl
theorem ev_at_set (k me mo id te de fe pr ch un tg ow bp:Int) (q:Nat) (h:q < 13):(evAt q k me mo id te de fe pr ch un tg ow bp).setIfInBounds q (.int .i64 ((evL k me mo id te de fe pr ch un tg ow bp).getD q 0)) = evAt (q + 1) k me mo id te de fe pr ch un tg ow bp:=by
 rcases lt13 h with rfl | rfl | rfl | rfl | rfl | rfl | rfl | rfl | rfl | rfl | rfl | rfl | rfl <;> rfl
theorem ev_at_13 (k me mo id te de fe pr ch un tg ow bp:Int):evAt 13 k me mo id te de fe pr ch un tg ow bp = #[.int .i64 k,.int .i64 me,.int .i64 mo,.int .i64 id,.int .i64 te,.int .i64 de,.int .i64 fe,.int .i64 pr,.int .i64 ch,.int .i64 un,.int .i64 tg,.int .i64 ow,.int .i64 bp]:=rfl
theorem ev_at_0 (k me mo id te de fe pr ch un tg ow bp:Int):evAt 0 k me mo id te de fe pr ch un tg ow bp = #[.int .i64 0,.int .i64 0,.int .i64 0,.int .i64 0,.int .i64 0,.int .i64 0,.int .i64 0,.int .i64 0,.int .i64 0,.int .i64 0,.int .i64 0,.int .i64 0,.int .i64 0]:=rfl
theorem ev_u32 (k me mo id te de fe pr ch un tg ow bp:Int) (q:Nat) (h:q < 13):((evL k me mo id te de fe pr ch un tg ow bp).map (Value.int .u32))[q]? = some (.int .u32 ((evL k me mo id te de fe pr ch un tg ow bp).getD q 0)):=by
 rcases lt13 h with rfl | rfl | rfl | rfl | rfl | rfl | rfl | rfl | rfl | rfl | rfl | rfl | rfl <;> rfl
theorem ev_mem (k me mo id te de fe pr ch un tg ow bp:Int) (q:Nat) (h:q < 13):(evL k me mo id te de fe pr ch un tg ow bp).getD q 0 ∈ evL k me mo id te de fe pr ch un tg ow bp:=by
 rcases lt13 h with rfl | rfl | rfl | rfl | rfl | rfl | rfl | rfl | rfl | rfl | rfl | rfl | rfl <;> simp [evL]
def RetNoEv (E:Int) (w:World) (e:Ending) (w':World):Prop:=e = .returned (.tuple #[.agg #[(),(),(),(),(),(),(),(),(),(),(),(),()],E]) ∧ Below w.heap.size w w'
def RetDec (ok:Prop) (k me mo id te de fe pr ch un tg ow bp:Int) (w:World) (e:Ending) (w':World):Prop :=
 (ok ∧ e = .returned (.tuple #[.agg #[k,me,mo,id,te,de,fe,pr,ch,un,tg,ow,bp],()]) ∧ Below w.heap.size w w') ∨ (¬ ok ∧ RetNoEv 5 w e w')
theorem decode_ev (k me mo id te de fe pr ch un tg ow bp:Int) (A:Option Addr) (c:Nat) (w:World) (hz:∀ z ∈ evL k me mo id te de fe pr ch un tg ow bp,0 ≤ z ∧ z ≤ 4294967295) (hr:Rd w w.heap.size 1 A 13 ((evL k me mo id te de fe pr ch un tg ow bp).map (Value.int .u32))):Calls Tryz.prog 26 #[.slice A 13 c] w (RetDec (evOk k me mo id te de fe pr ch un tg ow bp) k me mo id te de fe pr ch un tg ow bp w):=by
 have hmf:=mk_info
 obtain ⟨b,off,rfl,hB,hc⟩:=hr.at_ (by omega)
 have HC:=Lib.hid hc
 clear hc hr
 have HZ:=Lib.hid hz
 clear hz
 have H:=Mem.init w
 replace H:=H.al w.heap.size #[(),(),(),(),(),(),(),(),(),(),(),(),()] (92) |>.al (w.heap.size + 1) #[()] (45) |>.gen
 simp only [List.nil_append,List.cons_append] at H
 obtain ⟨W0,hW0,H⟩:=H
 go_enter_defers Tryz.func26,Tryz.ntmps26
 go_wp2_with (go_at_call 46;refine (want_ok 1 _).mono ?_;rintro e wa ⟨rfl,hww⟩)
 subst hww
 clear hmf
 go_wp2_with fail
 refine (fields_ok _ _).mono ?_
 rintro e wb ⟨rfl,hbb⟩
 replace H:=Mem.call H hbb
 clear hbb hW0
 go_wp2
 go_loopw [12] (fun i wr => ∃ (q:Nat),q ≤ 13 ∧ i = .int .i64 ↑q ∧ Mem w [] wr [.blk w.heap.size 92 (evAt q k me mo id te de fe pr ch un tg ow bp),.blk (w.heap.size + 1) 45 #[()]]) (fun i _ => 13 - (intOf i).toNat)
 case atStart => exact ⟨0,by omega,rfl,by rw [ev_at_0];exact H⟩
 case round =>
  obtain ⟨q,hq,rfl,HM⟩:=hrel
  clear H
  by_cases hlt:q < 13
  ·have hp:=fun W => pidx w.heap.size q hlt W
   have hcv:wr.cell? ⟨w.heap.size,q,none⟩ = some (.int .i64 0):=((HM.blk 0 rfl).cell q).trans (ev_at_cell k me mo id te de fe pr ch un tg ow bp q hlt)
   have hfv:wr.frozen? ⟨w.heap.size,q,none⟩ = false:=(HM.blk 0 rfl).frozen q
   have hcl:wr.cell? ⟨b,off + q,none⟩ = some (.int .u32 ((evL k me mo id te de fe pr ch un tg ow bp).getD q 0)):=(HM.below.cell (p:=⟨b,off + q,none⟩) hB).trans (HC.out q _ (ev_u32 k me mo id te de fe pr ch un tg ow bp q hlt))
   obtain ⟨x0,x1⟩:=HZ.out _ (ev_mem k me mo id te de fe pr ch un tg ow bp q hlt)
   have HS:=Lib.hid (ev_at_set k me mo id te de fe pr ch un tg ow bp q hlt)
   obtain ⟨x,hx⟩:∃ x,(evL k me mo id te de fe pr ch un tg ow bp).getD q 0 = x:=⟨_,rfl⟩
   rw [hx] at hcl x0 x1 HS
   clear hx
   go_wp2
   go_roundw
   case rel =>
    refine ⟨q + 1,by omega,by go_num,?_⟩
    rw [← HS.out]
    exact Mem.set 0 HM rfl q (.int .i64 x)
   case measure => simp [intOf];omega
  ·have hq13:q = 13:=by omega
   have HM2:=HM
   rw [hq13,ev_at_13] at HM2
   clear HM
   have H:Mem (w) [] (wr) [.blk (w.heap.size) 92 #[k,me,mo,id,te,de,fe,pr,ch,un,tg,ow,bp],.blk (w.heap.size + 1) 45 #[()]]:=HM2
   clear HM2 hq13
   have Lev:=H.c13 0 rfl
   have Ler:=H.c1 1 rfl
   have Never:=H.ne2 0 1 rfl rfl rfl
   go_wp2_with fail
   refine (check_is k me mo id te de fe pr ch un tg ow bp _).mono ?_
   rintro e wc ⟨⟨hok,rfl⟩ | ⟨hno,rfl⟩,hbc⟩
   ·replace H:=Mem.call H hbc
    clear Lev Ler Never
    have Lev:=H.c13 0 rfl
    have Ler:=H.c1 1 rfl
    have Never:=H.ne2 0 1 rfl rfl rfl
    have HOK:=Lib.hid hok
    clear hbc hok
    go_wp2
    replace H:=H.set 0 rfl 0 k |>.set 0 rfl 1 me |>.set 0 rfl 2 mo |>.set 0 rfl 3 id |>.set 0 rfl 4 te |>.set 0 rfl 5 de |>.set 0 rfl 6 fe |>.set 0 rfl 7 pr |>.set 0 rfl 8 ch |>.set 0 rfl 9 un |>.set 0 rfl 10 tg |>.set 0 rfl 11 ow |>.set 0 rfl 12 bp |>.set 1 rfl 0 () |>.gen
    simp only [List.set_cons_zero,List.setIfInBounds_toArray,List.set_cons_succ] at H
    obtain ⟨wz,hwz,H⟩:=H
    rw [hwz]
    clear hwz
    have hl:=dec_idle (i:=1) (v:=w.heap.size) H rfl
    refine leaves_cons (f:=44) (args:=#[.pointer (some ⟨w.heap.size + 1,0,none⟩),.pointer (some ⟨w.heap.size,0,none⟩)]) (by simp) (by simp [go_sem]) ?_
    refine hl.mono ?_
    rintro e u' wy ⟨rfl,rfl,HY⟩
    have e0:wy.cell? ⟨w.heap.size + 1,0,none⟩ = some (.int .i64 0):=(HY.blk 1 rfl).cell 0
    have y0:wy.cell? ⟨w.heap.size,0,none⟩ = some (.int .i64 k):=(HY.blk 0 rfl).cell 0
    have y1:wy.cell? ⟨w.heap.size,1,none⟩ = some (.int .i64 me):=(HY.blk 0 rfl).cell 1
    have y2:wy.cell? ⟨w.heap.size,2,none⟩ = some (.int .i64 mo):=(HY.blk 0 rfl).cell 2
    have y3:wy.cell? ⟨w.heap.size,3,none⟩ = some (.int .i64 id):=(HY.blk 0 rfl).cell 3
    have y4:wy.cell? ⟨w.heap.size,4,none⟩ = some (.int .i64 te):=(HY.blk 0 rfl).cell 4
    have y5:wy.cell? ⟨w.heap.size,5,none⟩ = some (.int .i64 de):=(HY.blk 0 rfl).cell 5
    have y6:wy.cell? ⟨w.heap.size,6,none⟩ = some (.int .i64 fe):=(HY.blk 0 rfl).cell 6
    have y7:wy.cell? ⟨w.heap.size,7,none⟩ = some (.int .i64 pr):=(HY.blk 0 rfl).cell 7
    have y8:wy.cell? ⟨w.heap.size,8,none⟩ = some (.int .i64 ch):=(HY.blk 0 rfl).cell 8
    have y9:wy.cell? ⟨w.heap.size,9,none⟩ = some (.int .i64 un):=(HY.blk 0 rfl).cell 9
    have y10:wy.cell? ⟨w.heap.size,10,none⟩ = some (.int .i64 tg):=(HY.blk 0 rfl).cell 10
    have y11:wy.cell? ⟨w.heap.size,11,none⟩ = some (.int .i64 ow):=(HY.blk 0 rfl).cell 11
    have y12:wy.cell? ⟨w.heap.size,12,none⟩ = some (.int .i64 bp):=(HY.blk 0 rfl).cell 12
    simp [Go.Leaves,settle,results,Tryz.results26,go_sem,e0,y0,y1,y2,y3,y4,y5,y6,y7,y8,y9,y10,y11,y12]
    exact .inl ⟨HOK.out,rfl,HY.below⟩
   ·skip
    replace H:=Mem.call H hbc
    have HNO:=Lib.hid hno
    clear hbc hno
    go_wp2
    have hl:=dec_catch (i:=1) (j:=0) 5 (by decide) [] (.int .i64 k) (.int .i64 me) (.int .i64 mo) (.int .i64 id) (.int .i64 te) (.int .i64 de) (.int .i64 fe) (.int .i64 pr) (.int .i64 ch) (.int .i64 un) (.int .i64 tg) (.int .i64 ow) (.int .i64 bp) H rfl rfl (by decide)
    refine leaves_cons (f:=44) (args:=#[.pointer (some ⟨w.heap.size + 1,0,none⟩),.pointer (some ⟨w.heap.size,0,none⟩)]) (by simp) (by simp [go_sem]) ?_
    refine hl.mono ?_
    rintro e u' wy ⟨rfl,rfl,HY⟩
    have e0:wy.cell? ⟨w.heap.size + 1,0,none⟩ = some (.int .i64 5):=(HY.blk 1 rfl).cell 0
    have y0:wy.cell? ⟨w.heap.size,0,none⟩ = some (.int .i64 0):=(HY.blk 0 rfl).cell 0
    have y1:wy.cell? ⟨w.heap.size,1,none⟩ = some (.int .i64 0):=(HY.blk 0 rfl).cell 1
    have y2:wy.cell? ⟨w.heap.size,2,none⟩ = some (.int .i64 0):=(HY.blk 0 rfl).cell 2
    have y3:wy.cell? ⟨w.heap.size,3,none⟩ = some (.int .i64 0):=(HY.blk 0 rfl).cell 3
    have y4:wy.cell? ⟨w.heap.size,4,none⟩ = some (.int .i64 0):=(HY.blk 0 rfl).cell 4
    have y5:wy.cell? ⟨w.heap.size,5,none⟩ = some (.int .i64 0):=(HY.blk 0 rfl).cell 5
    have y6:wy.cell? ⟨w.heap.size,6,none⟩ = some (.int .i64 0):=(HY.blk 0 rfl).cell 6
    have y7:wy.cell? ⟨w.heap.size,7,none⟩ = some (.int .i64 0):=(HY.blk 0 rfl).cell 7
    have y8:wy.cell? ⟨w.heap.size,8,none⟩ = some (.int .i64 0):=(HY.blk 0 rfl).cell 8
    have y9:wy.cell? ⟨w.heap.size,9,none⟩ = some (.int .i64 0):=(HY.blk 0 rfl).cell 9
    have y10:wy.cell? ⟨w.heap.size,10,none⟩ = some (.int .i64 0):=(HY.blk 0 rfl).cell 10
    have y11:wy.cell? ⟨w.heap.size,11,none⟩ = some (.int .i64 0):=(HY.blk 0 rfl).cell 11
    have y12:wy.cell? ⟨w.heap.size,12,none⟩ = some (.int .i64 0):=(HY.blk 0 rfl).cell 12
    simp [Go.Leaves,settle,results,Tryz.results26,go_sem,e0,y0,y1,y2,y3,y4,y5,y6,y7,y8,y9,y10,y11,y12]
    exact .inr ⟨HNO.out,rfl,HY.below⟩
end Go.Proofs.YtfgiehkfcoodbaaGreat
namespace Go.Proofs.YtfgiehkfcoodbaaGreat
open Go.RowKit
set_option linter.unusedVariables false
set_option maxRecDepth 100000
set_option maxHeartbeats 16000000
section
variable {w0 w:World} {G:List Nat} {L:List Chunk} {i j g v:Nat} {x:Int}
theorem of_catch (code:Int) (hcode:¬ code = 0) (older:List PanicEntry) (y0:Value) (H0:Mem w0 G w L) (hi:L[i]? = some (.blk g 45 #[x])) (hj:L[j]? = some (.blk v 56 #[y0])) (hij:i ≠ j) :
 CallsD Tryz.prog 76 #[.pointer (some ⟨g,0,none⟩),.pointer (some ⟨v,0,none⟩)] (.panicking ({ v:=.iface 178 (.agg #[code]),recovered:=false } :: older)) w fun e u' w' =>
  e = .returned (.tuple #[]) ∧ u' = .panicking ({ v:=.iface 178 (.agg #[code]),recovered:=true } :: older) ∧ Mem w0 G w' ((L.set i (.blk g 45 #[code])).set j (.blk v 56 #[.slice none 0 0])):=by
 refine callsD_of_wpS Tryz.func76 rfl fun c₀ cs hu => ?_
 apply wpS_seq
 refine wpS_region_draw fun t => ?_
 rw [show Tryz.prog.follows .mixedOrders = true by kernel_rfl]
 have hc:w.cell? ⟨g,0,none⟩ = some (.int .i64 x):=(H0.blk i hi).cell 0
 refine sched_case (by rfl) (by kernel_rfl) (by kernel_rfl) (by kernel_rfl) (by kernel_rfl) (by kernel_rfl) ?_ ?_
 all_goals
  simp [wpOpsS,go_sem,recoverD,hu,hc]
  refine (caught_ref code x _).mono ?_
  rintro e w1 ⟨rfl,hb⟩
  have H:=Mem.call (Mem.drew H0) hb
  have hc1:w1.cell? ⟨g,0,none⟩ = some (.int .i64 x):=(H.blk i hi).cell 0
  have hf1:w1.frozen? ⟨g,0,none⟩ = false:=(H.blk i hi).frozen 0
  have H2:=Mem.set i H hi 0 (.int .i64 code)
  simp [go_sem,hc1,hf1,Exit.thenS]
  have hj2:(L.set i (Chunk.blk g 45 #[code]))[j]? = some (.blk v 56 #[y0]):=by rw [List.getElem?_set_ne hij];exact hj
  have hi2:(L.set i (Chunk.blk g 45 #[code]))[i]? = some (.blk g 45 #[code]):=by rw [List.getElem?_set_self (List.getElem?_eq_some_iff.1 hi).1]
  obtain ⟨W2,hW2⟩:∃ W2,w1.setCell ⟨g,0,none⟩ (.int .i64 code) = W2:=⟨_,rfl⟩
  have H3:Mem w0 G W2 (L.set i (Chunk.blk g 45 #[code])):=hW2 ▸ H2
  rw [hW2]
  clear H2 hW2
  have e0:W2.cell? ⟨g,0,none⟩ = some (.int .i64 code):=(H3.blk i hi2).cell 0
  have B:=H3.blk j hj2
  have b0:W2.cell? ⟨v,0,none⟩ = some y0:=B.cell 0
  have f0:W2.frozen? ⟨v,0,none⟩ = false:=B.frozen 0
  have hcode2:(code == 0) = false:=by simpa using hcode
  refine wpS_of_wp ?_
  simp only [Array.replicate_succ,Array.replicate_zero,List.push_toArray,List.append_toArray,List.nil_append,List.cons_append,List.setIfInBounds_toArray,List.set_cons_succ,List.set_cons_zero]
  clear hb H hc1 hf1 hc hu
  go_wp2
  have HZ:=mem_sets H3 hj2 [(0,.slice none 0 0)]
  simp only [sets,List.foldl_cons,List.foldl_nil,List.setIfInBounds_toArray,List.set_cons_zero] at HZ
  refine ⟨rfl,_,rfl,_,by simp [results,Tryz.results76];done,rfl,rfl,?_⟩
  exact HZ
theorem of_idle (H0:Mem w0 G w L) (hi:L[i]? = some (.blk g 45 #[()])) :
 CallsD Tryz.prog 76 #[.pointer (some ⟨g,0,none⟩),.pointer (some ⟨v,0,none⟩)] .returning w fun e u' w' => e = .returned (.tuple #[]) ∧ u' = .returning ∧ Mem w0 G w' (L.set i (.blk g 45 #[()])):=by
 refine callsD_of_wpS Tryz.func76 rfl fun c₀ cs hu => ?_
 apply wpS_seq
 refine wpS_region_draw fun t => ?_
 rw [show Tryz.prog.follows .mixedOrders = true by kernel_rfl]
 have hc:w.cell? ⟨g,0,none⟩ = some (.int .i64 0):=(H0.blk i hi).cell 0
 have hf:w.frozen? ⟨g,0,none⟩ = false:=(H0.blk i hi).frozen 0
 refine sched_case (by rfl) (by kernel_rfl) (by kernel_rfl) (by kernel_rfl) (by kernel_rfl) (by kernel_rfl) ?_ ?_
 all_goals
  simp [wpOpsS,go_sem,recoverD,hu,hc]
  refine (caught_nil 0 _).mono ?_
  rintro e w1 ⟨rfl,rfl⟩
  simp [go_sem,hc,hf,Exit.thenS]
  have H2:=Mem.drew (Mem.set i H0 hi 0 (.int .i64 0))
  have hi2:(L.set i (Chunk.blk g 45 #[()]))[i]? = some (.blk g 45 #[()]):=by rw [List.getElem?_set_self (List.getElem?_eq_some_iff.1 hi).1]
  obtain ⟨W2,hW2⟩:∃ W2,(w.setCell ⟨g,0,none⟩ (.int .i64 0)).drew = W2:=⟨_,rfl⟩
  have H3:Mem w0 G W2 (L.set i (Chunk.blk g 45 #[()])):=hW2 ▸ H2
  rw [hW2]
  clear H2 hW2
  have e0:W2.cell? ⟨g,0,none⟩ = some (.int .i64 0):=(H3.blk i hi2).cell 0
  apply wpS_seq
  apply wpS_region
  simp [wpOpsS,go_sem,e0,Exit.thenS]
  refine wpS_cond (t:=false) ?_ ?_
  ·simp [Act.eval]
  simp only [Bool.false_eq_true,if_false]
  refine wpS_of_wp (wp_skip ?_)
  simp [bodyPostS,results,Tryz.results76]
  exact ⟨.returning,by cases c₀;simp at hu ⊢;exact hu,rfl,H3⟩
end
end Go.Proofs.YtfgiehkfcoodbaaGreat
