/- gone: an account that may be; agreed: terms that are right. -/
import Derived.Test.YtfgiehkfcoodbaaGreatM10
import Derived.Test.YtfgiehkfcoodbaaGreatM8
import Derived.Test.YtfgiehkfcoodbaaGreatM9
import Derived.Test.YtfgiehkfcoodbaaGreatM7
import Derived.Deep.RegionHeld3
import Derived.IntWalk
import Derived.Deep.DeepCutAuto
import Derived.WalkKit
import Derived.Test.YtfgiehkfcoodbaaGreatM6
import Derived.Deep.RegionHeld
import Derived.Test.YtfgiehkfcoodbaaGreatM2
import Derived.Laws.StructEq
import Derived.ChangeKeysEq
namespace Go.Proofs.YtfgiehkfcoodbaaGreat
open Go.RowKit
set_option linter.unusedVariables false
set_option maxRecDepth 100000
set_option maxHeartbeats 16000000
end Go.Proofs.YtfgiehkfcoodbaaGreat
namespace Go.Proofs.YtfgiehkfcoodbaaGreat
set_option linter.unusedVariables false
set_option maxRecDepth 100000
set_option maxHeartbeats 16000000
def evOk (k me mo id te de fe pr ch un tg ow bp:Int):Prop :=
 0 ≤ me ∧ me ≤ 49 ∧
 ((k = 1 ∧ mo = 0 ∧ id = 0 ∧ te = 0 ∧ de = 0 ∧ fe = 0 ∧ pr = 0 ∧ ch = 0 ∧ un = 0 ∧ tg = 0 ∧ ow = 0 ∧ bp = 0) ∨
  (k = 2 ∧ 0 ≤ de ∧ 0 ≤ fe ∧ 0 ≤ pr ∧ 0 ≤ ch ∧ 1 ≤ te ∧ te ≤ 100000000 ∧ de ≤ 100000000 ∧ fe ≤ 100000000 ∧ pr ≤ 100000000 ∧ ch ≤ 100000000 ∧ te = de + fe + pr + ch ∧ 1 ≤ un ∧ un ≤ 2097151 ∧ 0 ≤ mo ∧ mo ≤ 2399 ∧ 1 ≤ id ∧ id ≤ 1048575 ∧ 0 ≤ tg ∧ tg ≤ 65535 ∧ ow = 0 ∧ bp = 0) ∨
  (k = 3 ∧ 1 ≤ un ∧ un ≤ 2097151 ∧ 0 ≤ mo ∧ mo ≤ 2399 ∧ 1 ≤ id ∧ id ≤ 1048575 ∧ 0 ≤ tg ∧ tg ≤ 65535 ∧ te = 0 ∧ de = 0 ∧ fe = 0 ∧ pr = 0 ∧ ch = 0 ∧ ow = 0 ∧ bp = 0) ∨
  (k = 4 ∧ 1 ≤ id ∧ id ≤ 1048575 ∧ 0 ≤ tg ∧ tg ≤ 65535 ∧ mo = 0 ∧ te = 0 ∧ de = 0 ∧ fe = 0 ∧ pr = 0 ∧ ch = 0 ∧ un = 0 ∧ ow = 0 ∧ bp = 0) ∨
  (k = 5 ∧ 1 ≤ ow ∧ ow ≤ 1000000000 ∧ 0 ≤ bp ∧ bp ≤ 10000 ∧ mo = 0 ∧ id = 0 ∧ te = 0 ∧ de = 0 ∧ fe = 0 ∧ pr = 0 ∧ ch = 0 ∧ un = 0 ∧ tg = 0))
theorem evOk.bd {k me mo id te de fe pr ch un tg ow bp:Int} (h:evOk k me mo id te de fe pr ch un tg ow bp) :
 (1 ≤ k ∧ k ≤ 5) ∧ (0 ≤ me ∧ me ≤ 49) ∧ (0 ≤ mo ∧ mo ≤ 2399) ∧ (0 ≤ id ∧ id ≤ 1048575) ∧ (0 ≤ te ∧ te ≤ 100000000) ∧ (0 ≤ de ∧ de ≤ 100000000) ∧ (0 ≤ fe ∧ fe ≤ 100000000) ∧ (0 ≤ pr ∧ pr ≤ 100000000) ∧ (0 ≤ ch ∧ ch ≤ 100000000) ∧ (0 ≤ un ∧ un ≤ 2097151) ∧ (0 ≤ tg ∧ tg ≤ 65535) ∧ (0 ≤ ow ∧ ow ≤ 1000000000) ∧ (0 ≤ bp ∧ bp ≤ 10000):=by
 unfold evOk at h
 omega
end Go.Proofs.YtfgiehkfcoodbaaGreat
namespace Go.Proofs.YtfgiehkfcoodbaaGreat
open Go.RowKit
set_option linter.unusedVariables false
set_option maxRecDepth 100000
set_option maxHeartbeats 16000000
section
variable {w0 w w' Wd W0 we:World} {G:List Nat} {l l' L L':List Chunk}
theorem Mem.perm (h:l.Perm l') (H:Mem w0 G w l):Mem w0 G w l' :=
 ⟨H.keep,fun c hc => H.ok c (h.mem_iff.2 hc),h.pairwise H.pair (fun h => Chunk.apart.symm h),fun c hc => H.own c (h.mem_iff.2 hc)⟩
theorem Mem.front {c:Chunk} (H:Mem w0 G w (l ++ [c])):Mem w0 G w (c :: l):=Mem.perm List.perm_append_comm H
theorem Mem.allocF (H:Mem w0 G w l) (g:Nat) (hg:w.heap.size = g) (cs:Array Value) (t:TypeId):Mem w0 G (w.alloc (.cells cs t)) (.blk g t cs :: l):=Mem.front (H.alloc g hg cs t)
theorem Mem.rowF {base:Nat} {e:TypeId} {size:Nat} {v:Value} {n:Nat} {xs:List Value} (H:Mem w0 G w l) (hb:Below w.heap.size w w') (ho:w'.ownsRow base e size v n xs) (hB:w.heap.size ≤ base):Mem w0 G w' (.row base e size v n xs :: l):=Mem.front (H.row hb ho hB)
theorem Mem.nilrowF (H:Mem w0 G w l) (base:Nat) (e:TypeId) (size:Nat):Mem w0 G w (.row base e size (.slice none 0 0) 0 [] :: l):=Mem.front (H.nilrow base e size)
theorem grownBy_sets {b:Nat}:∀ (ps:List (Nat × Value)) (w:World),w.grownBy (sets w b ps) (some b)
 | [],w => ⟨rfl,rfl,rfl,Nat.le_refl _,fun _ _ _ => rfl⟩
 | p :: ps,w => by
  have h:=grownBy_sets (b:=b) ps (w.setCell ⟨b,p.1,none⟩ p.2)
  have g:=grown_setCell w ⟨b,p.1,none⟩ p.2
  exact ⟨h.os.trans g.os,h.tape.trans g.tape,h.output.trans g.output,Nat.le_trans g.size h.size,fun k hk hn => (h.block k (Nat.lt_of_lt_of_le hk g.size) hn).trans (g.block k hk hn)⟩
theorem Mem.sets {j v:Nat} {t:TypeId} {cs:Array Value} (H:Mem w0 G w l) (hj:l[j]? = some (.blk v t cs)) (ps:List (Nat × Value)) :
 Mem w0 G (Proofs.YtfgiehkfcoodbaaGreat.sets w v ps) (l.set j (.blk v t (ps.foldl (fun cs p => cs.setIfInBounds p.1 p.2) cs))) :=
 H.turn hj (c':=.blk v t _) (grownBy_sets ps w) (Blk.sets ps (H.blk j hj)) (fun k hk => .inl hk)
variable {g g1 g2:Nat} {t t1 t2:TypeId} {z c z1 c1 z2 c2:Array Value}
theorem cr1_a (H:Mem w G Wd L) (V:Mem Wd [] W0 []) (K:Mem W0 [] we L'):Mem w G (we.alloc (.cells c t)) (L ++ (.blk we.heap.size t c :: L')):=by
 have h:=(((H.join V).join K).alloc we.heap.size rfl c t)
 rw [List.append_nil] at h
 refine Mem.perm ?_ h
 rw [List.append_assoc]
 exact List.Perm.append_left _ List.perm_append_comm
theorem cr1_b (H:Mem w G Wd L) (V:Mem Wd [] W0 [.blk g t z]) (K:Mem W0 [] we L') (ps:List (Nat × Value)) (hc:ps.foldl (fun cs p => cs.setIfInBounds p.1 p.2) z = c):Mem w G (Proofs.YtfgiehkfcoodbaaGreat.sets we g ps) (L ++ (.blk g t c :: L')):=by
 have h:=Mem.sets (j:=L.length) (v:=g) (t:=t) (cs:=z) ((H.join V).join K) (by simp) ps
 rw [hc] at h
 simpa using h
theorem cr2_a (H:Mem w G Wd L) (V:Mem Wd [] W0 []) (K:Mem W0 [] we L'):Mem w G ((we.alloc (.cells c1 t1)).alloc (.cells c2 t2)) (L ++ (.blk we.heap.size t1 c1 :: .blk (we.heap.size + 1) t2 c2 :: L')):=by
 have h:=((((H.join V).join K).alloc we.heap.size rfl c1 t1).alloc (we.heap.size + 1) (by simp) c2 t2)
 rw [List.append_nil] at h
 refine Mem.perm ?_ h
 rw [List.append_assoc,List.append_assoc]
 refine List.Perm.append_left _ (List.perm_append_comm.trans ?_)
 exact List.Perm.refl _
theorem cr2_b (H:Mem w G Wd L) (V:Mem Wd [] W0 []) (K:Mem W0 [] we L'):Mem w G ((we.alloc (.cells c2 t2)).alloc (.cells c1 t1)) (L ++ (.blk (we.heap.size + 1) t1 c1 :: .blk we.heap.size t2 c2 :: L')) :=
 Mem.perm (List.Perm.append_left _ (List.Perm.swap _ _ _)) (cr2_a H V K)
theorem cr2_c (H:Mem w G Wd L) (V:Mem Wd [] W0 [.blk g1 t1 z1]) (K:Mem W0 [] we L') (ps:List (Nat × Value)) (hc:ps.foldl (fun cs p => cs.setIfInBounds p.1 p.2) z1 = c1):Mem w G ((Proofs.YtfgiehkfcoodbaaGreat.sets we g1 ps).alloc (.cells c2 t2)) (L ++ (.blk g1 t1 c1 :: .blk we.heap.size t2 c2 :: L')):=by
 have h:=(cr1_b H V K ps hc).alloc we.heap.size (size_sets ps we) c2 t2
 refine Mem.perm ?_ h
 rw [List.append_assoc]
 refine List.Perm.append_left _ ?_
 rw [List.cons_append]
 exact List.Perm.cons _ List.perm_append_comm
theorem cr2_d (H:Mem w G Wd L) (V:Mem Wd [] W0 [.blk g2 t2 z2]) (K:Mem W0 [] we L') (ps:List (Nat × Value)) (hc:ps.foldl (fun cs p => cs.setIfInBounds p.1 p.2) z2 = c2):Mem w G ((Proofs.YtfgiehkfcoodbaaGreat.sets we g2 ps).alloc (.cells c1 t1)) (L ++ (.blk we.heap.size t1 c1 :: .blk g2 t2 c2 :: L')) :=
 Mem.perm (List.Perm.append_left _ (List.Perm.swap _ _ _)) (cr2_c H V K ps hc)
theorem cr2_e (H:Mem w G Wd L) (V:Mem Wd [] W0 [.blk g1 t1 z1,.blk g2 t2 z2]) (K:Mem W0 [] we L') (ps qs:List (Nat × Value)) (hc:ps.foldl (fun cs p => cs.setIfInBounds p.1 p.2) z1 = c1) (hd:qs.foldl (fun cs p => cs.setIfInBounds p.1 p.2) z2 = c2):Mem w G (Proofs.YtfgiehkfcoodbaaGreat.sets (Proofs.YtfgiehkfcoodbaaGreat.sets we g1 ps) g2 qs) (L ++ (.blk g1 t1 c1 :: .blk g2 t2 c2 :: L')):=by
 have h:=Mem.sets (j:=L.length + 1) (v:=g2) (t:=t2) (cs:=z2) (Mem.sets (j:=L.length) (v:=g1) (t:=t1) (cs:=z1) ((H.join V).join K) (by simp) ps) (by simp) qs
 rw [hc,hd] at h
 simpa using h
end
end Go.Proofs.YtfgiehkfcoodbaaGreat
namespace Go.Proofs.YtfgiehkfcoodbaaGreat
open Go.RowKit
set_option linter.unusedVariables false
set_option maxRecDepth 100000
set_option maxHeartbeats 16000000
def leafEq:Value → Value → Bool
 | .int _ a,.int _ b => a == b
 | .bool a,.bool b => a == b
 | .string a,.string b => a.toList == b.toList
 | _,_ => false
def cellsEq:List Value → List Value → Bool
 | x :: xs,y :: ys => leafEq x y && cellsEq xs ys
 | _,_ => true
def chunk (P:Program) (xs:List Value) (off:Nat) (t:TypeId):List Value:=(xs.drop off).take (P.cellsOf t)
def leafPair (P:Program):Nat → TypeId → List Value → List Value → Bool
 | 0,_,_,_ => false
 | n + 1,t,xs,ys =>
  match P.underlying t with
  | some (.struct fs) => !P.stoodInHeld t && tiled P (P.cellsOf t) fs.toList 0 && xs.length == P.cellsOf t && ys.length == P.cellsOf t && fs.toList.all fun f => f.name != "_" && leafPair P n f.type (chunk P xs f.offset f.type) (chunk P ys f.offset f.type)
  | some (.array m e) => (P.info? e).isSome && m * P.cellsOf e == P.cellsOf t && xs.length == P.cellsOf t && ys.length == P.cellsOf t && (List.range m).all fun i => leafPair P n e (chunk P xs (i * P.cellsOf e) e) (chunk P ys (i * P.cellsOf e) e)
  | some (.int _) => match xs,ys with | [.int k _],[.int k' _] => k == k' && P.cellsOf t == 1 | _,_ => false
  | some .bool => match xs,ys with | [.bool _],[.bool _] => P.cellsOf t == 1 | _,_ => false
  | some .string => match xs,ys with | [.string _],[.string _] => P.cellsOf t == 1 | _,_ => false
  | _ => false
def mkv (P:Program) (t:TypeId) (xs:List Value):Value :=
 match P.underlying t with
 | some (.struct _) => .agg ⟨xs⟩
 | some (.array _ _) => .agg ⟨xs⟩
 | _ => xs.headD undef
theorem cellsEq_append:∀ {a a' b b':List Value},a.length = a'.length → cellsEq (a ++ b) (a' ++ b') = (cellsEq a a' && cellsEq b b')
 | [],[],_,_,_ => by simp [cellsEq]
 | x :: a,y :: a',b,b',h => by
  simp only [List.cons_append,cellsEq]
  rw [cellsEq_append (by simpa using h),Bool.and_assoc]
section
variable {P:Program}
theorem run_part_gen {u:TypeId} {n:Nat} {xs:List Value} {ys:List Value} {off:Nat} (hl:off + P.cellsOf u ≤ xs.length) (h:leafPair P n u (chunk P xs off u) ys = true ∨ leafPair P n u ys (chunk P xs off u) = true) (w:World) :
 (part u ⟨xs⟩ off).run P w = .ok (mkv P u (chunk P xs off u)) w:=by
 cases n with
 | zero => simp [leafPair] at h
 | succ n =>
  cases hu:P.underlying u with
  | none => simp [leafPair,hu] at h
  | some d =>
   obtain ⟨i,hi⟩:=info_of_underlying hu
   have hsz:=run_sizeOf (P:=P) w hi
   have agg:(∃ fs,d = .struct fs) ∨ (∃ m e,d = .array m e) → (part u ⟨xs⟩ off).run P w = .ok (mkv P u (chunk P xs off u)) w:=by
    intro hd
    have hm:mkv P u (chunk P xs off u) = .agg ⟨chunk P xs off u⟩:=by
     rcases hd with ⟨fs,rfl⟩ | ⟨m,e,rfl⟩ <;> simp [mkv,hu]
    have ha:(isAgg u).run P w = .ok true w:=by
     rcases hd with ⟨fs,rfl⟩ | ⟨m,e,rfl⟩ <;> simp [isAgg,run_underlying hu]
    rw [hm]
    simp only [part,Sem.run_bind,ha,Result.andThen_ok,if_true,hsz,Sem.run_pure]
    congr 2
    apply Array.ext'
    simp [chunk,List.extract_eq_take_drop]
   have leaf:P.cellsOf u = 1 → (isAgg u).run P w = .ok false w → mkv P u (chunk P xs off u) = (chunk P xs off u).headD undef → (part u ⟨xs⟩ off).run P w = .ok (mkv P u (chunk P xs off u)) w:=by
    intro h1 ha hm
    rw [hm]
    have hx:off < xs.length:=by omega
    have hc:chunk P xs off u = [xs[off]]:=by
     unfold chunk
     rw [h1,List.drop_eq_getElem_cons hx];rfl
    rw [hc]
    simp [part,ha,hx]
   cases d
   case struct fs => exact agg (.inl ⟨fs,rfl⟩)
   case array m e => exact agg (.inr ⟨m,e,rfl⟩)
   case int k =>
    refine leaf ?_ (by simp [isAgg,run_underlying hu]) (by simp [mkv,hu])
    simp only [leafPair,hu] at h
    rcases h with h | h
    all_goals
     split at h
     ·simp at h;exact h.2
     ·cases h
   case bool =>
    refine leaf ?_ (by simp [isAgg,run_underlying hu]) (by simp [mkv,hu])
    simp only [leafPair,hu] at h
    rcases h with h | h
    all_goals
     split at h
     ·simpa using h
     ·cases h
   case string =>
    refine leaf ?_ (by simp [isAgg,run_underlying hu]) (by simp [mkv,hu])
    simp only [leafPair,hu] at h
    rcases h with h | h
    all_goals
     split at h
     ·simpa using h
     ·cases h
   all_goals (simp [leafPair,hu] at h;done)
def EqAll (P:Program) (n:Nat):Prop:=∀ (t:TypeId) (xs ys:List Value) (d:Nat) (w:World),leafPair P n t xs ys = true → n ≤ d → (Op.equalIn d t (mkv P t xs) (mkv P t ys)).run P w = .ok (cellsEq xs ys) w
theorem fields_gen {n d total:Nat} (IH:EqAll P n) (hd:n ≤ d) {xs ys:List Value} (hx:xs.length = total) (hy:ys.length = total) :
 ∀ (fs:List Field) (k:Nat) (w:World),tiled P total fs k = true → (∀ f ∈ fs,f.name ≠ "_" ∧ leafPair P n f.type (chunk P xs f.offset f.type) (chunk P ys f.offset f.type) = true) →
  (Op.eqFields d ⟨xs⟩ ⟨ys⟩ fs).run P w = .ok (cellsEq (xs.drop k) (ys.drop k)) w
 | [],k,w,ht,_ => by
  simp [tiled] at ht
  have e:xs.drop k = []:=List.drop_eq_nil_of_le (by omega)
  rw [e]
  rfl
 | f :: fs,k,w,ht,hf => by
  simp [tiled] at ht
  obtain ⟨ho,ht⟩:=ht
  have hle:=tiled_le fs _ ht
  obtain ⟨hn,hp⟩:=hf f (by simp)
  have h1:=run_part_gen (P:=P) (off:=f.offset) (u:=f.type) (xs:=xs) (by omega) (.inl hp) w
  have h2:=run_part_gen (P:=P) (off:=f.offset) (u:=f.type) (xs:=ys) (by omega) (.inr hp) w
  have h3:=IH _ _ _ d w hp hd
  have h4:=fields_gen IH hd hx hy fs _ w ht (fun g hg => hf g (by simp [hg]))
  have es:∀ zs:List Value,zs.length = total → zs.drop k = chunk P zs f.offset f.type ++ zs.drop (k + P.cellsOf f.type):=by
   intro zs _
   unfold chunk
   rw [ho,← List.drop_drop]
   exact (List.take_append_drop _ _).symm
  have hlen:(chunk P xs f.offset f.type).length = (chunk P ys f.offset f.type).length:=by simp [chunk,hx,hy]
  rw [es xs hx,es ys hy,cellsEq_append hlen]
  simp only [Op.eqFields,hn,ne_eq,not_false_eq_true,if_true,Sem.run_bind,h1,h2,h3,Result.andThen_ok]
  cases cellsEq (chunk P xs f.offset f.type) (chunk P ys f.offset f.type)
  ·simp
  ·simp [h4]
theorem items_gen {n d total:Nat} (IH:EqAll P n) (hd:n ≤ d) {e:TypeId} {xs ys:List Value} (hx:xs.length = total) (hy:ys.length = total) :
 ∀ (m i:Nat) (w:World),(i + m) * P.cellsOf e = total → (∀ j,i ≤ j → j < i + m → leafPair P n e (chunk P xs (j * P.cellsOf e) e) (chunk P ys (j * P.cellsOf e) e) = true) →
  (Op.eqItems d e (P.cellsOf e) ⟨xs⟩ ⟨ys⟩ (List.range' i m)).run P w = .ok (cellsEq (xs.drop (i * P.cellsOf e)) (ys.drop (i * P.cellsOf e))) w
 | 0,i,w,ht,_ => by
  have e:xs.drop (i * P.cellsOf e) = []:=List.drop_eq_nil_of_le (by simp at ht;omega)
  rw [e]
  rfl
 | m + 1,i,w,ht,hf => by
  have hp:=hf i (Nat.le_refl _) (by omega)
  have hle:i * P.cellsOf e + P.cellsOf e ≤ total:=by
   rw [← ht,← Nat.succ_mul];exact Nat.mul_le_mul_right _ (by omega)
  have h1:=run_part_gen (P:=P) (off:=i * P.cellsOf e) (u:=e) (xs:=xs) (by omega) (.inl hp) w
  have h2:=run_part_gen (P:=P) (off:=i * P.cellsOf e) (u:=e) (xs:=ys) (by omega) (.inr hp) w
  have h3:=IH _ _ _ d w hp hd
  have h4:=items_gen IH hd hx hy m (i + 1) w (by rw [← ht];congr 1;omega) (fun j h1 h2 => hf j (by omega) (by omega))
  have es:∀ zs:List Value,zs.drop (i * P.cellsOf e) = chunk P zs (i * P.cellsOf e) e ++ zs.drop ((i + 1) * P.cellsOf e):=by
   intro zs
   unfold chunk
   rw [Nat.succ_mul,← List.drop_drop]
   exact (List.take_append_drop _ _).symm
  have hlen:(chunk P xs (i * P.cellsOf e) e).length = (chunk P ys (i * P.cellsOf e) e).length:=by simp [chunk,hx,hy]
  rw [es xs,es ys,cellsEq_append hlen]
  simp only [List.range'_succ,Op.eqItems,Sem.run_bind,h1,h2,h3,Result.andThen_ok]
  cases cellsEq (chunk P xs (i * P.cellsOf e) e) (chunk P ys (i * P.cellsOf e) e)
  ·simp
  ·simp [h4]
theorem eq_all:∀ n,EqAll P n
 | 0 => fun t xs ys d w h _ => by simp [leafPair] at h
 | n + 1 => fun t xs ys d w h hd => by
  obtain ⟨d,rfl⟩:∃ k,d = k + 1:=⟨d - 1,by omega⟩
  have hd:n ≤ d:=by omega
  have IH:=eq_all n
  cases hu:P.underlying t with
  | none => simp [leafPair,hu] at h
  | some k =>
   cases k
   case struct fs =>
    simp [leafPair,hu] at h
    obtain ⟨⟨⟨⟨h1,h2⟩,h3⟩,h4⟩,h5⟩:=h
    have hfo:P.fieldsOf t = fs:=by simp [Program.fieldsOf,hu]
    have hm:∀ zs,mkv P t zs = .agg ⟨zs⟩:=fun zs => by simp [mkv,hu]
    rw [hm,hm,run_equalIn_struct w d t _ _ (by rw [hfo];exact hu) h1,hfo]
    have:=fields_gen IH hd h3 h4 fs.toList 0 w h2 (fun f hf => by
     obtain ⟨i,hi,he⟩:=List.getElem_of_mem hf
     have hi':i < fs.size:=by simpa using hi
     have:=h5 i hi'
     rw [show fs[i] = f by rw [← he];simp] at this
     exact this)
    simpa using this
   case array m e =>
    simp [leafPair,hu] at h
    obtain ⟨⟨⟨⟨h0,h1⟩,h2⟩,h3⟩,h4⟩:=h
    have hm:∀ zs,mkv P t zs = .agg ⟨zs⟩:=fun zs => by simp [mkv,hu]
    obtain ⟨i,hi⟩:=Option.isSome_iff_exists.1 h0
    rw [hm,hm,run_equalIn_array w d _ _ hu hi,List.range_eq_range']
    have:=items_gen IH hd h2 h3 m 0 w (by simpa using h1) (fun j _ hj => h4 j (by omega))
    simpa using this
   case int k' =>
    simp only [leafPair,hu] at h
    split at h
    ·rename_i a b c e
     simp at h
     obtain ⟨rfl,_⟩:=h
     simp [mkv,hu,Op.equalIn,run_underlying hu,cellsEq,leafEq]
    ·cases h
   case bool =>
    simp only [leafPair,hu] at h
    split at h
    ·simp [mkv,hu,Op.equalIn,run_underlying hu,cellsEq,leafEq]
    ·cases h
   case string =>
    simp only [leafPair,hu] at h
    split at h
    ·simp [mkv,hu,Op.equalIn,run_underlying hu,cellsEq,leafEq,beq_toListBytes]
    ·cases h
   all_goals (simp [leafPair,hu] at h;done)
theorem eq_is {t:TypeId} (xs ys:List Value) (w:World) (hl:leafPair P 9 t xs ys = true) (hm:∀ zs,mkv P t zs = .agg ⟨zs⟩):(Op.equalIn 10000 t (.agg xs.toArray) (.agg ys.toArray)).run P w = .ok (cellsEq xs ys) w:=by
 have:=eq_all (P:=P) 9 t xs ys 10000 w hl (by omega)
 rwa [hm,hm] at this
theorem mkv_struct {t:TypeId} {fs:Array Field} (hu:P.underlying t = some (.struct fs)):∀ zs,mkv P t zs = .agg ⟨zs⟩:=fun zs => by simp [mkv,hu]
end
end Go.Proofs.YtfgiehkfcoodbaaGreat
namespace Go.Proofs.YtfgiehkfcoodbaaGreat
open Go.RowKit
set_option linter.unusedVariables false
set_option maxRecDepth 100000
set_option maxHeartbeats 16000000
section
variable {w0 w:World} {G:List Nat} {l:List Chunk}
theorem grown_self (w:World) (r:Option Nat):w.grownBy w r:=⟨rfl,rfl,rfl,Nat.le_refl _,fun _ _ _ => rfl⟩
theorem Mem.toArr {base:Nat} {e:TypeId} {size:Nat} {v:Value} {n:Nat} {xs:List Value} (i:Nat) (H:Mem w0 G w l) (hi:l[i]? = some (.row base e size v n xs)) (hn:0 < n) :
 ∃ g cap cur,v = .slice (some ⟨g,0,none⟩) n cap ∧ base ≤ g ∧ n ≤ cap ∧ cap ≤ maxLen ∧ cur.size = cap * size ∧ cur.toList.take (n * size) = xs ∧ Mem w0 G w (l.set i (.blk g e cur)):=by
 have ho:=H.own_ i hi
 rcases ho.2 with ⟨_,h0⟩ | ⟨g,cap,cur,rfl,hb,hg,hnc,hcm,hcs,ht⟩
 ·omega
 ·refine ⟨g,cap,cur,rfl,hb,hnc,hcm,hcs,ht,H.turn hi (grown_self w _) (c':=.blk g e cur) hg (fun k hk => .inl ?_)⟩
  obtain rfl:g = k:=by simpa [Chunk.num] using hk
  rfl
theorem Mem.toRow {base g cap:Nat} {e:TypeId} {size n:Nat} {cur:Array Value} {xs:List Value} (i:Nat) (H:Mem w0 G w l) (hi:l[i]? = some (.blk g e cur)) (hb:base ≤ g) (hnc:n ≤ cap) (hcm:cap ≤ maxLen) (hcs:cur.size = cap * size) (ht:cur.toList.take (n * size) = xs) (hl:xs.length = n * size) :
 Mem w0 G w (l.set i (.row base e size (.slice (some ⟨g,0,none⟩) n cap) n xs)):=by
 refine H.turn hi (grown_self w _) (c':=.row base e size (.slice (some ⟨g,0,none⟩) n cap) n xs) ⟨hl,.inr ⟨g,cap,cur,rfl,hb,H.blk i hi,hnc,hcm,hcs,ht⟩⟩ (fun k hk => .inl ?_)
 obtain rfl:g = k:=by simpa [Chunk.num,Value.ownBlock] using hk
 rfl
end
theorem set8 {cur:Array Value} {pre post:List Value} {a0 a1 a2 a3 a4 a5 a6 a7 v0 v1 v2 v3 v4 v5 v6 v7:Value} {o:Nat} (ho:pre.length = o) (h:cur.toList = pre ++ ([a0,a1,a2,a3,a4,a5,a6,a7] ++ post)) :
 ((((((((cur.setIfInBounds (o) v0).setIfInBounds (o + 1) v1).setIfInBounds (o + 2) v2).setIfInBounds (o + 3) v3).setIfInBounds (o + 4) v4).setIfInBounds (o + 5) v5).setIfInBounds (o + 6) v6).setIfInBounds (o + 7) v7).toList = pre ++ ([v0,v1,v2,v3,v4,v5,v6,v7] ++ post):=by
 subst ho
 simp only [Array.toList_setIfInBounds,h]
 simp
theorem get8 {cur:Array Value} {pre post:List Value} {a0 a1 a2 a3 a4 a5 a6 a7:Value} {o:Nat} (ho:pre.length = o) (h:cur.toList = pre ++ ([a0,a1,a2,a3,a4,a5,a6,a7] ++ post)) :
 cur[o]? = some a0 ∧ cur[o + 1]? = some a1 ∧ cur[o + 2]? = some a2 ∧ cur[o + 3]? = some a3 ∧ cur[o + 4]? = some a4 ∧ cur[o + 5]? = some a5 ∧ cur[o + 6]? = some a6 ∧ cur[o + 7]? = some a7:=by
 subst ho
 have key:∀ j:Nat,j < 8 → cur[pre.length + j]? = [a0,a1,a2,a3,a4,a5,a6,a7][j]?:=by
  intro j hj
  rw [← Array.getElem?_toList,h,List.getElem?_append_right (by omega),List.getElem?_append_left (by simp;omega)]
  congr 1;omega
 exact ⟨key 0 (by omega),key 1 (by omega),key 2 (by omega),key 3 (by omega),key 4 (by omega),key 5 (by omega),key 6 (by omega),key 7 (by omega)⟩
end Go.Proofs.YtfgiehkfcoodbaaGreat
namespace Go.Proofs.YtfgiehkfcoodbaaGreat
set_option linter.unusedVariables false
set_option maxRecDepth 100000
set_option maxHeartbeats 16000000
def dec (n:Nat):List Nat:=if n < 10 then [n] else dec (n / 10) ++ [n % 10]
termination_by n
decreasing_by omega
def val10 (l:List Nat):Nat:=l.foldl (fun n d => n * 10 + d) 0
theorem dec_small {n:Nat} (h:n < 10):dec n = [n]:=by rw [dec,if_pos h]
theorem dec_big {n:Nat} (h:¬ n < 10):dec n = dec (n / 10) ++ [n % 10]:=by rw [dec,if_neg h]
theorem val10_snoc (l:List Nat) (d:Nat):val10 (l ++ [d]) = val10 l * 10 + d:=by simp [val10]
theorem dec_pos (n:Nat):0 < (dec n).length:=by
 by_cases h:n < 10
 ·rw [dec_small h];simp
 ·rw [dec_big h];simp
theorem dec_len (n:Nat):∀ k,n < 10 ^ k → 0 < k → (dec n).length ≤ k:=by
 induction n using Nat.strongRecOn with
 | ind n ih =>
  intro k hk h0
  by_cases h:n < 10
  ·rw [dec_small h];simp;omega
  ·rw [dec_big h]
   obtain ⟨j,rfl⟩:∃ j,k = j + 1:=⟨k - 1,by omega⟩
   rw [Nat.pow_succ] at hk
   have hj:0 < j:=by
    rcases Nat.eq_zero_or_pos j with rfl | hj
    ·simp at hk;omega
    ·exact hj
   have:=ih (n / 10) (by omega) j (by omega) hj
   simp;omega
theorem val10_from (l:List Nat):∀ a:Nat,l.foldl (fun n d => n * 10 + d) a = a * 10 ^ l.length + val10 l:=by
 induction l with
 | nil => intro a;simp [val10]
 | cons d l ih =>
  intro a
  have h2:val10 (d :: l) = d * 10 ^ l.length + val10 l:=by
   show List.foldl _ _ l = _
   rw [ih (0 * 10 + d)];simp
  rw [List.foldl_cons,ih,h2,List.length_cons,Nat.pow_succ,Nat.add_mul,Nat.mul_assoc,Nat.mul_comm 10,Nat.add_assoc]
theorem val10_cons (d:Nat) (l:List Nat):val10 (d :: l) = d * 10 ^ l.length + val10 l:=by
 show List.foldl _ _ l = _
 rw [val10_from l (0 * 10 + d)];simp
theorem val10_append (a b:List Nat):val10 (a ++ b) = val10 a * 10 ^ b.length + val10 b:=by
 show List.foldl _ _ (a ++ b) = _
 rw [List.foldl_append]
 exact val10_from b _
theorem val10_lt {l:List Nat} (h:∀ d ∈ l,d ≤ 9):val10 l < 10 ^ l.length:=by
 induction l with
 | nil => simp [val10]
 | cons d l ih =>
  have h1:=ih (fun x hx => h x (List.mem_cons_of_mem _ hx))
  have h2:=h d (List.mem_cons_self ..)
  rw [val10_cons,List.length_cons,Nat.pow_succ]
  have:d * 10 ^ l.length ≤ 9 * 10 ^ l.length:=Nat.mul_le_mul_right _ h2
  omega
theorem val10_zeros (k:Nat) (l:List Nat):val10 (List.replicate k 0 ++ l) = val10 l:=by
 induction k with
 | zero => simp
 | succ k ih => rw [List.replicate_succ,List.cons_append,val10_cons,ih];omega
def pad (k n:Nat):List Nat:=List.replicate (k - (dec n).length) 0 ++ dec n
theorem pad_len {k n:Nat} (h:n < 10 ^ k) (h0:0 < k):(pad k n).length = k:=by
 have:=dec_len n k h h0
 unfold pad;simp;omega
end Go.Proofs.YtfgiehkfcoodbaaGreat
namespace Go.Proofs.YtfgiehkfcoodbaaGreat
open Go.RowKit
set_option linter.unusedVariables false
set_option maxRecDepth 100000
set_option maxHeartbeats 16000000
theorem Mem.row2 {w0 w w':World} {G:List Nat} {l:List Chunk} {e1 e2 s1 s2 n1 n2:Nat} {v1 v2:Value} {xs1 xs2:List Value} (H:Mem w0 G w l) (hb:Below w.heap.size w w') (h1:w'.ownsRow w.heap.size e1 s1 v1 n1 xs1) (h2:w'.ownsRow w.heap.size e2 s2 v2 n2 xs2) (hne:e1 ≠ e2) :
 Mem w0 G w' (l ++ [.row w.heap.size e1 s1 v1 n1 xs1,.row w.heap.size e2 s2 v2 n2 xs2]):=by
 have H1:=Mem.row H hb h1 (Nat.le_refl _)
 have H2:=Mem.row H hb h2 (Nat.le_refl _)
 have hap:(Chunk.row w.heap.size e1 s1 v1 n1 xs1).apart (Chunk.row w.heap.size e2 s2 v2 n2 xs2):=by
  intro k hk hk2
  rcases own_ne_type h1 h2 hne with h | h
  ·simp only [Chunk.num] at hk;rw [h] at hk;cases hk
  ·simp only [Chunk.num] at hk hk2;rw [hk,hk2] at h;exact h rfl
 refine ⟨H1.keep,fun c hc => ?_,?_,fun c hc k hk => ?_⟩
 ·rcases List.mem_append.1 hc with hc | hc
  ·exact H1.ok c (List.mem_append_left _ hc)
  ·rcases List.mem_cons.1 hc with rfl | hc
   ·exact h1
   ·obtain rfl:=List.mem_singleton.1 hc;exact h2
 ·rw [List.pairwise_append]
  refine ⟨H.pair,by simp only [List.pairwise_cons,List.mem_singleton,forall_eq,List.not_mem_nil,false_imp_iff,implies_true,List.Pairwise.nil,and_true];exact hap,fun a ha b hb' => ?_⟩
  rcases List.mem_cons.1 hb' with rfl | hb'
  ·have:=H1.pair
   rw [List.pairwise_append] at this
   exact this.2.2 a ha _ (by simp)
  ·obtain rfl:=List.mem_singleton.1 hb'
   have:=H2.pair
   rw [List.pairwise_append] at this
   exact this.2.2 a ha _ (by simp)
 ·rcases List.mem_append.1 hc with hc | hc
  ·exact H1.own c (List.mem_append_left _ hc) k hk
  ·rcases List.mem_cons.1 hc with rfl | hc
   ·exact H1.own _ (by simp) k hk
   ·obtain rfl:=List.mem_singleton.1 hc;exact H2.own _ (by simp) k hk
end Go.Proofs.YtfgiehkfcoodbaaGreat
