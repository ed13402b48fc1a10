/- What is told of an argument that came in: 'Fit': its value can be read as data of its type. Lemmas that open it, whatever the program; and 'Rd': a slice that re -/
import Derived.WalkKit
import Derived.ProofKit
import Derived.OpenShut
import Derived.Deep.Slices
import Derived.Lib.Hide
import Derived.Laws.OwnMore
import Derived.Deep.AppendLies
import Derived.Laws.BytesArg
import Derived.Deep.Draws
import Derived.Deep.RegionHeld3
import Derived.Deep.DrawnRows
namespace Go.Proofs.YtfgiehkfcoodbaaGreat
open Go.ChangeShapes Go.WideShapes Go.RowKit
set_option linter.unusedVariables false
set_option maxRecDepth 100000
set_option maxHeartbeats 16000000
def Fit (P:Program) (w:World) (t:TypeId) (v:Value):Prop :=
 ∃ (H:Type) (enc:TypeId × Value → H) (base:Nat) (d:DataW H) (ps:List MemPlace),Value.okWide P w .any base t v ∧ DataW.Trod enc P w 0 (fun _ => true) true t v d ps ∧ ∀ x ∈ ps,x.block < w.heap.size
def CFit (P:Program) (w:World) (t:TypeId) (cs:List Value):Prop :=
 ∃ (H:Type) (enc:TypeId × Value → H) (n:Nat) (y:DataW H × List MemPlace),DataW.trod enc P w 0 (fun _ => true) true n t cs = some y
def Rd (w:World) (B s:Nat) (A:Option Addr) (n:Nat) (xs:List Value):Prop :=
 xs.length = n * s ∧ (0 < n → ∃ b off,A = some ⟨b,off,none⟩ ∧ b < B ∧ ∀ j u,xs[j]? = some u → w.cell? ⟨b,off + j,none⟩ = some u)
theorem _root_.Go.RowKit.Below.step {w w1 w2:World} (h:Below w.heap.size w w1) (k:Below w1.heap.size w1 w2):Below w.heap.size w w2:=h.trans (k.mono h.size)
theorem below_a1 (w:World) (a:Obj):Below w.heap.size w (w.alloc a):=(Below.refl _ _).alloc (Nat.le_refl _) a
theorem below_a2 (w:World) (a b:Obj):Below w.heap.size w ((w.alloc a).alloc b):=(below_a1 w a).step (below_a1 _ b)
theorem below_a3 (w:World) (a b c:Obj):Below w.heap.size w (((w.alloc a).alloc b).alloc c):=(below_a2 w a b).step (below_a1 _ c)
theorem below_a4 (w:World) (a b c d:Obj):Below w.heap.size w ((((w.alloc a).alloc b).alloc c).alloc d):=(below_a3 w a b c).step (below_a1 _ d)
theorem bcell {B:Nat} {W w1:World} (hb:Below B W w1):(∀ b o,b < B → w1.cell? ⟨b,o,none⟩ = W.cell? ⟨b,o,none⟩) ∧ (∀ b o,b < B → w1.frozen? ⟨b,o,none⟩ = W.frozen? ⟨b,o,none⟩) :=
 ⟨fun b o h => hb.cell (p:=⟨b,o,none⟩) h,fun b o h => hb.frozen (p:=⟨b,o,none⟩) h⟩
theorem ret_true {b:Bool} (h:b = true):Ending.returned (.bool b) = .returned (.bool true):=by rw [h]
theorem ret_bool {a b:Bool} (h:a = b):Ending.returned (.bool a) = .returned (.bool b):=by rw [h]
theorem ret_int2 {k j:IntKind} {a b c d:Int} (h:a = b) (h':c = d):Ending.returned (.tuple #[.int k a,.int j c]) = .returned (.tuple #[.int k b,.int j d]):=by rw [h,h']
section
variable {w w':World} {B B' s n:Nat} {A:Option Addr} {xs:List Value}
theorem Rd.nil_:Rd w B s A 0 []:=⟨by simp,fun h => absurd h (by omega)⟩
theorem Rd.len (h:Rd w B s A n xs):xs.length = n * s:=h.1
theorem Rd.at_ (h:Rd w B s A n xs) (hn:0 < n):∃ b off,A = some ⟨b,off,none⟩ ∧ b < B ∧ ∀ j u,xs[j]? = some u → w.cell? ⟨b,off + j,none⟩ = some u:=h.2 hn
theorem Rd.keep (h:Rd w B s A n xs) (hk:∀ b o,b < B → w'.cell? ⟨b,o,none⟩ = w.cell? ⟨b,o,none⟩):Rd w' B s A n xs :=
 ⟨h.1,fun hn => by
  obtain ⟨b,off,e,hb,hc⟩:=h.2 hn
  exact ⟨b,off,e,hb,fun j u hu => (hk b _ hb).trans (hc j u hu)⟩⟩
theorem Rd.more (h:Rd w B s A n xs) (hB:B ≤ B'):Rd w B' s A n xs :=
 ⟨h.1,fun hn => by
  obtain ⟨b,off,e,hb,hc⟩:=h.2 hn
  exact ⟨b,off,e,by omega,hc⟩⟩
theorem Rd.below (h:Rd w B s A n xs) (hb:Below B w w'):Rd w' B s A n xs:=h.keep fun b o hp => hb.cell (p:=⟨b,o,none⟩) hp
theorem Rd.of_own {base:Nat} {e:TypeId} {c:Nat} (h:w.ownsRow base e s (.slice A n c) n xs):Rd w w.heap.size s A n xs:=by
 refine ⟨h.1,fun hn => ?_⟩
 obtain ⟨g,cap,hv,_,hlt⟩:=h.form hn
 have hA:A = some ⟨g,0,none⟩:=by injection hv
 subst hA
 refine ⟨g,0,rfl,hlt,fun j u hu => ?_⟩
 have:=h.cells (g:=g) rfl j u hu
 unfold Addr.add at this
 split at this
 ·subst_vars;simpa using this
 ·simpa using this
theorem Rd.take (h:Rd w B s A n xs) {k:Nat} (hk:k ≤ n):Rd w B s A k (xs.take (k * s)):=by
 refine ⟨by rw [List.length_take,h.1];exact Nat.min_eq_left (Nat.mul_le_mul_right s hk),fun hn => ?_⟩
 obtain ⟨b,off,e,hb,hc⟩:=h.2 (by omega)
 refine ⟨b,off,e,hb,fun j u hu => hc j u ?_⟩
 rw [List.getElem?_take] at hu
 split at hu
 ·exact hu
 ·cases hu
end
section
variable {P:Program} {w:World} {t:TypeId} {v:Value} {cs:List Value}
theorem Fit.cells (h:Fit P w t v):CFit P w t v.cells.toList:=by
 obtain ⟨H,enc,base,d,ps,_,⟨n,hn⟩,_⟩:=h
 exact ⟨H,enc,n,_,hn⟩
theorem Fit.struct {fs:Array Field} (h:Fit P w t v) (hu:P.underlying t = some (.struct fs)):∃ cs:List Value,v = .agg ⟨cs⟩ ∧ CFit P w t cs:=by
 have hc:=h.cells
 obtain ⟨H,enc,base,d,ps,hok,_,_⟩:=h
 unfold Value.okWide at hok;rw [hu] at hok
 obtain ⟨⟨cs⟩,rfl,_⟩:=hok
 exact ⟨cs,rfl,hc⟩
theorem Fit.slice {e:TypeId} (h:Fit P w t v) (hu:P.underlying t = some (.slice e)):∃ (A:Option Addr) (n c:Nat),v = .slice A n c ∧ CFit P w t [.slice A n c]:=by
 have hc:=h.cells
 obtain ⟨H,enc,base,d,ps,hok,_,_⟩:=h
 obtain ⟨A,n,c,rfl⟩:=okWide_slice hu hok
 exact ⟨A,n,c,rfl,by simpa [Value.cells] using hc⟩
theorem CFit.int {k:IntKind} (h:CFit P w t cs) (hu:P.underlying t = some (.int k)):∃ n,cs = [.int k n] ∧ (Lit.int k n).wf = true:=by
 obtain ⟨H,enc,n,y,hy⟩:=h
 obtain ⟨n,h1,_,h2⟩:=DataW.trod_int hu hy
 exact ⟨n,h1,h2⟩
theorem CFit.bool (h:CFit P w t cs) (hu:P.underlying t = some .bool):∃ b,cs = [.bool b]:=by
 obtain ⟨H,enc,n,y,hy⟩:=h
 obtain ⟨b,h1,_⟩:=DataW.trod_bool hu hy
 exact ⟨b,h1⟩
theorem CFit.string (h:CFit P w t cs) (hu:P.underlying t = some .string):∃ s:ByteArray,cs = [.string s] ∧ s.size ≤ maxLen:=by
 obtain ⟨H,enc,n,y,hy⟩:=h
 obtain ⟨s,h1,_,h2⟩:=DataW.trod_string hu hy
 exact ⟨s,h1,h2⟩
theorem CFit.struct {fs:Array Field} (h:CFit P w t cs) (hu:P.underlying t = some (.struct fs)) :
 cs.length = P.cellsOf t ∧ ∀ (i:Nat) (f:Field),fs[i]? = some f → CFit P w f.type ((cs.drop f.offset).take (P.cellsOf f.type)):=by
 obtain ⟨H,enc,n,y,hy⟩:=h
 obtain ⟨xs,m,_,_,h1,h2,h3⟩:=DataW.trod_struct hu hy
 refine ⟨h1,fun i f hf => ?_⟩
 have hi:i < xs.length:=by rw [h2];exact (Array.getElem?_eq_some_iff.1 hf).1
 exact ⟨H,enc,m,xs[i],by rw [h3 i f hf];exact List.getElem?_eq_getElem hi⟩
theorem CFit.array {m:Nat} {e:TypeId} (h:CFit P w t cs) (hu:P.underlying t = some (.array m e)) :
 cs.length = P.cellsOf t ∧ ∀ i,i < m → CFit P w e ((cs.drop (i * P.cellsOf e)).take (P.cellsOf e)):=by
 obtain ⟨H,enc,n,y,hy⟩:=h
 obtain ⟨xs,m',_,_,h1,h2,h3⟩:=DataW.trod_array hu hy
 exact ⟨h1,fun i hi => ⟨H,enc,m',xs[i]'(by omega),by rw [h3 i hi];exact List.getElem?_eq_getElem (by omega)⟩⟩
theorem add_none (b off i:Nat):(⟨b,off,none⟩:Addr).add i = ⟨b,off + i,none⟩:=by
 unfold Addr.add;split
 ·simp_all
 ·rfl
theorem CFit.slice {e:TypeId} {s:Nat} {A:Option Addr} {n c:Nat} (h:CFit P w t [.slice A n c]) (hu:P.underlying t = some (.slice e)) (hs:P.cellsOf e = s) (hs0:0 < s) :
 n ≤ c ∧ c ≤ maxLen ∧ ∃ rows:List (List Value),rows.length = n ∧ (∀ r ∈ rows,r.length = s ∧ CFit P w e r) ∧ Rd w w.heap.size s A n rows.flatten:=by
 obtain ⟨H,enc,fu,y,hy⟩:=h
 rcases DataW.trod_slice hu hy with ⟨h0,_⟩ | ⟨a,len,cap,elems,rest,m,_,h1,_,_,hl,hc,hel,hat,_⟩
 ·simp only [List.cons.injEq,Value.slice.injEq,and_true] at h0
  obtain ⟨rfl,rfl,rfl⟩:=h0
  exact ⟨Nat.le_refl _,Nat.zero_le _,[],rfl,by simp,Rd.nil_⟩
 ·simp only [List.cons.injEq,Value.slice.injEq,and_true] at h1
  obtain ⟨rfl,rfl,rfl⟩:=h1
  rw [hs] at hat
  have hex:∀ i,i < n → ∃ r:List Value,w.cells? 0 (a.add (i * s)) s = some r ∧ CFit P w e r:=by
   intro i hi
   have:=hat i hi
   rw [List.getElem?_eq_getElem (by omega)] at this
   obtain ⟨r,h2,h3⟩:=Option.bind_eq_some_iff.1 this
   exact ⟨r,h2,H,enc,m,_,h3⟩
  obtain ⟨f,hf⟩:=Go.Deep.choose_lt hex
  refine ⟨hl,hc,(List.range n).map f,by simp,?_,?_,?_⟩
  ·intro r hr
   obtain ⟨i,hi,rfl⟩:=List.mem_map.1 hr
   have hi':=List.mem_range.1 hi
   exact ⟨(World.cells?_some (hf i hi').1).2.1,(hf i hi').2⟩
  ·have:∀ l:List Nat,(∀ i ∈ l,i < n) → ((l.map f).flatten).length = l.length * s:=by
    intro l
    induction l with
    | nil => simp
    | cons x l ih =>
     intro hl
     have hx:=(World.cells?_some (hf x (hl x (by simp))).1).2.1
     have:=ih (fun i hi => hl i (by simp [hi]))
     simp only [List.map_cons,List.flatten_cons,List.length_append,hx,this,List.length_cons,Nat.succ_mul]
     omega
   have:=this (List.range n) (fun i hi => List.mem_range.1 hi)
   simpa using this
  ·intro hn
   obtain ⟨b,off,spot⟩:=a
   have hsp:spot = none:=by
    have h0:=(World.cells?_some (hf 0 hn).1).2.2 0 hs0
    have h1:=(World.cells?_some (hf 0 hn).1).2.1
    rw [List.getElem?_eq_getElem (by omega)] at h0
    have:=World.cell?_spot h0
    simpa [Addr.add] using this
   subst hsp
   refine ⟨b,off,rfl,?_,?_⟩
   ·have h0:=(World.cells?_some (hf 0 hn).1).2.2 0 hs0
    have h1:=(World.cells?_some (hf 0 hn).1).2.1
    rw [List.getElem?_eq_getElem (by omega)] at h0
    have:=World.block_lt_of_cell? w _ h0
    simpa [Addr.add] using this
   ·have key:∀ l:List Nat,(∀ i ∈ l,i < n) → ∀ k,(∀ (i:Nat) x,l[i]? = some x → x = k + i) → ∀ j u,((l.map f).flatten)[j]? = some u → w.cell? ⟨b,off + (k * s + j),none⟩ = some u:=by
     intro l
     induction l with
     | nil => intro _ k _ j u hu;simp at hu
     | cons x l ih =>
      intro hl k hk j u hu
      have hx0:x = k:=by have:=hk 0 x rfl;omega
      subst hx0
      obtain ⟨_,hlen,hc⟩:=World.cells?_some (hf x (hl x (by simp))).1
      simp only [List.map_cons,List.flatten_cons] at hu
      by_cases hj:j < s
      ·rw [List.getElem?_append_left (by omega)] at hu
       have:=hc j hj
       rw [add_none,add_none,hu] at this
       rw [← this];congr 1;simp
      ·rw [List.getElem?_append_right (by omega),hlen] at hu
       have:=ih (fun i hi => hl i (by simp [hi])) (x + 1) (fun i y hy => by have:=hk (i + 1) y (by simpa using hy);omega) (j - s) u hu
       rw [← this];congr 1
       have:(x + 1) * s + (j - s) = x * s + j:=by rw [Nat.succ_mul];omega
       rw [this]
    intro j u hu
    have:=key (List.range n) (fun i hi => List.mem_range.1 hi) 0 (fun i x hx => by
     rw [List.getElem?_eq_some_iff] at hx
     obtain ⟨h1,h2⟩:=hx
     simp at h2;omega) j u hu
    simpa using this
end
def tiled (P:Program) (total:Nat):List Field → Nat → Bool
 | [],at0 => decide (at0 = total)
 | f :: fs,at0 => decide (f.offset = at0) && tiled P total fs (at0 + P.cellsOf f.type)
def leafTypes (P:Program):Nat → TypeId → Option (List TypeId)
 | 0,_ => none
 | n + 1,t =>
  match P.underlying t with
  | some (.struct fs) => if tiled P (P.cellsOf t) fs.toList 0 = true then fs.toList.foldr (fun f acc => (leafTypes P n f.type).bind fun l => acc.map (l ++ ·)) (some []) else none
  | some (.array m e) => if m * P.cellsOf e = P.cellsOf t then (leafTypes P n e).map fun l => (List.replicate m l).flatten else none
  | some (.int _) => some [t]
  | some .bool => some [t]
  | some .string => some [t]
  | some (.slice _) => some [t]
  | _ => none
section
variable {P:Program} {w:World}
theorem tiled_le {total:Nat}:∀ (fs:List Field) (k:Nat),tiled P total fs k = true → k ≤ total
 | [],k,h => by simp [tiled] at h;omega
 | f :: fs,k,h => by
  simp [tiled] at h
  have:=tiled_le fs _ h.2
  omega
def Leaves (P:Program) (w:World) (ts:List TypeId) (cs:List Value):Prop:=cs.length = ts.length ∧ ∀ (i:Nat) (u:TypeId),ts[i]? = some u → ∃ v,cs[i]? = some v ∧ CFit P w u [v]
theorem Leaves.append {ts us:List TypeId} {cs ds:List Value} (h:Leaves P w ts cs) (k:Leaves P w us ds):Leaves P w (ts ++ us) (cs ++ ds):=by
 refine ⟨by simp [h.1,k.1],fun i u hu => ?_⟩
 by_cases hi:i < ts.length
 ·rw [List.getElem?_append_left hi] at hu
  rw [List.getElem?_append_left (by rw [h.1];exact hi)]
  exact h.2 i u hu
 ·rw [List.getElem?_append_right (by omega)] at hu
  rw [List.getElem?_append_right (by rw [h.1];omega),h.1]
  exact k.2 _ u hu
theorem leaves_one {t:TypeId} {v:Value} (h:CFit P w t [v]):Leaves P w [t] [v]:=by
 refine ⟨rfl,fun i u hu => ?_⟩
 match i,hu with
 | 0,hu => simp at hu;subst hu;exact ⟨v,rfl,h⟩
 | i + 1,hu => simp at hu
theorem leaves_fields {n:Nat} (ih:∀ t cs ts,leafTypes P n t = some ts → CFit P w t cs → Leaves P w ts cs) {total:Nat} {cs:List Value} (hlen:cs.length = total) :
 ∀ (fs:List Field) (k:Nat) (ts:List TypeId),tiled P total fs k = true → (∀ f ∈ fs,CFit P w f.type ((cs.drop f.offset).take (P.cellsOf f.type))) →
  fs.foldr (fun f acc => (leafTypes P n f.type).bind fun l => acc.map (l ++ ·)) (some []) = some ts → Leaves P w ts (cs.drop k)
 | [],k,ts,ht,_,hf => by
  simp [tiled] at ht
  simp at hf
  subst hf
  have:cs.drop k = []:=List.drop_eq_nil_of_le (by omega)
  rw [this]
  exact ⟨rfl,fun i u hu => by simp at hu⟩
 | f :: fs,k,ts,ht,hc,hf => by
  simp [tiled] at ht
  obtain ⟨ho,ht⟩:=ht
  have hle:=tiled_le fs _ ht
  simp only [List.foldr_cons,Option.bind_eq_some_iff,Option.map_eq_some_iff] at hf
  obtain ⟨l,hl,r,hr,rfl⟩:=hf
  have h1:=ih _ _ _ hl (hc f (by simp))
  rw [ho] at h1
  have h2:=leaves_fields ih hlen fs _ r ht (fun g hg => hc g (by simp [hg])) hr
  have h3:=h1.append h2
  have e:(cs.drop k).take (P.cellsOf f.type) ++ cs.drop (k + P.cellsOf f.type) = cs.drop k:=by
   rw [← List.drop_drop];exact List.take_append_drop _ _
  rwa [e] at h3
theorem leaves_elems {e:TypeId} {l:List TypeId} {s:Nat}:∀ (m k:Nat) (cs:List Value),cs.length = (k + m) * s → (∀ i,i < k + m → Leaves P w l ((cs.drop (i * s)).take s)) → Leaves P w (List.replicate m l).flatten (cs.drop (k * s))
 | 0,k,cs,hlen,_ => by
  have:cs.drop (k * s) = []:=List.drop_eq_nil_of_le (by simp at hlen;omega)
  rw [this]
  exact ⟨rfl,fun i u hu => by simp at hu⟩
 | m + 1,k,cs,hlen,hc => by
  have h1:=hc k (by omega)
  have h2:=leaves_elems (e:=e) m (k + 1) cs (by rw [hlen];congr 1;omega) (fun i hi => hc i (by omega))
  have h3:=h1.append h2
  have e:(cs.drop (k * s)).take s ++ cs.drop ((k + 1) * s) = cs.drop (k * s):=by
   rw [Nat.succ_mul,← List.drop_drop];exact List.take_append_drop _ _
  rw [e] at h3
  simpa [List.replicate_succ] using h3
theorem CFit.leaves:∀ (n:Nat) (t:TypeId) (cs:List Value) (ts:List TypeId),leafTypes P n t = some ts → CFit P w t cs → Leaves P w ts cs
 | 0,_,_,_,h,_ => by simp [leafTypes] at h
 | n + 1,t,cs,ts,h,hc => by
  unfold leafTypes at h
  split at h
  ·rename_i fs hu
   split at h
   ·rename_i hti
    obtain ⟨hlen,hf⟩:=hc.struct hu
    have:=leaves_fields (CFit.leaves n) hlen fs.toList 0 ts hti (fun f hm => by
     obtain ⟨i,hi,he⟩:=List.getElem_of_mem hm
     exact hf i f (by rw [← he];simp [Array.getElem?_eq_getElem (show i < fs.size by simpa using hi)])) h
    simpa using this
   ·cases h
  ·rename_i m e hu
   split at h
   ·rename_i hm
    obtain ⟨hlen,hf⟩:=hc.array hu
    simp only [Option.map_eq_some_iff] at h
    obtain ⟨l,hl,rfl⟩:=h
    have:=leaves_elems (e:=e) (P:=P) (w:=w) (l:=l) (s:=P.cellsOf e) m 0 cs (by rw [hlen];simpa using hm.symm) (fun i hi => CFit.leaves n _ _ _ hl (hf i (by omega)))
    simpa using this
   ·cases h
  ·rename_i k hu
   cases h
   obtain ⟨x,rfl,_⟩:=hc.int hu
   exact leaves_one hc
  ·rename_i hu
   cases h
   obtain ⟨x,rfl⟩:=hc.bool hu
   exact leaves_one hc
  ·rename_i hu
   cases h
   obtain ⟨x,rfl,_⟩:=hc.string hu
   exact leaves_one hc
  ·rename_i e hu
   cases h
   have h0:=hc
   obtain ⟨H,enc,fu,y,hy⟩:=h0
   rcases DataW.trod_slice hu hy with ⟨rfl,_⟩ | ⟨a,len,cap,elems,rest,m,_,rfl,_⟩
   ·exact leaves_one hc
   ·exact leaves_one hc
  ·cases h
def intsOf (ks:List IntKind) (ns:List Int):List Value:=List.zipWith (fun k n => Value.int k n) ks ns
theorem Leaves.ints:∀ (ks:List IntKind) (ts:List TypeId) (cs:List Value),Leaves P w ts cs → ts.length = ks.length → (∀ (i:Nat) (u:TypeId) (k:IntKind),ts[i]? = some u → ks[i]? = some k → P.underlying u = some (.int k)) →
 ∃ ns:List Int,ns.length = ks.length ∧ cs = intsOf ks ns ∧ ∀ (i:Nat) (k:IntKind) (n:Int),ks[i]? = some k → ns[i]? = some n → (Lit.int k n).wf = true
 | [],ts,cs,h,hl,_ => ⟨[],rfl,by
  have:cs.length = 0:=by rw [h.1,hl];rfl
  rw [List.eq_nil_of_length_eq_zero this];rfl,fun i k n hk => by simp at hk⟩
 | k :: ks,[],cs,h,hl,_ => by simp at hl
 | k :: ks,t :: ts,[],h,hl,_ => by have:=h.1;simp at this
 | k :: ks,t :: ts,c :: cs,h,hl,hu => by
  obtain ⟨v,hv,hf⟩:=h.2 0 t rfl
  simp at hv
  subst hv
  obtain ⟨n,hn,hw⟩:=hf.int (hu 0 t k rfl rfl)
  obtain ⟨ns,h1,h2,h3⟩:=Leaves.ints ks ts cs ⟨by have:=h.1;simpa using this,fun i u hi => by
   obtain ⟨v,hv,hf⟩:=h.2 (i + 1) u (by simpa using hi)
   exact ⟨v,by simpa using hv,hf⟩⟩ (by simpa using hl) (fun i u k' hi hk => hu (i + 1) u k' (by simpa using hi) (by simpa using hk))
  refine ⟨n :: ns,by simp [h1],by simp [intsOf] at *;exact ⟨hn,h2⟩,fun i k' n' hk hn' => ?_⟩
  match i,hk,hn' with
  | 0,hk,hn' => simp at hk hn';subst hk;subst hn';exact hw
  | i + 1,hk,hn' => exact h3 i k' n' (by simpa using hk) (by simpa using hn')
def leafInts (P:Program) (t:TypeId):Option (List IntKind) :=
 (leafTypes P 9 t).bind fun ts => ts.mapM fun u => match P.underlying u with | some (.int k) => some k | _ => none
theorem CFit.ints {t:TypeId} {cs:List Value} {ks:List IntKind} (h:CFit P w t cs) (hl:leafInts P t = some ks) :
 ∃ ns:List Int,ns.length = ks.length ∧ cs = intsOf ks ns ∧ ∀ (i:Nat) (k:IntKind) (n:Int),ks[i]? = some k → ns[i]? = some n → (Lit.int k n).wf = true:=by
 unfold leafInts at hl
 obtain ⟨ts,h1,h2⟩:=Option.bind_eq_some_iff.1 hl
 refine (CFit.leaves 9 t cs ts h1 h).ints ks ts cs (by simpa using (mapM_some_length h2).symm) (fun i u k hi hk => ?_)
 have:=mapM_some_get h2 i u hi
 rw [hk] at this
 split at this
 ·rename_i k' hu
  rw [hu];injection this with this;rw [this]
 ·cases this
theorem CFit.slice_ints {t e:TypeId} {s:Nat} {A:Option Addr} {n c:Nat} {ks:List IntKind} (h:CFit P w t [.slice A n c]) (hu:P.underlying t = some (.slice e)) (hs:P.cellsOf e = s) (hs0:0 < s) (hl:leafInts P e = some ks) :
 n ≤ c ∧ c ≤ maxLen ∧ ∃ rows:List (List Int),rows.length = n ∧ (∀ r ∈ rows,r.length = ks.length ∧ ∀ (i:Nat) (k:IntKind) (m:Int),ks[i]? = some k → r[i]? = some m → (Lit.int k m).wf = true) ∧ Rd w w.heap.size s A n (rows.map (intsOf ks)).flatten:=by
 obtain ⟨h1,h2,rows,h3,h4,h5⟩:=h.slice hu hs hs0
 have:∀ rows:List (List Value),(∀ r ∈ rows,r.length = s ∧ CFit P w e r) → ∃ l:List (List Int),l.map (intsOf ks) = rows ∧ ∀ r ∈ l,r.length = ks.length ∧ ∀ (i:Nat) (k:IntKind) (m:Int),ks[i]? = some k → r[i]? = some m → (Lit.int k m).wf = true:=by
  intro rows
  induction rows with
  | nil => exact fun _ => ⟨[],rfl,by simp⟩
  | cons r rows ih =>
   intro hr
   obtain ⟨l,hl1,hl2⟩:=ih (fun x hx => hr x (by simp [hx]))
   obtain ⟨ns,e1,e2,e3⟩:=(hr r (by simp)).2.ints hl
   refine ⟨ns :: l,by simp [hl1,e2],fun x hx => ?_⟩
   rcases List.mem_cons.1 hx with rfl | hx
   ·exact ⟨e1,e3⟩
   ·exact hl2 x hx
 obtain ⟨l,hl1,hl2⟩:=this rows h4
 subst hl1
 exact ⟨h1,h2,l,by simpa using h3,hl2,h5⟩
end
end Go.Proofs.YtfgiehkfcoodbaaGreat
namespace Go.Proofs.YtfgiehkfcoodbaaGreat
open Go.RowKit
set_option linter.unusedVariables false
set_option maxRecDepth 100000
set_option maxHeartbeats 16000000
structure Elem (P:Program) (t e:TypeId) (size bytes:Nat):Prop where
 und:P.underlying t = some (.slice e)
 info:∃ i z,P.info? e = some i ∧ i.zero = some z ∧ i.size = size ∧ i.bytes = bytes ∧ z.cells.size = size
 pos:0 < size
section
variable {P:Program}
theorem elem_of {t e:TypeId} {size bytes:Nat} {z:Value} (hu:P.underlying t = some (.slice e)) (h:(P.info? e).map (fun i => (i.zero,i.size,i.bytes)) = some (some z,size,bytes)) (hz:z.cells.size = size) (hp:0 < size):Elem P t e size bytes:=by
 obtain ⟨i,h1,h2,h3,h4⟩:=info_parts h
 exact ⟨hu,⟨i,z,h1,h2,h3,h4,hz⟩,hp⟩
theorem cells_new (w:World) (news:List Value) (e:TypeId):∀ j u,news[j]? = some u → (w.alloc (.cells ⟨news⟩ e)).cell? ((⟨w.heap.size,0,none⟩:Addr).add j) = some u:=by
 intro j u hj
 have h:(w.alloc (.cells ⟨news⟩ e)).heap[w.heap.size]? = some (.cells ⟨news⟩ e):=heap_alloc_new w _
 rw [add_none,Nat.zero_add,cell_of_row _ _ _ _ _ _ h]
 simpa using hj
theorem own_slice {w:World} {base e size n:Nat} {v:Value} {xs:List Value} (h:w.ownsRow base e size v n xs):∃ A c,v = .slice A n c:=by
 rcases h.2 with ⟨rfl,rfl⟩ | ⟨g,cap,_,rfl,_⟩
 ·exact ⟨none,0,rfl⟩
 ·exact ⟨_,cap,rfl⟩
theorem wpList_push {ops:Array Oper} {rest:List Oper} {o:Oper} {a:Act} {Q:Exit → Act → World → Prop} {t e:TypeId} {size bytes:Nat} (E:Elem P t e size bytes) (hgd:o.guard = none) (s x:Operand)
 (ho:o.op = .call { callee:=.builtin .append,args:=#[s,x],argTypes:=#[t,t] })
 (w:World) (base:Nat) (v:Value) (n:Nat) (xs news:List Value) (hs:a.eval s = v) (hown:w.ownsRow base e size v n xs) (hx:a.eval x = .slice (some ⟨w.heap.size,0,none⟩) 1 1)
 (hl:news.length = size) (h1:∀ u ∈ news,u.oneCell' = true) (hbytes:(n + 1) * bytes ≤ 140737488355328) (hmax:n + 1 ≤ maxLen) (hbase:base ≤ w.heap.size)
 (h:∀ A' c' w',w'.ownsRow base e size (.slice A' (n + 1) c') (n + 1) (xs ++ news) → Below base w w' → w.grownBy w' v.ownBlock → wpList P ops Q rest (a.put o.dst (.slice A' (n + 1) c')) w'):wpList P ops Q (o :: rest) a (w.alloc (.cells ⟨news⟩ e)):=by
 obtain ⟨i,z,hi,hz,hsize,hby,hzs⟩:=E.info
 refine wpList_append_own _ hgd s x t ho base e i z size bytes E.und hi hz hsize hby hzs E.pos v n xs hs (hown.alloc _) ⟨w.heap.size,0,none⟩ 1 1 news hx (by omega) (cells_new w news e) h1 hmax hbytes (by simp;omega) ?_
 intro v' w' ho' hg _
 have hgr:w.grownBy w' v.ownBlock :=
  ⟨hg.os,hg.tape,hg.output,Nat.le_trans (by simp) hg.size,fun k hk hne => (hg.block k (by simp;omega) hne).trans (Below.heap_alloc w _ k hk)⟩
 obtain ⟨A',c',rfl⟩:=own_slice ho'
 exact h A' c' w' ho' ((Below.refl _ _).grown hgr hbase (fun k hk => (hown.lt k hk).1)) hgr
end
end Go.Proofs.YtfgiehkfcoodbaaGreat
namespace Go.Proofs.YtfgiehkfcoodbaaGreat
open Go.RowKit
set_option linter.unusedVariables false
set_option maxRecDepth 100000
set_option maxHeartbeats 16000000
theorem below_ad {B:Nat} {w w':World} (h:Below B w w') (hB:B ≤ w.heap.size) (o:Obj):Below B w (w'.alloc o).drew:=by
 have k:=h.alloc (Nat.le_trans hB h.size) o
 exact ⟨k.os,k.tape,k.output,k.size,k.block⟩
section
variable {P:Program}
theorem step_push {ops:Array Oper} {o:Oper} {a:Act} {K:Act → World → Prop} {Q:Exit → Act → World → Prop} {F:Prop} {t e:TypeId} {size bytes:Nat} (E:Elem P t e size bytes) (hgd:o.guard = none) (s x:Operand)
 (ho:o.op = .call { callee:=.builtin .append,args:=#[s,x],argTypes:=#[t,t] })
 (W:World) (base g:Nat) (v:Value) (n:Nat) (xs news:List Value) (hs:a.eval s = v) (hown:W.ownsRow base e size v n xs) (hx:a.eval x = .slice (some ⟨g,0,none⟩) 1 1) (hg:W.heap[g]? = some (.cells ⟨news⟩ e (0,0)))
 (hl:news.length = size) (h1:∀ u ∈ news,u.oneCell' = true) (hbytes:(n + 1) * bytes ≤ 140737488355328) (hmax:n + 1 ≤ maxLen) (w0:World) (hw0:Below base w0 W) (hbase0:base ≤ w0.heap.size)
 (h:∀ A' c' w',w'.ownsRow base e size (.slice A' (n + 1) c') (n + 1) (xs ++ news) → Below base w0 w' → K (a.put o.dst (.slice A' (n + 1) c')) w') :
 if Region.wanted o (yielded ops a.tmps) = true then Oper.wp P o a W K Q else F:=by
 obtain ⟨i,z,hi,hz,hsize,hby,hzs⟩:=E.info
 have hbase:base ≤ W.heap.size:=Nat.le_trans hbase0 hw0.size
 refine step_append_lies W hgd s x t ho base e i z size bytes E.und hi hz hsize hby hzs E.pos v n xs hs hown ⟨g,0,none⟩ 1 1 news hx (by omega) ?_ h1 (by omega) hmax hbytes hbase _ rfl ?_
 ·intro j u hj
  exact World.news_of_block hg j u hj
 ·intro g' c' w' ho' hgr _ _
  exact h _ _ _ ho' (hw0.grown hgr hbase (fun k hk => (hown.lt k hk).1))
theorem wpList_pushg {ops:Array Oper} {rest:List Oper} {o:Oper} {a:Act} {Q:Exit → Act → World → Prop} {t e:TypeId} {size bytes:Nat} (E:Elem P t e size bytes) (hgd:o.guard = none) (s x:Operand)
 (ho:o.op = .call { callee:=.builtin .append,args:=#[s,x],argTypes:=#[t,t] })
 (W:World) (base g:Nat) (v:Value) (n:Nat) (xs news:List Value) (hs:a.eval s = v) (hown:W.ownsRow base e size v n xs) (hx:a.eval x = .slice (some ⟨g,0,none⟩) 1 1) (hg:W.heap[g]? = some (.cells ⟨news⟩ e (0,0)))
 (hl:news.length = size) (h1:∀ u ∈ news,u.oneCell' = true) (hbytes:(n + 1) * bytes ≤ 140737488355328) (hmax:n + 1 ≤ maxLen) (w0:World) (hw0:Below base w0 W) (hbase0:base ≤ w0.heap.size)
 (h:∀ A' c' w',w'.ownsRow base e size (.slice A' (n + 1) c') (n + 1) (xs ++ news) → Below base w0 w' → wpList P ops Q rest (a.put o.dst (.slice A' (n + 1) c')) w'):wpList P ops Q (o :: rest) a W:=by
 obtain ⟨i,z,hi,hz,hsize,hby,hzs⟩:=E.info
 have hbase:base ≤ W.heap.size:=Nat.le_trans hbase0 hw0.size
 refine wpList_append_lies W hgd s x t ho base e i z size bytes E.und hi hz hsize hby hzs E.pos v n xs hs hown ⟨g,0,none⟩ 1 1 news hx (by omega) ?_ h1 (by omega) hmax hbytes hbase _ rfl ?_
 ·intro j u hj
  exact World.news_of_block hg j u hj
 ·intro g' c' w' ho' hgr _ _
  exact h _ _ _ ho' (hw0.grown hgr hbase (fun k hk => (hown.lt k hk).1))
theorem heap_alloc2 (w:World) (a b:Obj):((w.alloc a).alloc b).heap[w.heap.size + 1]? = some b:=by
 have:=heap_alloc_new (w.alloc a) b
 simpa using this
end
end Go.Proofs.YtfgiehkfcoodbaaGreat
namespace Go.Proofs.YtfgiehkfcoodbaaGreat
open Go.RowKit
set_option linter.unusedVariables false
set_option maxRecDepth 100000
set_option maxHeartbeats 16000000
theorem flat_get {s:Nat}:∀ (rows:List (List Value)),(∀ r ∈ rows,r.length = s) → ∀ (i:Nat) (hi:i < rows.length) (j:Nat),j < s → rows.flatten[i * s + j]? = rows[i][j]?
 | [],_,i,hi,_,_ => by simp at hi
 | r :: rows,h,0,_,j,hj => by
  have:=h r (by simp)
  simp only [List.flatten_cons,Nat.zero_mul,Nat.zero_add,List.getElem_cons_zero]
  exact List.getElem?_append_left (by omega)
 | r :: rows,h,i + 1,hi,j,hj => by
  have h1:=h r (by simp)
  have:=flat_get rows (fun r hr => h r (by simp [hr])) i (by simpa using hi) j hj
  simp only [List.flatten_cons,List.getElem_cons_succ]
  rw [← this,List.getElem?_append_right (by rw [h1,Nat.succ_mul];omega),h1]
  congr 1
  rw [Nat.succ_mul];omega
section
variable {P:Program} {w:World}
def IsRows (w:World) (v:Value) (ks:List IntKind) (n:Nat) (f:Nat → Nat → Int):Prop :=
 ∃ (A:Option Addr) (c:Nat),v = .slice A n c ∧ n ≤ c ∧ c ≤ maxLen ∧ (∀ i,i < n → ∀ (j:Nat) (k:IntKind),ks[j]? = some k → (Lit.int k (f i j)).wf = true) ∧
  (0 < n → ∃ b off,A = some ⟨b,off,none⟩ ∧ b < w.heap.size ∧ ∀ i,i < n → ∀ (j:Nat) (k:IntKind),ks[j]? = some k → w.cell? ⟨b,off + (i * ks.length + j),none⟩ = some (.int k (f i j)))
theorem intsOf_len:∀ (ks:List IntKind) (ns:List Int),ns.length = ks.length → (intsOf ks ns).length = ks.length:=by
 intro ks ns h;simp [intsOf,h]
theorem intsOf_get {ks:List IntKind} {ns:List Int} (h:ns.length = ks.length) {j:Nat} {k:IntKind} (hk:ks[j]? = some k):(intsOf ks ns)[j]? = some (.int k (ns.getD j 0)):=by
 obtain ⟨hj,he⟩:=List.getElem?_eq_some_iff.1 hk
 subst he
 simp [intsOf,hj,h]
theorem IsRows.below {w w':World} {v:Value} {ks:List IntKind} {n:Nat} {f:Nat → Nat → Int} (h:IsRows w v ks n f) (hb:Below w.heap.size w w'):IsRows w' v ks n f:=by
 obtain ⟨A,c,h1,h2,h3,h4,h5⟩:=h
 refine ⟨A,c,h1,h2,h3,h4,fun h0 => ?_⟩
 obtain ⟨b,off,e,hB,hc⟩:=h5 h0
 exact ⟨b,off,e,Nat.lt_of_lt_of_le hB hb.size,fun i hi j k hk => (hb.cell (p:=⟨b,_,none⟩) hB).trans (hc i hi j k hk)⟩
end
end Go.Proofs.YtfgiehkfcoodbaaGreat
namespace Go.Proofs.YtfgiehkfcoodbaaGreat
open Go.RowKit
set_option linter.unusedVariables false
set_option maxRecDepth 100000
set_option maxHeartbeats 16000000
section
variable {P:Program}
theorem run_append_empty {w:World} {base:Nat} {t ty e:TypeId} {size bytes:Nat} (E:Elem P t e size bytes) {v:Value} {n:Nat} {xs:List Value} (hown:w.ownsRow base e size v n xs) (c:Nat) :
 (Builtin.append_ #[t,t] ty #[v,.slice none 0 c]).run P w = .ok v w:=by
 obtain ⟨i,z,hi,_⟩:=E.info
 rcases hown.2 with ⟨rfl,rfl⟩ | ⟨g,cap,cur,rfl,_,_,hnc,_⟩
 ·simp [Builtin.append_,run_underlying E.und,sizeOf,typeInfo,hi,Builtin.lenOf,Builtin.firstCells]
 ·simp [Builtin.append_,run_underlying E.und,sizeOf,typeInfo,hi,Builtin.lenOf,Builtin.firstCells,hnc,storeCells]
theorem wpList_pushN {ops:Array Oper} {rest:List Oper} {o:Oper} {a:Act} {Q:Exit → Act → World → Prop} {t e:TypeId} {size bytes:Nat} (E:Elem P t e size bytes) (hgd:o.guard = none) (s x:Operand)
 (ho:o.op = .call { callee:=.builtin .append,args:=#[s,x],argTypes:=#[t,t] })
 (W:World) (base:Nat) (v:Value) (n:Nat) (xs:List Value) (hs:a.eval s = v) (hown:W.ownsRow base e size v n xs) (B:Nat) (A:Option Addr) (m c:Nat) (news:List Value)
 (hx:a.eval x = .slice A m c) (hr:Rd W B size A m news) (h1:∀ u ∈ news,u.oneCell' = true) (hbytes:(n + m) * bytes ≤ 140737488355328) (hmax:n + m ≤ maxLen) (w0:World) (hw0:Below base w0 W) (hbase0:base ≤ w0.heap.size)
 (h:∀ A' c' w',w'.ownsRow base e size (.slice A' (n + m) c') (n + m) (xs ++ news) → Below base w0 w' → wpList P ops Q rest (a.put o.dst (.slice A' (n + m) c')) w'):wpList P ops Q (o :: rest) a W:=by
 have hbase:base ≤ W.heap.size:=Nat.le_trans hbase0 hw0.size
 rcases A with _ | ad
 ·have hm:m = 0:=by
   rcases Nat.eq_zero_or_pos m with h0 | h0
   ·exact h0
   ·obtain ⟨b,off,h,_⟩:=hr.2 h0
    cases h
  subst hm
  have hn:news = []:=List.eq_nil_of_length_eq_zero (by simpa using hr.1)
  subst hn
  obtain ⟨A',c',rfl⟩:=own_slice hown
  have hh:=h A' c' W (by simpa using hown) hw0
  refine wpList_plain hgd fun K hK => ?_
  have hrun:=run_append_empty (P:=P) (ty:=o.type) E hown c
  unfold Oper.wp
  simp [execOp,ho,resolve,invoke,builtin,hs,hx,hrun,Result.andThen]
  exact hK _ _ hh
 ·obtain ⟨i,z,hi,hz,hsize,hby,hzs⟩:=E.info
  have hcells:∀ j u,news[j]? = some u → W.cell? (ad.add j) = some u:=by
   intro j u hu
   rcases Nat.eq_zero_or_pos m with h0 | h0
   ·subst h0
    have hn:news = []:=List.eq_nil_of_length_eq_zero (by simpa using hr.1)
    subst hn
    simp at hu
   ·obtain ⟨b,off,h,_,hc⟩:=hr.2 h0
    injection h with h
    subst h
    rw [add_none]
    exact hc j u hu
  refine wpList_append_own W hgd s x t ho base e i z size bytes E.und hi hz hsize hby hzs E.pos v n xs hs hown ad m c news hx hr.1 hcells h1 hmax hbytes hbase ?_
  intro v' w' ho' hg _
  obtain ⟨A',c',rfl⟩:=own_slice ho'
  exact h A' c' w' ho' (hw0.grown hg hbase (fun k hk => (hown.lt k hk).1))
end
end Go.Proofs.YtfgiehkfcoodbaaGreat
namespace Go.Proofs.YtfgiehkfcoodbaaGreat
set_option linter.unusedVariables false
set_option maxRecDepth 100000
set_option maxHeartbeats 16000000
def pcs:List (Nat × Nat) → Nat → List (Nat × Nat)
 | [],_ => []
 | (u,p) :: t,f => if u ≤ f then pcs t f else (u - f,p) :: pcs t u
def cost:List (Nat × Nat) → Nat → Nat
 | [],_ => 0
 | (q,p) :: t,n => min q n * p + cost t (n - min q n)
theorem pcs_skip {u p f:Nat} {t:List (Nat × Nat)} (h:u ≤ f):pcs ((u,p) :: t) f = pcs t f:=by simp [pcs,h]
theorem pcs_take {u p f:Nat} {t:List (Nat × Nat)} (h:¬ u ≤ f):pcs ((u,p) :: t) f = (u - f,p) :: pcs t u:=by simp [pcs,h]
theorem pcs_bd:∀ (l:List (Nat × Nat)) (f:Nat),(∀ p ∈ l,1 ≤ p.1 ∧ p.1 ≤ 10000000 ∧ 1 ≤ p.2 ∧ p.2 ≤ 100000) → ∀ p ∈ pcs l f,1 ≤ p.1 ∧ p.1 ≤ 10000000 ∧ 1 ≤ p.2 ∧ p.2 ≤ 100000
 | [],_,_,p,hp => by simp [pcs] at hp
 | (u,c) :: t,f,h,p,hp => by
  have h0:=h (u,c) (by simp)
  by_cases hu:u ≤ f
  ·rw [pcs_skip hu] at hp
   exact pcs_bd t f (fun q hq => h q (by simp [hq])) p hp
  ·rw [pcs_take hu] at hp
   simp only [List.mem_cons] at hp
   rcases hp with rfl | hp
   ·simp only at h0 ⊢;omega
   ·exact pcs_bd t u (fun q hq => h q (by simp [hq])) p hp
def lefts (l:List (Nat × Nat)):Nat:=(l.map Prod.fst).sum
theorem pcs_lefts:∀ (l:List (Nat × Nat)) (f M:Nat),(∀ h:l ≠ [],(l.getLast h).1 = M) → (∀ p ∈ l,p.1 ≤ M) → l ≠ [] → f ≤ M → lefts (pcs l f) + f = M
 | [],_,_,_,_,h,_ => absurd rfl h
 | (u,c) :: t,f,M,hl,hm,_,hf => by
  have hu0:=hm (u,c) (by simp)
  simp only at hu0
  by_cases ht:t = []
  ·subst ht
   have:=hl (by simp)
   simp only [List.getLast_singleton] at this
   subst this
   by_cases hu:u ≤ f
   ·rw [pcs_skip hu];simp [pcs,lefts];omega
   ·rw [pcs_take hu];simp [pcs,lefts];omega
  ·have hl':∀ h:t ≠ [],(t.getLast h).1 = M:=fun h => by
    have:=hl (by simp)
    rwa [List.getLast_cons h] at this
   by_cases hu:u ≤ f
   ·rw [pcs_skip hu];exact pcs_lefts t f M hl' (fun p hp => hm p (by simp [hp])) ht hf
   ·rw [pcs_take hu]
    have:=pcs_lefts t u M hl' (fun p hp => hm p (by simp [hp])) ht hu0
    simp only [lefts,List.map_cons,List.sum_cons] at this ⊢
    omega
theorem cost_zero:∀ l:List (Nat × Nat),cost l 0 = 0
 | [] => rfl
 | (q,p) :: t => by simp [cost,cost_zero t]
def bills:List (Nat × Nat) → Nat → List (Nat × Nat)
 | [],_ => []
 | (q,p) :: t,n => if n = 0 then [] else (min q n,p) :: bills t (n - min q n)
def lsum (l:List (Nat × Nat)):Nat:=(l.map fun p => p.1 * p.2).sum
def most:List (Nat × Nat) → Nat → Nat → Nat → Nat × Nat
 | [],_,u,p => (u,p)
 | (q,c) :: t,m,u,p => if min (min q ((m - p) / c)) (2097151 - u) < q then (u + min (min q ((m - p) / c)) (2097151 - u),p + min (min q ((m - p) / c)) (2097151 - u) * c)
  else most t m (u + min (min q ((m - p) / c)) (2097151 - u)) (p + min (min q ((m - p) / c)) (2097151 - u) * c)
theorem most_stop {q c m u p n:Nat} {t:List (Nat × Nat)} (hn:min (min q ((m - p) / c)) (2097151 - u) = n) (h:n < q):most ((q,c) :: t) m u p = (u + n,p + n * c):=by simp only [most,hn,if_pos h]
theorem most_go {q c m u p n:Nat} {t:List (Nat × Nat)} (hn:min (min q ((m - p) / c)) (2097151 - u) = n) (h:¬ n < q):most ((q,c) :: t) m u p = most t m (u + n) (p + n * c):=by simp only [most,hn,if_neg h]
theorem most_is:∀ (l:List (Nat × Nat)) (m u p:Nat),(∀ x ∈ l,1 ≤ x.2) → p ≤ m → u ≤ 2097151 →
 ∃ d,(most l m u p).1 = u + d ∧ (most l m u p).2 = p + cost l d ∧ (most l m u p).2 ≤ m ∧ d ≤ lefts l ∧ u + d ≤ 2097151 ∧ (u + d = 2097151 ∨ d = lefts l ∨ m < p + cost l (d + 1))
 | [],m,u,p,_,hp,hu => ⟨0,rfl,by simp [most,cost],by simpa [most] using hp,by omega,by omega,.inr (.inl (by simp [lefts]))⟩
 | (q,c) :: t,m,u,p,hc,hp,hu => by
  obtain ⟨n,hn⟩:∃ n,min (min q ((m - p) / c)) (2097151 - u) = n:=⟨_,rfl⟩
  have hc1:=hc (q,c) (by simp)
  simp only at hc1
  have hdiv:n * c ≤ m - p:=Nat.le_trans (Nat.mul_le_mul_right c (by omega:n ≤ (m - p) / c)) (Nat.div_mul_le_self _ _)
  by_cases h:n < q
  ·rw [most_stop hn h]
   have e1:cost ((q,c) :: t) n = n * c:=by
    have a:min q n = n:=by omega
    simp [cost,a,cost_zero]
   refine ⟨n,rfl,by rw [e1],by show p + n * c ≤ m;omega,?_,by omega,?_⟩
   ·simp only [lefts,List.map_cons,List.sum_cons];omega
   ·by_cases hk:u + n = 2097151
    ·exact .inl hk
    ·refine .inr (.inr ?_)
     have hnd:n = (m - p) / c:=by omega
     have e2:cost ((q,c) :: t) (n + 1) = (n + 1) * c:=by
      have a:min q (n + 1) = n + 1:=by omega
      simp [cost,a,cost_zero]
     have hlt:=Nat.lt_mul_div_succ (m - p) (by omega:0 < c)
     rw [← hnd,Nat.mul_comm] at hlt
     rw [e2];omega
  ·rw [most_go hn h]
   have hnq:n = q:=by omega
   obtain ⟨d,h1,h2,h3,h4,h5,h6⟩:=most_is t m (u + n) (p + n * c) (fun x hx => hc x (by simp [hx])) (by omega) (by omega)
   have e:∀ k,cost ((q,c) :: t) (n + k) = n * c + cost t k:=fun k => by
    have a:min q (n + k) = n:=by omega
    have b:n + k - n = k:=by omega
    simp only [cost,a,b]
   refine ⟨n + d,by rw [h1];omega,by rw [h2,e d];omega,h3,?_,by omega,?_⟩
   ·simp only [lefts,List.map_cons,List.sum_cons] at h4 ⊢;omega
   ·rcases h6 with h6 | h6 | h6
    ·exact .inl (by omega)
    ·exact .inr (.inl (by simp only [lefts,List.map_cons,List.sum_cons] at h6 ⊢;omega))
    ·have:=e (d + 1)
     exact .inr (.inr (by rw [show n + d + 1 = n + (d + 1) by omega,this];omega))
end Go.Proofs.YtfgiehkfcoodbaaGreat
