/- Words and writes as lists: plain definitions, and what a slice value that reads as such is. -/
import Derived.Test.YtfgiehkfcoodbaaGreatM0
import Derived.Test.YtfgiehkfcoodbaaGreatM1
import Derived.Test.YtfgiehkfcoodbaaGreatM2
import Derived.Laws.CopyOwn
import Derived.Laws.MakeOwn
namespace Go.Proofs.YtfgiehkfcoodbaaGreat
open Go.RowKit
set_option linter.unusedVariables false
set_option maxRecDepth 100000
set_option maxHeartbeats 16000000
def ws (xs:List Nat):List Value:=xs.map fun (x:Nat) => Value.int .u32 ↑x
def wrs (l:List (Nat × Nat)):List Value:=l.flatMap fun (p:Nat × Nat) => [Value.int .i64 ↑p.1,Value.int .u32 ↑p.2]
def applyW (xs:List Nat) (l:List (Nat × Nat)):List Nat:=l.foldl (fun x p => x.set p.1 p.2) xs
theorem applyW_length (xs:List Nat) (l:List (Nat × Nat)):(applyW xs l).length = xs.length:=by
 unfold applyW
 induction l generalizing xs with
 | nil => rfl
 | cons p l ih => simp only [List.foldl_cons];rw [ih];simp
theorem applyW_snoc (xs:List Nat) (l:List (Nat × Nat)) (p:Nat × Nat):applyW xs (l ++ [p]) = (applyW xs l).set p.1 p.2:=by simp [applyW]
theorem applyW_append (xs:List Nat) (a b:List (Nat × Nat)):applyW xs (a ++ b) = applyW (applyW xs a) b:=by simp [applyW]
theorem applyW_lt {xs:List Nat} {l:List (Nat × Nat)} (hx:∀ x ∈ xs,x < 4294967296) (hl:∀ p ∈ l,p.2 < 4294967296):∀ x ∈ applyW xs l,x < 4294967296:=by
 induction l generalizing xs with
 | nil => exact hx
 | cons p l ih =>
  refine ih (fun x hx' => ?_) (fun q hq => hl q (by simp [hq]))
  rcases List.mem_or_eq_of_mem_set hx' with h | h
  ·exact hx x h
  ·have:=hl p (by simp);omega
theorem ws_length (xs:List Nat):(ws xs).length = xs.length:=by simp [ws]
theorem ws_get {xs:List Nat} {i:Nat} (h:i < xs.length):(ws xs)[i]? = some (.int .u32 xs[i]):=by simp [ws,h]
theorem wrs_get {l:List (Nat × Nat)} {i:Nat} (h:i < l.length):(wrs l)[i * 2]? = some (.int .i64 l[i].1) ∧ (wrs l)[i * 2 + 1]? = some (.int .u32 l[i].2):=by
 induction l generalizing i with
 | nil => simp at h
 | cons p l ih =>
  cases i with
  | zero => exact ⟨rfl,rfl⟩
  | succ i =>
   have:=ih (i:=i) (by simp at h;omega)
   simp only [List.getElem_cons_succ]
   rw [Nat.succ_mul]
   exact this
theorem wrs_append (a b:List (Nat × Nat)):wrs (a ++ b) = wrs a ++ wrs b:=by simp [wrs]
theorem ws_set (xs:List Nat) (i x:Nat):ws (xs.set i x) = (ws xs).set i (.int .u32 x):=by simp [ws,List.map_set]
def IsWs (w:World) (v:Value) (xs:List Nat):Prop :=
 ∃ (A:Option Addr) (c:Nat),v = .slice A xs.length c ∧ xs.length ≤ c ∧ c ≤ maxLen ∧ (∀ x ∈ xs,x < 4294967296) ∧ Rd w w.heap.size 1 A xs.length (ws xs)
def IsWr (w:World) (v:Value) (l:List (Nat × Nat)):Prop :=
 ∃ (A:Option Addr) (c:Nat),v = .slice A l.length c ∧ l.length ≤ c ∧ c ≤ maxLen ∧ (∀ p ∈ l,p.2 < 4294967296) ∧ Rd w w.heap.size 2 A l.length (wrs l)
theorem IsWs.below {w w':World} {v:Value} {xs:List Nat} (h:IsWs w v xs) (hb:Below w.heap.size w w'):IsWs w' v xs:=by
 obtain ⟨A,c,h1,h2,h3,h4,h5⟩:=h
 exact ⟨A,c,h1,h2,h3,h4,(h5.below hb).more hb.size⟩
theorem IsWr.below {w w':World} {v:Value} {l:List (Nat × Nat)} (h:IsWr w v l) (hb:Below w.heap.size w w'):IsWr w' v l:=by
 obtain ⟨A,c,h1,h2,h3,h4,h5⟩:=h
 exact ⟨A,c,h1,h2,h3,h4,(h5.below hb).more hb.size⟩
theorem own_cap {w:World} {base e size n:Nat} {A:Option Addr} {c:Nat} {xs:List Value} (h:w.ownsRow base e size (.slice A n c) n xs):n ≤ c ∧ c ≤ maxLen:=by
 rcases h.2 with ⟨h1,h2⟩ | ⟨g,cap,cur,h1,_,_,h2,h3,_⟩
 ·injection h1 with _ _ h1;subst h1;subst h2;exact ⟨Nat.le_refl _,Nat.zero_le _⟩
 ·injection h1 with _ _ h1;subst h1;exact ⟨h2,h3⟩
theorem isws_own {w:World} {base e:Nat} {A:Option Addr} {n c:Nat} {xs:List Nat} (hn:xs.length = n) (hx:∀ x ∈ xs,x < 4294967296) (h:w.ownsRow base e 1 (.slice A n c) n (ws xs)):IsWs w (.slice A n c) xs:=by
 subst hn
 exact ⟨A,c,rfl,(own_cap h).1,(own_cap h).2,hx,Rd.of_own h⟩
theorem iswr_own {w:World} {base e:Nat} {A:Option Addr} {n c:Nat} {l:List (Nat × Nat)} (hn:l.length = n) (hx:∀ p ∈ l,p.2 < 4294967296) (h:w.ownsRow base e 2 (.slice A n c) n (wrs l)):IsWr w (.slice A n c) l:=by
 subst hn
 exact ⟨A,c,rfl,(own_cap h).1,(own_cap h).2,hx,Rd.of_own h⟩
def Blk (w:World) (g:Nat) (t:TypeId) (cs:Array Value):Prop:=w.heap[g]? = some (.cells cs t (0,0))
theorem Blk.lt {w:World} {g:Nat} {t:TypeId} {cs:Array Value} (h:Blk w g t cs):g < w.heap.size:=by
 rcases Nat.lt_or_ge g w.heap.size with hlt | hge
 ·exact hlt
 ·unfold Blk at h;rw [Array.getElem?_eq_none hge] at h;cases h
theorem Blk.cell {w:World} {g:Nat} {t:TypeId} {cs:Array Value} (h:Blk w g t cs) (i:Nat):w.cell? ⟨g,i,none⟩ = cs[i]?:=cell_of_row w g i cs t (0,0) h
theorem Blk.frozen {w:World} {g:Nat} {t:TypeId} {cs:Array Value} (h:Blk w g t cs) (i:Nat):w.frozen? ⟨g,i,none⟩ = false:=by
 unfold Blk at h;simp [World.frozen?,h]
theorem Blk.new (w:World) (t:TypeId) (cs:Array Value):Blk (w.alloc (.cells cs t)) w.heap.size t cs:=heap_alloc_new w _
theorem Blk.below {w w':World} {B g:Nat} {t:TypeId} {cs:Array Value} (h:Blk w g t cs) (hb:Below B w w') (hg:g < B):Blk w' g t cs:=(hb.block g hg).trans h
theorem Blk.set_ {w:World} {g:Nat} {t:TypeId} {cs:Array Value} (h:Blk w g t cs) (i:Nat) (u:Value):Blk (w.setCell ⟨g,i,none⟩ u) g t (cs.setIfInBounds i u):=by
 unfold Blk at h ⊢
 simp [World.setCell,Array.getElem?_modify,h]
theorem Blk.alloc {w:World} {g:Nat} {t:TypeId} {cs:Array Value} (h:Blk w g t cs) (o:Obj):Blk (w.alloc o) g t cs:=(Below.heap_alloc w o g h.lt).trans h
theorem Blk.far {w:World} {g:Nat} {t:TypeId} {cs:Array Value} (h:Blk w g t cs) {p:Addr} (hp:g ≠ p.block) (u:Value):Blk (w.setCell p u) g t cs:=(Below.heap_setCell w p u g hp).trans h
theorem Blk.rd {w:World} {g n s:Nat} {t:TypeId} {cs:Array Value} (h:Blk w g t cs) (hn:cs.size = n * s):Rd w w.heap.size s (some ⟨g,0,none⟩) n cs.toList:=by
 refine ⟨by simpa using hn,fun _ => ⟨g,0,rfl,h.lt,fun j u hu => ?_⟩⟩
 rw [Nat.zero_add,h.cell];simpa using hu
theorem isws_blk {w:World} {g:Nat} {t:TypeId} {xs:List Nat} (hm:xs.length ≤ maxLen) (hx:∀ x ∈ xs,x < 4294967296) (h:Blk w g t (ws xs).toArray):IsWs w (.slice (some ⟨g,0,none⟩) xs.length xs.length) xs:=by
 refine ⟨_,_,rfl,Nat.le_refl _,hm,hx,?_⟩
 have:=h.rd (n:=xs.length) (s:=1) (by simp [ws_length])
 simpa using this
theorem run_make_n {P:Program} {t e:TypeId} {k:IntKind} {bytes:Nat} (hu:P.underlying t = some (.slice e)) (hinfo:(P.info? e).map (fun i => (i.zero,i.size,i.bytes)) = some (some (.int k 0),1,bytes)) (n:Nat) (hb:bytes * n ≤ 281474976710656) (h63:n ≤ 9223372036854775807) (w:World) :
 (Instr.makeSlice t (.int .i64 n) (.int .i64 n)).run P w = .ok (.slice (some ⟨w.heap.size,0,none⟩) n n) (w.alloc (.cells (List.replicate n (.int k 0)).toArray e)):=by
 obtain ⟨i,hi,hz,hsize,hby⟩:=info_parts hinfo
 have hbn:(i.bytes:Int) * (n:Int) ≤ 281474976710656:=by
  rw [hby,← Int.natCast_mul];omega
 have h:=run_make (P:=P) w t e i (.int k 0) hu hi hz .i64 .i64 n n (by omega) (by omega) hbn (by omega)
 simp only [Int.toNat_natCast] at h
 rw [h,hsize,Nat.mul_one]
 congr 3
 apply Array.ext
 ·simp [madeCells]
 ·intro j h1 h2
  simp [madeCells,Value.cells,Nat.mod_one]
theorem wpList_copy_new {P:Program} {ops:Array Oper} {rest:List Oper} {o:Oper} {a:Act} {Q:Exit → Act → World → Prop} (hgd:o.guard = none) (d s:Operand) {dT sT elem:TypeId}
 (ho:o.op = .call { callee:=.builtin .copy,args:=#[d,s],argTypes:=#[dT,sT] }) (hu:P.underlying dT = some (.slice elem)) (hsz:(P.info? elem).map (·.size) = some 1)
 (W:World) (n:Nat) (z:Value) (sp:Option Addr) (sCap:Nat) (cs:List Value) (hd:a.eval d = .slice (some ⟨W.heap.size,0,none⟩) n n) (hs:a.eval s = .slice sp n sCap)
 (hr:Rd W W.heap.size 1 sp n cs) (h1:∀ v ∈ cs,v.oneCell' = true)
 (h:∀ w',Blk w' W.heap.size elem cs.toArray → Below W.heap.size W w' → wpList P ops Q rest (a.put o.dst (goInt cs.length)) w') :
 wpList P ops Q (o :: rest) a (W.alloc (.cells (Array.replicate n z) elem)):=by
 have hlen:cs.length = n:=by have:=hr.len;omega
 refine wpList_copy_splice hgd d s dT sT ho elem hu hsz _ _ _ _ _ _ hd hs W.heap.size 0 (List.replicate n z) elem ?_ cs (by rw [hlen];exact (Nat.min_self n).symm) ?_ (by simp [hlen]) h1 W.heap.size W (below_a1 W _) (Nat.le_refl _) ?_
 ·have:=heap_alloc_new W (.cells (Array.replicate n z) elem)
  simpa using this
 ·intro hp
  obtain ⟨b,off,rfl,hB,hc⟩:=hr.at_ (by omega)
  refine ⟨rfl,⟨b,off,none⟩,rfl,fun j v hv => ?_⟩
  rw [add_none,World.cell?_alloc_lt W _ _ (by show b < W.heap.size;exact hB)]
  exact hc j v hv
 ·intro w' hh hb
  refine h w' ?_ hb
  have:=hh.out
  unfold Blk
  rw [this]
  have e:splice (List.replicate n z) 0 cs = cs:=by
   unfold splice
   simp [hlen]
  rw [e]
theorem u32_info:(Tryz.prog.info? 143).map (fun i => (i.zero,i.size,i.bytes)) = some (some (.int .u32 0),1,4):=by kernel_rfl
theorem el_u32:Elem Tryz.prog 32 143 1 4:=elem_of Tryz.underlying32 u32_info rfl (by omega)
def someN (xs:List Nat) (most:Nat):List Nat:=if xs.take most = [] then [0] else xs.take most
def RetWs (xs:List Nat) (w:World) (e:Ending) (w':World):Prop:=∃ v,e = .returned v ∧ IsWs w' v xs ∧ Below w.heap.size w w'
def RetOwn (xs:List Nat) (w:World) (e:Ending) (w':World):Prop :=
 ∃ A c,e = .returned (.slice A xs.length c) ∧ (∀ x ∈ xs,x < 4294967296) ∧ w'.ownsRow w.heap.size 143 1 (.slice A xs.length c) xs.length (ws xs) ∧ Below w.heap.size w w'
theorem RetOwn.is {xs:List Nat} {w:World} {e:Ending} {w':World} (h:RetOwn xs w e w'):RetWs xs w e w':=by
 obtain ⟨A,c,h1,h2,h3,h4⟩:=h
 exact ⟨_,h1,isws_own rfl h2 h3,h4⟩
theorem list_ext_of {xs ys:List Nat} {k:Nat} (hl:xs.length = ys.length) (hk:k = xs.length) (h:xs.take k = ys.take k):xs = ys:=by
 subst hk
 rw [List.take_length,hl,List.take_length] at h
 exact h
theorem same_any (a b:Value) (xs ys:List Nat) (w:World) (ha:IsWs w a xs) (hb:IsWs w b ys) :
 Calls Tryz.prog 60 #[a,b] w fun e w' => e = .returned (.bool (decide (xs = ys))) ∧ ∃ m,w' = w.drewN m:=by
 obtain ⟨A,c,rfl,hc1,hc2,hx,hr⟩:=ha
 obtain ⟨B,d,rfl,hd1,hd2,hy,hs⟩:=hb
 have hlx:xs.length ≤ 9223372036854775807:=by unfold maxLen at hc2;omega
 have hly:ys.length ≤ 9223372036854775807:=by unfold maxLen at hd2;omega
 clear hc1 hc2 hd1 hd2 hx hy
 by_cases hl:xs.length = ys.length
 ·have hl':((xs.length:Int) != (ys.length:Int)) = false:=by simp;omega
  have HL:=Lib.hid hl
  clear hl
  go_enter Tryz.func60,Tryz.ntmps60
  go_wp2
  go_loopw [5] (fun i wr => ∃ k:Nat,k ≤ xs.length ∧ i = .int .i64 k ∧ Hid (xs.take k = ys.take k) ∧ ∃ m,wr = w.drewN m) (fun i _ => xs.length - (intOf i).toNat)
  case atStart => exact ⟨0,by omega,rfl,rfl,0,rfl⟩
  case round =>
   obtain ⟨k,hk,rfl,heq,m,rfl⟩:=hrel
   by_cases hlt:k < xs.length
   ·have hlt2:k < ys.length:=by have:=HL.out;omega
    obtain ⟨b1,o1,rfl,_,hc1⟩:=hr.at_ (by omega)
    obtain ⟨b2,o2,rfl,_,hc2⟩:=hs.at_ (by omega)
    have q1:w.cell? ⟨b1,o1 + k,none⟩ = some (.int .u32 xs[k]):=hc1 k _ (ws_get hlt)
    have q2:w.cell? ⟨b2,o2 + k,none⟩ = some (.int .u32 ys[k]):=hc2 k _ (ws_get hlt2)
    have HT:xs[k] = ys[k] → Hid (xs.take (k + 1) = ys.take (k + 1)):=fun h => by
     show xs.take (k + 1) = ys.take (k + 1)
     rw [List.take_succ_eq_append_getElem hlt,List.take_succ_eq_append_getElem hlt2,heq.out,h]
    have HF:xs[k] ≠ ys[k] → decide (xs = ys) = false:=fun h => by
     simp only [decide_eq_false_iff_not]
     rintro rfl
     exact h rfl
    clear hc1 hc2 hr hs
    have i1:(k:Int) < (xs.length:Int):=by omega
    have i2:(k:Int) < (ys.length:Int):=by omega
    generalize xs[k] = x at *
    generalize ys[k] = y at *
    by_cases hxy:x = y
    ·have hb1:((x:Int) != (y:Int)) = false:=by simp;omega
     have HT':=HT hxy
     clear HT HF hxy
     go_wp2_with fail
     go_quiet (fail)
     go_wp2
     go_roundw
     case rel => exact ⟨k + 1,by omega,by go_num,HT',_,rfl⟩
     case measure => simp [intOf];omega
    ·have hb1:((x:Int) != (y:Int)) = true:=by simp;omega
     have HF':=Lib.hid (HF hxy)
     clear HT HF hxy
     go_wp2_with fail
     go_quiet (fail)
     go_wp2
     go_ret
     exact ⟨by rw [HF'.out];rfl,_,World.drewN_drewN _ _ _⟩
   ·have HD:=Lib.hid (show decide (xs = ys) = true by simp only [decide_eq_true_eq];exact list_ext_of HL.out (by omega) heq.out)
    go_wp2
    go_ret
    exact ⟨by rw [HD.out];rfl,m,rfl⟩
 ·have hl':((xs.length:Int) != (ys.length:Int)) = true:=by simp;omega
  have HD:=Lib.hid (show decide (xs = ys) = false by simp only [decide_eq_false_iff_not];rintro rfl;exact hl rfl)
  clear hl
  go_enter Tryz.func60,Tryz.ntmps60
  go_wp2
  go_ret
  exact ⟨by rw [HD.out];rfl,0,rfl⟩
theorem IsWs.drawn {w:World} {v:Value} {xs:List Nat} (h:IsWs w v xs) (n:Nat):IsWs (w.drewN n) v xs:=h.below (below_draws (Below.refl _ _) n)
def RetWsOk (xs:List Nat) (w:World) (e:Ending) (w':World):Prop:=∃ v,e = .returned (.tuple #[v,()]) ∧ IsWs w' v xs ∧ Below w.heap.size w w'
theorem apply_fn (a:Nat) (v:Nat) (g n c:Nat) (A:Option Addr) (w:World) (ha:a < n) (hc:w.cell? ⟨g,0,none⟩ = some (.slice A n c)) :
 Calls Tryz.prog 56 #[.agg #[a,.int .u32 v],.pointer (some ⟨g,0,none⟩)] w fun e w' => e = .returned (.bool false) ∧ Below w.heap.size w w':=by
 have hg:g < w.heap.size:=World.block_lt_of_cell? w _ hc
 go_enter Tryz.func56,Tryz.ntmps56
 go_wp2
 go_ret
 exact ⟨ret_bool (by simp;omega),below_a1 _ _⟩
theorem contains_none (v:Value) (l:List (Nat × Nat)) (g n c:Nat) (A:Option Addr) (w:World) (hv:IsWr w v l) (hl:∀ p ∈ l,p.1 < n) (hc:w.cell? ⟨g,0,none⟩ = some (.slice A n c)) :
 Calls Tryz.prog 75 #[v,.func (.func 56) #[] #[.pointer (some ⟨g,0,none⟩)]] w fun e w' => e = .returned (.int .i64 (-1)) ∧ Below w.heap.size w w':=by
 obtain ⟨B,d,rfl,hd1,hd2,hy,hs⟩:=hv
 have hly:l.length ≤ 9223372036854775807:=by unfold maxLen at hd2;omega
 have hg:g < w.heap.size:=World.block_lt_of_cell? w _ hc
 clear hd1 hd2 hy
 go_enter Tryz.func75,Tryz.ntmps75
 go_wp2
 go_loopw [5,8] (fun _ i wr => ∃ k:Nat,k ≤ l.length ∧ i = .int .i64 k ∧ Below w.heap.size w wr) (fun _ i _ => l.length - (intOf i).toNat)
 case atStart => exact ⟨0,by omega,rfl,Below.refl _ _⟩
 case round =>
  obtain ⟨k,hk,rfl,hbr⟩:=hrel
  by_cases hlt:k < l.length
  ·obtain ⟨b2,o2,rfl,hB2,hc2⟩:=hs.at_ (by omega)
   have q1:wr.cell? ⟨b2,o2 + k * 2,none⟩ = some (.int .i64 l[k].1):=(hbr.cell (p:=⟨b2,o2 + k * 2,none⟩) hB2).trans (hc2 _ _ (wrs_get hlt).1)
   have q2:wr.cell? ⟨b2,o2 + k * 2 + 1,none⟩ = some (.int .u32 l[k].2):=(hbr.cell (p:=⟨b2,o2 + k * 2 + 1,none⟩) hB2).trans (hc2 (k * 2 + 1) _ (wrs_get hlt).2)
   have ha:=hl _ (List.getElem_mem hlt)
   have hcr:wr.cell? ⟨g,0,none⟩ = some (.slice A n c):=(hbr.cell (p:=⟨g,0,none⟩) hg).trans hc
   clear hc2 hs hl hc
   generalize l[k] = p at *
   obtain ⟨a,x⟩:=p
   go_wp2_with fail
   refine (apply_fn a x g n c A _ ha hcr).mono ?_
   rintro e w1 ⟨rfl,hb1⟩
   go_wp2
   go_roundw
   case rel => exact ⟨k + 1,by omega,by go_num,hbr.step hb1⟩
   case measure => simp [intOf];omega
  ·go_wp2
   go_ret
   exact ⟨rfl,hbr⟩
theorem fits_ok (A:Option Addr) (n c:Nat) (w:World) (h1:1 ≤ n) (h2:n ≤ 2048):Calls Tryz.prog 54 #[.slice A n c] w fun e w' => e = .returned (.bool true) ∧ w = w':=by
 go_enter Tryz.func54,Tryz.ntmps54
 go_wp2
 go_ret
 exact ⟨ret_true (by simp;omega),rfl⟩
def enc (l:List (List Nat)):List Nat:=l.flatMap fun r => r.length :: r
theorem enc_append (a b:List (List Nat)):enc (a ++ b) = enc a ++ enc b:=by simp [enc]
theorem enc_one (r:List Nat):enc [r] = r.length :: r:=by simp [enc]
theorem enc_take_succ {l:List (List Nat)} {i:Nat} (h:i < l.length):enc (l.take (i + 1)) = enc (l.take i) ++ (l[i].length :: l[i]):=by
 rw [List.take_succ_eq_append_getElem h,enc_append,enc_one]
def ROk (l:List (List Nat)):Prop:=∀ r ∈ l,1 ≤ r.length ∧ r.length ≤ 64 ∧ ∀ x ∈ r,x < 4294967296
def IsTape (c:List Nat) (l:List (List Nat)):Prop:=ROk l ∧ ∃ rest,c = enc l ++ rest ∧ (rest = [] ∨ ∃ t,rest = 0 :: t)
theorem IsTape.le {c:List Nat} {l:List (List Nat)} (h:IsTape c l):(enc l).length ≤ c.length:=by
 obtain ⟨_,rest,rfl,_⟩:=h
 simp
theorem IsTape.head {c:List Nat} {l:List (List Nat)} (h:IsTape c l) {i:Nat} (hi:i < l.length):c[(enc (l.take i)).length]? = some l[i].length:=by
 obtain ⟨_,rest,rfl,_⟩:=h
 have e:enc l = enc (l.take (i + 1)) ++ enc (l.drop (i + 1)):=by rw [← enc_append,List.take_append_drop]
 rw [e,enc_take_succ hi,List.append_assoc,List.append_assoc,List.getElem?_append_right (Nat.le_refl _),Nat.sub_self]
 rfl
theorem IsTape.rec_ {c:List Nat} {l:List (List Nat)} (h:IsTape c l) {i:Nat} (hi:i < l.length):(c.drop ((enc (l.take i)).length + 1)).take l[i].length = l[i]:=by
 obtain ⟨_,rest,rfl,_⟩:=h
 have e:enc l = enc (l.take i) ++ (l[i].length :: (l[i] ++ enc (l.drop (i + 1)))):=by
  have e1:enc l = enc (l.take (i + 1)) ++ enc (l.drop (i + 1)):=by rw [← enc_append,List.take_append_drop]
  rw [e1,enc_take_succ hi,List.append_assoc]
  rfl
 rw [e,List.append_assoc,← List.drop_drop]
 rw [show List.drop (enc (l.take i)).length (enc (l.take i) ++ ((l[i].length :: (l[i] ++ enc (l.drop (i + 1)))) ++ rest)) = (l[i].length :: (l[i] ++ enc (l.drop (i + 1)))) ++ rest from List.drop_left]
 simp
theorem IsTape.fits {c:List Nat} {l:List (List Nat)} (h:IsTape c l) {i:Nat} (hi:i < l.length):(enc (l.take i)).length + 1 + l[i].length ≤ c.length:=by
 have h1:=h.le
 have e:enc l = enc (l.take (i + 1)) ++ enc (l.drop (i + 1)):=by rw [← enc_append,List.take_append_drop]
 rw [e,enc_take_succ hi] at h1
 simp at h1
 omega
theorem IsTape.end_ {c:List Nat} {l:List (List Nat)} (h:IsTape c l) (hlt:(enc l).length < c.length):c[(enc l).length]? = some 0:=by
 obtain ⟨_,rest,rfl,h⟩:=h
 rcases h with rfl | ⟨t,rfl⟩
 ·simp at hlt
 ·rw [List.getElem?_append_right (Nat.le_refl _),Nat.sub_self];rfl
def putW (len at0:Nat) (r:List Nat):List (Nat × Nat) :=
 (List.range r.length).map (fun i => (at0 + 1 + i,r.getD i 0)) ++ ((if at0 + 1 + r.length < len then [(at0 + 1 + r.length,0)] else []) ++ [(at0,r.length)])
theorem applyW_range (a b r:List Nat):∀ k,k ≤ r.length → r.length ≤ b.length → applyW (a ++ b) ((List.range k).map fun i => (a.length + i,r.getD i 0)) = a ++ (r.take k ++ b.drop k)
 | 0,_,_ => by simp [applyW]
 | k + 1,hk,hb => by
  have ih:=applyW_range a b r k (by omega) hb
  rw [List.range_succ,List.map_append,applyW_append,ih]
  show (a ++ (r.take k ++ b.drop k)).set (a.length + k) (r.getD k 0) = _
  have hk':k < r.length:=by omega
  rw [List.set_append_right _ _ (by omega),show a.length + k - a.length = k by omega]
  congr 1
  rw [List.set_append_right _ _ (by simp;omega),List.take_succ_eq_append_getElem hk',List.append_assoc]
  congr 1
  have hd:b.drop k = b[k]'(by omega) :: b.drop (k + 1):=List.drop_eq_getElem_cons (by omega)
  rw [show k - (List.take k r).length = 0 by simp;omega,hd]
  show r.getD k 0 :: b.drop (k + 1) = r[k] :: b.drop (k + 1)
  rw [show r.getD k 0 = r[k] by simp [hk']]
theorem put_tape {c:List Nat} {l:List (List Nat)} {r:List Nat} (h:IsTape c l) (hr:1 ≤ r.length ∧ r.length ≤ 64 ∧ ∀ x ∈ r,x < 4294967296) (hf:(enc l).length + 1 + r.length ≤ c.length) :
 (∀ k,k < (putW c.length (enc l).length r).length → IsTape (applyW c ((putW c.length (enc l).length r).take k)) l) ∧ IsTape (applyW c (putW c.length (enc l).length r)) (l ++ [r]):=by
 obtain ⟨hl,rest,rfl,hrest⟩:=h
 obtain ⟨t,rfl⟩:∃ t,rest = 0 :: t:=by
  rcases hrest with rfl | h
  ·simp at hf;omega
  ·exact h
 clear hrest
 have ht:r.length ≤ t.length:=by simp at hf;omega
 obtain ⟨n,hn⟩:∃ n,(enc l).length = n:=⟨_,rfl⟩
 have hlen:(enc l ++ 0 :: t).length = n + 1 + t.length:=by simp [hn];omega
 rw [hlen,hn]
 have e0:enc l ++ 0 :: t = (enc l ++ [0]) ++ t:=by simp
 have hal:(enc l ++ [0]).length = n + 1:=by simp [hn]
 have hW1:∀ k,k ≤ r.length → applyW (enc l ++ 0 :: t) ((List.range k).map fun i => (n + 1 + i,r.getD i 0)) = enc l ++ (0 :: (r.take k ++ t.drop k)):=fun k hk => by
  have:=applyW_range (enc l ++ [0]) t r k hk ht
  rw [hal] at this
  rw [e0,this]
  simp
 have hW1':=hW1 r.length (Nat.le_refl _)
 rw [List.take_length] at hW1'
 have hset:∀ z,(enc l ++ (0 :: z)).set n r.length = enc l ++ (r.length :: z):=fun z => by
  rw [List.set_append_right _ _ (by omega),hn,Nat.sub_self];rfl
 have hfin:∀ z,(z = [] ∨ ∃ u,z = 0 :: u) → IsTape (enc l ++ (r.length :: (r ++ z))) (l ++ [r]):=fun z hz => by
  refine ⟨fun q hq => ?_,z,by rw [enc_append,enc_one];simp,hz⟩
  rcases List.mem_append.1 hq with h | h
  ·exact hl q h
  ·simp at h;subst h;exact hr
 have hmid:∀ z,IsTape (enc l ++ (0 :: z)) l:=fun z => ⟨hl,0 :: z,rfl,.inr ⟨z,rfl⟩⟩
 unfold putW
 by_cases hc:n + 1 + r.length < n + 1 + t.length
 ·rw [if_pos hc]
  have hd:t.drop r.length = t[r.length]'(by omega) :: t.drop (r.length + 1):=List.drop_eq_getElem_cons (by omega)
  have hW2:applyW (enc l ++ 0 :: t) ((List.range r.length).map (fun i => (n + 1 + i,r.getD i 0)) ++ [(n + 1 + r.length,0)]) = enc l ++ (0 :: (r ++ (0 :: t.drop (r.length + 1)))):=by
   rw [applyW_append,hW1',hd]
   show (enc l ++ (0 :: (r ++ (t[r.length]'(by omega) :: t.drop (r.length + 1))))).set (n + 1 + r.length) 0 = _
   rw [List.set_append_right _ _ (by omega),hn,show n + 1 + r.length - n = r.length + 1 by omega]
   congr 1
   rw [List.set_cons_succ,List.set_append_right _ _ (Nat.le_refl _),Nat.sub_self]
   rfl
  refine ⟨fun k hk => ?_,?_⟩
  ·simp at hk
   by_cases h1:k ≤ r.length
   ·rw [List.take_append_of_le_length (by simpa using h1),← List.map_take,List.take_range,Nat.min_eq_left h1,hW1 k h1]
    exact hmid _
   ·obtain rfl:k = r.length + 1:=by omega
    rw [← List.append_assoc,List.take_append_of_le_length (by simp),List.take_of_length_le (by simp),hW2]
    exact hmid _
  ·rw [← List.append_assoc,applyW_append,hW2]
   show IsTape ((enc l ++ (0 :: (r ++ (0 :: t.drop (r.length + 1))))).set n r.length) _
   rw [hset]
   exact hfin _ (.inr ⟨_,rfl⟩)
 ·rw [if_neg hc]
  have hd:t.drop r.length = []:=List.drop_eq_nil_of_le (by omega)
  refine ⟨fun k hk => ?_,?_⟩
  ·simp at hk
   rw [List.take_append_of_le_length (by simp;omega),← List.map_take,List.take_range,Nat.min_eq_left (by omega),hW1 k (by omega)]
   exact hmid _
  ·rw [applyW_append,hW1',hd]
   show IsTape ((enc l ++ (0 :: (r ++ []))).set n r.length) _
   rw [hset]
   exact hfin [] (.inl rfl)
theorem blank_tape (n:Nat):IsTape (List.replicate n 0) []:=by
 refine ⟨by intro r hr;simp at hr,List.replicate n 0,by simp [enc],?_⟩
 cases n with
 | zero => exact .inl rfl
 | succ n => exact .inr ⟨List.replicate n 0,rfl⟩
theorem putW_at {len at0:Nat} {r:List Nat} (h:at0 + 1 + r.length ≤ len):∀ p ∈ putW len at0 r,at0 ≤ p.1 ∧ p.1 < len:=by
 intro p hp
 unfold putW at hp
 rcases List.mem_append.1 hp with h1 | h1
 ·obtain ⟨i,hi,rfl⟩:=List.mem_map.1 h1
  have:=List.mem_range.1 hi
  dsimp only;omega
 ·rcases List.mem_append.1 h1 with h2 | h2
  ·split at h2
   ·simp at h2;subst h2;dsimp only;omega
   ·simp at h2
  ·simp at h2;subst h2;dsimp only;omega
theorem putW_len (len at0:Nat) (r:List Nat):r.length + 1 ≤ (putW len at0 r).length ∧ (putW len at0 r).length ≤ r.length + 2:=by
 unfold putW
 split <;> simp
theorem putW_lt {len at0:Nat} {r:List Nat} (hr:r.length ≤ 64 ∧ ∀ x ∈ r,x < 4294967296):∀ p ∈ putW len at0 r,p.2 < 4294967296:=by
 intro p hp
 unfold putW at hp
 rcases List.mem_append.1 hp with h1 | h1
 ·obtain ⟨i,hi,rfl⟩:=List.mem_map.1 h1
  have hi:=List.mem_range.1 hi
  dsimp only
  have e:r.getD i 0 = r[i]:=by simp [hi]
  rw [e];exact hr.2 _ (List.getElem_mem hi)
 ·rcases List.mem_append.1 h1 with h2 | h2
  ·split at h2
   ·simp at h2;subst h2;dsimp only;omega
   ·simp at h2
  ·simp at h2;subst h2;dsimp only;omega
def slMk (m:Nat):Nat:=if 3 < m then 0 else m
theorem slMk_le (m:Nat):slMk m ≤ 3:=by unfold slMk;split <;> omega
theorem slMk_of {m:Nat} (h:m ≤ 3):slMk m = m:=by unfold slMk;rw [if_neg (by omega)]
def slNx (m:Nat):Nat:=m % 3 + 1
def slNew (a b:Nat):Nat:=if a = 0 ∧ b = 0 then 2 else if a = 0 then 1 else if b = 0 ∨ a = b ∨ slNx b = a then 0 else 1
def IsSl (C:List Nat) (n:Nat) (r:List Nat) (s:Nat):Prop :=
 ∃ m0 r0 m1 r1,C = (m0 :: r0) ++ (m1 :: r1) ∧ r0.length = n ∧ r1.length = n ∧ slNew (slMk m0) (slMk m1) = s ∧ s < 2 ∧ r = (if s = 0 then r0 else r1)
theorem IsSl.len {C:List Nat} {n:Nat} {r:List Nat} {s:Nat} (h:IsSl C n r s):C.length = 2 * (n + 1):=by
 obtain ⟨m0,r0,m1,r1,rfl,h0,h1,_⟩:=h
 simp [h0,h1];omega
theorem IsSl.rlen {C:List Nat} {n:Nat} {r:List Nat} {s:Nat} (h:IsSl C n r s):r.length = n:=by
 obtain ⟨m0,r0,m1,r1,_,h0,h1,_,_,rfl⟩:=h
 split <;> assumption
def halfW (at0:Nat) (r:List Nat) (x:Nat):List (Nat × Nat):=(at0,0) :: ((List.range r.length).map (fun i => (at0 + 1 + i,r.getD i 0)) ++ [(at0,x)])
theorem halfW_len (at0:Nat) (r:List Nat) (x:Nat):(halfW at0 r x).length = r.length + 2:=by simp [halfW]
theorem halfW_at {at0:Nat} {r:List Nat} {x:Nat}:∀ p ∈ halfW at0 r x,at0 ≤ p.1 ∧ p.1 < at0 + 1 + r.length:=by
 intro p hp
 unfold halfW at hp
 rcases List.mem_cons.1 hp with rfl | hp
 ·dsimp only;omega
 ·rcases List.mem_append.1 hp with h | h
  ·obtain ⟨i,hi,rfl⟩:=List.mem_map.1 h
   have:=List.mem_range.1 hi
   dsimp only;omega
  ·simp at h;subst h;dsimp only;omega
theorem halfW_lt {at0:Nat} {r:List Nat} {x:Nat} (hr:∀ y ∈ r,y < 4294967296) (hx:x < 4294967296):∀ p ∈ halfW at0 r x,p.2 < 4294967296:=by
 intro p hp
 unfold halfW at hp
 rcases List.mem_cons.1 hp with rfl | hp
 ·dsimp only;omega
 ·rcases List.mem_append.1 hp with h | h
  ·obtain ⟨i,hi,rfl⟩:=List.mem_map.1 h
   have hi:=List.mem_range.1 hi
   dsimp only
   have e:r.getD i 0 = r[i]:=by simp [hi]
   rw [e];exact hr _ (List.getElem_mem hi)
  ·simp at h;subst h;exact hx
theorem half_mid (pre:List Nat) (m:Nat) (r post rec:List Nat) (hr:rec.length = r.length) (k:Nat) (hk:k ≤ rec.length) :
 applyW (pre ++ (m :: r) ++ post) ((pre.length,0) :: (List.range k).map (fun i => (pre.length + 1 + i,rec.getD i 0))) = pre ++ (0 :: (rec.take k ++ r.drop k)) ++ post:=by
 have e1:applyW (pre ++ (m :: r) ++ post) ((pre.length,0) :: (List.range k).map (fun i => (pre.length + 1 + i,rec.getD i 0))) =
  applyW ((pre ++ [0]) ++ (r ++ post)) ((List.range k).map (fun i => ((pre ++ [0]).length + i,rec.getD i 0))):=by
  show applyW ((pre ++ (m :: r) ++ post).set pre.length 0) _ = _
  congr 1
  ·rw [List.append_assoc,List.set_append_right _ _ (Nat.le_refl _),Nat.sub_self]
   simp
  ·simp
 rw [e1,applyW_range _ _ _ k hk (by simp;omega)]
 have e2:(r ++ post).drop k = r.drop k ++ post:=by rw [List.drop_append_of_le_length (by omega)]
 rw [e2]
 simp
theorem half_take (at0:Nat) (r:List Nat) (x k:Nat) (hk:k ≤ r.length):(halfW at0 r x).take (k + 1) = (at0,0) :: (List.range k).map (fun i => (at0 + 1 + i,r.getD i 0)):=by
 unfold halfW
 rw [List.take_succ_cons,List.take_append_of_le_length (by simpa using hk),← List.map_take,List.take_range,Nat.min_eq_left hk]
theorem half_all (pre:List Nat) (m:Nat) (r post rec:List Nat) (hr:rec.length = r.length) (x:Nat):applyW (pre ++ (m :: r) ++ post) (halfW pre.length rec x) = pre ++ (x :: rec) ++ post:=by
 have e:halfW pre.length rec x = ((pre.length,0) :: (List.range rec.length).map (fun i => (pre.length + 1 + i,rec.getD i 0))) ++ [(pre.length,x)]:=by simp [halfW]
 rw [e,applyW_append,half_mid pre m r post rec hr _ (Nat.le_refl _)]
 show (pre ++ (0 :: (rec.take rec.length ++ r.drop rec.length)) ++ post).set pre.length x = _
 rw [List.take_length,List.drop_eq_nil_of_le (by omega),List.append_nil,List.append_assoc,List.set_append_right _ _ (Nat.le_refl _),Nat.sub_self]
 simp
def slW (C:List Nat) (n:Nat) (rec:List Nat) (s:Nat):List (Nat × Nat):=halfW ((1 - s) * (n + 1)) rec (slNx (slMk (C.getD (s * (n + 1)) 0)))
theorem slNew_mid {a b s:Nat} (ha:a ≤ 3) (hb:b ≤ 3) (h:slNew a b = s) (hs:s < 2):(s = 0 → slNew a 0 = 0) ∧ (s = 1 → slNew 0 b = 1):=by
 have key:∀ a b:Fin 4,(slNew a b = 0 → slNew a 0 = 0) ∧ (slNew a b = 1 → slNew 0 b = 1):=by decide
 have:=key ⟨a,by omega⟩ ⟨b,by omega⟩
 exact ⟨fun e => this.1 (by rw [e] at h;exact h),fun e => this.2 (by rw [e] at h;exact h)⟩
theorem slNew_next {a b s:Nat} (ha:a ≤ 3) (hb:b ≤ 3) (h:slNew a b = s) (hs:s < 2):(s = 0 → slNew a (slNx a) = 1) ∧ (s = 1 → slNew (slNx b) b = 0):=by
 have key:∀ a b:Fin 4,(slNew a b = 0 → slNew a (slNx a) = 1) ∧ (slNew a b = 1 → slNew (slNx b) b = 0):=by decide
 have:=key ⟨a,by omega⟩ ⟨b,by omega⟩
 exact ⟨fun e => this.1 (by rw [e] at h;exact h),fun e => this.2 (by rw [e] at h;exact h)⟩
theorem slNx_le (m:Nat):slNx m ≤ 3:=by unfold slNx;omega
theorem sl_store {C:List Nat} {n:Nat} {old rec:List Nat} {s:Nat} (h:IsSl C n old s) (hr:rec.length = n) :
 (∀ k,k < (slW C n rec s).length → IsSl (applyW C ((slW C n rec s).take k)) n old s) ∧ IsSl (applyW C (slW C n rec s)) n rec (1 - s):=by
 have hall:=h
 obtain ⟨m0,r0,m1,r1,rfl,h0,h1,hs,hs2,ho⟩:=h
 obtain ⟨q1,q2⟩:=slNew_mid (slMk_le m0) (slMk_le m1) hs hs2
 obtain ⟨t1,t2⟩:=slNew_next (slMk_le m0) (slMk_le m1) hs hs2
 have hz:slMk 0 = 0:=rfl
 rcases (show s = 0 ∨ s = 1 by omega) with rfl | rfl
 ·have e0:slW (m0 :: r0 ++ m1 :: r1) n rec 0 = halfW (m0 :: r0).length rec (slNx (slMk m0)):=by
   unfold slW;simp [h0]
  rw [e0]
  have key:=half_mid (m0 :: r0) m1 r1 [] rec (by omega)
  have key2:=half_all (m0 :: r0) m1 r1 [] rec (by omega) (slNx (slMk m0))
  rw [List.append_nil,List.append_nil] at key2
  refine ⟨fun k hk => ?_,?_⟩
  ·match k with
   | 0 => exact hall
   | k + 1 =>
    rw [halfW_len] at hk
    have key:=key k (by omega)
    rw [List.append_nil,List.append_nil] at key
    rw [half_take _ _ _ _ (by omega),key]
    exact ⟨m0,r0,0,rec.take k ++ r1.drop k,rfl,h0,by simp;omega,by rw [hz];exact q1 rfl,by omega,ho⟩
  ·rw [key2]
   exact ⟨m0,r0,slNx (slMk m0),rec,rfl,h0,hr,by rw [slMk_of (slNx_le _)];exact t1 rfl,by omega,rfl⟩
 ·have e0:slW (m0 :: r0 ++ m1 :: r1) n rec 1 = halfW ([]:List Nat).length rec (slNx (slMk m1)):=by
   unfold slW
   have:(m0 :: r0 ++ m1 :: r1).getD (1 * (n + 1)) 0 = m1:=by
    rw [List.getD_eq_getElem?_getD,List.getElem?_append_right (by simp;omega)]
    simp [h0]
   rw [this];simp
  rw [e0]
  have key:=half_mid [] m0 r0 (m1 :: r1) rec (by omega)
  have key2:=half_all [] m0 r0 (m1 :: r1) rec (by omega) (slNx (slMk m1))
  rw [List.nil_append,List.nil_append] at key2
  refine ⟨fun k hk => ?_,?_⟩
  ·match k with
   | 0 => exact hall
   | k + 1 =>
    rw [halfW_len] at hk
    have key:=key k (by omega)
    rw [List.nil_append,List.nil_append] at key
    rw [half_take _ _ _ _ (by omega),key]
    exact ⟨0,rec.take k ++ r0.drop k,m1,r1,rfl,by simp;omega,h1,by rw [hz];exact q2 rfl,by omega,ho⟩
  ·rw [key2]
   exact ⟨slNx (slMk m1),rec,m1,r1,rfl,hr,h1,by rw [slMk_of (slNx_le _)];exact t2 rfl,by omega,rfl⟩
theorem IsSl.marks {C:List Nat} {n:Nat} {r:List Nat} {s:Nat} (h:IsSl C n r s):∃ m0 m1,C[0]? = some m0 ∧ C[n + 1]? = some m1 ∧ slNew (slMk m0) (slMk m1) = s ∧ s < 2:=by
 obtain ⟨m0,r0,m1,r1,rfl,h0,h1,hs,hs2,ho⟩:=h
 exact ⟨m0,m1,rfl,by rw [List.getElem?_append_right (by simp;omega)];simp [h0],hs,hs2⟩
theorem IsSl.rec_ {C:List Nat} {n:Nat} {r:List Nat} {s:Nat} (h:IsSl C n r s):(C.drop (s * (n + 1) + 1)).take n = r:=by
 obtain ⟨m0,r0,m1,r1,rfl,h0,h1,hs,hs2,ho⟩:=h
 rcases (show s = 0 ∨ s = 1 by omega) with rfl | rfl
 ·rw [if_pos rfl] at ho
  subst ho;subst h0
  simp
 ·rw [if_neg (by omega)] at ho
  subst ho;subst h0
  have e:(m0 :: r0 ++ m1 :: r).drop (1 * (r0.length + 1) + 1) = r:=by
   rw [show 1 * (r0.length + 1) + 1 = (m0 :: r0).length + 1 by simp,← List.drop_drop,List.drop_left];rfl
  rw [e,← h1,List.take_length]
def fitN (l:List Nat) (n:Nat):List Nat:=(List.range n).map fun i => l.getD i i
end Go.Proofs.YtfgiehkfcoodbaaGreat
