/- Slices of events, of tokens that were sold, of customers: what they read as. -/
import Derived.Test.YtpcgpnkmjjamhaaGreatDoorQ27
import Derived.Test.YtpcgpnkmjjamhaaGreatDoorQ30
import Derived.Laws.BitsAllLaws
namespace Go.Proofs.YtpcgpnkmjjamhaaGreatDoor
open Go.RowKit
set_option linter.unusedVariables false
set_option maxRecDepth 100000
def evCells (v : Ev) : List Value := [.int .i64 ↑v.k, .int .i64 ↑v.me, .int .i64 ↑v.mo, .int .i64 ↑v.id, .int .i64 ↑v.te, .int .i64 ↑v.de, .int .i64 ↑v.fe, .int .i64 ↑v.pr, .int .i64 ↑v.ch, .int .i64 ↑v.un, .int .i64 ↑v.tg, .int .i64 ↑v.ow, .int .i64 ↑v.bp]
def evs (L : List Ev) : List Value := (L.map evCells).flatten
theorem evs_len (L : List Ev) : (evs L).length = L.length * 13 := by
 induction L with
 | nil => rfl
 | cons x Q ih =>
   show (evCells x ++ evs Q).length = _
   rw [List.length_append, ih]; simp only [evCells, List.length_cons, List.length_nil]; omega
theorem evs_append (a b : List Ev) : evs (a ++ b) = evs a ++ evs b := by simp [evs]
theorem evs_get {L : List Ev} {q : Nat} (h : q < L.length) {j : Nat} (hj : j < 13) : (evs L)[q * 13 + j]? = (evCells L[q])[j]? := by
 have := flat_get (L.map evCells) (s := 13) (fun r hr => by obtain ⟨x, _, rfl⟩ := List.mem_map.1 hr; rfl) q (by simpa using h) j hj
 simpa [evs] using this
def IsEs (w : World) (v : Value) (L : List Ev) : Prop :=
 ∃ (A : Option Addr) (c : Nat), v = .slice A L.length c ∧ L.length ≤ c ∧ c ≤ maxLen ∧ Rd w w.heap.size 13 A L.length (evs L)
theorem IsEs.below {w w' : World} {v : Value} {l : List Ev} (h : IsEs w v l) (hb : Below w.heap.size w w') : IsEs w' v l := by
 obtain ⟨A, c, h1, h2, h3, h5⟩ := h
 exact ⟨A, c, h1, h2, h3, (h5.below hb).more hb.size⟩
theorem ises_own {w : World} {base e : Nat} {A : Option Addr} {n c : Nat} {l : List Ev} (hn : l.length = n) (h : w.ownsRow base e 13 (.slice A n c) n (evs l)) : IsEs w (.slice A n c) l := by
 subst hn
 exact ⟨A, c, rfl, (own_cap2 h).1, (own_cap2 h).2, Rd.of_own h⟩
theorem IsEs.at_ {w : World} {A : Option Addr} {n c : Nat} {l : List Ev} (h : IsEs w (.slice A n c) l) {k : Nat} (hk : k < l.length) :
   ∃ b off, A = some ⟨b, off, none⟩ ∧ b < w.heap.size ∧ ∀ j u, (evCells l[k])[j]? = some u → w.cell? ⟨b, off + (k * 13 + j), none⟩ = some u := by
 obtain ⟨A', c', e, _, _, hr⟩ := h
 injection e with e1 e2
 subst e1
 obtain ⟨b, off, rfl, hB, hc⟩ := hr.at_ (by omega)
 refine ⟨b, off, rfl, hB, fun j u hu => hc _ _ ?_⟩
 have hj : j < 13 := by
   have := (List.getElem?_eq_some_iff.1 hu).1
   simpa [evCells] using this
 rw [evs_get hk hj]; exact hu
theorem evs_take {L : List Ev} (q : Nat) (h : q ≤ L.length) : (evs L).take (q * 13) = evs (L.take q) := by
 have e := evs_append (L.take q) (L.drop q)
 rw [List.take_append_drop] at e
 rw [e]
 refine List.take_left' ?_
 rw [evs_len, List.length_take, Nat.min_eq_left h]
theorem IsEs.take {w : World} {A : Option Addr} {n c : Nat} {l : List Ev} (h : IsEs w (.slice A n c) l) {k : Nat} (hk : k ≤ l.length) : IsEs w (.slice A k k) (l.take k) := by
 obtain ⟨A', c', e, h1, h2, hr⟩ := h
 injection e with e1 e2
 subst e1
 have hlen : (l.take k).length = k := by rw [List.length_take, Nat.min_eq_left hk]
 refine ⟨A, k, by rw [hlen], by rw [hlen]; exact Nat.le_refl _, by omega, ?_⟩
 have := hr.take hk
 rw [evs_take k hk] at this
 rw [hlen]; exact this
def IsSs (w : World) (v : Value) (l : List So) : Prop :=
 ∃ (A : Option Addr) (c : Nat), v = .slice A l.length c ∧ l.length ≤ c ∧ c ≤ maxLen ∧ Rd w w.heap.size 5 A l.length (sos l)
theorem IsSs.below {w w' : World} {v : Value} {l : List So} (h : IsSs w v l) (hb : Below w.heap.size w w') : IsSs w' v l := by
 obtain ⟨A, c, h1, h2, h3, h5⟩ := h
 exact ⟨A, c, h1, h2, h3, (h5.below hb).more hb.size⟩
theorem isss_own {w : World} {base e : Nat} {A : Option Addr} {n c : Nat} {l : List So} (hn : l.length = n) (h : w.ownsRow base e 5 (.slice A n c) n (sos l)) : IsSs w (.slice A n c) l := by
 subst hn
 exact ⟨A, c, rfl, (own_cap2 h).1, (own_cap2 h).2, Rd.of_own h⟩
theorem sos_get {l : List So} {q : Nat} (h : q < l.length) {j : Nat} (hj : j < 5) : (sos l)[q * 5 + j]? = [Value.int .i64 (l[q].id : Int), .int .i64 (l[q].cls : Int), .int .i64 (l[q].am : Int), .int .i64 (l[q].tag : Int), .int .i64 (l[q].rev : Int)][j]? := by
 have := flat_get (l.map fun s : So => [Value.int .i64 ↑s.id, .int .i64 ↑s.cls, .int .i64 ↑s.am, .int .i64 ↑s.tag, .int .i64 ↑s.rev]) (s := 5) (fun r hr => by obtain ⟨x, _, rfl⟩ := List.mem_map.1 hr; rfl) q (by simpa using h) j hj
 have e : sos l = (l.map fun s : So => [Value.int .i64 ↑s.id, .int .i64 ↑s.cls, .int .i64 ↑s.am, .int .i64 ↑s.tag, .int .i64 ↑s.rev]).flatten := by simp [sos, List.flatMap]
 rw [e, this, List.getElem_map]
theorem IsSs.at_ {w : World} {A : Option Addr} {n c : Nat} {l : List So} (h : IsSs w (.slice A n c) l) {k : Nat} (hk : k < l.length) :
   ∃ b off, A = some ⟨b, off, none⟩ ∧ b < w.heap.size ∧ w.cell? ⟨b, off + k * 5, none⟩ = some (.int .i64 (l[k].id : Int)) ∧ w.cell? ⟨b, off + k * 5 + 1, none⟩ = some (.int .i64 (l[k].cls : Int)) ∧ w.cell? ⟨b, off + k * 5 + 2, none⟩ = some (.int .i64 (l[k].am : Int)) ∧ w.cell? ⟨b, off + k * 5 + 3, none⟩ = some (.int .i64 (l[k].tag : Int)) ∧ w.cell? ⟨b, off + k * 5 + 4, none⟩ = some (.int .i64 (l[k].rev : Int)) := by
 obtain ⟨A', c', e, _, _, hr⟩ := h
 injection e with e1 e2
 subst e1
 obtain ⟨b, off, rfl, hB, hc⟩ := hr.at_ (by omega)
 exact ⟨b, off, rfl, hB, hc (k * 5) _ (sos_get hk (j := 0) (by omega)), hc (k * 5 + 1) _ (sos_get hk (j := 1) (by omega)), hc (k * 5 + 2) _ (sos_get hk (j := 2) (by omega)), hc (k * 5 + 3) _ (sos_get hk (j := 3) (by omega)), hc (k * 5 + 4) _ (sos_get hk (j := 4) (by omega))⟩
theorem IsSs.len {w : World} {A : Option Addr} {n c : Nat} {l : List So} (h : IsSs w (.slice A n c) l) : n = l.length := by
 obtain ⟨A', c', e, _⟩ := h
 injection e
def IsBk (w : World) (v : Value) (B : List Cu) : Prop :=
 ∃ (A : Option Addr) (c : Nat) (Q : List (Cu × Pl)), v = .slice A B.length c ∧ B.length ≤ c ∧ c ≤ maxLen ∧ Q.map Prod.fst = B ∧ Rd w w.heap.size 8 A B.length (custCells Q) ∧
   ∀ x ∈ Q, IsDs w (.slice x.2.Ad x.1.a.l.length x.2.cd) x.1.a.l ∧ IsSs w (.slice x.2.As x.1.s.length x.2.cs) x.1.s
theorem IsBk.below {w w' : World} {v : Value} {B : List Cu} (h : IsBk w v B) (hb : Below w.heap.size w w') : IsBk w' v B := by
 obtain ⟨A, c, Q, h1, h2, h3, h4, h5, h6⟩ := h
 exact ⟨A, c, Q, h1, h2, h3, h4, (h5.below hb).more hb.size, fun x hx => ⟨(h6 x hx).1.below hb, (h6 x hx).2.below hb⟩⟩
theorem cust_get {Q : List (Cu × Pl)} {q : Nat} (h : q < Q.length) {j : Nat} (hj : j < 8) : (custCells Q)[q * 8 + j]? = (cuCells Q[q])[j]? := by
 have := flat_get (Q.map cuCells) (s := 8) (fun r hr => by obtain ⟨x, _, rfl⟩ := List.mem_map.1 hr; rfl) q (by simpa using h) j hj
 have e : custCells Q = (Q.map cuCells).flatten := by simp [custCells, List.flatMap]
 rw [e, this, List.getElem_map]
theorem IsBk.at_ {w : World} {A : Option Addr} {n c : Nat} {B : List Cu} (h : IsBk w (.slice A n c) B) {k : Nat} (hk : k < B.length) :
   ∃ b off, ∃ (Ad : Option Addr) (cd : Nat) (As : Option Addr) (cs : Nat), A = some ⟨b, off, none⟩ ∧ b < w.heap.size ∧ IsDs w (.slice Ad B[k].a.l.length cd) B[k].a.l ∧ IsSs w (.slice As B[k].s.length cs) B[k].s ∧
     w.cell? ⟨b, off + k * 8, none⟩ = some (.int .i64 (B[k].a.me : Int)) ∧ w.cell? ⟨b, off + k * 8 + 1, none⟩ = some (.int .i64 (B[k].a.rev : Int)) ∧ w.cell? ⟨b, off + k * 8 + 2, none⟩ = some (.int .i64 (B[k].a.next : Int)) ∧ w.cell? ⟨b, off + k * 8 + 3, none⟩ = some (.int .i64 (B[k].a.month : Int)) ∧
     w.cell? ⟨b, off + k * 8 + 4, none⟩ = some (.int .i64 (B[k].a.bought : Int)) ∧ w.cell? ⟨b, off + k * 8 + 5, none⟩ = some (.int .i64 B[k].a.free) ∧ w.cell? ⟨b, off + k * 8 + 6, none⟩ = some (.slice Ad B[k].a.l.length cd) ∧ w.cell? ⟨b, off + k * 8 + 7, none⟩ = some (.slice As B[k].s.length cs) := by
 obtain ⟨A', c', Q, e, _, _, hQ, hr, hx⟩ := h
 injection e with e1 e2
 subst e1
 obtain ⟨b, off, rfl, hB, hc⟩ := hr.at_ (by omega)
 have hq : k < Q.length := by rw [← hQ] at hk; simpa using hk
 have hxk := hx _ (List.getElem_mem hq)
 have e : B[k] = Q[k].1 := by subst hQ; simp
 rw [e]
 exact ⟨b, off, _, _, _, _, rfl, hB, hxk.1, hxk.2, hc (k * 8) _ (cust_get hq (j := 0) (by omega)), hc (k * 8 + 1) _ (cust_get hq (j := 1) (by omega)), hc (k * 8 + 2) _ (cust_get hq (j := 2) (by omega)), hc (k * 8 + 3) _ (cust_get hq (j := 3) (by omega)), hc (k * 8 + 4) _ (cust_get hq (j := 4) (by omega)), hc (k * 8 + 5) _ (cust_get hq (j := 5) (by omega)), hc (k * 8 + 6) _ (cust_get hq (j := 6) (by omega)), hc (k * 8 + 7) _ (cust_get hq (j := 7) (by omega))⟩
theorem IsBk.len {w : World} {A : Option Addr} {n c : Nat} {l : List Cu} (h : IsBk w (.slice A n c) l) : n = l.length := by
 obtain ⟨A', c', Q, e, _⟩ := h
 injection e
def OwnBk (base : Nat) (w : World) (v : Value) (B : List Cu) : Prop :=
 ∃ (A : Option Addr) (c : Nat) (Q : List (Cu × Pl)), v = .slice A B.length c ∧ Q.map Prod.fst = B ∧ w.ownsRow base 64 8 (.slice A B.length c) B.length (custCells Q) ∧
   ∀ x ∈ Q, w.ownsRow base 81 2 (.slice x.2.Ad x.1.a.l.length x.2.cd) x.1.a.l.length (drs x.1.a.l) ∧ w.ownsRow base 229 5 (.slice x.2.As x.1.s.length x.2.cs) x.1.s.length (sos x.1.s)
theorem OwnBk.is {base : Nat} {w : World} {v : Value} {B : List Cu} (h : OwnBk base w v B) : IsBk w v B := by
 obtain ⟨A, c, Q, rfl, hQ, ho, hx⟩ := h
 exact ⟨A, c, Q, rfl, (own_cap2 ho).1, (own_cap2 ho).2, hQ, Rd.of_own ho, fun x hm => ⟨isds_own rfl (hx x hm).1, isss_own rfl (hx x hm).2⟩⟩
theorem own_kept {base e size n : Nat} {v : Value} {xs : List Value} {w w' : World} {row : Option Nat} (h : w.ownsRow base e size v n xs) (hg : w.grownBy w' row) (hr : ∀ k, row = some k → k < base) : w'.ownsRow base e size v n xs := by
 refine World.ownsRow.kept h hg ?_
 cases hv : v.ownBlock with
 | none => exact .inl rfl
 | some k => exact .inr fun e => by have := hr k e.symm; have := (h.lt k hv).1; omega
theorem OwnBk.kept {base : Nat} {w w' : World} {v : Value} {B : List Cu} {row : Option Nat} (h : OwnBk base w v B) (hg : w.grownBy w' row) (hr : ∀ k, row = some k → k < base) : OwnBk base w' v B := by
 obtain ⟨A, c, Q, rfl, hQ, ho, hx⟩ := h
 exact ⟨A, c, Q, rfl, hQ, own_kept ho hg hr, fun x hm => ⟨own_kept (hx x hm).1 hg hr, own_kept (hx x hm).2 hg hr⟩⟩
theorem OwnBk.below {base : Nat} {w w' : World} {v : Value} {B : List Cu} (h : OwnBk base w v B) (hb : Below w.heap.size w w') : OwnBk base w' v B := h.kept (grown_of_below hb) (by simp)
theorem OwnBk.set_ {base : Nat} {w : World} {v : Value} {B : List Cu} (h : OwnBk base w v B) (k o : Nat) (x : Value) (hk : k < base) : OwnBk base (w.setCell ⟨k, o, none⟩ x) v B :=
 h.kept (grown_setCell w ⟨k, o, none⟩ x) (fun j hj => by injection hj with e; subst e; exact hk)
theorem OwnBk.lower {base base' : Nat} {w : World} {v : Value} {B : List Cu} (h : OwnBk base w v B) (hb : base' ≤ base) : OwnBk base' w v B := by
 obtain ⟨A, c, Q, rfl, hQ, ho, hx⟩ := h
 exact ⟨A, c, Q, rfl, hQ, own_mono ho hb, fun x hm => ⟨own_mono (hx x hm).1 hb, own_mono (hx x hm).2 hb⟩⟩
theorem OwnBk.slice {base : Nat} {w : World} {v : Value} {B : List Cu} (h : OwnBk base w v B) : ∃ A n c, v = .slice A n c := by
 obtain ⟨A, c, Q, rfl, _⟩ := h
 exact ⟨A, _, c, rfl⟩
theorem Mem.ownm {w0 w : World} {L : List Chunk} {base : Nat} {e : TypeId} {size : Nat} {v : Value} {n : Nat} {xs : List Value} (H : Mem w0 [] w L) (hm : Chunk.row base e size v n xs ∈ L) : w.ownsRow w0.heap.size e size v n xs := by
 obtain ⟨i, hi⟩ := List.getElem?_of_mem hm
 exact Mem.ownb H i hi
theorem ownbk_mem {w0 w : World} {kb pb b0 b1 : Nat} {cs : Array Value} {o : Obj} {AR : Option Addr} {cR : Nat} {B : List Cu} {Q : List (Cu × Pl)} {Y : List Chunk} (hQ : Q.map Prod.fst = B)
   (H : Mem w0 [] w (.blk kb 180 cs :: .obj pb o :: .row b1 64 8 (.slice AR B.length cR) B.length (custCells Q) :: (custRows b0 Q ++ Y))) : OwnBk w0.heap.size w (.slice AR B.length cR) B := by
 refine ⟨AR, cR, Q, rfl, hQ, Mem.ownb H 2 rfl, fun x hx => ⟨?_, ?_⟩⟩
 · refine Mem.ownm (base := x.2.bd) H ?_
   refine .tail _ (.tail _ (.tail _ (List.mem_append_left _ ?_)))
   exact List.mem_flatMap.2 ⟨x, hx, by simp [cuRows]⟩
 · refine Mem.ownm (base := b0) H ?_
   refine .tail _ (.tail _ (.tail _ (List.mem_append_left _ ?_)))
   exact List.mem_flatMap.2 ⟨x, hx, by simp [cuRows]⟩
theorem keepE_no (T : Tm) (hT : T.Ok) (kb pb : Nat) (At : Option Addr) (nt ct : Nat) (Y : List Chunk) (w0 w : World) (hvt : IsDs w0 (.slice At nt ct) T.tl) (B : List Cu) (n : Nat) (hB : BOk T B n) (hn : n ≤ 200) (v : Ev) (hv : v.ok) (hk2 : v.k = 2) (i : Nat) (hp : place B v.me = some i) (hk : (keepE T B v).1 ≠ 0) (hS : KpSt T kb pb (.slice At nt ct) Y w0 w B) :
   Calls Tryz.prog 70 #[.pointer (some ⟨kb, 0, none⟩), evV v] w fun e w' => e = .panicked (thrown ((keepE T B v).1 : Int)) ∧ KpSt T kb pb (.slice At nt ct) Y w0 w' B := by
 obtain ⟨Q, AR, cR, es, clock, D, hQ, hF, hP, H⟩ := hS
 have hl := hB.len
 have hbd := hv.bds
 have h2 := hv.two hk2
 obtain ⟨hi, hme⟩ := place_some hp
 obtain ⟨Q1, p, Q2, rfl, hQ1, hset⟩ := split_at hQ hi
 have hmem : B[i] ∈ B := List.getElem_mem hi
 have hcok := hB.h1 _ hmem
 have hsl := hB.sold hmem
 have hd : B.getD i cu0 = B[i] := by simp [hi]
 have hk1 : v.k ≠ 1 := by omega
 have hk5 : v.k ≠ 5 := by omega
 have hcode : (keepE T B v).1 = (custP T B[i] v).1 := by
   unfold keepE
   rw [hp]; dsimp only
   rw [if_neg hk1, hd]
   by_cases g : (custP T B[i] v).1 = 0
   · rw [if_pos g, g]
   · rw [if_neg g]
 rw [hcode] at hk ⊢
 generalize B[i] = c at H hme hmem hcok hsl hset hk hQ
 rw [custCells_split, custRows_split] at H
 have H1 := Mem.perm rows_perm H
 have hpre : (custCells Q1).length = i * 8 := by rw [custCells_len, hQ1]
 generalize hC : (custP T c v).1 = C at hk ⊢
 have hbad : ((deedP T c.a v).1 ≠ 0 ∧ C = (deedP T c.a v).1) ∨ ((deedP T c.a v).1 = 0 ∧ C = 8 ∧ ¬ (deedP T c.a v).2.2.same v) := by
   unfold custP at hC
   rw [if_neg hk5] at hC
   by_cases g2 : (deedP T c.a v).1 = 0
   · rw [if_pos g2] at hC
     by_cases g3 : (deedP T c.a v).2.2.same v
     · rw [if_pos g3] at hC; exact absurd hC.symm hk
     · rw [if_neg g3] at hC; exact .inr ⟨g2, hC.symm, g3⟩
   · rw [if_neg g2] at hC; exact .inl ⟨g2, hC.symm⟩
 have hdd : deedP T c.a v = sellP T c.a v.te v.mo := by unfold deedP; rw [if_pos hk2]
 rw [hdd] at hbad
 have hS : ∀ (g : Nat) (cur : Array Value) (Z : List Chunk) (W : World), Mem w0 [] W (.blk g 64 cur :: .blk kb 180 #[.slice AR B.length cR, .slice At nt ct, .int .i64 ↑T.fx, .int .i64 ↑T.fb, .int .i64 ↑T.db, .int .i64 ↑T.al, .map (some pb)] :: .row p.bd 81 2 (.slice p.Ad c.a.l.length p.cd) c.a.l.length (drs c.a.l) :: .row w0.heap.size 229 5 (.slice p.As c.s.length p.cs) c.s.length (sos c.s) :: Z) →
     cur[i * 8]? = some (.int .i64 ↑c.a.me) → cur[i * 8 + 1]? = some (.int .i64 ↑c.a.rev) → cur[i * 8 + 2]? = some (.int .i64 ↑c.a.next) → cur[i * 8 + 3]? = some (.int .i64 ↑c.a.month) → cur[i * 8 + 4]? = some (.int .i64 ↑c.a.bought) → cur[i * 8 + 5]? = some (.int .i64 c.a.free) → cur[i * 8 + 6]? = some (.slice p.Ad c.a.l.length p.cd) → cur[i * 8 + 7]? = some (.slice p.As c.s.length p.cs) →
     Calls Tryz.prog 92 #[.pointer (some ⟨kb, 0, none⟩), .pointer (some ⟨g, i * 8, none⟩), evV v] W fun e w' => e = .panicked (thrown (C : Int)) ∧ Mem w0 [] w' (.blk g 64 cur :: .blk kb 180 #[.slice AR B.length cR, .slice At nt ct, .int .i64 ↑T.fx, .int .i64 ↑T.fb, .int .i64 ↑T.db, .int .i64 ↑T.al, .map (some pb)] :: .row p.bd 81 2 (.slice p.Ad c.a.l.length p.cd) c.a.l.length (drs c.a.l) :: .row w0.heap.size 229 5 (.slice p.As c.s.length p.cs) c.s.length (sos c.s) :: Z) := by
   intro g cur Z W hM e0 e1 e2 e3 e4 e5 e6 e7
   generalize hr : sellP T c.a v.te v.mo = r at hbad
   obtain ⟨E, ⟨me2, rev2, next2, month2, bought2, free2, l2⟩, ⟨x1, x2, x3, x4, x5, x6, x7⟩⟩ := r
   exact ksell2_no g (i * 8) kb p.bd cur _ _ c.a.me c.a.rev c.a.next c.a.month c.a.bought c.a.free c.a.l p.Ad p.cd c.s p.As p.cs At nt ct T.fx T.fb T.db T.al T.tl v.k v.me v.mo v.id v.te v.de v.fe v.pr v.ch v.un v.tg v.ow v.bp Z w0 W hM e0 e1 e2 e3 e4 e5 e6 e7 hvt hT.h1 hT.h2 hcok.1.h1 hcok.1.h2 (by omega) hk2 h2.1 hbd.2.2.1 hbd.2.1 (by omega) C E me2 rev2 next2 month2 bought2 free2 l2 x1 x2 x3 x4 x5 x6 x7 (Lib.hid hr) (Lib.hid hbad)
 refine (keep_bad kb pb p.bd i clock B.length es D B AR cR (.slice At nt ct) (.int .i64 ↑T.fx) (.int .i64 ↑T.fb) (.int .i64 ↑T.db) (.int .i64 ↑T.al) (custCells Q1) (custCells Q2) _ _ _ _ _ _ _ _ c.a.l p.Ad p.cd c.s p.As p.cs v.k v.me v.mo v.id v.te v.de v.fe v.pr v.ch v.un v.tg v.ow v.bp C _ w0 w H1 hF hP hbd.1 hp hi hpre (by omega) hv hk1 hk5 hS).mono ?_
 rintro e w' ⟨rfl, H'⟩
 refine ⟨rfl, Q1 ++ (c, p) :: Q2, AR, cR, es, clock, D, hQ, hF, hP, ?_⟩
 rw [custCells_split, custRows_split]
 exact Mem.perm rows_perm.symm H'
end Go.Proofs.YtpcgpnkmjjamhaaGreatDoor
namespace Go.Proofs.YtpcgpnkmjjamhaaGreatDoor
set_option linter.unusedVariables false
set_option maxRecDepth 100000
def bitsN (N lo m : Nat) : Nat := N / 2 ^ lo % 2 ^ m
theorem bitsN_lt (N lo m : Nat) : bitsN N lo m < 2 ^ m := Nat.mod_lt _ (Nat.two_pow_pos m)
theorem testBit_bitsN (N lo m i : Nat) : (bitsN N lo m).testBit i = (decide (i < m) && N.testBit (lo + i)) := by
 unfold bitsN
 rw [Nat.testBit_mod_two_pow, Nat.testBit_div_two_pow, Nat.add_comm]
def setB (x t : Nat) (b : Bool) : Nat := if b then (x &&& (4294967295 - 2 ^ t)) ||| 2 ^ t else x &&& (4294967295 - 2 ^ t)
theorem testBit_clr {x t : Nat} (hx : x < 4294967296) (ht : t < 32) (i : Nat) : (x &&& (4294967295 - 2 ^ t)).testBit i = (x.testBit i && !decide (t = i)) := by
 have h32 : (2 : Nat) ^ t < 2 ^ 32 := Nat.pow_lt_pow_right (by omega) ht
 rw [Nat.testBit_and, show 4294967295 - 2 ^ t = 2 ^ 32 - (2 ^ t + 1) by omega, Nat.testBit_two_pow_sub_succ h32, Nat.testBit_two_pow]
 by_cases h : i < 32
 · simp [h]
 · rw [Nat.testBit_lt_two_pow (show x < 2 ^ i from Nat.lt_of_lt_of_le (show x < 2 ^ 32 by omega) (Nat.pow_le_pow_right (by omega) (by omega)))]; simp
theorem testBit_setB {x t : Nat} (hx : x < 4294967296) (ht : t < 32) (b : Bool) (i : Nat) : (setB x t b).testBit i = if t = i then b else x.testBit i := by
 unfold setB
 cases b
 · simp only [Bool.false_eq_true, if_false]
   rw [testBit_clr hx ht]
   by_cases h : t = i <;> simp [h]
 · simp only [if_true]
   rw [Nat.testBit_or, testBit_clr hx ht, Nat.testBit_two_pow]
   by_cases h : t = i <;> simp [h]
theorem setB_lt {x t : Nat} (hx : x < 4294967296) (ht : t < 32) (b : Bool) : setB x t b < 4294967296 := by
 have h32 : (2 : Nat) ^ t < 2 ^ 32 := Nat.pow_lt_pow_right (by omega) ht
 have h1 : x &&& (4294967295 - 2 ^ t) < 2 ^ 32 := Nat.lt_of_le_of_lt Nat.and_le_left (by omega)
 unfold setB
 split
 · exact Nat.or_lt_two_pow h1 h32
 · exact h1
theorem testBit_val3 {x0 x1 x2 : Nat} (h0 : x0 < 4294967296) (h1 : x1 < 4294967296) (i : Nat) : (val3 x0 x1 x2).testBit i = if i < 32 then x0.testBit i else if i < 64 then x1.testBit (i - 32) else x2.testBit (i - 64) := by
 have e : val3 x0 x1 x2 = 2 ^ 32 * (2 ^ 32 * x2 + x1) + x0 := by unfold val3; omega
 rw [e, Nat.testBit_two_pow_mul_add _ (by omega : x0 < 2 ^ 32)]
 split
 · rfl
 · rw [Nat.testBit_two_pow_mul_add _ (by omega : x1 < 2 ^ 32)]
   by_cases h : i < 64
   · rw [if_pos h, if_pos (by omega)]
   · rw [if_neg h, if_neg (by omega), show i - 32 - 32 = i - 64 by omega]
def putN (N lo m v : Nat) : Nat := N % 2 ^ lo + 2 ^ lo * (v + 2 ^ m * (N / 2 ^ (lo + m)))
theorem testBit_putN {N lo m v : Nat} (hv : v < 2 ^ m) (i : Nat) : (putN N lo m v).testBit i = if i < lo then N.testBit i else if i < lo + m then v.testBit (i - lo) else N.testBit i := by
 unfold putN
 rw [Nat.add_comm, Nat.testBit_two_pow_mul_add _ (Nat.mod_lt _ (Nat.two_pow_pos lo)), Nat.testBit_mod_two_pow]
 split
 · rename_i h; simp [h]
 · rename_i h
   rw [Nat.add_comm v, Nat.testBit_two_pow_mul_add _ hv]
   by_cases h2 : i < lo + m
   · rw [if_pos h2, if_pos (by omega)]
   · rw [if_neg h2, if_neg (by omega), Nat.testBit_div_two_pow]; congr 1; omega
theorem putN_zero (N lo : Nat) : putN N lo 0 0 = N := by
 unfold putN
 have := Nat.mod_add_div N (2 ^ lo)
 simpa using this
theorem putN_step {N lo i v : Nat} (j : Nat) : (putN N lo (i + 1) (v % 2 ^ (i + 1))).testBit j = if j = lo + i then v.testBit i else (putN N lo i (v % 2 ^ i)).testBit j := by
 rw [testBit_putN (Nat.mod_lt _ (Nat.two_pow_pos _)), testBit_putN (Nat.mod_lt _ (Nat.two_pow_pos _)), Nat.testBit_mod_two_pow, Nat.testBit_mod_two_pow]
 by_cases h : j = lo + i
 · subst h
   rw [if_pos rfl, if_neg (by omega), if_pos (by omega), show lo + i - lo = i by omega]; simp
 · rw [if_neg h]
   by_cases h1 : j < lo
   · rw [if_pos h1, if_pos h1]
   · rw [if_neg h1, if_neg h1]
     by_cases h2 : j < lo + i
     · rw [if_pos (by omega), if_pos h2, decide_eq_true (by omega), decide_eq_true (by omega)]
     · rw [if_neg (by omega), if_neg h2]
theorem put_word {N lo i v x0 x1 x2 y0 y1 y2 : Nat} (a0 : x0 < 4294967296) (a1 : x1 < 4294967296) (b0 : y0 < 4294967296) (b1 : y1 < 4294967296) (hx : val3 x0 x1 x2 = putN N lo i (v % 2 ^ i))
   (hy : ∀ j, (if j < 32 then y0.testBit j else if j < 64 then y1.testBit (j - 32) else y2.testBit (j - 64)) = if j = lo + i then v.testBit i else if j < 32 then x0.testBit j else if j < 64 then x1.testBit (j - 32) else x2.testBit (j - 64)) :
   val3 y0 y1 y2 = putN N lo (i + 1) (v % 2 ^ (i + 1)) := by
 refine Nat.eq_of_testBit_eq fun j => ?_
 rw [testBit_val3 b0 b1, putN_step, ← hx, testBit_val3 a0 a1]
 exact hy j
theorem put_word0 {N lo i v x0 x1 x2 t : Nat} (a0 : x0 < 4294967296) (a1 : x1 < 4294967296) (hx : val3 x0 x1 x2 = putN N lo i (v % 2 ^ i)) (ht : lo + i = t) (h : t < 32) : val3 (setB x0 t (v.testBit i)) x1 x2 = putN N lo (i + 1) (v % 2 ^ (i + 1)) := by
 refine put_word a0 a1 (setB_lt a0 h _) a1 hx fun j => ?_
 rw [testBit_setB a0 h, ht]
 by_cases e : j = t
 · subst e; rw [if_pos h, if_pos rfl, if_pos rfl]
 · rw [if_neg e, if_neg (show ¬ t = j from fun h => e h.symm)]
theorem put_word1 {N lo i v x0 x1 x2 t : Nat} (a0 : x0 < 4294967296) (a1 : x1 < 4294967296) (hx : val3 x0 x1 x2 = putN N lo i (v % 2 ^ i)) (ht : lo + i = 32 + t) (h : t < 32) : val3 x0 (setB x1 t (v.testBit i)) x2 = putN N lo (i + 1) (v % 2 ^ (i + 1)) := by
 refine put_word a0 a1 a0 (setB_lt a1 h _) hx fun j => ?_
 rw [testBit_setB a1 h, ht]
 by_cases e : j = 32 + t
 · subst e
   rw [if_neg (by omega), if_pos (by omega), if_pos (by omega), if_pos rfl]
 · rw [if_neg e]
   by_cases h1 : j < 32
   · rw [if_pos h1, if_pos h1]
   · rw [if_neg h1, if_neg h1]
     by_cases h2 : j < 64
     · rw [if_pos h2, if_pos h2, if_neg (by omega)]
     · rw [if_neg h2, if_neg h2]
theorem put_word2 {N lo i v x0 x1 x2 t : Nat} (a0 : x0 < 4294967296) (a1 : x1 < 4294967296) (a2 : x2 < 4294967296) (hx : val3 x0 x1 x2 = putN N lo i (v % 2 ^ i)) (ht : lo + i = 64 + t) (h : t < 32) : val3 x0 x1 (setB x2 t (v.testBit i)) = putN N lo (i + 1) (v % 2 ^ (i + 1)) := by
 refine put_word a0 a1 a0 a1 hx fun j => ?_
 rw [testBit_setB a2 h, ht]
 by_cases e : j = 64 + t
 · subst e
   rw [if_neg (by omega), if_neg (by omega), if_pos (by omega), if_pos rfl]
 · rw [if_neg e]
   by_cases h1 : j < 32
   · rw [if_pos h1, if_pos h1]
   · rw [if_neg h1, if_neg h1]
     by_cases h2 : j < 64
     · rw [if_pos h2, if_pos h2]
     · rw [if_neg h2, if_neg h2, if_neg (by omega)]
theorem bits_step (N lo i m : Nat) (hi : i < m) : bitsN N (lo + i) (m - i) = 2 * bitsN N (lo + (i + 1)) (m - (i + 1)) + (N.testBit (lo + i)).toNat := by
 refine Nat.eq_of_testBit_eq fun j => ?_
 rw [testBit_bitsN]
 have e : 2 * bitsN N (lo + (i + 1)) (m - (i + 1)) + (N.testBit (lo + i)).toNat = 2 ^ 1 * bitsN N (lo + (i + 1)) (m - (i + 1)) + (N.testBit (lo + i)).toNat := rfl
 rw [e, Nat.testBit_two_pow_mul_add _ (by have := Bool.toNat_le (N.testBit (lo + i)); omega)]
 by_cases h : j < 1
 · obtain rfl : j = 0 := by omega
   rw [if_pos h, Nat.add_zero, decide_eq_true (by omega)]
   cases N.testBit (lo + i) <;> rfl
 · rw [if_neg h, testBit_bitsN]
   have e1 : lo + (i + 1) + (j - 1) = lo + i + j := by omega
   rw [e1]
   congr 1
   exact decide_eq_decide.2 (by omega)
theorem word_bit {x t : Nat} : x / 2 ^ t % 2 = (x.testBit t).toNat := by
 rw [Nat.testBit_eq_decide_div_mod_eq]
 rcases Nat.mod_two_eq_zero_or_one (x / 2 ^ t) with h | h <;> rw [h] <;> rfl
end Go.Proofs.YtpcgpnkmjjamhaaGreatDoor
