/- tariff.Bill: line by line. -/
import Derived.Test.YtnpkondgpmncnaaPieces
import Derived.Test.YtnpkondgpmncnaaBillD
import Derived.Test.YtnpkondgpmncnaaOwn
import Derived.Test.YtnpkondgpmncnaaSteps
import Derived.Maps.AppendAt
namespace Go.Proofs.Ytnpkondgpmncnaa
open Go Go.RowKit Go.Shelf
set_option linter.unusedVariables false
attribute [local go_sem] Oper.semAt_some
/-- append of one element, walked inside a fence. -/
theorem wpListIn_push {F : Fence} {n : Nat} {P : Program} {ops : Array Oper} {rest : List Oper} {o : Oper} {a : Act} {Q : Exit → Act → World → Prop} {t e : TypeId} {size bytes : Nat} (E : Elem P t e size bytes) (hgd : o.guard = none) (s x : Operand)
    (ho : o.op = .call { callee := .builtin .append, args := #[s, x], argTypes := #[t, t] })
    (w : World) (base : Nat) (v : Value) (k : Nat) (xs news : List Value) (hs : a.eval s = v) (hown : w.ownsRow base e size v k xs) (hx : a.eval x = .slice (some ⟨w.heap.size, 0, none⟩) 1 1)
    (hl : news.length = size) (h1 : ∀ u ∈ news, u.oneCell' = true) (hbytes : (k + 1) * bytes ≤ 140737488355328) (hmax : k + 1 ≤ maxLen) (hbase : base ≤ w.heap.size)
    (h : ∀ g c' w', w'.ownsRow base e size (.slice (some ⟨g, 0, none⟩) (k + 1) c') (k + 1) (xs ++ news) → (w.alloc (.cells ⟨news⟩ e)).grownBy w' v.ownBlock → wpListIn F n P ops Q rest (a.put o.dst (.slice (some ⟨g, 0, none⟩) (k + 1) c')) w') : wpListIn F n P ops Q (o :: rest) a (w.alloc (.cells ⟨news⟩ e)) := by
  obtain ⟨i, z, hi, hz, hsize, hby, hzs⟩ := E.info
  refine wpListIn_append_own _ hgd s x t ho base e i z size bytes E.und hi hz hsize hby hzs E.pos v k xs hs (hown.alloc _) ⟨w.heap.size, 0, none⟩ 1 1 news hx (by omega) (cells_new w news e) h1 hmax hbytes (by simp; omega) ?_
  intro v' w' ho' hg _
  obtain ⟨g, c', rfl⟩ := ownsRow_succ ho'
  exact h g c' w' ho' hg
/-- The lines as cells. -/
def lns (l : List (Nat × Nat)) : List Value := l.flatMap fun (p : Nat × Nat) => [Value.int .i64 (p.1 : Int), Value.int .i64 (p.2 : Int), Value.int .i64 ((p.1 * p.2 : Nat) : Int)]
theorem lns_length (l : List (Nat × Nat)) : (lns l).length = l.length * 3 := by
  induction l with
  | nil => rfl
  | cons p l ih =>
    show ([Value.int .i64 p.1, Value.int .i64 p.2, Value.int .i64 ((p.1 * p.2 : Nat) : Int)] ++ lns l).length = _
    rw [List.length_append, ih]; simp only [List.length_cons, List.length_nil]; omega
theorem lns_append (a b : List (Nat × Nat)) : lns (a ++ b) = lns a ++ lns b := by simp [lns]
theorem lns_get : ∀ {l : List (Nat × Nat)} {i : Nat} (h : i < l.length), (lns l)[i * 3]? = some (.int .i64 (l[i].1 : Int)) ∧ (lns l)[i * 3 + 1]? = some (.int .i64 (l[i].2 : Int)) ∧ (lns l)[i * 3 + 2]? = some (.int .i64 ((l[i].1 * l[i].2 : Nat) : Int))
  | [], i, h => by simp at h
  | (x, y) :: t, 0, _ => by simp [lns]
  | (x, y) :: t, i + 1, h => by
    have := lns_get (l := t) (i := i) (by simpa using h)
    have e : ∀ j, (lns ((x, y) :: t))[(i + 1) * 3 + j]? = (lns t)[i * 3 + j]? := fun j => by
      show ([Value.int .i64 (x : Int), Value.int .i64 (y : Int), Value.int .i64 ((x * y : Nat) : Int)] ++ lns t)[(i + 1) * 3 + j]? = _
      rw [List.getElem?_append_right (by simp; omega)]
      congr 1
      simp; omega
    have e0 := e 0
    simp only [Nat.add_zero] at e0
    rw [e0, e 1, e 2]
    simpa using this
/-- What may be asked: no more than there can be. -/
structure Ask (l : List (Nat × Nat)) (f n : Nat) : Prop where
  tariff : TOk l
  most : n ≤ 2097151
  sum : f + n ≤ 10000000
set_option maxHeartbeats 1000000 in
theorem asked_ok (v : Value) (l : List (Nat × Nat)) (f n : Nat) (w : World) (hv : IsDs w v l) (ha : Ask l f n) :
    Calls Try.prog 89 #[v, .int .i64 (f : Int), .int .i64 (n : Int)] w fun e w' => e = .returned (.int .i64 0) ∧ Below w.heap.size w w' := by
  obtain ⟨hl, h1, h2⟩ := ha
  have f0 : ¬ (f : Int) < 0 := by omega
  have f1 : ¬ (10000000 : Int) < (f : Int) := by omega
  have n0 : ¬ (n : Int) < 0 := by omega
  have n1 : ¬ (2097151 : Int) < (n : Int) := by omega
  have s1 : ¬ (10000000 : Int) < (f : Int) + (n : Int) := by omega
  go_enter Try.func89, Try.ntmps89
  go_wp2_with fail
  refine (tcheck_ok v l w hv hl).mono ?_
  rintro e w' ⟨rfl, hb⟩
  go_wp2
  go_ret
  exact ⟨rfl, hb⟩
theorem ln_info : (Try.prog.info? 140).map (fun i => (i.zero, i.size, i.bytes)) = some (some (.agg #[.int .i64 0, .int .i64 0, .int .i64 0]), 3, 24) := by kernel_rfl
theorem el_ln : Elem Try.prog 136 140 3 24 := elem_of Try.underlying136 ln_info rfl (by omega)
/-- The answer of 'Bill': these lines. -/
def RetLs (L : List (Nat × Nat)) (w : World) (e : Ending) (w' : World) : Prop :=
  ∃ (A : Option Addr) (c : Nat), e = .returned (.tuple #[.slice A L.length c, .int .i64 0]) ∧ w'.ownsRow w.heap.size 140 3 (.slice A L.length c) L.length (lns L) ∧ Below w.heap.size w w'
/-- A turn of one block that is neither the iterator's nor a step. -/
theorem Kp2.grown {n₀ bf : Nat} {A B : World} {row : Option Nat} (hg : A.grownBy B row) (hn : n₀ ≤ A.heap.size) (hb : bf < A.heap.size) (hr : ∀ r, row = some r → n₀ ≤ r ∧ r ≠ bf ∧ ∃ cs t, A.heap[r]? = some (Obj.cells cs t (0, 0)) ∧ t ≠ 122) : Kp2 n₀ bf A B :=
  ⟨(Below.refl n₀ A).grown hg hn (fun k e => (hr k e).1), hg.block bf hb (fun e => (hr bf e.symm).2.1 rfl), fun b cs hc => by
    refine (hg.block b (Array.getElem?_eq_some_iff.1 hc).1 (fun e => ?_)).trans hc
    obtain ⟨_, _, cs', t, h1, h2⟩ := hr b e.symm
    rw [hc] at h1
    cases h1
    exact h2 rfl⟩
theorem own_block {w : World} {base : Nat} {e : TypeId} {size : Nat} {v : Value} {n : Nat} {xs : List Value} (h : w.ownsRow base e size v n xs) : ∀ r, v.ownBlock = some r → base ≤ r ∧ r < w.heap.size ∧ ∃ cs, w.heap[r]? = some (Obj.cells cs e (0, 0)) := by
  intro r hr
  rcases h.2 with ⟨rfl, _⟩ | ⟨g, cap, cur, rfl, hb, hgb, _⟩
  · simp [Value.ownBlock] at hr
  · obtain rfl : g = r := by simpa [Value.ownBlock] using hr
    exact ⟨hb, (Array.getElem?_eq_some_iff.1 hgb).1, cur, hgb⟩
/-- Between two rounds: what is left, the lines so far. -/
def BI (w : World) (B0 Bo bf : Nat) (all rem : List (Nat × Nat)) (W : World) : Prop :=
  ∃ (m : Nat) (o : List (Nat × Nat)) (v u : Value), Boxed W B0 3 (.int .i64 (m : Int)) ∧ Boxed W Bo 136 v ∧ Boxed W bf 3 u ∧ W.ownsRow w.heap.size 140 3 v o.length (lns o) ∧ Hid (o ++ bills rem m = all) ∧ m ≤ 2097151 ∧ Below w.heap.size w W
/-- Behind the last line. -/
def BD (w : World) (Bo : Nat) (all : List (Nat × Nat)) (W : World) : Prop :=
  ∃ v : Value, Boxed W Bo 136 v ∧ W.ownsRow w.heap.size 140 3 v all.length (lns all) ∧ Below w.heap.size w W
theorem kept_box {W W' : World} {row : Option Nat} {B : Nat} {t : TypeId} {v : Value} (h : Boxed W B t v) (hg : W.grownBy W' row) (hr : ∀ r, row = some r → ∃ o : Obj, W.heap[r]? = some o ∧ o.isCells = false) : Boxed W' B t v :=
  h.kept hg fun e => by obtain ⟨o, ho, hc⟩ := hr B e.symm; rw [show W.heap[B]? = _ from h] at ho; cases ho; cases hc
theorem kept_row {W W' : World} {row : Option Nat} {base : Nat} {e : TypeId} {size : Nat} {v : Value} {n : Nat} {xs : List Value} (h : W.ownsRow base e size v n xs) (hg : W.grownBy W' row) (hr : ∀ r, row = some r → ∃ o : Obj, W.heap[r]? = some o ∧ o.isCells = false) : W'.ownsRow base e size v n xs := by
  refine h.kept hg ?_
  cases hv : v.ownBlock with
  | none => exact .inl rfl
  | some g =>
    refine .inr fun e' => ?_
    obtain ⟨_, _, cs, hc⟩ := own_block h g hv
    obtain ⟨o, ho, hn⟩ := hr g e'.symm
    rw [hc] at ho; cases ho; cases hn
theorem BI.own (w : World) (B0 Bo bf B : Nat) (all : List (Nat × Nat)) (hB : w.heap.size ≤ B) (L : List (Nat × Nat)) : OwnFrom B (fun k => BI w B0 Bo bf all (L.drop k)) := by
  rintro k W W' row ⟨m, o, v, u, h1, h2, h3, h4, h5, h6, h7⟩ hg hr
  exact ⟨m, o, v, u, kept_box h1 hg (fun r e => (hr r e).2), kept_box h2 hg (fun r e => (hr r e).2), kept_box h3 hg (fun r e => (hr r e).2), kept_row h4 hg (fun r e => (hr r e).2), h5, h6, h7.grown hg h7.size (fun k e => Nat.le_trans hB (hr k e).1)⟩
theorem BD.own (w : World) (Bo B : Nat) (all : List (Nat × Nat)) (hB : w.heap.size ≤ B) (c d : Code) : OwnFrom B (fun (_ : Nat) W => c = d ∧ BD w Bo all W) := by
  rintro k W W' row ⟨e, v, h1, h2, h3⟩ hg hr
  exact ⟨e, v, kept_box h1 hg (fun r e => (hr r e).2), kept_row h2 hg (fun r e => (hr r e).2), h3.grown hg h3.size (fun k e => Nat.le_trans hB (hr k e).1)⟩
theorem BI.bears (w : World) (B0 Bo bf : Nat) (all : List (Nat × Nat)) (L : List (Nat × Nat)) (h0 : B0 ≠ bf) (ho : Bo ≠ bf) (hb : w.heap.size ≤ bf) : Bears bf (fun k => BI w B0 Bo bf all (L.drop k)) := by
  rintro k W x ⟨m, o, v, u, h1, h2, h3, h4, h5, h6, h7⟩
  exact ⟨m, o, v, x, h1.other h0 x, h2.other ho x, h3.set x, h4.kept (grownBy_setCell' W bf x) (.inr (h3.not_row (by decide) h4).symm), h5, h6, h7.setCell (p := ⟨bf, 0, none⟩) hb _⟩
set_option maxRecDepth 100000 in
set_option maxHeartbeats 2000000 in
theorem bill_ok (v : Value) (l : List (Nat × Nat)) (f n : Nat) (w : World) (hv : IsDs w v l) (ha : Ask l f n) :
    Calls Try.prog 60 #[v, .int .i64 (f : Int), .int .i64 (n : Int)] w (RetLs (bills (pcs l f) n) w) := by
  have hv0 := hv
  have hA := fun W h => asked_ok v l f n W h ha
  obtain ⟨A, m, c, hvA⟩ : ∃ A m c, v = .slice A m c := by obtain ⟨A, c, e, _⟩ := hv; exact ⟨A, _, c, e⟩
  subst hvA
  have hP := fun W => pieces_is (.slice A m c) f W A m c rfl
  obtain ⟨hl, hn1, hn2⟩ := ha
  obtain ⟨i0, z0, hi, hz0, hz1, hz2, hz3⟩ := el_ln.info
  obtain ⟨L, hL⟩ : ∃ L, pcs l f = L := ⟨_, rfl⟩
  have hLb : ∀ p ∈ L, 1 ≤ p.1 ∧ p.1 ≤ 10000000 ∧ 1 ≤ p.2 ∧ p.2 ≤ 100000 := by rw [← hL]; exact pcs_bd l f hl.bd
  have hL8 : L.length ≤ 8 := by rw [← hL]; exact Nat.le_trans (pcs_len l f) hl.len
  obtain ⟨all, hall⟩ : ∃ all, bills L n = all := ⟨_, rfl⟩
  have hall8 : all.length ≤ 8 := by rw [← hall]; exact Nat.le_trans (bills_len L n) hL8
  have HA := Lib.hid hall
  rw [hL, hall]
  have HL := Lib.hid hL
  clear hall
  refine (callsIn_wide (n := 9)).1 ?_
  refine callsIn_of_wp_marks Try.func60 rfl trivial ?_ rfl
  simp only [Try.ntmps60, List.size_toArray, List.length_cons, List.length_nil, Nat.reduceAdd, Nat.reduceSub, Array.replicate_succ, Array.replicate_zero, List.push_toArray, List.append_toArray, List.nil_append, List.cons_append]
  have hb1 := below_a1 w (.cells #[.int .i64 (n : Int)] 3)
  have hx1 : Boxed (w.alloc (.cells #[.int .i64 (n : Int)] 3)) w.heap.size 3 (.int .i64 (n : Int)) := Boxed.new w _ _
  have hv1 := hv.below hb1
  clear hL
  gi_wp2_with (first | (refine ⟨trivial, ?_⟩; gi_at_call 89; refine (callsIn_wide.2 (hA _ hv1)).mono ?_; rintro e w1 ⟨rfl, hb2⟩) | (refine ⟨trivial, ?_⟩; gi_at_call 90; refine (callsIn_wide.2 (hP _)).mono ?_; rintro e w2 ⟨rfl, rfl⟩))
  have hx2 : Boxed w1 w.heap.size 3 (.int .i64 (n : Int)) := (hb2.block w.heap.size (by simp)).trans hx1
  have hbw : Below w.heap.size w w1 := hb1.step hb2
  have hlt1 : w.heap.size < w1.heap.size := hx2.lt
  obtain ⟨W, hW⟩ : ∃ W, ((w1.alloc (.cells #[.slice none 0 0] 136)).alloc (.cells #[.slice A m c] 61)).alloc (.cells #[.int .i64 (f : Int)] 3) = W := ⟨_, rfl⟩
  have hs : W.heap.size = w1.heap.size + 3 := by rw [← hW]; simp
  have y0 : Boxed W w.heap.size 3 (.int .i64 (n : Int)) := by rw [← hW]; exact ((hx2.alloc _).alloc _).alloc _
  have y1 : Boxed W w1.heap.size 136 (.slice none 0 0) := by rw [← hW]; exact ((Boxed.new w1 _ _).alloc _).alloc _
  have y2 : Boxed W (w1.heap.size + 1) 61 (.slice A m c) := by
    have := Boxed.new (w1.alloc (.cells #[.slice none 0 0] 136)) 61 (.slice A m c)
    rw [← hW]; simpa using this.alloc _
  have y3 : Boxed W (w1.heap.size + 1 + 1) 3 (.int .i64 (f : Int)) := by
    have := Boxed.new ((w1.alloc (.cells #[.slice none 0 0] 136)).alloc (.cells #[.slice A m c] 61)) 3 (.int .i64 (f : Int))
    rw [← hW]; simpa using this
  have hbW : Below w.heap.size w W := by rw [← hW]; exact hbw.step (below_a3 _ _ _ _)
  rw [hW]
  have hH := pieces_hands (9 - 1) (.slice A m c) l w W f (w1.heap.size + 1) (w1.heap.size + 1 + 1) hv0 hl.bd hl.len hbW y2 y3 (by omega) (by omega)
  rw [HL.out] at hH
  clear hA hP hW hv hv1 hb1 hb2 hx1 hx2
  have hI0 : BI w w.heap.size w1.heap.size (w1.heap.size + 1 + 1) all (L.drop 0) W := ⟨n, [], .slice none 0 0, _, y0, y1, y3, World.ownsRow_nil _ _ _ _, Lib.hid (by simpa using HA.out), hn1, hbW⟩
  refine range_hands (rfl) (fun args w => rfl) hH (fun h k => h.trans k) (fun X l o o' h1 h2 h3 => Kp2.put (by omega) (by omega) X l o o' h1 h2 h3) (Below.refl _ _) rfl
    (fun k => BI w w.heap.size w1.heap.size (w1.heap.size + 1 + 1) all (L.drop k)) (fun c _ W => c = .exit 0 ∧ BD w w1.heap.size all W)
    (BI.own _ _ _ _ _ _ (by omega) L) (fun c => BD.own _ _ _ _ (by omega) c _) (BI.bears _ _ _ _ _ _ (by omega) (by omega) (by omega)) hI0
    (fun x y => ⟨#[.slice A m c, .int .i64 (f : Int), .int .i64 (n : Int), undef, undef, .pointer (some ⟨w.heap.size, 0, none⟩), .slice none 0 0, .int .i64 0, .int .i64 0, .pointer (some ⟨w1.heap.size, 0, none⟩), .int .i64 (x : Int), .int .i64 (y : Int), undef, .slice A m c, .int .i64 (f : Int), .int .i64 (n : Int), .int .i64 0, .int .i64 0, .bool false, undef, .slice A m c, .int .i64 (f : Int), .func (.func 101) #[] #[.pointer (some ⟨w1.heap.size + 1, 0, none⟩), .pointer (some ⟨w1.heap.size + 1 + 1, 0, none⟩)], .int .i64 (x : Int), .int .i64 (y : Int), undef, undef, undef, undef, undef, undef, undef, undef, undef, undef, undef, undef, undef, undef, undef, undef, undef, undef], []⟩) ?_ ?_ ?_ ?_
  · intro lp x y X K hK
    gi_wp2
    exact hK
  · rintro lp k hk X ⟨m', o, v, u, b1, b2, b3, b4, b5, b6, b7⟩
    obtain ⟨k1, k2, k3, k4⟩ := hLb _ (List.getElem_mem hk)
    have hsp : L.drop k = L[k] :: L.drop (k + 1) := List.drop_eq_getElem_cons hk
    obtain ⟨⟨q, p⟩, hqp⟩ : ∃ r, L[k] = r := ⟨_, rfl⟩
    rw [hqp] at hsp k1 k2 k3 k4
    simp only [hqp]
    simp only at k1 k2 k3 k4
    have hbX := b1.lt
    have c0 := b1.cell
    have f0 := b1.frozen
    have c1 := b2.cell
    have f1 := b2.frozen
    by_cases hm : m' = 0
    · subst hm
      have HO : Hid (o = all) := by show _ = _; have := b5.out; rwa [bills_zero, List.append_nil] at this
      rw [HO.out] at b4
      clear hsp hqp b5 HO
      gi_wp2
      exact ⟨KeepsFrom.refl _ _, rfl, v, b2, b4, b7⟩
    · have hmz : ((m' : Int) == 0) = false := by simp; omega
      obtain ⟨x, hx⟩ : ∃ x, min q m' = x := ⟨_, rfl⟩
      obtain ⟨r, hr⟩ : ∃ r, m' - x = r := ⟨_, rfl⟩
      have HB : Hid ((o ++ [(x, p)]) ++ bills (L.drop (k + 1)) r = all) := by
        show _ = _
        rw [← b5.out, hsp, bills_cons hm, hx, hr]; simp
      have hlen8 : o.length + 1 ≤ 8 := by
        have := congrArg List.length HB.out
        simp at this; omega
      have hxi : min (q : Int) (m' : Int) = (x : Int) := by omega
      have hri : (m' : Int) - (x : Int) = (r : Int) := by omega
      have hx7 : x ≤ 10000000 := by omega
      have hxm : x ≤ m' := by omega
      have hpx : x * p ≤ 10000000 * 100000 := Nat.mul_le_mul hx7 k4
      have hpe : (x : Int) * (p : Int) = ((x * p : Nat) : Int) := by rw [Int.natCast_mul]
      obtain ⟨y, hy⟩ : ∃ y, x * p = y := ⟨_, rfl⟩
      rw [hy] at hpe hpx
      have hone : ∀ z ∈ [Value.int .i64 (x : Int), .int .i64 (p : Int), .int .i64 (y : Int)], z.oneCell' = true := fun z hz => by simp at hz; rcases hz with rfl | rfl | rfl <;> rfl
      have HY := Lib.hid hy
      clear hsp hqp b5 hr hy
      have hbs : w.heap.size ≤ X.heap.size := b7.size
      have HO : ∀ z : List Value, z = [Value.int .i64 (x : Int), .int .i64 (p : Int), .int .i64 (y : Int)] → lns o ++ z = lns (o ++ [(x, p)]) := fun z hz => by rw [hz, lns_append, ← HY.out]; rfl
      have hor : (q ≤ m' ∧ q = x) ∨ (¬ q ≤ m' ∧ m' = x) := by omega
      rcases hor with ⟨hqm, rfl⟩ | ⟨hqm, rfl⟩
      all_goals
        clear hx hxi
        gi_wp2_with (first | (gi_at_builtin; refine wpListIn_push el_ln rfl (.tmp 30) (.tmp 37) rfl X w.heap.size v o.length (lns o) [Value.int .i64 _, .int .i64 (p : Int), .int .i64 (y : Int)] rfl b4 rfl rfl hone (by omega) (by unfold maxLen; omega) hbs ?_; intro g' c' X1 own1 hgr; have hap := b2.appended (by decide) b4 hbs (by omega) own1 hgr; obtain ⟨d1, d2, d3, d4, d5⟩ := hap; have cB := d1.cell; have fB := d1.frozen; have e1 := ((b1.alloc _).kept hgr (b1.not_row (by decide) b4)).other (B' := w1.heap.size) (by omega) (.slice (some ⟨g', 0, none⟩) (o.length + 1) c'); have e3 := ((b3.alloc _).kept hgr (b3.not_row (by decide) b4)).other (B' := w1.heap.size) (by omega) (.slice (some ⟨g', 0, none⟩) (o.length + 1) c'); have ce := e1.cell; have fe := e1.frozen))
        have hbX3 := b3.lt
        have z1 := d1.lt
        have z2 := e1.lt
        have z3 := e3.lt
        have z4 := ((b3.alloc (.cells #[Value.int .i64 _, .int .i64 (p : Int), .int .i64 (y : Int)] 140)).kept hgr (b3.not_row (by decide) b4)).lt
        refine ⟨(d4.trans (KeepsOthers.setCell _ _ _)).from _, ((((Kp2.grown (World.grownBy_alloc X _ none) hbs b3.lt (fun r e => by cases e)).trans (Kp2.grown hgr (by simp; omega) (by simp; omega) (fun r e => ?_))).trans (Kp2.grown (grownBy_setCell' X1 w1.heap.size _) (by omega) z4 (fun r e => ?_))).trans (Kp2.grown (grownBy_setCell' _ w.heap.size _) (by omega) z3 (fun r e => ?_))), ?_⟩
        · obtain ⟨t1, t2, cs, t3⟩ := own_block b4 r e
          exact ⟨t1, fun e' => b3.not_row (by decide) b4 (by rw [e, e']), cs, _, (Below.heap_alloc X _ r t2).trans t3, by decide⟩
        · cases e
          exact ⟨by omega, by omega, _, _, d1, by decide⟩
        · cases e
          exact ⟨by omega, by omega, _, _, e1, by decide⟩
        · refine ⟨r, o ++ [(_, p)], _, u, e1.set _, d2.other (by omega) _, e3.other (by omega) _, ?_, HB, by omega, (b7.trans d5).setCell (p := ⟨w.heap.size, 0, none⟩) (Nat.le_refl _) _⟩
          have := d3.kept (grownBy_setCell' _ w.heap.size (Value.int .i64 (r : Int))) (.inr (e1.not_row (by decide) d3).symm)
          rw [HO _ rfl] at this
          rw [List.length_append]
          exact this
  · rintro D X hD ⟨m', o, v, u, b1, b2, b3, b4, b5, b6, b7⟩ hDX
    have HO : Hid (o = all) := by show _ = _; have := b5.out; rwa [List.drop_length, show bills [] m' = [] from rfl, List.append_nil] at this
    rw [HO.out] at b4
    have c1 := b2.cell
    have b4' := ownsRow_putObj b4 (.deferred none) hDX rfl
    have b7' := b7.grown (grownBy_putObj' X D (.deferred none)) b7.size (fun k e => by cases e; omega)
    obtain ⟨Av, cv, rfl⟩ := own_slice b4
    clear b5 HO
    gi_wp2
    refine ⟨by simp, .inl ⟨_, _, rfl, run_takeDeferred hDX, ?_⟩⟩
    exact ⟨_, results_tmp2 rfl _ _ _, Av, cv, rfl, b4', b7'⟩
  · rintro D c k X hD hk ⟨rfl, v, b2, b4, b7⟩ hDX
    have c1 := b2.cell
    have b4' := ownsRow_putObj b4 (.deferred none) hDX rfl
    have b7' := b7.grown (grownBy_putObj' X D (.deferred none)) b7.size (fun k e => by cases e; omega)
    obtain ⟨Av, cv, rfl⟩ := own_slice b4
    gi_wp2
    refine ⟨by simp, .inl ⟨_, _, rfl, run_takeDeferred hDX, ?_⟩⟩
    exact ⟨_, results_tmp2 rfl _ _ _, Av, cv, rfl, b4', b7'⟩
end Go.Proofs.Ytnpkondgpmncnaa
