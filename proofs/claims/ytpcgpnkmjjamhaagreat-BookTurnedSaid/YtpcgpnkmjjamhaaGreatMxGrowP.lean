/- Beginnings of a book; a bill that is turned: plain. -/
import Derived.Test.YtpcgpnkmjjamhaaGreatM37
namespace Go.Proofs.YtpcgpnkmjjamhaaGreat
open Go.RowKit
set_option linter.unusedVariables false
theorem custP_s {T : Tm} {c : Cu} {v : Ev} {c2 : Cu} (h : custP T c v = (0, c2)) : ∃ t, c2.s = c.s ++ t := by
 unfold custP at h
 by_cases g : v.k = 5
 · rw [if_pos g] at h
   by_cases g2 : (oweP c.a v.ow v.bp).1 = 0
   · rw [if_pos g2] at h
     injection h with _ h
     subst h
     exact ⟨[], by simp⟩
   · rw [if_neg g2] at h
     injection h with h _; exact absurd h g2
 · rw [if_neg g] at h
   by_cases g2 : (deedP T c.a v).1 = 0
   · rw [if_pos g2] at h
     by_cases g3 : (deedP T c.a v).2.2.same v
     · rw [if_pos g3] at h
       injection h with _ h
       subst h
       exact ⟨_, rfl⟩
     · rw [if_neg g3] at h
       injection h with h _; exact absurd h (by decide)
   · rw [if_neg g2] at h
     injection h with h _; exact absurd h g2
def Grew (B B2 : List Cu) : Prop := B.length ≤ B2.length ∧ ∀ i, i < B.length → ∃ t, (B2.getD i cu0).s = (B.getD i cu0).s ++ t
theorem Grew.refl (B : List Cu) : Grew B B := ⟨Nat.le_refl _, fun i _ => ⟨[], by simp⟩⟩
theorem Grew.trans {B B2 B3 : List Cu} (h : Grew B B2) (k : Grew B2 B3) : Grew B B3 := by
 refine ⟨Nat.le_trans h.1 k.1, fun i hi => ?_⟩
 obtain ⟨t, ht⟩ := h.2 i hi
 obtain ⟨u, hu⟩ := k.2 i (Nat.lt_of_lt_of_le hi h.1)
 exact ⟨t ++ u, by rw [hu, ht, List.append_assoc]⟩
theorem keepE_grew {T : Tm} {B B2 : List Cu} {v : Ev} (h : keepE T B v = (0, B2)) : Grew B B2 ∧ B2.length = B.length + (if v.k = 1 then 1 else 0) := by
 rcases keepE_ne h with ⟨hk, hp, rfl⟩ | ⟨hk, i, hi, hp, hme, hc, rfl⟩
 · rw [if_pos hk]
   refine ⟨⟨by simp, fun j hj => ⟨[], ?_⟩⟩, by simp⟩
   simp only [List.append_nil, List.getD_eq_getElem?_getD, List.getElem?_append_left hj]
 · rw [if_neg hk]
   refine ⟨⟨by simp, fun j hj => ?_⟩, by simp⟩
   by_cases e : j = i
   · subst e
     obtain ⟨t, ht⟩ := custP_s hc
     exact ⟨t, by simp [hi, ht]⟩
   · refine ⟨[], ?_⟩
     simp only [List.append_nil, List.getD_eq_getElem?_getD, List.getElem?_set_ne (Ne.symm e)]
theorem runE_grew {T : Tm} : ∀ (l : List Ev) (B B2 : List Cu), runE T B l = some B2 → Grew B B2 ∧ B2.length = B.length + l.countP (fun v => v.k == 1) := by
 intro l
 induction l with
 | nil => intro B B2 h; simp only [runE, Option.some.injEq] at h; subst h; exact ⟨Grew.refl _, by simp⟩
 | cons v l ih =>
   intro B B2 h
   rw [show v :: l = [v] ++ l from rfl, runE_append] at h
   obtain ⟨B1, h1, h2⟩ := Option.bind_eq_some_iff.1 h
   obtain ⟨g1, g2⟩ := keepE_grew (runE_one.1 h1)
   obtain ⟨g3, g4⟩ := ih B1 B2 h2
   refine ⟨g1.trans g3, ?_⟩
   rw [List.countP_cons, g4, g2]
   by_cases e : v.k = 1
   · simp [e]; omega
   · simp [e]
theorem Shp.begin {T : Tm} {c : List Nat} {L : List Ev} {B : List Cu} {lp : List Pr} {k : Nat} (h : Shp T c L B lp k) (n : Nat) (hn : n ≤ L.length) : ∃ Bn, runE T [] (L.take n) = some Bn ∧ runE T Bn (L.drop n) = some B ∧ Bn.length = min n 3 ∧ Grew Bn B := by
 have hr := h.srv.run
 rw [← List.take_append_drop n L, runE_append] at hr
 obtain ⟨Bn, h1, h2⟩ := Option.bind_eq_some_iff.1 hr
 refine ⟨Bn, h1, h2, ?_, (runE_grew _ _ _ h2).1⟩
 have hc := (runE_grew _ _ _ h1).2
 rw [hc]
 obtain ⟨M, hM, _, hk⟩ := h.evs
 have e0 : ∀ l : List Ev, (∀ v ∈ l, v ∈ M) → l.countP (fun v => v.k == 1) = 0 := by
   intro l hl
   rw [List.countP_eq_zero]
   intro v hv
   simpa using (hk v (hl v hv)).1
 rw [hM]
 match n with
 | 0 => simp
 | 1 => simp [regV]
 | 2 => simp [regV]
 | n + 3 =>
   have e := e0 (M.take n) (fun v hv => List.mem_of_mem_take hv)
   simp [regV, e]
def turned (v : Ev) (x : Nat) : Ev := ⟨v.k, v.me, v.mo, v.id, v.te + x, v.de, v.fe, v.pr + x, v.ch, v.un, v.tg, v.ow, v.bp⟩
theorem turned_ok {v : Ev} {x : Nat} (h : v.ok) (hk : v.k = 2) (ht : v.te ≤ 1000000) (hx : x ≤ 10) : (turned v x).ok := by
 obtain ⟨k, me, mo, id, te, de, fe, pr, ch, un, tg, ow, bp⟩ := v
 unfold turned Ev.ok evOk at *
 dsimp only at *
 obtain ⟨h1, h2, h⟩ := h
 refine ⟨h1, h2, .inr (.inl ?_)⟩
 rcases h with h | h | h | h | h
 · exfalso; have := h.1; omega
 · obtain ⟨a1, a2, a3, a4, a5, a6, a7, a8, a9, a10, a11, a12, a13, a14, a15, a16, a17, a18, a19, a20, a21, a22⟩ := h
   clear hk
   refine ⟨a1, ?_⟩
   omega
 · exfalso; have := h.1; omega
 · exfalso; have := h.1; omega
 · exfalso; have := h.1; omega
theorem sellP_price {T : Tm} {a : Acc} {t m : Nat} {a2 : Acc} {b : Bil} (hT : T.Ok) (ha : a.Ok) (h : sellP T a t m = (0, a2, b)) : b.pr = cost (pcs T.tl (rollP a.month a.bought a.l m).1) b.un := by
 unfold sellP at h
 by_cases g1 : m < a.month
 · rw [if_pos g1] at h; injection h with h _; exact absurd h (by decide)
 · rw [if_neg g1] at h
   dsimp only at h
   have hr := rolled_P (b := a.bought) (l := a.l) (show a.month ≤ m by omega)
   generalize rollP a.month a.bought a.l m = r at h hr ⊢
   obtain ⟨b2, l2⟩ := r
   dsimp only at h hr ⊢
   generalize recov (t * T.db / 10000) l2 = rc at h
   obtain ⟨paid, out⟩ := rc
   dsimp only at h
   generalize T.fx + t * T.fb / 10000 = F at h
   by_cases g2 : t < paid + F
   · rw [if_pos g2] at h; injection h with h _; exact absurd h (by decide)
   · rw [if_neg g2] at h
     generalize hmo : most (pcs T.tl b2) (t - paid - F) 0 0 = mo at h
     obtain ⟨U, P⟩ := mo
     dsimp only at h
     by_cases g3 : U = 0
     · rw [if_pos g3] at h; injection h with h _; exact absurd h (by decide)
     · rw [if_neg g3] at h
       injection h with _ h
       injection h with h h'
       subst h h'
       have a6 := ha.h1.h6
       have hb2 : b2 ≤ 10000000 := by rcases hr with ⟨_, h, _⟩ | ⟨_, h, _⟩ <;> omega
       exact (most_law hT.h1 hb2 hmo).1.symm
theorem turned_no {T : Tm} {B B2 : List Cu} {v : Ev} {n x : Nat} (hT : T.Ok) (hB : BOk T B n) (hx : 1 ≤ x) (hk : v.k = 2) (h : keepE T B v = (0, B2)) : (∃ i, place B (turned v x).me = some i) ∧ (keepE T B (turned v x)).1 ≠ 0 := by
 rcases keepE_ne h with ⟨hk1, _⟩ | ⟨_, i, hi, hp, hme, hc, rfl⟩
 · omega
 · refine ⟨⟨i, hp⟩, ?_⟩
   have ha := (hB.h1 _ (List.getElem_mem hi)).1
   intro h2
   have h2' : keepE T B (turned v x) = (0, (keepE T B (turned v x)).2) := by rw [← h2]
   rcases keepE_ne h2' with ⟨hk1, _⟩ | ⟨_, j, hj, hp2, _, hc2, _⟩
   · have : (turned v x).k = v.k := rfl
     omega
   · have e : i = j := by
       have hp3 : place B (turned v x).me = some i := hp
       rw [hp3] at hp2; injection hp2
     subst e
     generalize B[i] = cu at ha hc hc2
     have hd : ∀ u : Ev, u.k = 2 → custP T cu u = (0, (custP T cu u).2) → ∃ a2 b, sellP T cu.a u.te u.mo = (0, a2, b) ∧ b.same u := by
       intro u hu h
       unfold custP at h
       rw [if_neg (show ¬ u.k = 5 by omega)] at h
       have he : deedP T cu.a u = sellP T cu.a u.te u.mo := by unfold deedP; rw [if_pos hu]
       rw [he] at h
       by_cases g2 : (sellP T cu.a u.te u.mo).1 = 0
       · rw [if_pos g2] at h
         by_cases g3 : (sellP T cu.a u.te u.mo).2.2.same u
         · exact ⟨_, _, by rw [← g2], g3⟩
         · rw [if_neg g3] at h; injection h with h _; exact absurd h (by decide)
       · rw [if_neg g2] at h; injection h with h _; exact absurd h g2
     obtain ⟨a1, b1, s1, m1⟩ := hd v hk hc
     obtain ⟨a2, b2, s2, m2⟩ := hd (turned v x) hk hc2
     have p1 := sellP_price hT ha s1
     have p2 := sellP_price hT ha s2
     obtain ⟨_, _, _, _, q1, _, q2⟩ := m1
     obtain ⟨_, _, _, _, r1, _, r2⟩ := m2
     have e1 : (turned v x).pr = v.pr + x := rfl
     have e2 : (turned v x).un = v.un := rfl
     have e3 : (turned v x).mo = v.mo := rfl
     rw [e3] at p2
     rw [r2, e2, ← q2] at p2
     omega
theorem Shp.turn {T : Tm} {c : List Nat} {L : List Ev} {B : List Cu} {lp : List Pr} {k i x : Nat} (h : Shp T c L B lp k) (hT : T.Ok) (hk : k ≤ 30) (hi : i < L.length) (h2 : L[i].k = 2) (hx1 : 1 ≤ x) (hx : x ≤ 10) :
   ∃ Bi, runE T [] ((L.set i (turned L[i] x)).take i) = some Bi ∧ (∀ v ∈ L.set i (turned L[i] x), v.ok) ∧ (∃ j, place Bi (turned L[i] x).me = some j) ∧ (keepE T Bi (turned L[i] x)).1 ≠ 0 := by
 obtain ⟨Bi, h3, h4, _⟩ := h.begin i (by omega)
 have hlens := h.lens
 have hB : BOk T Bi i := by
   have := runE_bok hT (L.take i) [] Bi 0 (bok_nil T) (by simp; omega) (fun v hv => h.srv.ok v (List.mem_of_mem_take hv)) h3
   rwa [List.length_take, Nat.min_eq_left (by omega), Nat.zero_add] at this
 rw [← List.getElem_cons_drop hi, show L[i] :: L.drop (i + 1) = [L[i]] ++ L.drop (i + 1) from rfl, runE_append] at h4
 obtain ⟨B1, h5, _⟩ := Option.bind_eq_some_iff.1 h4
 obtain ⟨t1, t2⟩ := turned_no (x := x) hT hB hx1 h2 (runE_one.1 h5)
 have hte : L[i].te ≤ 1000000 := by
   obtain ⟨M, hM, _, hMk⟩ := h.evs
   have hm : L[i] ∈ L := List.getElem_mem hi
   generalize L[i] = v at hm h2 ⊢
   rw [hM] at hm
   rcases List.mem_append.1 hm with hm | hm
   · simp only [List.mem_cons, List.not_mem_nil, or_false] at hm
     rcases hm with rfl | rfl | rfl <;> simp [regV]
   · exact (hMk v hm).2
 refine ⟨Bi, by rw [List.take_set_of_le (Nat.le_refl _)]; exact h3, fun v hv => ?_, t1, t2⟩
 rcases List.mem_or_eq_of_mem_set hv with hv | rfl
 · exact h.srv.ok v hv
 · exact turned_ok (h.srv.ok _ (List.getElem_mem hi)) h2 hte hx
end Go.Proofs.YtpcgpnkmjjamhaaGreat
