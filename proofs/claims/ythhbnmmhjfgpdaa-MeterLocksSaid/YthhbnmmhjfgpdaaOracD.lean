/- Oracles: plain. -/
import Derived.Test.YthhbnmmhjfgpdaaKey
namespace Go.Proofs.Ythhbnmmhjfgpdaa
open Go.RowKit Go.Maps Go.ChangeShapes Go.WideShapes
/-- A pair: meter, revision, body, tag. -/
abbrev Pr := Int × Int × Int × Int
def keyP (p : Pr) : Int × Int × Int := (p.1, p.2.1, p.2.2.1)
def wfP (p : Pr) : Prop := wf3 p.1 p.2.1 p.2.2.1 ∧ (Lit.int .i64 p.2.2.2).wf = true
def mayK (k : Int × Int × Int) : Prop := 0 ≤ k.1 ∧ k.1 < 50 ∧ 0 ≤ k.2.1 ∧ k.2.1 ≤ 15 ∧ 0 ≤ k.2.2 ∧ k.2.2 ≤ 8796093022207
def okP (p : Pr) : Prop := mayK (keyP p) ∧ 0 ≤ p.2.2.2 ∧ p.2.2.2 ≤ 65535
/-- Such an oracle may be. -/
def OOk (l : List Pr) : Prop := l.length ≤ 500 ∧ (∀ p ∈ l, okP p) ∧ (l.map keyP).Nodup
/-- The tag that was given. -/
def look (l : List Pr) (k : Int × Int × Int) : Option Int := (l.find? (fun p => keyP p == k)).map fun p => p.2.2.2
theorem look_snoc (l : List Pr) (p : Pr) (k : Int × Int × Int) : look (l ++ [p]) k = (look l k).or (if keyP p = k then some p.2.2.2 else none) := by
  unfold look
  rw [List.find?_append]
  cases l.find? (fun p => keyP p == k) with
  | some q => rfl
  | none =>
    by_cases h : keyP p = k
    · simp [h]
    · simp [h]
theorem look_none {l : List Pr} {k : Int × Int × Int} : look l k = none ↔ k ∉ l.map keyP := by
  unfold look
  rw [Option.map_eq_none_iff, List.find?_eq_none, List.mem_map]
  constructor
  · rintro h ⟨p, hp, rfl⟩
    exact h p hp (by simp)
  · intro h p hp hk
    exact h ⟨p, hp, by simpa using hk⟩
theorem look_some_mem {l : List Pr} {k : Int × Int × Int} {t : Int} (h : look l k = some t) : ∃ p ∈ l, keyP p = k ∧ p.2.2.2 = t := by
  unfold look at h
  rw [Option.map_eq_some_iff] at h
  obtain ⟨p, hp, rfl⟩ := h
  exact ⟨p, List.mem_of_find?_eq_some hp, by simpa using List.find?_some hp, rfl⟩
theorem ook_snoc {l : List Pr} {p : Pr} (h : OOk l) (hp : okP p) (hl : l.length < 500) (hn : look l (keyP p) = none) : OOk (l ++ [p]) := by
  obtain ⟨h1, h2, h3⟩ := h
  refine ⟨by simp; omega, fun q hq => ?_, ?_⟩
  · rcases List.mem_append.1 hq with h | h
    · exact h2 q h
    · simp at h; subst h; exact hp
  · rw [List.map_append, List.nodup_append]
    refine ⟨h3, by simp, ?_⟩
    intro a ha b hb
    simp at hb
    subst hb
    intro h
    subst h
    exact look_none.1 hn ha
theorem ook_take {l : List Pr} (h : OOk l) (k : Nat) : OOk (l.take k) := by
  obtain ⟨h1, h2, h3⟩ := h
  exact ⟨by rw [List.length_take]; omega, fun p hp => h2 p (List.mem_of_mem_take hp), by rw [List.map_take]; exact h3.sublist (List.take_sublist _ _)⟩
theorem ook_next {l : List Pr} {k : Nat} (h : OOk l) (hk : k < l.length) : look (l.take k) (keyP l[k]) = none := by
  have h1 := (ook_take h (k + 1)).2.2
  rw [List.take_succ_eq_append_getElem hk, List.map_append, List.nodup_append] at h1
  rw [look_none]
  intro hm
  exact h1.2.2 _ hm (keyP l[k]) (by simp) rfl
/-- The cells of pairs. -/
def prs (l : List Pr) : List Value := l.flatMap fun (p : Pr) => [Value.int .i64 p.1, .int .i64 p.2.1, .int .i64 p.2.2.1, .int .i64 p.2.2.2]
theorem prs_length (l : List Pr) : (prs l).length = l.length * 4 := by
  induction l with
  | nil => rfl
  | cons p l ih =>
    show ([Value.int .i64 p.1, .int .i64 p.2.1, .int .i64 p.2.2.1, .int .i64 p.2.2.2] ++ prs l).length = _
    rw [List.length_append, ih]; simp only [List.length_cons, List.length_nil]; omega
theorem prs_get {l : List Pr} {i : Nat} (h : i < l.length) : (prs l)[i * 4]? = some (.int .i64 l[i].1) ∧ (prs l)[i * 4 + 1]? = some (.int .i64 l[i].2.1) ∧ (prs l)[i * 4 + 2]? = some (.int .i64 l[i].2.2.1) ∧ (prs l)[i * 4 + 3]? = some (.int .i64 l[i].2.2.2) := by
  induction l generalizing i with
  | nil => simp at h
  | cons p l ih =>
    cases i with
    | zero => exact ⟨rfl, rfl, rfl, rfl⟩
    | succ i =>
      have := ih (i := i) (by simp at h; omega)
      simp only [List.getElem_cons_succ]
      rw [Nat.succ_mul]
      exact this
theorem prs_append (a b : List Pr) : prs (a ++ b) = prs a ++ prs b := by simp [prs]
theorem prs_one (l : List Pr) : ∀ u ∈ prs l, u.oneCell' = true := by
  intro u hu
  obtain ⟨p, _, hp⟩ := List.mem_flatMap.1 hu
  simp at hp
  rcases hp with rfl | rfl | rfl | rfl <;> rfl
/-- The value is a slice that reads as these pairs. -/
def IsPs (w : World) (v : Value) (l : List Pr) : Prop :=
  ∃ (A : Option Addr) (c : Nat), v = .slice A l.length c ∧ l.length ≤ c ∧ c ≤ maxLen ∧ (∀ p ∈ l, wfP p) ∧ Rd w w.heap.size 4 A l.length (prs l)
theorem IsPs.below {w w' : World} {v : Value} {l : List Pr} (h : IsPs w v l) (hb : Below w.heap.size w w') : IsPs w' v l := by
  obtain ⟨A, c, h1, h2, h3, h4, h5⟩ := h
  exact ⟨A, c, h1, h2, h3, h4, (h5.below hb).more hb.size⟩
theorem isps_nil (w : World) : IsPs w (.slice none 0 0) [] := ⟨none, 0, rfl, Nat.le_refl _, Nat.zero_le _, by simp, Rd.nil_⟩
theorem isps_own {w : World} {base e : Nat} {A : Option Addr} {n c : Nat} {l : List Pr} (hn : l.length = n) (hw : ∀ p ∈ l, wfP p) (h : w.ownsRow base e 4 (.slice A n c) n (prs l)) : IsPs w (.slice A n c) l := by
  subst hn
  exact ⟨A, c, rfl, (own_cap h).1, (own_cap h).2, hw, Rd.of_own h⟩
theorem IsPs.at_ {w : World} {A : Option Addr} {n c : Nat} {l : List Pr} (h : IsPs w (.slice A n c) l) {k : Nat} (hk : k < l.length) :
    ∃ b off, A = some ⟨b, off, none⟩ ∧ b < w.heap.size ∧ w.cell? ⟨b, off + k * 4, none⟩ = some (.int .i64 l[k].1) ∧ w.cell? ⟨b, off + k * 4 + 1, none⟩ = some (.int .i64 l[k].2.1) ∧ w.cell? ⟨b, off + k * 4 + 2, none⟩ = some (.int .i64 l[k].2.2.1) ∧ w.cell? ⟨b, off + k * 4 + 3, none⟩ = some (.int .i64 l[k].2.2.2) := by
  obtain ⟨A', c', e, _, _, _, hr⟩ := h
  injection e with e1 e2
  subst e1
  obtain ⟨b, off, rfl, hB, hc⟩ := hr.at_ (by omega)
  have g := prs_get hk
  exact ⟨b, off, rfl, hB, hc _ _ g.1, hc (k * 4 + 1) _ g.2.1, hc (k * 4 + 2) _ g.2.2.1, hc (k * 4 + 3) _ g.2.2.2⟩
/-- The map tells the tags of these pairs. -/
def MapIs (D : DataW Unit) (l : List Pr) : Prop :=
  IsMap D ∧ ∀ a b c : Int, wf3 a b c → has D (kl a b c) = (look l (a, b, c)).isSome ∧ D.atKey (kl a b c) (.lit (.int .i64 0)) = .lit (.int .i64 ((look l (a, b, c)).getD 0))
theorem mapIs_nil : MapIs (.map []) [] := ⟨isMap_empty, fun _ _ _ _ => ⟨rfl, rfl⟩⟩
theorem mapIs_put {D : DataW Unit} {l : List Pr} {p : Pr} (h : MapIs D l) (hw : wfP p) (hn : look l (keyP p) = none) : MapIs (D.put (kl p.1 p.2.1 p.2.2.1) (.lit (.int .i64 p.2.2.2))) (l ++ [p]) := by
  obtain ⟨h1, h2⟩ := h
  refine ⟨h1.put _ _, fun a b c hk => ?_⟩
  rw [look_snoc]
  by_cases e : keyP p = (a, b, c)
  · have e2 := e
    unfold keyP at e2
    injection e2 with ea e2
    injection e2 with eb ec
    rw [if_pos e, ← e, hn, ← ea, ← eb, ← ec]
    exact ⟨has_put_same h1 (kl_lit _ _ _) _, atKey_put_same h1 (kl_lit _ _ _) _ _⟩
  · have hne : kl a b c ≠ kl p.1 p.2.1 p.2.2.1 := fun h => by
      obtain ⟨ea, eb, ec⟩ := kl_inj hk hw.1 h
      exact e (by unfold keyP; rw [ea, eb, ec])
    rw [if_neg e, has_put_other hne, atKey_put_other hne, Option.or_none]
    exact h2 a b c hk
theorem map_below {H : Type} {P : Program} {k : TypeId} {R : Value → Option (DataW H × List MemPlace)} {b n : Nat} {D : DataW H} {w w' : World} (h : w.ownsMap P k R b n D) (hb : Below w.heap.size w w') : w'.ownsMap P k R b n D := by
  obtain ⟨es, clock, h1, h2⟩ := h
  have hlt : b < w.heap.size := by
    rcases Nat.lt_or_ge b w.heap.size with h | h
    · exact h
    · rw [Array.getElem?_eq_none h] at h1; cases h1
  exact ⟨es, clock, (hb.block b hlt).trans h1, h2⟩
end Go.Proofs.Ythhbnmmhjfgpdaa
