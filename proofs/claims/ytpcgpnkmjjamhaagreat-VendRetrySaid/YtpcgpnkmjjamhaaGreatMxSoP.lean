/- Tokens that were sold may be: plain. -/
import Derived.Test.YtpcgpnkmjjamhaaGreatM37
namespace Go.Proofs.YtpcgpnkmjjamhaaGreat
open Go.RowKit
set_option linter.unusedVariables false
def SoOk (B : List Cu) : Prop := ∀ c ∈ B, ∀ s ∈ c.s, TkOk s.cls s.id s.am s.tag
theorem soldP_ok {T : Tm} {a : Acc} {v : Ev} (hT : T.Ok) (ha : a.Ok) (hn : a.next ≤ 1048575) (hv : v.ok) (h1 : v.k ≠ 1) (h5 : v.k ≠ 5) (h : (deedP T a v).1 = 0) : TkOk (soldP a.rev v (deedP T a v).2.1).cls (soldP a.rev v (deedP T a v).2.1).id (soldP a.rev v (deedP T a v).2.1).am (soldP a.rev v (deedP T a v).2.1).tag := by
 have hb := hv.bds
 have hvk : 1 ≤ v.id ∧ v.id ≤ 1048575 ∧ (v.k ≠ 4 → 1 ≤ v.un) := by
   have := hv
   unfold Ev.ok evOk at this
   omega
 unfold soldP
 by_cases g : v.k = 4
 · rw [if_pos g]
   have hd : deedP T a v = rekeyP a := by unfold deedP; rw [if_neg (by omega), if_neg (by omega)]
   rw [hd] at h ⊢
   have e : rekeyP a = (0, (rekeyP a).2.1, (rekeyP a).2.2) := by rw [← h]
   obtain ⟨e1, _, e3⟩ := rekeyP_ne e
   have h2 := ha.h1.h2
   rw [e1]
   dsimp only
   exact ⟨by omega, by omega, by omega, .inr (.inr (.inl ⟨rfl, by omega, by omega⟩)), by omega⟩
 · rw [if_neg g]
   dsimp only
   exact ⟨by omega, by omega, by omega, .inl ⟨rfl, by omega, by omega⟩, by omega⟩
theorem keepE_so {T : Tm} {B B2 : List Cu} {v : Ev} {n : Nat} (hT : T.Ok) (hB : BOk T B n) (hn : n ≤ 1000) (hv : v.ok) (h : keepE T B v = (0, B2)) (hN : SoOk B) : SoOk B2 := by
 rcases keepE_ne h with ⟨_, hp, rfl⟩ | ⟨hk1, i, hi, hp, hme, hc, rfl⟩
 · intro c hc s hs
   rcases List.mem_append.1 hc with hc | hc
   · exact hN c hc s hs
   · obtain rfl := List.mem_singleton.1 hc
     simp at hs
 · have hmem : B[i] ∈ B := List.getElem_mem hi
   have hs := hB.sold hmem
   have hao := hB.h1 _ hmem
   intro c hc' s hs'
   rcases List.mem_or_eq_of_mem_set hc' with hc' | rfl
   · exact hN c hc' s hs'
   · have hold := hN _ hmem
     generalize B[i] = c at hs hao hc hold hs'
     unfold custP at hc hs'
     by_cases g : v.k = 5
     · rw [if_pos g] at hc hs'
       by_cases g2 : (oweP c.a v.ow v.bp).1 = 0
       · rw [if_pos g2] at hs'; exact hold s hs'
       · rw [if_neg g2] at hc; injection hc with h _; exact absurd h g2
     · rw [if_neg g] at hc hs'
       by_cases g2 : (deedP T c.a v).1 = 0
       · rw [if_pos g2] at hc hs'
         by_cases g3 : (deedP T c.a v).2.2.same v
         · rw [if_pos g3] at hs'
           rcases List.mem_append.1 hs' with h | h
           · exact hold s h
           · obtain rfl := List.mem_singleton.1 h
             exact soldP_ok hT hao.1 (by omega) hv hk1 g g2
         · rw [if_neg g3] at hc; injection hc with h _; exact absurd h (by decide)
       · rw [if_neg g2] at hc; injection hc with h _; exact absurd h g2
theorem runE_so {T : Tm} (hT : T.Ok) : ∀ (l : List Ev) (B B2 : List Cu) (n : Nat), BOk T B n → n + l.length ≤ 1000 → (∀ v ∈ l, v.ok) → SoOk B → runE T B l = some B2 → SoOk B2 := by
 intro l
 induction l with
 | nil => intro B B2 n hB _ _ hN h; simp only [runE, Option.some.injEq] at h; subst h; exact hN
 | cons v l ih =>
   intro B B2 n hB hn hv hN h
   rw [show v :: l = [v] ++ l from rfl, runE_append] at h
   obtain ⟨B1, h1, h2⟩ := Option.bind_eq_some_iff.1 h
   have hk := runE_one.1 h1
   have hB1 := keepE_bok hT hB (by simp only [List.length_cons] at hn; omega) (hv v (by simp)) hk
   have hN1 := keepE_so hT hB (by simp only [List.length_cons] at hn; omega) (hv v (by simp)) hk hN
   exact ih B1 B2 (n + 1) hB1 (by simp only [List.length_cons] at hn; omega) (fun u hu => hv u (by simp [hu])) hN1 h2
theorem Srv.so {T : Tm} {c : List Nat} {L : List Ev} {B : List Cu} (hT : T.Ok) (hS : Srv T c L B) : SoOk B :=
 runE_so hT L [] B 0 (bok_nil T) (by have := hS.len; omega) hS.ok (fun c hc => by simp at hc) hS.run
def findS (l : List So) (id : Nat) : Option So := l.find? fun s => s.id == id
theorem findS_num {l : List So} (h : ∀ k (hk : k < l.length), (l[k]'hk).id = k + 1) (id : Nat) : findS l id = if hi : 1 ≤ id ∧ id ≤ l.length then some (l[id - 1]'(by omega)) else none := by
 unfold findS
 by_cases hi : 1 ≤ id ∧ id ≤ l.length
 · rw [dif_pos hi, List.find?_eq_some_iff_getElem]
   refine ⟨by have := h (id - 1) (by omega); simp; omega, id - 1, by omega, rfl, fun j hj => ?_⟩
   have := h j (by omega)
   simp; omega
 · rw [dif_neg hi, List.find?_eq_none]
   intro s hs
   obtain ⟨j, hj, rfl⟩ := List.getElem_of_mem hs
   have := h j hj
   simp; omega
end Go.Proofs.YtpcgpnkmjjamhaaGreat
