/- A meter in its words: plain. disk: Append, Replay; put. Slices of slices of words. tape: records one behind the other. sameRecords. disk: Replay. Fields of wide numbers: plain. asked; Issue whatever was there. -/
import Derived.Test.YtopnlkhepjbjkaaDoorG2
import Derived.Test.YtopnlkhepjbjkaaDoorG6
import Derived.Test.YtopnlkhepjbjkaaDoorG7
import Derived.Test.YtopnlkhepjbjkaaDoorG5
import Derived.Deep.RegionLaw
import Derived.Test.YtopnlkhepjbjkaaDoorG9
import Derived.Laws.BitsAllLaws
import Derived.Test.YtopnlkhepjbjkaaDoorG10
import Derived.Test.YtopnlkhepjbjkaaDoorG1
import Derived.StillTailTactics
namespace Go.Proofs.YtopnlkhepjbjkaaDoor
open Go.RowKit
set_option linter.unusedVariables false
theorem may_of {me rev cr H B bad lock : Nat} (h1 : me < 50) (h2 : rev ≤ 15) (h3 : cr ≤ 99999999) (h4 : bad < 5) (h5 : lock ≤ 30) (h6 : ¬ (0 < bad ∧ 0 < lock)) (hW : WMay H B) : mmay me rev cr H B bad lock = true := by
  unfold mmay
  rw [if_pos (by unfold may1; omega), if_pos (by unfold may2; omega)]
  exact wmayB_of hW
/-- What a meter that may be is. -/
theorem may_bounds {me rev cr H B bad lock : Nat} (hB : B < 2 ^ 64) (h : mmay me rev cr H B bad lock = true) : me < 50 ∧ rev ≤ 15 ∧ cr ≤ 99999999 ∧ bad < 5 ∧ lock ≤ 30 ∧ ¬ (0 < bad ∧ 0 < lock) ∧ WMay H B := by
  obtain ⟨⟨a1, a2, a3, a4, a5, a6⟩, ⟨b1, b2, b3, b4, b5⟩, H', hH', hW⟩ := mmay_bd hB h
  obtain rfl : H = H' := by omega
  exact ⟨by omega, by omega, by omega, by omega, by omega, fun h => b5 ⟨by omega, by omega⟩, hW⟩
/-- A key leaves a meter that may be. -/
theorem keyS_may {l : List Pr} {me rev cr H B bad lock cls id am tag r2 c2 h2 b2 d2 k2 ad E : Nat} (hB : B < 2 ^ 64) (hm : mmay me rev cr H B bad lock = true) (hk : TkOk cls id am tag) (h : keyS l me rev cr H B bad lock cls id am tag = (r2, c2, h2, b2, d2, k2, ad, E)) : mmay me r2 c2 h2 b2 d2 k2 = true ∧ b2 < 2 ^ 64 := by
  obtain ⟨a1, a2, a3, a4, a5, a6, hW⟩ := may_bounds hB hm
  suffices hs : (r2 ≤ 15 ∧ c2 ≤ 99999999 ∧ d2 < 5 ∧ k2 ≤ 30 ∧ ¬ (0 < d2 ∧ 0 < k2)) ∧ WMay h2 b2 by
    exact ⟨may_of a1 hs.1.1 hs.1.2.1 hs.1.2.2.1 hs.1.2.2.2.1 hs.1.2.2.2.2 hs.2, hs.2.lt⟩
  have kill : ∀ {a b c d e f g i : Nat}, (a, b, c, d, e, f, g, i) = (r2, c2, h2, b2, d2, k2, ad, E) → a = r2 ∧ b = c2 ∧ c = h2 ∧ d = b2 ∧ e = d2 ∧ f = k2 ∧ g = ad ∧ i = E := fun h => by
    injection h with f1 h; injection h with f2 h; injection h with f3 h; injection h with f4 h; injection h with f5 h; injection h with f6 h; injection h with f7 f8
    exact ⟨f1, f2, f3, f4, f5, f6, f7, f8⟩
  have k4 := hk.h4
  unfold keyS at h
  by_cases g1 : 0 < lock
  · rw [if_pos g1] at h
    (try dsimp only at h)
    obtain ⟨rfl, rfl, rfl, rfl, rfl, rfl, _, _⟩ := kill h
    exact ⟨by omega, hW⟩
  · rw [if_neg g1] at h
    by_cases g2 : cls = 3
    · rw [if_pos g2] at h
      (try dsimp only at h)
      obtain ⟨rfl, rfl, rfl, rfl, rfl, rfl, _, _⟩ := kill h
      exact ⟨by omega, hW⟩
    · rw [if_neg g2] at h
      generalize soldE l me (tbody cls id am) rev tag (rev + 1) = Es at *
      by_cases g3 : Es = 0
      · rw [if_pos g3] at h
        unfold takeS at h
        by_cases g4 : judge H B id ≠ 0
        · rw [if_pos g4] at h
          (try dsimp only at h)
          obtain ⟨rfl, rfl, rfl, rfl, rfl, rfl, _, _⟩ := kill h
          exact ⟨by omega, hW⟩
        · rw [if_neg g4] at h
          have hT := take_may hW hk.h2 hk.h3 (Decidable.byContradiction g4)
          by_cases g5 : cls = 0
          · rw [if_pos g5] at h
            by_cases g6 : 99999999 < cr + am
            · rw [if_pos g6] at h
              (try dsimp only at h)
              obtain ⟨rfl, rfl, rfl, rfl, rfl, rfl, _, _⟩ := kill h
              exact ⟨by omega, hW⟩
            · rw [if_neg g6] at h
              (try dsimp only at h)
              obtain ⟨rfl, rfl, rfl, rfl, rfl, rfl, _, _⟩ := kill h
              exact ⟨by omega, hT⟩
          · rw [if_neg g5] at h
            by_cases g6 : cls = 1
            · rw [if_pos g6] at h
              (try dsimp only at h)
              obtain ⟨rfl, rfl, rfl, rfl, rfl, rfl, _, _⟩ := kill h
              exact ⟨by omega, hT⟩
            · rw [if_neg g6] at h
              by_cases g7 : am ≤ rev
              · rw [if_pos g7] at h
                (try dsimp only at h)
                obtain ⟨rfl, rfl, rfl, rfl, rfl, rfl, _, _⟩ := kill h
                exact ⟨by omega, hW⟩
              · rw [if_neg g7] at h
                (try dsimp only at h)
                obtain ⟨rfl, rfl, rfl, rfl, rfl, rfl, _, _⟩ := kill h
                exact ⟨by omega, hT⟩
      · rw [if_neg g3] at h
        unfold badS at h
        by_cases g4 : Es = 12
        · rw [if_pos g4] at h
          by_cases g5 : bad + 1 = 5
          · rw [if_pos g5] at h
            (try dsimp only at h)
            obtain ⟨rfl, rfl, rfl, rfl, rfl, rfl, _, _⟩ := kill h
            exact ⟨by omega, hW⟩
          · rw [if_neg g5] at h
            (try dsimp only at h)
            obtain ⟨rfl, rfl, rfl, rfl, rfl, rfl, _, _⟩ := kill h
            exact ⟨by omega, hW⟩
        · rw [if_neg g4] at h
          (try dsimp only at h)
          obtain ⟨rfl, rfl, rfl, rfl, rfl, rfl, _, _⟩ := kill h
          exact ⟨by omega, hW⟩
/-- Where nothing was sold. -/
theorem keyS_nil {me rev cr H B bad lock cls id am tag : Nat} : (keyS [] me rev cr H B bad lock cls id am tag = (rev, cr, H, B, bad, lock, 0, 10)) ∨ (keyS [] me rev cr H B bad lock cls id am tag = (rev, cr, H, B, bad, lock, 0, 0)) ∨ (keyS [] me rev cr H B bad lock cls id am tag = (rev, cr, H, B, (badS 12 bad lock).1, (badS 12 bad lock).2, 0, 12) ∧ ¬ ((badS 12 bad lock).1 = bad ∧ (badS 12 bad lock).2 = lock) ∧ lock = 0) := by
  unfold keyS
  by_cases g1 : 0 < lock
  · rw [if_pos g1]; exact .inl rfl
  · rw [if_neg g1]
    by_cases g2 : cls = 3
    · rw [if_pos g2]; exact .inr (.inl rfl)
    · rw [if_neg g2]
      have hE : soldE [] me (tbody cls id am) rev tag (rev + 1) = 12 := soldE_none fun r _ => by
        show (none : Option Int) ≠ _
        intro h; cases h
      rw [hE, if_neg (by decide)]
      refine .inr (.inr ⟨rfl, ?_, by omega⟩)
      unfold badS
      rw [if_pos rfl]
      by_cases g3 : bad + 1 = 5
      · rw [if_pos g3]; intro h; have := h.2; dsimp only at this; omega
      · rw [if_neg g3]; intro h; have := h.1; dsimp only at this; omega
theorem badS_ok {bad lock : Nat} (h1 : bad < 5) (h2 : lock = 0) : (badS 12 bad lock).1 < 5 ∧ (badS 12 bad lock).2 ≤ 30 ∧ ¬ (0 < (badS 12 bad lock).1 ∧ 0 < (badS 12 bad lock).2) := by
  unfold badS
  rw [if_pos rfl]
  by_cases g3 : bad + 1 = 5
  · rw [if_pos g3]; dsimp only; omega
  · rw [if_neg g3]; dsimp only; omega
theorem mws_len (me rev cr H b bad lock : Nat) : (mws me rev cr H b bad lock).length = 5 := rfl
/-- The words tell the meter. -/
theorem mws_back {me rev cr H b bad lock : Nat} (hb : b < 2 ^ 64) (hm : mmay me rev cr H b bad lock = true) : (lock * 16777216 + bad * 65536 + rev * 256 + me) % 256 = me ∧ (lock * 16777216 + bad * 65536 + rev * 256 + me) / 256 % 256 = rev ∧ (lock * 16777216 + bad * 65536 + rev * 256 + me) / 65536 % 256 = bad ∧ (lock * 16777216 + bad * 65536 + rev * 256 + me) / 16777216 % 256 = lock ∧ b % 4294967296 + b / 4294967296 * 4294967296 = b := by
  obtain ⟨a1, a2, a3, a4, a5, a6, hW⟩ := may_bounds hb hm
  refine ⟨by omega, by omega, by omega, by omega, by omega⟩
/-- The words of a new meter: the first slot holds it. -/
theorem make_sl (r : List Nat) (n : Nat) (h : r.length = n) : IsSl ((1 :: r) ++ (0 :: List.replicate n 0)) n r 0 :=
  ⟨1, r, 0, List.replicate n 0, rfl, h, List.length_replicate, rfl, by omega, by rw [if_pos rfl]⟩
/-- The writes, all of them. -/
theorem sl_all {C : List Nat} {n : Nat} {old rec : List Nat} {s : Nat} (h : IsSl C n old s) (hr : rec.length = n) : IsSl (applyW C (slW C n rec s)) n rec (1 - s) := (sl_store h hr).2
end Go.Proofs.YtopnlkhepjbjkaaDoor
namespace Go.Proofs.YtopnlkhepjbjkaaDoor
open Go.RowKit
/-- Writes, and no error. -/
def RetWrOk (l : List (Nat × Nat)) (w : World) (e : Ending) (w' : World) : Prop := ∃ v, e = .returned (.tuple #[v, .int .i64 0]) ∧ IsWr w' v l ∧ Below w.heap.size w w'
theorem wr_info : (Tryd.prog.info? 69).map (fun i => (i.zero, i.size, i.bytes)) = some (some (.agg #[.int .i64 0, .int .u32 0]), 2, 16) := by kernel_rfl
theorem el_wr : Elem Tryd.prog 28 69 2 16 := elem_of Tryd.underlying28 wr_info rfl (by omega)
/-- Writes in a row that the call has made, and no error. -/
def RetWrOwn (l : List (Nat × Nat)) (w : World) (e : Ending) (w' : World) : Prop :=
  ∃ A c, e = .returned (.tuple #[.slice A l.length c, .int .i64 0]) ∧ (∀ p ∈ l, p.2 < 4294967296) ∧ w'.ownsRow w.heap.size 69 2 (.slice A l.length c) l.length (wrs l) ∧ Below w.heap.size w w'
theorem RetWrOwn.is {l : List (Nat × Nat)} {w : World} {e : Ending} {w' : World} (h : RetWrOwn l w e w') : RetWrOk l w e w' := by
  obtain ⟨A, c, h1, h2, h3, h4⟩ := h
  exact ⟨_, h1, iswr_own rfl h2 h3, h4⟩
theorem wrs_snoc (l : List (Nat × Nat)) (a x : Nat) : wrs l ++ [.int .i64 a, .int .u32 x] = wrs (l ++ [(a, x)]) := by rw [wrs_append]; rfl
theorem one2 (a b : Value) (ha : a.oneCell' = true) (hb : b.oneCell' = true) : ∀ u ∈ [a, b], u.oneCell' = true := fun u hu => by
  simp at hu; rcases hu with rfl | rfl <;> assumption
end Go.Proofs.YtopnlkhepjbjkaaDoor
namespace Go.Proofs.YtopnlkhepjbjkaaDoor
open Go.RowKit
/-- These values read, one by one, as these records. -/
def IsRs (w : World) (vs : List Value) (l : List (List Nat)) : Prop := vs.length = l.length ∧ ∀ i (h : i < l.length), ∃ v, vs[i]? = some v ∧ IsWs w v l[i]
theorem IsRs.below {w w' : World} {vs : List Value} {l : List (List Nat)} (h : IsRs w vs l) (hb : Below w.heap.size w w') : IsRs w' vs l :=
  ⟨h.1, fun i hi => by obtain ⟨v, h1, h2⟩ := h.2 i hi; exact ⟨v, h1, h2.below hb⟩⟩
theorem isrs_nil (w : World) : IsRs w [] [] := ⟨rfl, fun i hi => by simp at hi⟩
theorem IsRs.snoc {w : World} {vs : List Value} {l : List (List Nat)} {v : Value} {r : List Nat} (h : IsRs w vs l) (hv : IsWs w v r) : IsRs w (vs ++ [v]) (l ++ [r]) := by
  refine ⟨by simp [h.1], fun i hi => ?_⟩
  by_cases hl : i < l.length
  · obtain ⟨u, h1, h2⟩ := h.2 i hl
    refine ⟨u, by rw [List.getElem?_append_left (by rw [h.1]; exact hl)]; exact h1, ?_⟩
    rw [List.getElem_append_left hl]; exact h2
  · obtain rfl : i = l.length := by simp at hi; omega
    refine ⟨v, by rw [List.getElem?_append_right (by rw [h.1]; exact Nat.le_refl _), h.1, Nat.sub_self]; rfl, ?_⟩
    rw [List.getElem_append_right (Nat.le_refl _)]
    simpa using hv
theorem IsWs.one {w : World} {v : Value} {r : List Nat} (h : IsWs w v r) : v.oneCell' = true := by
  obtain ⟨A, c, rfl, _⟩ := h; rfl
/-- The value is a slice that reads as these records. -/
def IsRr (w : World) (v : Value) (l : List (List Nat)) : Prop :=
  ∃ (A : Option Addr) (c : Nat) (vs : List Value), v = .slice A l.length c ∧ l.length ≤ c ∧ c ≤ maxLen ∧ Rd w w.heap.size 1 A l.length vs ∧ IsRs w vs l
theorem IsRr.below {w w' : World} {v : Value} {l : List (List Nat)} (h : IsRr w v l) (hb : Below w.heap.size w w') : IsRr w' v l := by
  obtain ⟨A, c, vs, h1, h2, h3, h4, h5⟩ := h
  exact ⟨A, c, vs, h1, h2, h3, (h4.below hb).more hb.size, h5.below hb⟩
theorem IsRr.at_ {w : World} {A : Option Addr} {n c : Nat} {l : List (List Nat)} (h : IsRr w (.slice A n c) l) {k : Nat} (hk : k < l.length) :
    ∃ b off v, A = some ⟨b, off, none⟩ ∧ b < w.heap.size ∧ w.cell? ⟨b, off + k, none⟩ = some v ∧ IsWs w v l[k] := by
  obtain ⟨A', c', vs, e, _, _, hr, hs⟩ := h
  injection e with e1 e2
  subst e1
  obtain ⟨b, off, rfl, hB, hc⟩ := hr.at_ (by omega)
  obtain ⟨v, h1, h2⟩ := hs.2 k hk
  exact ⟨b, off, v, rfl, hB, hc _ _ h1, h2⟩
theorem isrr_own {w : World} {base e : Nat} {A : Option Addr} {n c : Nat} {l : List (List Nat)} {vs : List Value} (hn : l.length = n) (h : w.ownsRow base e 1 (.slice A n c) n vs) (hs : IsRs w vs l) : IsRr w (.slice A n c) l := by
  subst hn
  exact ⟨A, c, vs, rfl, (own_cap h).1, (own_cap h).2, Rd.of_own h, hs⟩
end Go.Proofs.YtopnlkhepjbjkaaDoor
namespace Go.Proofs.YtopnlkhepjbjkaaDoor
open Go.RowKit
/-- A row of words that some call owns. -/
def OwnWs (w : World) (e : TypeId) (v : Value) (xs : List Nat) : Prop := w.ownsRow 0 e 1 v xs.length (ws xs) ∧ ∀ x ∈ xs, x < 4294967296
theorem OwnWs.is {w : World} {e : TypeId} {v : Value} {xs : List Nat} (h : OwnWs w e v xs) : IsWs w v xs := by
  obtain ⟨A, c, rfl⟩ := own_slice h.1
  exact isws_own rfl h.2 h.1
theorem own_ne_type {w : World} {b1 b2 e1 e2 s1 s2 n1 n2 : Nat} {v1 v2 : Value} {xs1 xs2 : List Value} (h1 : w.ownsRow b1 e1 s1 v1 n1 xs1) (h2 : w.ownsRow b2 e2 s2 v2 n2 xs2) (hne : e1 ≠ e2) : v1.ownBlock = none ∨ v1.ownBlock ≠ v2.ownBlock := by
  rcases h1.2 with ⟨rfl, _⟩ | ⟨g, cap, cur, rfl, _, hg, _⟩
  · exact .inl rfl
  · refine .inr fun e => ?_
    rcases h2.2 with ⟨rfl, _⟩ | ⟨g', cap', cur', rfl, _, hg', _⟩
    · simp [Value.ownBlock] at e
    · have e3 : g = g' := by simpa [Value.ownBlock] using e
      subst e3
      rw [hg] at hg'
      injection hg' with hg'
      injection hg' with _ hg' _
      exact hne hg'
theorem OwnWs.grown {w w' : World} {e e2 : TypeId} {v v2 : Value} {xs : List Nat} {base n size : Nat} {ys : List Value} (h : OwnWs w e v xs) (h2 : w.ownsRow base e2 size v2 n ys) (hne : e ≠ e2) (hg : w.grownBy w' v2.ownBlock) : OwnWs w' e v xs :=
  ⟨h.1.kept hg (own_ne_type h.1 h2 hne), h.2⟩
theorem OwnWs.below {w w' : World} {e : TypeId} {v : Value} {xs : List Nat} (h : OwnWs w e v xs) (hb : Below w.heap.size w w') : OwnWs w' e v xs := ⟨own_below h.1 hb, h.2⟩
theorem OwnWs.alloc {w : World} {e : TypeId} {v : Value} {xs : List Nat} (h : OwnWs w e v xs) (o : Obj) : OwnWs (w.alloc o) e v xs := ⟨h.1.alloc o, h.2⟩
/-- These values are rows of words that some call owns. -/
def IsRo (w : World) (e : TypeId) (vs : List Value) (l : List (List Nat)) : Prop := vs.length = l.length ∧ ∀ i (h : i < l.length), ∃ v, vs[i]? = some v ∧ OwnWs w e v l[i]
theorem IsRo.is {w : World} {e : TypeId} {vs : List Value} {l : List (List Nat)} (h : IsRo w e vs l) : IsRs w vs l :=
  ⟨h.1, fun i hi => by obtain ⟨v, h1, h2⟩ := h.2 i hi; exact ⟨v, h1, h2.is⟩⟩
theorem IsRo.map {w w' : World} {e : TypeId} {vs : List Value} {l : List (List Nat)} (h : IsRo w e vs l) (hm : ∀ v xs, OwnWs w e v xs → OwnWs w' e v xs) : IsRo w' e vs l :=
  ⟨h.1, fun i hi => by obtain ⟨v, h1, h2⟩ := h.2 i hi; exact ⟨v, h1, hm _ _ h2⟩⟩
theorem isro_nil (w : World) (e : TypeId) : IsRo w e [] [] := ⟨rfl, fun i hi => by simp at hi⟩
theorem IsRo.snoc {w : World} {e : TypeId} {vs : List Value} {l : List (List Nat)} {v : Value} {r : List Nat} (h : IsRo w e vs l) (hv : OwnWs w e v r) : IsRo w e (vs ++ [v]) (l ++ [r]) := by
  refine ⟨by simp [h.1], fun i hi => ?_⟩
  by_cases hl : i < l.length
  · obtain ⟨u, h1, h2⟩ := h.2 i hl
    refine ⟨u, by rw [List.getElem?_append_left (by rw [h.1]; exact hl)]; exact h1, ?_⟩
    rw [List.getElem_append_left hl]; exact h2
  · obtain rfl : i = l.length := by simp at hi; omega
    refine ⟨v, by rw [List.getElem?_append_right (by rw [h.1]; exact Nat.le_refl _), h.1, Nat.sub_self]; rfl, ?_⟩
    rw [List.getElem_append_right (Nat.le_refl _)]
    simpa using hv
/-- The records that are put there. -/
def recsOf (l : List (List Nat)) : List (List Nat) := (l.take 12).map fun r => someN r 20
theorem enc_len_snoc (l : List (List Nat)) (r : List Nat) : (enc (l ++ [r])).length = (enc l).length + (r.length + 1) := by rw [enc_append, enc_one, List.length_append, List.length_cons]
theorem recsOf_take {l : List (List Nat)} {k : Nat} (hk : k < l.length) : (l.take (k + 1)).map (fun r => someN r 20) = (l.take k).map (fun r => someN r 20) ++ [someN l[k] 20] := by
  rw [List.take_succ_eq_append_getElem hk, List.map_append]; rfl
theorem enc_len_ge : ∀ l : List (List Nat), l.length ≤ (enc l).length
  | [] => Nat.le_refl _
  | r :: l => by
    have := enc_len_ge l
    show _ ≤ ((r.length :: r) ++ enc l).length
    simp; omega
theorem enc_take_le {l : List (List Nat)} {i : Nat} (h : i < l.length) : (enc (l.take i)).length + 1 + l[i].length ≤ (enc l).length := by
  have e : enc l = enc (l.take (i + 1)) ++ enc (l.drop (i + 1)) := by rw [← enc_append, List.take_append_drop]
  rw [e, enc_take_succ h]
  simp; omega
end Go.Proofs.YtopnlkhepjbjkaaDoor
namespace Go.Proofs.YtopnlkhepjbjkaaDoor
open Go.RowKit
end Go.Proofs.YtopnlkhepjbjkaaDoor
namespace Go.Proofs.YtopnlkhepjbjkaaDoor
open Go.RowKit
section
variable {P : Program}
/-- 'append(nil, x...)' of at least one element, inside a region that draws its order. -/
theorem step_clone {ops : Array Oper} {o : Oper} {a : Act} {K : Act → World → Prop} {Q : Exit → Act → World → Prop} {F : Prop} {t e : TypeId} {size bytes : Nat} (E : Elem P t e size bytes) (hgd : o.guard = none) (s x : Operand)
    (ho : o.op = .call { callee := .builtin .append, args := #[s, x], argTypes := #[t, t] })
    (W : World) (hs : a.eval s = .slice none 0 0) (B : Nat) (A : Option Addr) (m c : Nat) (news : List Value) (hx : a.eval x = .slice A m c) (hr : Rd W B size A m news) (hm : 0 < m)
    (h1 : ∀ u ∈ news, u.oneCell' = true) (hbytes : m * bytes ≤ 140737488355328) (hmax : m ≤ maxLen)
    (h : ∀ A' c' w', w'.ownsRow W.heap.size e size (.slice A' m c') m news → Below W.heap.size W w' → K (a.put o.dst (.slice A' m c')) w') :
    if Region.wanted o (yielded ops a.tmps) = true then Oper.wp P o a W K Q else F := by
  obtain ⟨i, z, hi, hz, hsize, hby, hzs⟩ := E.info
  obtain ⟨b, off, rfl, _, hc⟩ := hr.at_ hm
  refine step_append_lies W hgd s x t ho W.heap.size e i z size bytes E.und hi hz hsize hby hzs E.pos _ 0 [] hs (World.ownsRow_nil _ _ _ _) ⟨b, off, none⟩ m c news hx hr.1 ?_ h1 hm (by omega) (by rw [Nat.zero_add]; exact hbytes) (Nat.le_refl _) _ rfl ?_
  · intro j u hj
    rw [add_none]
    exact hc j u hj
  · intro g cap w' ho' hgr _ _
    rw [Nat.zero_add, List.nil_append] at ho'
    rw [Nat.zero_add]
    exact h _ _ _ ho' ((Below.refl _ _).grown hgr (Nat.le_refl _) (fun k hk => by cases hk))
end
theorem OwnWs.set_ {w : World} {e t : TypeId} {v : Value} {xs : List Nat} {g : Nat} {cs : Array Value} (h : OwnWs w e v xs) (hB : w.heap[g]? = some (.cells cs t (0, 0))) (hne : e ≠ t) (u : Value) : OwnWs (w.setCell ⟨g, 0, none⟩ u) e v xs := by
  refine ⟨own_other h.1 ?_ u, h.2⟩
  rcases h.1.2 with ⟨rfl, _⟩ | ⟨g', cap, cur, rfl, _, hh, _⟩
  · simp [Value.ownBlock]
  · intro he
    have e3 : g = g' := by simpa [Value.ownBlock] using he
    subst e3
    rw [hB] at hh
    injection hh with hh
    injection hh with _ ht
    exact hne ht.symm
theorem below_of_drew {B : Nat} {w w' : World} (h : Below B w.drew w') : Below B w w' := ⟨h.os, h.tape, h.output, h.size, h.block⟩
theorem Blk.ne_ {w : World} {g g' : Nat} {t t' : TypeId} {cs cs' : Array Value} (h : Blk w g t cs) (h' : w.heap[g']? = some (.cells cs' t' (0, 0))) (hne : t ≠ t') : g ≠ g' := by
  rintro rfl
  unfold Blk at h
  rw [h] at h'
  injection h' with h'
  injection h' with _ ht
  exact hne ht
theorem own_blk_ne {w : World} {base g : Nat} {t e : TypeId} {cs : Array Value} {size n : Nat} {v : Value} {xs : List Value} (h : w.ownsRow base e size v n xs) (hg : Blk w g t cs) (hne : e ≠ t) : some g ≠ v.ownBlock := by
  rcases h.2 with ⟨rfl, _⟩ | ⟨g', cap, cur, rfl, _, hh, _⟩
  · simp [Value.ownBlock]
  · intro he
    have e3 : g = g' := by simpa [Value.ownBlock] using he
    subst e3
    exact Blk.ne_ hg hh (fun e => hne e.symm) rfl
section
variable {P : Program}
/-- append of one element inside a region that draws its order: what else is known of the world behind it. -/
theorem step_pushg {ops : Array Oper} {o : Oper} {a : Act} {K : Act → World → Prop} {Q : Exit → Act → World → Prop} {F : Prop} {t e : TypeId} {size bytes : Nat} (E : Elem P t e size bytes) (hgd : o.guard = none) (s x : Operand)
    (ho : o.op = .call { callee := .builtin .append, args := #[s, x], argTypes := #[t, t] })
    (W : World) (base g : Nat) (v : Value) (n : Nat) (xs news : List Value) (hs : a.eval s = v) (hown : W.ownsRow base e size v n xs) (hx : a.eval x = .slice (some ⟨g, 0, none⟩) 1 1) (hg : W.heap[g]? = some (.cells ⟨news⟩ e (0, 0)))
    (hl : news.length = size) (h1 : ∀ u ∈ news, u.oneCell' = true) (hbytes : (n + 1) * bytes ≤ 140737488355328) (hmax : n + 1 ≤ maxLen) (hbase : base ≤ W.heap.size)
    (h : ∀ A' c' w', w'.ownsRow base e size (.slice A' (n + 1) c') (n + 1) (xs ++ news) → W.grownBy w' v.ownBlock → Below base W w' → K (a.put o.dst (.slice A' (n + 1) c')) w') :
    if Region.wanted o (yielded ops a.tmps) = true then Oper.wp P o a W K Q else F := by
  obtain ⟨i, z, hi, hz, hsize, hby, hzs⟩ := E.info
  refine step_append_lies W hgd s x t ho base e i z size bytes E.und hi hz hsize hby hzs E.pos v n xs hs hown ⟨g, 0, none⟩ 1 1 news hx (by omega) ?_ h1 (by omega) hmax hbytes hbase _ rfl ?_
  · intro j u hj
    exact World.news_of_block hg j u hj
  · intro g' c' w' ho' hgr _ _
    exact h _ _ _ ho' hgr ((Below.refl _ _).grown hgr hbase (fun k hk => (hown.lt k hk).1))
end
theorem Blk.below' {w w' : World} {B g : Nat} {t : TypeId} {cs : Array Value} (h : Blk w g t cs) (hb : Below B w w') (hg : g < B) : Blk w' g t cs := (hb.block g hg).trans h
end Go.Proofs.YtopnlkhepjbjkaaDoor
namespace Go.Proofs.YtopnlkhepjbjkaaDoor
/-- A field. -/
def bitsN (N lo m : Nat) : Nat := N / 2 ^ lo % 2 ^ m
theorem bitsN_lt (N lo m : Nat) : bitsN N lo m < 2 ^ m := Nat.mod_lt _ (Nat.two_pow_pos m)
theorem testBit_bitsN (N lo m i : Nat) : (bitsN N lo m).testBit i = (decide (i < m) && N.testBit (lo + i)) := by
  unfold bitsN
  rw [Nat.testBit_mod_two_pow, Nat.testBit_div_two_pow, Nat.add_comm]
/-- One bit set to what it shall be. -/
def setB (x t : Nat) (b : Bool) : Nat := if b then (x &&& (4294967295 - 2 ^ t)) ||| 2 ^ t else x &&& (4294967295 - 2 ^ t)
theorem testBit_clr {x t : Nat} (hx : x < 4294967296) (ht : t < 32) (i : Nat) : (x &&& (4294967295 - 2 ^ t)).testBit i = (x.testBit i && !decide (t = i)) := by
  have h32 : (2 : Nat) ^ t < 2 ^ 32 := Nat.pow_lt_pow_right (by omega) ht
  rw [Nat.testBit_and, show 4294967295 - 2 ^ t = 2 ^ 32 - (2 ^ t + 1) by omega, Nat.testBit_two_pow_sub_succ h32, Nat.testBit_two_pow]
  by_cases h : i < 32
  · simp [h]
  · rw [Nat.testBit_lt_two_pow (show x < 2 ^ i from Nat.lt_of_lt_of_le (show x < 2 ^ 32 by omega) (Nat.pow_le_pow_right (by omega) (by omega)))]; simp
theorem testBit_setB {x t : Nat} (hx : x < 4294967296) (ht : t < 32) (b : Bool) (i : Nat) : (setB x t b).testBit i = if t = i then b else x.testBit i := by
  unfold setB
  cases b
  · simp only [Bool.false_eq_true, if_false]
    rw [testBit_clr hx ht]
    by_cases h : t = i <;> simp [h]
  · simp only [if_true]
    rw [Nat.testBit_or, testBit_clr hx ht, Nat.testBit_two_pow]
    by_cases h : t = i <;> simp [h]
theorem setB_lt {x t : Nat} (hx : x < 4294967296) (ht : t < 32) (b : Bool) : setB x t b < 4294967296 := by
  have h32 : (2 : Nat) ^ t < 2 ^ 32 := Nat.pow_lt_pow_right (by omega) ht
  have h1 : x &&& (4294967295 - 2 ^ t) < 2 ^ 32 := Nat.lt_of_le_of_lt Nat.and_le_left (by omega)
  unfold setB
  split
  · exact Nat.or_lt_two_pow h1 h32
  · exact h1
/-- The bits of a wide number, word by word. -/
theorem testBit_val3 {x0 x1 x2 : Nat} (h0 : x0 < 4294967296) (h1 : x1 < 4294967296) (i : Nat) : (val3 x0 x1 x2).testBit i = if i < 32 then x0.testBit i else if i < 64 then x1.testBit (i - 32) else x2.testBit (i - 64) := by
  have e : val3 x0 x1 x2 = 2 ^ 32 * (2 ^ 32 * x2 + x1) + x0 := by unfold val3; omega
  rw [e, Nat.testBit_two_pow_mul_add _ (by omega : x0 < 2 ^ 32)]
  split
  · rfl
  · rw [Nat.testBit_two_pow_mul_add _ (by omega : x1 < 2 ^ 32)]
    by_cases h : i < 64
    · rw [if_pos h, if_pos (by omega)]
    · rw [if_neg h, if_neg (by omega), show i - 32 - 32 = i - 64 by omega]
/-- A number whose field is another one. -/
def putN (N lo m v : Nat) : Nat := N % 2 ^ lo + 2 ^ lo * (v + 2 ^ m * (N / 2 ^ (lo + m)))
theorem testBit_putN {N lo m v : Nat} (hv : v < 2 ^ m) (i : Nat) : (putN N lo m v).testBit i = if i < lo then N.testBit i else if i < lo + m then v.testBit (i - lo) else N.testBit i := by
  unfold putN
  rw [Nat.add_comm, Nat.testBit_two_pow_mul_add _ (Nat.mod_lt _ (Nat.two_pow_pos lo)), Nat.testBit_mod_two_pow]
  split
  · rename_i h; simp [h]
  · rename_i h
    rw [Nat.add_comm v, Nat.testBit_two_pow_mul_add _ hv]
    by_cases h2 : i < lo + m
    · rw [if_pos h2, if_pos (by omega)]
    · rw [if_neg h2, if_neg (by omega), Nat.testBit_div_two_pow]; congr 1; omega
theorem putN_zero (N lo : Nat) : putN N lo 0 0 = N := by
  unfold putN
  have := Nat.mod_add_div N (2 ^ lo)
  simpa using this
theorem bits_put {N lo m v : Nat} (hv : v < 2 ^ m) : bitsN (putN N lo m v) lo m = v := by
  refine Nat.eq_of_testBit_eq fun i => ?_
  rw [testBit_bitsN, testBit_putN hv]
  by_cases h : i < m
  · rw [if_neg (by omega), if_pos (by omega), show lo + i - lo = i by omega]; simp [h]
  · rw [decide_eq_false h, Nat.testBit_lt_two_pow (show v < 2 ^ i from Nat.lt_of_lt_of_le hv (Nat.pow_le_pow_right (by omega) (by omega)))]; rfl
theorem put_back {N lo m v : Nat} (hv : v < 2 ^ m) : putN (putN N lo m v) lo m (bitsN N lo m) = N := by
  refine Nat.eq_of_testBit_eq fun i => ?_
  rw [testBit_putN (bitsN_lt _ _ _), testBit_bitsN, testBit_putN hv]
  by_cases h : i < lo
  · rw [if_pos h, if_pos h]
  · rw [if_neg h]
    by_cases h2 : i < lo + m
    · rw [if_pos h2, show lo + (i - lo) = i by omega, decide_eq_true (by omega)]; rfl
    · rw [if_neg h2, if_neg h, if_neg h2]
/-- Behind one more bit. -/
theorem putN_step {N lo i v : Nat} (j : Nat) : (putN N lo (i + 1) (v % 2 ^ (i + 1))).testBit j = if j = lo + i then v.testBit i else (putN N lo i (v % 2 ^ i)).testBit j := by
  rw [testBit_putN (Nat.mod_lt _ (Nat.two_pow_pos _)), testBit_putN (Nat.mod_lt _ (Nat.two_pow_pos _)), Nat.testBit_mod_two_pow, Nat.testBit_mod_two_pow]
  by_cases h : j = lo + i
  · subst h
    rw [if_pos rfl, if_neg (by omega), if_pos (by omega), show lo + i - lo = i by omega]; simp
  · rw [if_neg h]
    by_cases h1 : j < lo
    · rw [if_pos h1, if_pos h1]
    · rw [if_neg h1, if_neg h1]
      by_cases h2 : j < lo + i
      · rw [if_pos (by omega), if_pos h2, decide_eq_true (by omega), decide_eq_true (by omega)]
      · rw [if_neg (by omega), if_neg h2]
/-- One word changed: the number as it is behind one more bit. -/
theorem put_word {N lo i v x0 x1 x2 y0 y1 y2 : Nat} (a0 : x0 < 4294967296) (a1 : x1 < 4294967296) (b0 : y0 < 4294967296) (b1 : y1 < 4294967296) (hx : val3 x0 x1 x2 = putN N lo i (v % 2 ^ i))
    (hy : ∀ j, (if j < 32 then y0.testBit j else if j < 64 then y1.testBit (j - 32) else y2.testBit (j - 64)) = if j = lo + i then v.testBit i else if j < 32 then x0.testBit j else if j < 64 then x1.testBit (j - 32) else x2.testBit (j - 64)) :
    val3 y0 y1 y2 = putN N lo (i + 1) (v % 2 ^ (i + 1)) := by
  refine Nat.eq_of_testBit_eq fun j => ?_
  rw [testBit_val3 b0 b1, putN_step, ← hx, testBit_val3 a0 a1]
  exact hy j
theorem put_word0 {N lo i v x0 x1 x2 t : Nat} (a0 : x0 < 4294967296) (a1 : x1 < 4294967296) (hx : val3 x0 x1 x2 = putN N lo i (v % 2 ^ i)) (ht : lo + i = t) (h : t < 32) : val3 (setB x0 t (v.testBit i)) x1 x2 = putN N lo (i + 1) (v % 2 ^ (i + 1)) := by
  refine put_word a0 a1 (setB_lt a0 h _) a1 hx fun j => ?_
  rw [testBit_setB a0 h, ht]
  by_cases e : j = t
  · subst e; rw [if_pos h, if_pos rfl, if_pos rfl]
  · rw [if_neg e, if_neg (show ¬ t = j from fun h => e h.symm)]
theorem put_word1 {N lo i v x0 x1 x2 t : Nat} (a0 : x0 < 4294967296) (a1 : x1 < 4294967296) (hx : val3 x0 x1 x2 = putN N lo i (v % 2 ^ i)) (ht : lo + i = 32 + t) (h : t < 32) : val3 x0 (setB x1 t (v.testBit i)) x2 = putN N lo (i + 1) (v % 2 ^ (i + 1)) := by
  refine put_word a0 a1 a0 (setB_lt a1 h _) hx fun j => ?_
  rw [testBit_setB a1 h, ht]
  by_cases e : j = 32 + t
  · subst e
    rw [if_neg (by omega), if_pos (by omega), if_pos (by omega), if_pos rfl]
  · rw [if_neg e]
    by_cases h1 : j < 32
    · rw [if_pos h1, if_pos h1]
    · rw [if_neg h1, if_neg h1]
      by_cases h2 : j < 64
      · rw [if_pos h2, if_pos h2, if_neg (by omega)]
      · rw [if_neg h2, if_neg h2]
theorem put_word2 {N lo i v x0 x1 x2 t : Nat} (a0 : x0 < 4294967296) (a1 : x1 < 4294967296) (a2 : x2 < 4294967296) (hx : val3 x0 x1 x2 = putN N lo i (v % 2 ^ i)) (ht : lo + i = 64 + t) (h : t < 32) : val3 x0 x1 (setB x2 t (v.testBit i)) = putN N lo (i + 1) (v % 2 ^ (i + 1)) := by
  refine put_word a0 a1 a0 a1 hx fun j => ?_
  rw [testBit_setB a2 h, ht]
  by_cases e : j = 64 + t
  · subst e
    rw [if_neg (by omega), if_neg (by omega), if_pos (by omega), if_pos rfl]
  · rw [if_neg e]
    by_cases h1 : j < 32
    · rw [if_pos h1, if_pos h1]
    · rw [if_neg h1, if_neg h1]
      by_cases h2 : j < 64
      · rw [if_pos h2, if_pos h2]
      · rw [if_neg h2, if_neg h2, if_neg (by omega)]
/-- A field read from above, bit by bit. -/
theorem bits_step (N lo i m : Nat) (hi : i < m) : bitsN N (lo + i) (m - i) = 2 * bitsN N (lo + (i + 1)) (m - (i + 1)) + (N.testBit (lo + i)).toNat := by
  refine Nat.eq_of_testBit_eq fun j => ?_
  rw [testBit_bitsN]
  have e : 2 * bitsN N (lo + (i + 1)) (m - (i + 1)) + (N.testBit (lo + i)).toNat = 2 ^ 1 * bitsN N (lo + (i + 1)) (m - (i + 1)) + (N.testBit (lo + i)).toNat := rfl
  rw [e, Nat.testBit_two_pow_mul_add _ (by have := Bool.toNat_le (N.testBit (lo + i)); omega)]
  by_cases h : j < 1
  · obtain rfl : j = 0 := by omega
    rw [if_pos h, Nat.add_zero, decide_eq_true (by omega)]
    cases N.testBit (lo + i) <;> rfl
  · rw [if_neg h, testBit_bitsN]
    have e1 : lo + (i + 1) + (j - 1) = lo + i + j := by omega
    rw [e1]
    congr 1
    exact decide_eq_decide.2 (by omega)
/-- The bit of a word is the bit of the number. -/
theorem word_bit {x t : Nat} : x / 2 ^ t % 2 = (x.testBit t).toNat := by
  rw [Nat.testBit_eq_decide_div_mod_eq]
  rcases Nat.mod_two_eq_zero_or_one (x / 2 ^ t) with h | h <;> rw [h] <;> rfl
end Go.Proofs.YtopnlkhepjbjkaaDoor
namespace Go.Proofs.YtopnlkhepjbjkaaDoor
open Go.RowKit Go.Maps Go.ChangeShapes Go.WideShapes
theorem still_tail_drew {P : Program} {id : Nat} {Q : Exit → Act → World → Prop} {a : Act} {w : World} {l : List Oper} (n : Nat) (hm : P.follows .mixedOrders = true) (hB : Region.lexTailB .any l.toArray n = true)
    (h : wpStill P l.toArray w.drew (fun a' => wpList P l.toArray Q (l.drop n) a' w.drew) (l.take n) a) : (Code.region id l.toArray true).wp P Q a w := wp_region_still_tail n hm hB h
theorem below_ad2 (w : World) (a b : Obj) : Below w.heap.size w ((w.alloc a).alloc b).drew := by
  have k := below_a2 w a b
  exact ⟨k.os, k.tape, k.output, k.size, k.block⟩
/-- The pairs behind an issue; the tag that it gives. -/
def issL (l : List Pr) (x y z d : Int) : List Pr := if look l (x, y, z) = none then l ++ [(x, y, z, d)] else l
def issT (l : List Pr) (x y z d : Int) : Int := (look l (x, y, z)).getD d
theorem issL_ok {l : List Pr} {x y z d : Int} (h : OOk l) (hk : mayK (x, y, z)) (hd1 : 0 ≤ d) (hd2 : d ≤ 65535) (h5 : l.length < 500) : OOk (issL l x y z d) := by
  unfold issL
  by_cases g : look l (x, y, z) = none
  · rw [if_pos g]; exact ook_snoc h ⟨hk, hd1, hd2⟩ h5 g
  · rw [if_neg g]; exact h
theorem issL_len (l : List Pr) (x y z d : Int) : l.length ≤ (issL l x y z d).length ∧ (issL l x y z d).length ≤ l.length + 1 := by
  unfold issL; split <;> simp
theorem issL_look (l : List Pr) (x y z d : Int) (k : Int × Int × Int) : look (issL l x y z d) k = if k = (x, y, z) then some (issT l x y z d) else look l k := by
  unfold issL issT
  by_cases e : k = (x, y, z)
  · subst e
    rw [if_pos rfl]
    cases h : look l (x, y, z) with
    | none => rw [if_pos rfl, look_snoc, h, if_pos (show keyP (x, y, z, d) = (x, y, z) from rfl)]; rfl
    | some t => rw [if_neg (by simp), h]; rfl
  · rw [if_neg e]
    split
    · rw [look_snoc, if_neg (show ¬ keyP (x, y, z, d) = k from fun h => e h.symm), Option.or_none]
    · rfl
theorem ook_wf {l : List Pr} (h : OOk l) : ∀ p ∈ l, wfP p := fun p hp => by
  obtain ⟨⟨h1, h2, h3, h4, h5, h6⟩, h7, h8⟩ := h.2.1 p hp
  unfold keyP at *
  dsimp only at *
  exact ⟨⟨WalkArith.wf_i64 (by omega), WalkArith.wf_i64 (by omega), WalkArith.wf_i64 (by omega)⟩, WalkArith.wf_i64 (by omega)⟩
theorem issT_bd {l : List Pr} {x y z d : Int} (h : OOk l) (hd1 : 0 ≤ d) (hd2 : d ≤ 65535) : 0 ≤ issT l x y z d ∧ issT l x y z d ≤ 65535 := by
  unfold issT
  cases hl : look l (x, y, z) with
  | none => exact ⟨hd1, hd2⟩
  | some t =>
    obtain ⟨p, hp, _, rfl⟩ := look_some_mem hl
    exact (h.2.1 p hp).2
theorem issue_ok (v : Value) (l l2 : List Pr) (x y z d t : Int) (w : World) (hv : IsPs w v l) (hl : OOk l) (hk : mayK (x, y, z)) (hw : wf3 x y z) (hd1 : 0 ≤ d) (hd2 : d ≤ 65535) (h5 : l.length < 500) (hl2 : Hid (issL l x y z d = l2)) (ht : Hid (issT l x y z d = t)) :
    Calls Tryd.prog 29 #[.agg #[v], .int .i64 x, .int .i64 y, .int .i64 z, .int .i64 d] w (RetIss l2 t w) := by
  rw [← hl2.out, ← ht.out]
  unfold issL issT
  cases h : look l (x, y, z) with
  | none => rw [if_pos rfl]; exact issue_new v l x y z d w hv hl hk hw hd1 hd2 h h5
  | some t => rw [if_neg (by simp)]; exact issue_had v l x y z d t w hv hl hk hw hd1 hd2 h
theorem mayK_small {q r s : Nat} (h1 : q < 3) (h2 : r < 3) (h3 : s < 5) : mayK ((q : Int), (r : Int), (s : Int)) := by
  unfold mayK; dsimp only; omega
theorem wf3_small {q r s : Nat} (h1 : q < 3) (h2 : r < 3) (h3 : s < 5) : wf3 (q : Int) (r : Int) (s : Int) :=
  ⟨WalkArith.wf_i64 (by omega), WalkArith.wf_i64 (by omega), WalkArith.wf_i64 (by omega)⟩
end Go.Proofs.YtopnlkhepjbjkaaDoor
