/- book.Of on a book that is right; beginnings of events and of tokens. -/
import Derived.Test.YtpcgpnkmjjamhaaGreatMxGrowP
import Derived.Test.YtpcgpnkmjjamhaaGreatMxEvs
namespace Go.Proofs.YtpcgpnkmjjamhaaGreat
open Go.RowKit
set_option linter.unusedVariables false
theorem of_yes (T : Tm) (hT : T.Ok) (At : Option Addr) (nt ct : Nat) (Ve : Value) (L : List Ev) (B : List Cu) (w : World) (hvt : IsDs w (.slice At nt ct) T.tl) (hve : IsEs w Ve L) (hL : L.length ≤ 120) (hok : ∀ v ∈ L, v.ok) (hrun : runE T [] L = some B) :
   Calls Tryz.prog 12 #[.agg #[.slice At nt ct, .int .i64 ↑T.fx, .int .i64 ↑T.fb, .int .i64 ↑T.db, .int .i64 ↑T.al], Ve] w fun e w' => ∃ (A : Option Addr) (c : Nat), e = .returned (.tuple #[.agg #[.slice A B.length c], .int .i64 0, .int .i64 0]) ∧ OwnBk w.heap.size w' (.slice A B.length c) B ∧ Below w.heap.size w w' := by
 refine (of_all T hT At nt ct Ve L L.length B w hvt hve hL hok (Nat.le_refl _) (by rw [List.take_length]; exact hrun) (fun h => absurd h (Nat.lt_irrefl _))).mono ?_
 rintro e w' ⟨⟨_, v, rfl, hbk⟩ | ⟨h, _⟩, hb⟩
 · obtain ⟨A, n, c, rfl⟩ := hbk.slice
   have h1 := hbk.is.len
   subst h1
   exact ⟨A, c, rfl, hbk, hb⟩
 · exact absurd h (Nat.lt_irrefl _)
theorem of_no (T : Tm) (hT : T.Ok) (At : Option Addr) (nt ct : Nat) (Ve : Value) (L : List Ev) (m : Nat) (B : List Cu) (w : World) (hvt : IsDs w (.slice At nt ct) T.tl) (hve : IsEs w Ve L) (hL : L.length ≤ 120) (hok : ∀ v ∈ L, v.ok) (hm : m < L.length) (hrun : runE T [] (L.take m) = some B) (hbad : L[m].k = 2 ∧ (∃ i, place B L[m].me = some i) ∧ (keepE T B L[m]).1 ≠ 0) :
   Calls Tryz.prog 12 #[.agg #[.slice At nt ct, .int .i64 ↑T.fx, .int .i64 ↑T.fb, .int .i64 ↑T.db, .int .i64 ↑T.al], Ve] w fun e w' => ∃ E : Nat, E ≠ 0 ∧ e = .returned (.tuple #[.agg #[.slice none 0 0], .int .i64 ↑m, .int .i64 ↑E]) ∧ Below w.heap.size w w' := by
 refine (of_all T hT At nt ct Ve L m B w hvt hve hL hok (Nat.le_of_lt hm) hrun (fun _ => hbad)).mono ?_
 rintro e w' ⟨⟨h, _⟩ | ⟨_, rfl⟩, hb⟩
 · omega
 · refine ⟨_, ?_, rfl, hb⟩
   have e : L.getD m ⟨0, 0, 0, 0, 0, 0, 0, 0, 0, 0, 0, 0, 0⟩ = L[m] := by simp [hm]
   rw [e]; exact hbad.2.2
theorem Mem.rowset {w0 w : World} {G : List Nat} {l : List Chunk} {g base : Nat} {e : TypeId} {size n cap : Nat} {xs : List Value} (i : Nat) (H : Mem w0 G w l) (hi : l[i]? = some (.row base e size (.slice (some ⟨g, 0, none⟩) n cap) n xs)) (j : Nat) (u : Value) :
   Mem w0 G (w.setCell ⟨g, j, none⟩ u) (l.set i (.row base e size (.slice (some ⟨g, 0, none⟩) n cap) n (xs.set j u))) := by
 have h := (H.own_ i hi).stored j u
 exact H.turn hi (c' := .row base e size (.slice (some ⟨g, 0, none⟩) n cap) n (xs.set j u)) h.2 h.1 (fun k hk => .inl hk)
theorem evs_turned {L : List Ev} {i x : Nat} (h : i < L.length) (a b : Value) (ha : a = .int .i64 ((turned L[i] x).pr : Int)) (hb : b = .int .i64 ((turned L[i] x).te : Int)) : ((evs L).set (i * 13 + 7) a).set (i * 13 + 4) b = evs (L.set i (turned L[i] x)) := by
 have key : ∀ (L1 L2 : List Ev) (v : Ev), ((evs (L1 ++ v :: L2)).set (L1.length * 13 + 7) (.int .i64 ((turned v x).pr : Int))).set (L1.length * 13 + 4) (.int .i64 ((turned v x).te : Int)) = evs (L1 ++ turned v x :: L2) := by
   intro L1 L2 v
   have e1 : ∀ u : Ev, evs (L1 ++ u :: L2) = evs L1 ++ (evCells u ++ evs L2) := fun u => by simp [evs]
   rw [e1, e1, List.set_append_right _ _ (by rw [evs_len]; omega), List.set_append_right _ _ (by rw [evs_len]; omega), evs_len, Nat.add_sub_cancel_left, Nat.add_sub_cancel_left]
   rfl
 subst ha hb
 have e := key (L.take i) (L.drop (i + 1)) L[i]
 rw [List.length_take, Nat.min_eq_left (Nat.le_of_lt h), List.getElem_cons_drop, List.take_append_drop] at e
 rw [e, List.set_eq_take_append_cons_drop, if_pos h]
theorem sos_take {L : List So} (q : Nat) (h : q ≤ L.length) : (sos L).take (q * 5) = sos (L.take q) := by
 have e : sos L = sos (L.take q) ++ sos (L.drop q) := by
   unfold sos
   rw [← List.flatMap_append, List.take_append_drop]
 have hl : ∀ l : List So, (sos l).length = l.length * 5 := by
   intro l
   induction l with
   | nil => rfl
   | cons a l ih => simp only [sos, List.flatMap_cons, List.length_append, List.length_cons, List.length_nil] at ih ⊢; omega
 rw [e]
 refine List.take_left' ?_
 rw [hl, List.length_take, Nat.min_eq_left h]
theorem IsSs.take {w : World} {A : Option Addr} {n c : Nat} {l : List So} (h : IsSs w (.slice A n c) l) {k : Nat} (hk : k ≤ l.length) : IsSs w (.slice A k c) (l.take k) := by
 obtain ⟨A', c', e, h1, h2, hr⟩ := h
 injection e with e1 e2 e3
 subst e1 e3
 have hlen : (l.take k).length = k := by rw [List.length_take, Nat.min_eq_left hk]
 refine ⟨A, c, by rw [hlen], by rw [hlen]; omega, by omega, ?_⟩
 have := hr.take hk
 rw [sos_take k hk] at this
 rw [hlen]; exact this
end Go.Proofs.YtpcgpnkmjjamhaaGreat
