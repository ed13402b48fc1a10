/- Texts of digits as lists of numbers: plain facts. -/
import Derived.WalkKit
import Derived.Lib.OthersKept
import Derived.Lib.Strings
import Derived.Test.YtpcgpnkmjjamhaaGreatDoorQ9
import Derived.Test.YtpcgpnkmjjamhaaGreatDoorShelf
import Derived.Sort.OwnSorted
import Derived.Lib.Join
import Derived.Test.YtpcgpnkmjjamhaaGreatDoorQ7
import Derived.Maps.OwnSet
import Derived.Maps.OwnOps
import Derived.Maps.Views
import Derived.DeepKeys4
import Derived.ChangeKeys
import Derived.Test.YtpcgpnkmjjamhaaGreatDoorQ1
import Derived.Test.YtpcgpnkmjjamhaaGreatDoorQ2
import Derived.Test.YtpcgpnkmjjamhaaGreatDoorQ4
namespace Go.Proofs.YtpcgpnkmjjamhaaGreatDoor
open Go.RowKit
set_option linter.unusedVariables false
set_option maxRecDepth 100000

def dg (d : Nat) : UInt8 := UInt8.ofNat (48 + d)
def dstr (l : List Nat) : ByteArray := ⟨(l.map dg).toArray⟩
theorem dg_toNat {d : Nat} (h : d ≤ 9) : (dg d).toNat = 48 + d := by
 unfold dg; rw [UInt8.toNat_ofNat']; omega
theorem dstr_size (l : List Nat) : (dstr l).size = l.length := by
 unfold dstr; show (l.map dg).toArray.size = _; simp
theorem dstr_get (l : List Nat) (i : Nat) (h : i < (dstr l).size) : (dstr l)[i] = dg (l[i]'(by rw [dstr_size] at h; exact h)) := by
 have h2 : i < l.length := by rw [dstr_size] at h; exact h
 have : ((l.map dg).toArray)[i]'(by simpa using h2) = dg (l[i]'h2) := by simp
 exact this
theorem dstr_byte {l : List Nat} (hl : ∀ d ∈ l, d ≤ 9) (i : Nat) (h : i < (dstr l).size) : ((dstr l)[i]).toNat = 48 + l[i]'(by rw [dstr_size] at h; exact h) := by
 rw [dstr_get, dg_toNat (hl _ (List.getElem_mem _))]
theorem dstr_toList (l : List Nat) : (dstr l).data.toList = l.map dg := by unfold dstr; simp
theorem str_ext {a b : ByteArray} (h : a.data.toList = b.data.toList) : a = b := by
 cases a; cases b; congr; exact Array.ext' h
theorem dg_inj {a b : Nat} (ha : a ≤ 9) (hb : b ≤ 9) (h : dg a = dg b) : a = b := by
 have := congrArg UInt8.toNat h
 rw [dg_toNat ha, dg_toNat hb] at this
 omega
theorem dstr_empty {l : List Nat} (h : 0 < l.length) : (dstr l).toList.isEmpty = false := by
 rw [Lib.toList_data, dstr_toList]; cases l <;> simp at h ⊢
theorem app_toList (a b : ByteArray) : (a ++ b).data.toList = a.data.toList ++ b.data.toList := by simp [ByteArray.data_append]
theorem dstr_append (a b : List Nat) : dstr (a ++ b) = dstr a ++ dstr b := by
 apply str_ext; rw [app_toList, dstr_toList, dstr_toList, dstr_toList, List.map_append]
theorem dstr_extract (l : List Nat) (i j : Nat) : (dstr l).extract i j = dstr ((l.drop i).take (j - i)) := by
 apply str_ext
 rw [Lib.extract_data, dstr_toList, dstr_toList, List.map_take, List.map_drop]
theorem iterPos_of {w : World} {k : Nat} {s : ByteArray} {p : Nat} (h : w.heap[k]? = some (.stringIter s p)) : w.iterPos k = p := by simp [World.iterPos, h]
end Go.Proofs.YtpcgpnkmjjamhaaGreatDoor
namespace Go.Proofs.YtpcgpnkmjjamhaaGreatDoor
open Go.RowKit Go.Sort
set_option linter.unusedVariables false
set_option maxRecDepth 100000
section
variable {P : Program} {w0 w : World} {G : List Nat} {L : List Chunk} {base c n i : Nat} {e : TypeId} {A : Option Addr}
def strs (ss : List (List UInt8)) : List Value := ss.map encStr
theorem strs_len (ss : List (List UInt8)) : (strs ss).length = ss.length := by simp [strs]
theorem mem_reversed {g q : Nat} {ss : List (List UInt8)} (H : Mem w0 G w L) (hi : L[i]? = some (.row base e 1 (.slice (some ⟨g, 0, none⟩) n c) n (strs ss))) :
   Mem w0 G (putRow encStr (Sort.ahead w q) g 0 ss.reverse.toArray) (L.set i (.row base e 1 (.slice (some ⟨g, 0, none⟩) n c) n (strs ss.reverse))) := by
 have hown := H.own_ i hi
 have hn : ss.length = n := by have := hown.1; rw [strs_len] at this; omega
 subst hn
 rcases hown.2 with ⟨h0, _⟩ | ⟨g', cap', cur, hv, hb0, hb, h1, h2, h3, h4⟩
 · cases h0
 · cases hv
   have k1 := ownsRow_sorted (n := q) (os := #[]) (ss := ss) (ts := ss.reverse) (by simp) hb0 hb h1 h2 h3
   have k2 := grownBy_sorted (w := w) (g := g) (n := q) (os := #[]) ss.reverse.toArray
   rw [grow_empty] at k1 k2
   exact H.turn hi k2 (c' := .row base e 1 (.slice (some ⟨g, 0, none⟩) ss.length c) ss.length (strs ss.reverse)) k1 (fun k hk => .inl hk)
theorem own_holds {g : Nat} {ss : List (List UInt8)} (hown : w.ownsRow base e 1 (.slice (some ⟨g, 0, none⟩) n c) n (strs ss)) : Holds encStr w g 0 ss.toArray ∧ g < w.heap.size ∧ n ≤ c ∧ n ≤ 9223372036854775807 := by
 have hn : ss.length = n := by have := hown.1; rw [strs_len] at this; omega
 subst hn
 rcases hown.2 with ⟨h0, _⟩ | ⟨g', cap', cur, hv, hb0, hb, h1, h2, h3, h4⟩
 · cases h0
 · cases hv
   exact ⟨holds_of_block hb (by simpa [strs] using h4), (Array.getElem?_eq_some_iff.1 hb).1, h1, by unfold maxLen at h2; omega⟩
end
theorem revS_mem (ss : List (List UInt8)) (A : Option Addr) (n c i base : Nat) (e : TypeId) (w0 w : World) (G : List Nat) (L : List Chunk) (H : Mem w0 G w L) (hi : L[i]? = some (.row base e 1 (.slice A n c) n (strs ss))) :
   Calls Tryz.prog 108 #[.slice A n c] w fun e' w' => e' = .returned (.tuple #[]) ∧ Mem w0 G w' (L.set i (.row base e 1 (.slice A n c) n (strs ss.reverse))) := by
 have hown := H.own_ i hi
 have hn : ss.length = n := by have := hown.1; rw [strs_len] at this; omega
 rcases hown.2 with ⟨h0, h0'⟩ | ⟨g', cap', cur, hv, _⟩
 · cases h0
   have hs : ss = [] := List.eq_nil_of_length_eq_zero (by omega)
   subst hs
   refine (Tryz.slices_Reverse_string_empty none 0 w).mono ?_
   rintro e' w' ⟨he, rfl⟩
   refine ⟨he, ?_⟩
   have hil : i < L.length := (List.getElem?_eq_some_iff.1 hi).1
   have : L.set i (.row base e 1 (.slice none 0 0) 0 (strs [].reverse)) = L := by
     apply List.ext_getElem?
     intro j
     rw [List.getElem?_set]
     split
     · subst_vars; rw [hi]; rfl
     · rfl
   rw [this]; exact H
 · cases hv
   obtain ⟨k1, k2, k3, k4⟩ := own_holds hown
   have hc := Tryz.slices_Reverse_string_arr g' 0 c ss.toArray w k1 (by simp; omega)
   simp only [List.size_toArray, hn] at hc
   refine hc.mono ?_
   rintro e' w' ⟨he, q, rfl⟩
   refine ⟨he, ?_⟩
   have := mem_reversed (q := q) H hi
   simpa using this
theorem joinS_own (ss : List (List UInt8)) (A : Option Addr) (n c base : Nat) (e : TypeId) (sep : ByteArray) (w : World) (hown : w.ownsRow base e 1 (.slice A n c) n (strs ss)) (hn48 : n ≤ 100000) (hlen : (Lib.join ss sep.data.toList).length ≤ 100000000) :
   Calls Tryz.prog 109 #[.slice A n c, .string sep] w fun e w' => e = .returned (.string ⟨(Lib.join ss sep.data.toList).toArray⟩) ∧ Below w.heap.size w w' := by
 have hn : ss.length = n := by have := hown.1; rw [strs_len] at this; omega
 rcases hown.2 with ⟨h0, h0'⟩ | ⟨g', cap', cur, hv, _⟩
 · cases h0
   have hs : ss = [] := List.eq_nil_of_length_eq_zero (by omega)
   subst hs
   refine (Tryz.strings_Join_none none 0 sep w).mono ?_
   rintro e' w' ⟨he, rfl⟩
   exact ⟨he, Below.refl _ _⟩
 · cases hv
   obtain ⟨k1, k2, k3, k4⟩ := own_holds hown
   have hm : (ss.map fun l => (⟨l.toArray⟩ : ByteArray)).map (fun b => b.data.toList) = ss := by
     rw [List.map_map]
     exact (List.map_congr_left (fun l _ => rfl)).trans (List.map_id ss)
   have hc := Tryz.strings_Join g' 0 c (ss.map fun l => (⟨l.toArray⟩ : ByteArray)) sep w (fun j x hx => by
       rw [List.getElem?_map] at hx
       obtain ⟨l, hl, rfl⟩ := Option.map_eq_some_iff.1 hx
       have hj : j < ss.length := (List.getElem?_eq_some_iff.1 hl).1
       have h2 := (k1 j (by simpa using hj)).1
       rw [h2]
       have : ss.toArray[j]! = l := by
         rw [getElem!_pos _ j (by simpa using hj)]
         have := (List.getElem?_eq_some_iff.1 hl).2
         simpa using this
       rw [this]) k2 (by simp; omega) (by simp; omega) (by rw [hm]; omega)
   rw [hm, List.length_map, hn] at hc
   exact hc
theorem join_flat (xs : List (List UInt8)) : Lib.join xs [] = xs.flatten := by
 cases xs with
 | nil => rfl
 | cons x r => rw [Lib.join_cons]; simp [Lib.joinTail]
end Go.Proofs.YtpcgpnkmjjamhaaGreatDoor
namespace Go.Proofs.YtpcgpnkmjjamhaaGreatDoor
open Go.RowKit Go.Maps Go.ChangeShapes Go.WideShapes
set_option linter.unusedVariables false
set_option maxRecDepth 100000
def kls (a b c : Int) : List Lit := [.int .i64 a, .int .i64 b, .int .i64 c]
def kl (a b c : Int) : Lit := .string (keyBytes (kls a b c))
def wf3 (a b c : Int) : Prop := (Lit.int .i64 a).wf = true ∧ (Lit.int .i64 b).wf = true ∧ (Lit.int .i64 c).wf = true
theorem what_laid : laidOutB Tryz.prog = true := by kernel_rfl
theorem what_law : Keyed Tryz.prog 105 := Keyed.of_law (deep_law_laid what_laid (m := 9) (by omega) (by decide +kernel) (by kernel_rfl) (by kernel_rfl))
theorem what_key {a b c : Int} (h : wf3 a b c) : keyOf Tryz.prog 105 (.agg #[.int .i64 a, .int .i64 b, .int .i64 c]) = some (kl a b c) := by
 obtain ⟨ha, hb, hc⟩ := h
 have c3 : Tryz.prog.cellsOf 105 = 3 := by kernel_rfl
 have c1 : Tryz.prog.cellsOf 3 = 1 := by kernel_rfl
 have hf : (Tryz.prog.keyType 105 && (Value.agg #[.int .i64 a, .int .i64 b, .int .i64 c]).formed Tryz.prog 105) = true := by kernel_rfl
 obtain ⟨d, hd⟩ : ∃ d, Tryz.prog.types.size + 1 = d + 1 + 1 := ⟨Tryz.prog.types.size - 1, by
   have : 1 ≤ Tryz.prog.types.size := by decide +kernel
   omega⟩
 have hk : Tryz.prog.keyLits (Tryz.prog.types.size + 1) 105 [.int .i64 a, .int .i64 b, .int .i64 c] = some (kls a b c) := by
   rw [hd]
   simp only [Program.keyLits, Tryz.underlying105, c3]
   simp [c1, ha, hb, hc, kls]
 unfold keyOf
 rw [Tryz.underlying105]
 simp only [hf, if_true]
 have e : (Value.agg #[.int .i64 a, .int .i64 b, .int .i64 c]).cells.toList = [.int .i64 a, .int .i64 b, .int .i64 c] := rfl
 rw [e, hk]
 rfl
theorem kl_inj {a b c a' b' c' : Int} (h : wf3 a b c) (h' : wf3 a' b' c') (e : kl a b c = kl a' b' c') : a = a' ∧ b = b' ∧ c = c' := by
 have h1 := what_key h
 have h2 := what_key h'
 rw [← e] at h2
 have := what_law.inj h1 h2
 simp at this
 exact this
theorem kl_lit (a b c : Int) : WideAt.IsKeyLit (kl a b c) := trivial
abbrev Pr := Int × Int × Int × Int
def keyP (p : Pr) : Int × Int × Int := (p.1, p.2.1, p.2.2.1)
def wfP (p : Pr) : Prop := wf3 p.1 p.2.1 p.2.2.1 ∧ (Lit.int .i64 p.2.2.2).wf = true
def mayK (k : Int × Int × Int) : Prop := 0 ≤ k.1 ∧ k.1 < 50 ∧ 0 ≤ k.2.1 ∧ k.2.1 ≤ 15 ∧ 0 ≤ k.2.2 ∧ k.2.2 ≤ 8796093022207
def okP (p : Pr) : Prop := mayK (keyP p) ∧ 0 ≤ p.2.2.2 ∧ p.2.2.2 ≤ 65535
def OOk (l : List Pr) : Prop := l.length ≤ 500 ∧ (∀ p ∈ l, okP p) ∧ (l.map keyP).Nodup
def look (l : List Pr) (k : Int × Int × Int) : Option Int := (l.find? (fun p => keyP p == k)).map fun p => p.2.2.2
theorem look_snoc (l : List Pr) (p : Pr) (k : Int × Int × Int) : look (l ++ [p]) k = (look l k).or (if keyP p = k then some p.2.2.2 else none) := by
 unfold look
 rw [List.find?_append]
 cases l.find? (fun p => keyP p == k) with
 | some q => rfl
 | none =>
   by_cases h : keyP p = k
   · simp [h]
   · simp [h]
theorem look_none {l : List Pr} {k : Int × Int × Int} : look l k = none ↔ k ∉ l.map keyP := by
 unfold look
 rw [Option.map_eq_none_iff, List.find?_eq_none, List.mem_map]
 constructor
 · rintro h ⟨p, hp, rfl⟩
   exact h p hp (by simp)
 · intro h p hp hk
   exact h ⟨p, hp, by simpa using hk⟩
theorem look_some_mem {l : List Pr} {k : Int × Int × Int} {t : Int} (h : look l k = some t) : ∃ p ∈ l, keyP p = k ∧ p.2.2.2 = t := by
 unfold look at h
 rw [Option.map_eq_some_iff] at h
 obtain ⟨p, hp, rfl⟩ := h
 exact ⟨p, List.mem_of_find?_eq_some hp, by simpa using List.find?_some hp, rfl⟩
theorem ook_snoc {l : List Pr} {p : Pr} (h : OOk l) (hp : okP p) (hl : l.length < 500) (hn : look l (keyP p) = none) : OOk (l ++ [p]) := by
 obtain ⟨h1, h2, h3⟩ := h
 refine ⟨by simp; omega, fun q hq => ?_, ?_⟩
 · rcases List.mem_append.1 hq with h | h
   · exact h2 q h
   · simp at h; subst h; exact hp
 · rw [List.map_append, List.nodup_append]
   refine ⟨h3, by simp, ?_⟩
   intro a ha b hb
   simp at hb
   subst hb
   intro h
   subst h
   exact look_none.1 hn ha
theorem ook_take {l : List Pr} (h : OOk l) (k : Nat) : OOk (l.take k) := by
 obtain ⟨h1, h2, h3⟩ := h
 exact ⟨by rw [List.length_take]; omega, fun p hp => h2 p (List.mem_of_mem_take hp), by rw [List.map_take]; exact h3.sublist (List.take_sublist _ _)⟩
theorem ook_next {l : List Pr} {k : Nat} (h : OOk l) (hk : k < l.length) : look (l.take k) (keyP l[k]) = none := by
 have h1 := (ook_take h (k + 1)).2.2
 rw [List.take_succ_eq_append_getElem hk, List.map_append, List.nodup_append] at h1
 rw [look_none]
 intro hm
 exact h1.2.2 _ hm (keyP l[k]) (by simp) rfl
def prs (l : List Pr) : List Value := l.flatMap fun (p : Pr) => [Value.int .i64 p.1, .int .i64 p.2.1, .int .i64 p.2.2.1, .int .i64 p.2.2.2]
theorem prs_get {l : List Pr} {i : Nat} (h : i < l.length) : (prs l)[i * 4]? = some (.int .i64 l[i].1) ∧ (prs l)[i * 4 + 1]? = some (.int .i64 l[i].2.1) ∧ (prs l)[i * 4 + 2]? = some (.int .i64 l[i].2.2.1) ∧ (prs l)[i * 4 + 3]? = some (.int .i64 l[i].2.2.2) := by
 induction l generalizing i with
 | nil => simp at h
 | cons p l ih =>
   cases i with
   | zero => exact ⟨rfl, rfl, rfl, rfl⟩
   | succ i =>
     have := ih (i := i) (by simp at h; omega)
     simp only [List.getElem_cons_succ]
     rw [Nat.succ_mul]
     exact this
theorem prs_append (a b : List Pr) : prs (a ++ b) = prs a ++ prs b := by simp [prs]
theorem prs_one (l : List Pr) : ∀ u ∈ prs l, u.oneCell' = true := by
 intro u hu
 obtain ⟨p, _, hp⟩ := List.mem_flatMap.1 hu
 simp at hp
 rcases hp with rfl | rfl | rfl | rfl <;> rfl
def IsPs (w : World) (v : Value) (l : List Pr) : Prop :=
 ∃ (A : Option Addr) (c : Nat), v = .slice A l.length c ∧ l.length ≤ c ∧ c ≤ maxLen ∧ (∀ p ∈ l, wfP p) ∧ Rd w w.heap.size 4 A l.length (prs l)
theorem IsPs.below {w w' : World} {v : Value} {l : List Pr} (h : IsPs w v l) (hb : Below w.heap.size w w') : IsPs w' v l := by
 obtain ⟨A, c, h1, h2, h3, h4, h5⟩ := h
 exact ⟨A, c, h1, h2, h3, h4, (h5.below hb).more hb.size⟩
theorem isps_own {w : World} {base e : Nat} {A : Option Addr} {n c : Nat} {l : List Pr} (hn : l.length = n) (hw : ∀ p ∈ l, wfP p) (h : w.ownsRow base e 4 (.slice A n c) n (prs l)) : IsPs w (.slice A n c) l := by
 subst hn
 exact ⟨A, c, rfl, (own_cap h).1, (own_cap h).2, hw, Rd.of_own h⟩
theorem IsPs.at_ {w : World} {A : Option Addr} {n c : Nat} {l : List Pr} (h : IsPs w (.slice A n c) l) {k : Nat} (hk : k < l.length) :
   ∃ b off, A = some ⟨b, off, none⟩ ∧ b < w.heap.size ∧ w.cell? ⟨b, off + k * 4, none⟩ = some (.int .i64 l[k].1) ∧ w.cell? ⟨b, off + k * 4 + 1, none⟩ = some (.int .i64 l[k].2.1) ∧ w.cell? ⟨b, off + k * 4 + 2, none⟩ = some (.int .i64 l[k].2.2.1) ∧ w.cell? ⟨b, off + k * 4 + 3, none⟩ = some (.int .i64 l[k].2.2.2) := by
 obtain ⟨A', c', e, _, _, _, hr⟩ := h
 injection e with e1 e2
 subst e1
 obtain ⟨b, off, rfl, hB, hc⟩ := hr.at_ (by omega)
 have g := prs_get hk
 exact ⟨b, off, rfl, hB, hc _ _ g.1, hc (k * 4 + 1) _ g.2.1, hc (k * 4 + 2) _ g.2.2.1, hc (k * 4 + 3) _ g.2.2.2⟩
def MapIs (D : DataW Unit) (l : List Pr) : Prop :=
 IsMap D ∧ ∀ a b c : Int, wf3 a b c → has D (kl a b c) = (look l (a, b, c)).isSome ∧ D.atKey (kl a b c) (.lit (.int .i64 0)) = .lit (.int .i64 ((look l (a, b, c)).getD 0))
theorem mapIs_nil : MapIs (.map []) [] := ⟨isMap_empty, fun _ _ _ _ => ⟨rfl, rfl⟩⟩
theorem mapIs_put {D : DataW Unit} {l : List Pr} {p : Pr} (h : MapIs D l) (hw : wfP p) (hn : look l (keyP p) = none) : MapIs (D.put (kl p.1 p.2.1 p.2.2.1) (.lit (.int .i64 p.2.2.2))) (l ++ [p]) := by
 obtain ⟨h1, h2⟩ := h
 refine ⟨h1.put _ _, fun a b c hk => ?_⟩
 rw [look_snoc]
 by_cases e : keyP p = (a, b, c)
 · have e2 := e
   unfold keyP at e2
   injection e2 with ea e2
   injection e2 with eb ec
   rw [if_pos e, ← e, hn, ← ea, ← eb, ← ec]
   exact ⟨has_put_same h1 (kl_lit _ _ _) _, atKey_put_same h1 (kl_lit _ _ _) _ _⟩
 · have hne : kl a b c ≠ kl p.1 p.2.1 p.2.2.1 := fun h => by
     obtain ⟨ea, eb, ec⟩ := kl_inj hk hw.1 h
     exact e (by unfold keyP; rw [ea, eb, ec])
   rw [if_neg e, has_put_other hne, atKey_put_other hne, Option.or_none]
   exact h2 a b c hk
theorem map_below {H : Type} {P : Program} {k : TypeId} {R : Value → Option (DataW H × List MemPlace)} {b n : Nat} {D : DataW H} {w w' : World} (h : w.ownsMap P k R b n D) (hb : Below w.heap.size w w') : w'.ownsMap P k R b n D := by
 obtain ⟨es, clock, h1, h2⟩ := h
 have hlt : b < w.heap.size := by
   rcases Nat.lt_or_ge b w.heap.size with h | h
   · exact h
   · rw [Array.getElem?_eq_none h] at h1; cases h1
 exact ⟨es, clock, (hb.block b hlt).trans h1, h2⟩
end Go.Proofs.YtpcgpnkmjjamhaaGreatDoor
namespace Go.Proofs.YtpcgpnkmjjamhaaGreatDoor
open Go.RowKit
set_option linter.unusedVariables false
set_option maxRecDepth 100000

def rest97 (l : List Nat) : Nat := l.foldl (fun n d => (n * 10 + d) % 97) 0
def p10 : Nat → Nat → Nat
 | 0, a => a
 | k + 1, a => p10 k a * 10 % 97
end Go.Proofs.YtpcgpnkmjjamhaaGreatDoor
