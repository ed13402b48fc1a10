/- Where a meter's customer stands: a map of integers. -/
import Derived.Test.YtpcgpnkmjjamhaaGreatDoorQ21
import Derived.Test.YtpcgpnkmjjamhaaGreatDoorQ7
import Derived.Maps.OwnSet
import Derived.Maps.OwnOps
import Derived.Maps.Views
import Derived.ChangeKeys
import Derived.Laws.Bits64b
import Derived.WalkKit
import Derived.Lib.Hide
import Derived.IntWalk
namespace Go.Proofs.YtpcgpnkmjjamhaaGreatDoor
open Go.RowKit Go.Maps Go.ChangeShapes Go.WideShapes
set_option linter.unusedVariables false
set_option maxRecDepth 100000
def PlIs (D : DataW Unit) (B : List Cu) : Prop :=
 IsMap D ∧ ∀ me : Nat, me ≤ 49 → has D (.int .i64 ↑me) = (place B me).isSome ∧ D.atKey (.int .i64 ↑me) (.lit (.int .i64 0)) = .lit (.int .i64 (((place B me).getD 0 : Nat) : Int))
theorem pl_lit (n : Int) : WideAt.IsKeyLit (.int .i64 n) := trivial
theorem plIs_nil : PlIs (.map []) [] := ⟨isMap_empty, fun _ _ => ⟨rfl, rfl⟩⟩
theorem place_snoc (B : List Cu) (c : Cu) (me : Nat) : place (B ++ [c]) me = (place B me).or (if c.a.me = me then some B.length else none) := by
 unfold place
 rw [List.findIdx?_append]
 congr 1
 simp only [List.findIdx?_singleton]
 by_cases h : c.a.me = me
 · simp [h]
 · simp [h]
theorem plIs_put {D : DataW Unit} {B : List Cu} {c : Cu} (h : PlIs D B) (hc : c.a.me ≤ 49) (hn : place B c.a.me = none) : PlIs (D.put (.int .i64 ↑c.a.me) (.lit (.int .i64 ↑B.length))) (B ++ [c]) := by
 obtain ⟨h1, h2⟩ := h
 refine ⟨h1.put _ _, fun me hm => ?_⟩
 rw [place_snoc]
 by_cases e : c.a.me = me
 · subst e
   rw [if_pos rfl, hn]
   exact ⟨has_put_same h1 (pl_lit _) _, atKey_put_same h1 (pl_lit _) _ _⟩
 · have hne : (Lit.int .i64 ↑me) ≠ .int .i64 ↑c.a.me := fun h => by injection h with _ h; omega
   rw [if_neg e, has_put_other hne, atKey_put_other hne, Option.or_none]
   exact h2 me hm
theorem lit_inj {a b : Int} (h : (DataW.lit (.int .i64 a) : DataW Unit) = .lit (.int .i64 b)) : a = b := by
 cases h; rfl
theorem zeroI (w : World) : (zeroValue 3).run Tryz.prog w = .ok (.int .i64 0) w := by kernel_rfl
theorem int_key : Keyed Tryz.prog 3 := int_keyed Tryz.underlying3
def MapF (es : Array MapEntry) (clock n : Nat) (D : DataW Unit) : Prop := ∀ (w : World) (b : Nat), w.heap[b]? = some (.map es clock) → w.ownsMap Tryz.prog 3 (plainElem Tryz.prog 3) b n D
theorem mapF_of {w : World} {b n : Nat} {D : DataW Unit} (h : w.ownsMap Tryz.prog 3 (plainElem Tryz.prog 3) b n D) : ∃ es clock, w.heap[b]? = some (.map es clock) ∧ MapF es clock n D := by
 obtain ⟨es, clock, h1, h2⟩ := h
 exact ⟨es, clock, h1, fun w b h => ⟨es, clock, h, h2⟩⟩
theorem place_look {es : Array MapEntry} {clock n : Nat} {D : DataW Unit} {B : List Cu} (hF : MapF es clock n D) (hP : PlIs D B) {me : Nat} (hm : me ≤ 49) (w : World) (b : Nat) (hb : w.heap[b]? = some (.map es clock)) :
   (Instr.lookup 178 (.map (some b)) (.int .i64 ↑me) true).run Tryz.prog w = .ok (.tuple #[.int .i64 (((place B me).getD 0 : Nat) : Int), .bool (place B me).isSome]) w := by
 have ho := hF w b hb
 have hw : (Lit.int .i64 ↑me).wf = true := WalkArith.wf_i64 (by omega)
 obtain ⟨v, ps, hrun, hv⟩ := ho.look_ok int_key Tryz.underlying178 (z := .int .i64 0) (zeroI w) (plainElem_int Tryz.underlying3 (by decide)) (keyOf_int_mk Tryz.underlying3 hw)
 obtain ⟨c, rfl, hc, _⟩ := plainElem_int_inv Tryz.underlying3 hv
 obtain ⟨h1, h2⟩ := hP.2 me hm
 rw [hrun, h1]
 have hc1 := congrArg Prod.fst hc
 dsimp only at hc1
 rw [h2] at hc1
 rw [lit_inj hc1]
theorem place_put {es : Array MapEntry} {clock n : Nat} {D : DataW Unit} {B : List Cu} {c : Cu} (hF : MapF es clock n D) (hP : PlIs D B) (hm : c.a.me ≤ 49) (hn : place B c.a.me = none) (hl : B.length ≤ 1000) (hn2 : n < maxLen) (w : World) (b : Nat) (hb : w.heap[b]? = some (.map es clock)) :
   ∃ w' es' clock' D', (Instr.mapUpdate 178 (.map (some b)) (.int .i64 ↑c.a.me) (.int .i64 ↑B.length)).run Tryz.prog w = .ok () w' ∧ w'.heap[b]? = some (.map es' clock') ∧ MapF es' clock' (n + 1) D' ∧ PlIs D' (B ++ [c]) ∧ w.grownBy w' (some b) := by
 have ho := hF w b hb
 have hw : (Lit.int .i64 ↑c.a.me).wf = true := WalkArith.wf_i64 (by omega)
 have hw2 : (Lit.int .i64 ↑B.length).wf = true := WalkArith.wf_i64 (by omega)
 obtain ⟨w', hrun, ho', hg⟩ := ho.update int_key Tryz.underlying178 hn2 (keyOf_int_mk Tryz.underlying3 hw) (plainElem_int Tryz.underlying3 hw2)
 obtain ⟨es', clock', hb', hF'⟩ := mapF_of ho'
 exact ⟨w', es', clock', _, hrun, hb', hF', plIs_put hP hm hn, hg⟩
end Go.Proofs.YtpcgpnkmjjamhaaGreatDoor
namespace Go.Proofs.YtpcgpnkmjjamhaaGreatDoor
open Go.RowKit
set_option linter.unusedVariables false
set_option maxRecDepth 100000
def cb (cls : Int) : Int × Int × Bool := if cls = 0 then (1, 2097151, true) else if cls = 2 then (1, 15, true) else if cls = 1 ∨ cls = 3 then (0, 0, true) else (0, 0, false)
def tfault (cls id am tag : Int) : Int :=
 if (cb cls).2.2 = false then 9 else if id < 1 ∨ 1048575 < id ∨ am < (cb cls).1 ∨ (cb cls).2.1 < am ∨ tag < 0 ∨ 65535 < tag then 2 else 0
structure TkOk (cls id am tag : Nat) : Prop where
 h1 : cls ≤ 3
 h2 : 1 ≤ id
 h3 : id ≤ 1048575
 h4 : (cls = 0 ∧ 1 ≤ am ∧ am ≤ 2097151) ∨ (cls = 1 ∧ am = 0) ∨ (cls = 2 ∧ 1 ≤ am ∧ am ≤ 15) ∨ (cls = 3 ∧ am = 0)
 h5 : tag ≤ 65535
theorem TkOk.am {cls id am tag : Nat} (h : TkOk cls id am tag) : am ≤ 2097151 := by have := h.h4; omega
theorem tfault_ok {cls id am tag : Nat} (h : TkOk cls id am tag) : tfault cls id am tag = 0 := by
 obtain ⟨h1, h2, h3, h4, h5⟩ := h
 unfold tfault cb
 rcases h4 with ⟨rfl, h6, h7⟩ | ⟨rfl, h6⟩ | ⟨rfl, h6, h7⟩ | ⟨rfl, h6⟩ <;> simp <;> omega
def tbody (cls id am : Nat) : Nat := cls * 2199023255552 + id * 2097152 + am
theorem tbody_eq (cls id am : Nat) : (cls * 1048576 + id) * 2097152 + am = tbody cls id am := by
 unfold tbody
 rw [Nat.add_mul, Nat.mul_assoc]
theorem tbody_le {cls id am tag : Nat} (h : TkOk cls id am tag) : tbody cls id am ≤ 8796093022207 := by
 have := h.am
 obtain ⟨h1, h2, h3, h4, h5⟩ := h
 unfold tbody; omega
theorem or_i64_nat (a b : Nat) (ha : a < 4611686018427387904) (hb : b < 4611686018427387904) : bits .or .i64 (a : Int) (b : Int) = ((a ||| b : Nat) : Int) := by
 have hx : a ||| b < 2 ^ 62 := Nat.or_lt_two_pow (by omega) (by omega)
 have h1 : (BitVec.ofInt 64 (a : Int)).toNat = a := by
   rw [BitVec.ofInt_natCast, BitVec.toNat_ofNat]; exact Nat.mod_eq_of_lt (by omega)
 have h2 : (BitVec.ofInt 64 (b : Int)).toNat = b := by
   rw [BitVec.ofInt_natCast, BitVec.toNat_ofNat]; exact Nat.mod_eq_of_lt (by omega)
 show IntKind.i64.wrap ((BitVec.ofInt 64 (a : Int) ||| BitVec.ofInt 64 (b : Int)).toNat : Int) = _
 rw [BitVec.toNat_or, h1, h2]
 exact IntWalk.i64_in _ (by omega)
theorem or_addN (a i c : Nat) (h : c < 2 ^ i) : (a * 2 ^ i ||| c) = a * 2 ^ i + c := by
 have := Nat.shiftLeft_add_eq_or_of_lt h a
 rw [Nat.shiftLeft_eq] at this
 exact this.symm
theorem body_e1 {cls id : Nat} (h1 : cls ≤ 3) (h2 : id ≤ 1048575) : bits .or .i64 ((cls : Int) * 1048576) (id : Int) = ((cls * 1048576 + id : Nat) : Int) := by
 have h := or_i64_nat (cls * 1048576) id (by omega) (by omega)
 have k := or_addN cls 20 id (by omega)
 rw [show (2 : Nat) ^ 20 = 1048576 by decide] at k
 rw [k] at h
 rw [← h, Int.natCast_mul]; rfl
theorem body_e2 {x am : Nat} (h1 : x ≤ 4194303) (h2 : am ≤ 2097151) : bits .or .i64 ((x : Int) * 2097152) (am : Int) = ((x * 2097152 + am : Nat) : Int) := by
 have h := or_i64_nat (x * 2097152) am (by omega) (by omega)
 have k := or_addN x 21 am (by omega)
 rw [show (2 : Nat) ^ 21 = 2097152 by decide] at k
 rw [k] at h
 rw [← h, Int.natCast_mul]; rfl
end Go.Proofs.YtpcgpnkmjjamhaaGreatDoor
