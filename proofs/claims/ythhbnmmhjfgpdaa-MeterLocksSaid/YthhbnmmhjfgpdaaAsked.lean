/- asked; Issue whatever was there. -/
import Derived.Test.YthhbnmmhjfgpdaaOrac
import Derived.Test.YthhbnmmhjfgpdaaPicked
import Derived.Test.YthhbnmmhjfgpdaaFlat
import Derived.StillTailTactics
namespace Go.Proofs.Ythhbnmmhjfgpdaa
open Go.RowKit Go.Maps Go.ChangeShapes Go.WideShapes
theorem still_tail_drew {P : Program} {id : Nat} {Q : Exit → Act → World → Prop} {a : Act} {w : World} {l : List Oper} (n : Nat) (hm : P.follows .mixedOrders = true) (hB : Region.lexTailB .any l.toArray n = true)
    (h : wpStill P l.toArray w.drew (fun a' => wpList P l.toArray Q (l.drop n) a' w.drew) (l.take n) a) : (Code.region id l.toArray true).wp P Q a w := wp_region_still_tail n hm hB h
theorem below_ad2 (w : World) (a b : Obj) : Below w.heap.size w ((w.alloc a).alloc b).drew := by
  have k := below_a2 w a b
  exact ⟨k.os, k.tape, k.output, k.size, k.block⟩
/-- The pairs behind an issue; the tag that it gives. -/
def issL (l : List Pr) (x y z d : Int) : List Pr := if look l (x, y, z) = none then l ++ [(x, y, z, d)] else l
def issT (l : List Pr) (x y z d : Int) : Int := (look l (x, y, z)).getD d
theorem issL_ok {l : List Pr} {x y z d : Int} (h : OOk l) (hk : mayK (x, y, z)) (hd1 : 0 ≤ d) (hd2 : d ≤ 65535) (h5 : l.length < 500) : OOk (issL l x y z d) := by
  unfold issL
  by_cases g : look l (x, y, z) = none
  · rw [if_pos g]; exact ook_snoc h ⟨hk, hd1, hd2⟩ h5 g
  · rw [if_neg g]; exact h
theorem issL_len (l : List Pr) (x y z d : Int) : l.length ≤ (issL l x y z d).length ∧ (issL l x y z d).length ≤ l.length + 1 := by
  unfold issL; split <;> simp
theorem issL_look (l : List Pr) (x y z d : Int) (k : Int × Int × Int) : look (issL l x y z d) k = if k = (x, y, z) then some (issT l x y z d) else look l k := by
  unfold issL issT
  by_cases e : k = (x, y, z)
  · subst e
    rw [if_pos rfl]
    cases h : look l (x, y, z) with
    | none => rw [if_pos rfl, look_snoc, h, if_pos (show keyP (x, y, z, d) = (x, y, z) from rfl)]; rfl
    | some t => rw [if_neg (by simp), h]; rfl
  · rw [if_neg e]
    split
    · rw [look_snoc, if_neg (show ¬ keyP (x, y, z, d) = k from fun h => e h.symm), Option.or_none]
    · rfl
theorem ook_wf {l : List Pr} (h : OOk l) : ∀ p ∈ l, wfP p := fun p hp => by
  obtain ⟨⟨h1, h2, h3, h4, h5, h6⟩, h7, h8⟩ := h.2.1 p hp
  unfold keyP at *
  dsimp only at *
  exact ⟨⟨WalkArith.wf_i64 (by omega), WalkArith.wf_i64 (by omega), WalkArith.wf_i64 (by omega)⟩, WalkArith.wf_i64 (by omega)⟩
theorem issT_bd {l : List Pr} {x y z d : Int} (h : OOk l) (hd1 : 0 ≤ d) (hd2 : d ≤ 65535) : 0 ≤ issT l x y z d ∧ issT l x y z d ≤ 65535 := by
  unfold issT
  cases hl : look l (x, y, z) with
  | none => exact ⟨hd1, hd2⟩
  | some t =>
    obtain ⟨p, hp, _, rfl⟩ := look_some_mem hl
    exact (h.2.1 p hp).2
theorem issue_ok (v : Value) (l l2 : List Pr) (x y z d t : Int) (w : World) (hv : IsPs w v l) (hl : OOk l) (hk : mayK (x, y, z)) (hw : wf3 x y z) (hd1 : 0 ≤ d) (hd2 : d ≤ 65535) (h5 : l.length < 500) (hl2 : Hid (issL l x y z d = l2)) (ht : Hid (issT l x y z d = t)) :
    Calls Try.prog 33 #[.agg #[v], .int .i64 x, .int .i64 y, .int .i64 z, .int .i64 d] w (RetIss l2 t w) := by
  rw [← hl2.out, ← ht.out]
  unfold issL issT
  cases h : look l (x, y, z) with
  | none => rw [if_pos rfl]; exact issue_new v l x y z d w hv hl hk hw hd1 hd2 h h5
  | some t => rw [if_neg (by simp)]; exact issue_had v l x y z d t w hv hl hk hw hd1 hd2 h
theorem mayK_small {q r s : Nat} (h1 : q < 3) (h2 : r < 3) (h3 : s < 5) : mayK ((q : Int), (r : Int), (s : Int)) := by
  unfold mayK; dsimp only; omega
theorem wf3_small {q r s : Nat} (h1 : q < 3) (h2 : r < 3) (h3 : s < 5) : wf3 (q : Int) (r : Int) (s : Int) :=
  ⟨WalkArith.wf_i64 (by omega), WalkArith.wf_i64 (by omega), WalkArith.wf_i64 (by omega)⟩
end Go.Proofs.Ythhbnmmhjfgpdaa
