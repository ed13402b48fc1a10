/- Texts of digits as lists of numbers: plain facts. -/
import Derived.WalkKit
import Derived.Lib.OthersKept
import Derived.Lib.Strings
namespace Go.Proofs.YtakdjggpengbhaaDoor
open Go.RowKit

/-- The byte of a digit. -/
def dg (d : Nat) : UInt8 := UInt8.ofNat (48 + d)
/-- The text of digits. -/
def dstr (l : List Nat) : ByteArray := ⟨(l.map dg).toArray⟩
theorem dg_toNat {d : Nat} (h : d ≤ 9) : (dg d).toNat = 48 + d := by
  unfold dg; rw [UInt8.toNat_ofNat']; omega
theorem dstr_size (l : List Nat) : (dstr l).size = l.length := by
  unfold dstr; show (l.map dg).toArray.size = _; simp
theorem dstr_get (l : List Nat) (i : Nat) (h : i < (dstr l).size) : (dstr l)[i] = dg (l[i]'(by rw [dstr_size] at h; exact h)) := by
  have h2 : i < l.length := by rw [dstr_size] at h; exact h
  have : ((l.map dg).toArray)[i]'(by simpa using h2) = dg (l[i]'h2) := by simp
  exact this
theorem dstr_byte {l : List Nat} (hl : ∀ d ∈ l, d ≤ 9) (i : Nat) (h : i < (dstr l).size) : ((dstr l)[i]).toNat = 48 + l[i]'(by rw [dstr_size] at h; exact h) := by
  rw [dstr_get, dg_toNat (hl _ (List.getElem_mem _))]
theorem dstr_toList (l : List Nat) : (dstr l).data.toList = l.map dg := by unfold dstr; simp
theorem str_ext {a b : ByteArray} (h : a.data.toList = b.data.toList) : a = b := by
  cases a; cases b; congr; exact Array.ext' h
theorem dg_inj {a b : Nat} (ha : a ≤ 9) (hb : b ≤ 9) (h : dg a = dg b) : a = b := by
  have := congrArg UInt8.toNat h
  rw [dg_toNat ha, dg_toNat hb] at this
  omega
theorem map_dg_inj : ∀ {a b : List Nat}, (∀ d ∈ a, d ≤ 9) → (∀ d ∈ b, d ≤ 9) → a.map dg = b.map dg → a = b
  | [], [], _, _, _ => rfl
  | [], _ :: _, _, _, h => by simp at h
  | _ :: _, [], _, _, h => by simp at h
  | x :: a, y :: b, ha, hb, h => by
    simp at h
    rw [dg_inj (ha x (by simp)) (hb y (by simp)) h.1, map_dg_inj (fun d hd => ha d (by simp [hd])) (fun d hd => hb d (by simp [hd])) h.2]
theorem dstr_inj {a b : List Nat} (ha : ∀ d ∈ a, d ≤ 9) (hb : ∀ d ∈ b, d ≤ 9) (h : dstr a = dstr b) : a = b := by
  apply map_dg_inj ha hb
  rw [← dstr_toList, ← dstr_toList, h]
theorem dstr_empty {l : List Nat} (h : 0 < l.length) : (dstr l).toList.isEmpty = false := by
  rw [Lib.toList_data, dstr_toList]; cases l <;> simp at h ⊢
theorem app_toList (a b : ByteArray) : (a ++ b).data.toList = a.data.toList ++ b.data.toList := by simp [ByteArray.data_append]
theorem str_beq (a b : ByteArray) : (a.toList == b.toList) = decide (a = b) := by
  rw [Bool.eq_iff_iff]
  simp only [beq_iff_eq, decide_eq_true_eq, Lib.toList_data]
  exact ⟨str_ext, fun h => by rw [h]⟩
theorem dstr_append (a b : List Nat) : dstr (a ++ b) = dstr a ++ dstr b := by
  apply str_ext; rw [app_toList, dstr_toList, dstr_toList, dstr_toList, List.map_append]
theorem dstr_extract (l : List Nat) (i j : Nat) : (dstr l).extract i j = dstr ((l.drop i).take (j - i)) := by
  apply str_ext
  rw [Lib.extract_data, dstr_toList, dstr_toList, List.map_take, List.map_drop]
theorem iterPos_of {w : World} {k : Nat} {s : ByteArray} {p : Nat} (h : w.heap[k]? = some (.stringIter s p)) : w.iterPos k = p := by simp [World.iterPos, h]
theorem iterPos_iter (w : World) (s : ByteArray) (p : Nat) : (w.iter s p).iterPos w.heap.size = p := iterPos_of (World.iter_heap w s p)
theorem below_iter (w : World) (s : ByteArray) (p : Nat) : Below w.heap.size w (w.iter s p) := (Below.refl _ _).alloc (Nat.le_refl _) _
end Go.Proofs.YtakdjggpengbhaaDoor
