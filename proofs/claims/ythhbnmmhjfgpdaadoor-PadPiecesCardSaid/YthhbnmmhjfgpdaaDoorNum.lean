/- The drawers of digits: 'numerals', 'slipped', 'swapped'. -/
import Derived.Test.YthhbnmmhjfgpdaaDoorPicked
import Derived.Test.YthhbnmmhjfgpdaaDoorFit
import Derived.Test.YthhbnmmhjfgpdaaDoorStr
import Derived.Test.YthhbnmmhjfgpdaaDoorMem
namespace Go.Proofs.YthhbnmmhjfgpdaaDoor
open Go.RowKit

theorem el_u8 : Elem Tryd.prog 22 5 1 1 := elem_of Tryd.underlying22 (show _ = some (some (.int .u8 0), 1, 1) by kernel_rfl) rfl (by omega)
/-- A digit's byte, as a number. -/
def dv (d : Nat) : Int := 48 + d
theorem dstr_nums (ds : List Nat) : strOfNums (ds.map dv) = dstr ds := by
  apply str_ext
  rw [strOfNums_data, dstr_toList, List.map_map]
  apply List.map_congr_left
  intro d _
  show UInt8.ofNat (dv d).toNat = dg d
  unfold dg dv
  congr 1
/-- The answer is a text of digits, one at least, 'most' at most. -/
def IsNum (most : Nat) (w : World) (e : Ending) (w' : World) : Prop := ∃ ds : List Nat, 0 < ds.length ∧ ds.length ≤ most ∧ (∀ d ∈ ds, d ≤ 9) ∧ e = .returned (.string (dstr ds)) ∧ Below w.heap.size w w'

set_option maxHeartbeats 400000 in
theorem numerals_ok (A : Option Addr) (n c : Nat) (zs : List Int) (most : Nat) (w : World) (hz : zs.length = n) (hw : ∀ z ∈ zs, 0 ≤ z ∧ z ≤ 255) (hr : Rd w w.heap.size 1 A n (zs.map (Value.int .u8))) (hn : n ≤ 9223372036854775807) (h0 : 1 ≤ most) (h1 : most ≤ 100000) :
    Calls Tryd.prog 9 #[.slice A n c, .int .i64 most] w (IsNum most w) := by
  go_enter Tryd.func9, Tryd.ntmps9
  go_wp2
  go_loopw [5, 6] (fun v i wr => ∃ (k : Nat) (ds : List Nat) (A' : Option Addr) (c' : Nat), k ≤ n ∧ k ≤ most ∧ i = .int .i64 k ∧ ds.length = k ∧ (∀ d ∈ ds, d ≤ 9) ∧ v = .slice A' k c' ∧ wr.ownsRow w.heap.size 5 1 (.slice A' k c') k ((ds.map dv).map (Value.int .u8)) ∧ Below w.heap.size w wr) (fun _ i _ => most - (intOf i).toNat)
  case atStart => exact ⟨0, [], none, 0, by omega, by omega, rfl, rfl, by simp, rfl, World.ownsRow_nil _ _ _ _, Below.refl _ _⟩
  case round =>
    obtain ⟨k, ds, A', c', hkn, hkm, rfl, hk, hd, rfl, hown, hb⟩ := hrel
    have Hk := Lib.hid hk
    clear hk
    by_cases hlt : k < n ∧ k < most
    · obtain ⟨hlt, hlm⟩ := hlt
      obtain ⟨b, off, rfl, hB, hc⟩ := hr.at_ (by omega)
      obtain ⟨z, hzk, hzb⟩ : ∃ z, (zs.map (Value.int .u8))[k]? = some (.int .u8 z) ∧ 0 ≤ z ∧ z ≤ 255 := ⟨zs[k], by simp [hz, hlt], hw zs[k] (List.getElem_mem _)⟩
      have hck : wr.cell? ⟨b, off + k, none⟩ = some (.int .u8 z) := (hb.cell (p := ⟨b, off + k, none⟩) hB).trans (hc k _ hzk)
      clear hc hr hw hzk hz
      have hq : 0 ≤ z % 10 ∧ z % 10 ≤ 9 := by omega
      go_wp2_with (at_builtin; refine wpList_push el_u8 rfl (.tmp 18) (.tmp 25) rfl wr w.heap.size _ k _ [.int .u8 (48 + z % 10)] rfl hown rfl rfl (fun u hu => by simp at hu; subst hu; rfl) (by omega) (by unfold maxLen; omega) hb.size ?_; intro A1 c1 w1 hown' hb' _)
      go_roundw
      case rel =>
        refine ⟨k + 1, ds ++ [(z % 10).toNat], A1, c1, by omega, by omega, by go_num, by simp [Hk.out], fun d hd' => ?_, rfl, ?_, hb.trans hb'⟩
        · rcases List.mem_append.1 hd' with h | h
          · exact hd d h
          · simp at h; omega
        · have e : ((ds ++ [(z % 10).toNat]).map dv).map (Value.int .u8) = ((ds.map dv).map (Value.int .u8)) ++ [.int .u8 (48 + z % 10)] := by
            simp [dv]; omega
          rw [e]; exact hown'
      case measure => simp [intOf]; omega
    · have hcv := own_string (dst := 9) Tryd.underlying22 Tryd.underlying5 Tryd.underlying9 hown
      by_cases hk0 : k = 0
      · subst hk0
        by_cases hn0 : n = 0
        · subst hn0
          go_wp2
          go_ret
          exact ⟨[0], by simp, by simpa using h0, by simp, rfl, hb⟩
        · exact absurd ⟨by omega, by omega⟩ hlt
      · have hk1 : ((k : Int) == 0) = false := by simp; omega
        rw [dstr_nums] at hcv
        by_cases hkn' : k < n
        · obtain rfl : k = most := by omega
          go_wp2
          go_ret
          exact ⟨ds, by rw [Hk.out]; omega, by rw [Hk.out]; omega, hd, rfl, hb⟩
        · obtain rfl : k = n := by omega
          go_wp2
          go_ret
          exact ⟨ds, by rw [Hk.out]; omega, by rw [Hk.out]; omega, hd, rfl, hb⟩

/-- A slice of bytes that came in. -/
def IsRaw (w : World) (v : Value) : Prop := ∃ (A : Option Addr) (n c : Nat) (zs : List Int), v = .slice A n c ∧ zs.length = n ∧ (∀ z ∈ zs, 0 ≤ z ∧ z ≤ 255) ∧ Rd w w.heap.size 1 A n (zs.map (Value.int .u8)) ∧ n ≤ maxLen
theorem IsRaw.below {w w' : World} {v : Value} (h : IsRaw w v) (hb : Below w.heap.size w w') : IsRaw w' v := by
  obtain ⟨A, n, c, zs, h1, h2, h3, h4, h5⟩ := h
  exact ⟨A, n, c, zs, h1, h2, h3, (h4.below hb).more hb.size, h5⟩
theorem raw_fit {v : Value} {w : World} (h : Fit Tryd.prog w 22 v) : IsRaw w v := by
  obtain ⟨A, n, c, rfl, hc⟩ := h.slice Tryd.underlying22
  obtain ⟨hn, hm, zs, hz, hw, hr⟩ := hc.slice_int Tryd.underlying22 (by kernel_rfl) Tryd.underlying5
  exact ⟨A, n, c, zs, rfl, hz, fun z hz => bounds_u8 (hw z hz), hr, by omega⟩
theorem numerals_raw {v : Value} {w : World} (h : IsRaw w v) (most : Nat) (h0 : 1 ≤ most) (h1 : most ≤ 100000) :
    Calls Tryd.prog 9 #[v, .int .i64 most] w (IsNum most w) := by
  obtain ⟨A, n, c, zs, rfl, hz, hw, hr, hm⟩ := h
  exact numerals_ok A n c zs most w hz hw hr (by unfold maxLen at hm; omega) h0 h1
theorem numerals_fit {v : Value} {w : World} (h : Fit Tryd.prog w 22 v) (most : Nat) (h0 : 1 ≤ most) (h1 : most ≤ 100000) :
    Calls Tryd.prog 9 #[v, .int .i64 most] w (IsNum most w) := numerals_raw (raw_fit h) most h0 h1
theorem one_str {x : Int} (h0 : 0 ≤ x) (h9 : x ≤ 9) : strOfNums [48 + x] = dstr [x.toNat] := by
  have h : (x.toNat : Int) = x := by omega
  rw [← dstr_nums]; simp [dv, h]
theorem slip_str {ds : List Nat} {i : Nat} {x : Int} (hi : i < ds.length) (h0 : 0 ≤ x) (h9 : x ≤ 9) :
    (dstr ds).extract 0 i ++ strOfNums [48 + x] ++ (dstr ds).extract (i + 1) ds.length = dstr (ds.set i x.toNat) := by
  rw [one_str h0 h9, dstr_extract, dstr_extract, ← dstr_append, ← dstr_append, List.set_eq_take_append_cons_drop, if_pos hi]
  congr 1
  rw [List.take_of_length_le (l := ds.drop (i + 1)) (by simp)]
  simp
/-- One digit is another one. -/
def IsSlip (ds : List Nat) (w : World) (e : Ending) (w' : World) : Prop :=
  ∃ (i d : Nat) (hi : i < ds.length), d ≤ 9 ∧ d ≠ ds[i] ∧ e = .returned (.string (dstr (ds.set i d))) ∧ Below w.heap.size w w'
/-- Two digits that lie 'far' apart have changed places. -/
def swp (l : List Nat) (i far : Nat) : List Nat := l.take i ++ (l.drop (i + far)).take 1 ++ (l.drop (i + 1)).take (far - 1) ++ (l.drop i).take 1 ++ l.drop (i + far + 1)
theorem swp_str (ds : List Nat) (i far : Nat) :
    (dstr ds).extract 0 i ++ (dstr ds).extract (i + far) (i + far + 1) ++ (dstr ds).extract (i + 1) (i + far) ++ (dstr ds).extract i (i + 1) ++ (dstr ds).extract (i + far + 1) ds.length = dstr (swp ds i far) := by
  simp only [dstr_extract, ← dstr_append]
  unfold swp
  rw [List.take_of_length_le (l := ds.drop (i + far + 1)) (by simp), Nat.add_sub_cancel_left, Nat.add_sub_cancel_left, show i + far - (i + 1) = far - 1 by omega]
  simp
def IsSwap (ds : List Nat) (far : Nat) (w : World) (e : Ending) (w' : World) : Prop :=
  ∃ i : Nat, i + far < ds.length ∧ e = .returned (.string (dstr (swp ds i far))) ∧ Below w.heap.size w w'
theorem swp_one {l : List Nat} {i : Nat} (h : i + 1 < l.length) : ∃ p x y q, l = p ++ x :: y :: q ∧ swp l i 1 = p ++ y :: x :: q ∧ p.length = i := by
  have e1 : l.drop i = l[i] :: l[i + 1] :: l.drop (i + 2) := by rw [List.drop_eq_getElem_cons (by omega), List.drop_eq_getElem_cons (by omega)]
  have e2 : l.drop (i + 1) = l[i + 1] :: l.drop (i + 2) := by rw [List.drop_eq_getElem_cons (by omega)]
  refine ⟨l.take i, l[i], l[i + 1], l.drop (i + 2), ?_, ?_, by simp; omega⟩
  · rw [← e1, List.take_append_drop]
  · unfold swp; rw [e1, e2]; simp only [Nat.sub_self, List.take_succ_cons, List.take_zero, List.append_assoc, List.cons_append, List.nil_append]
theorem swp_two {l : List Nat} {i : Nat} (h : i + 2 < l.length) : ∃ p x m y q, l = p ++ x :: m :: y :: q ∧ swp l i 2 = p ++ y :: m :: x :: q ∧ p.length = i := by
  have e1 : l.drop i = l[i] :: l[i + 1] :: l[i + 2] :: l.drop (i + 3) := by rw [List.drop_eq_getElem_cons (by omega), List.drop_eq_getElem_cons (by omega), List.drop_eq_getElem_cons (by omega)]
  have e2 : l.drop (i + 1) = l[i + 1] :: l[i + 2] :: l.drop (i + 3) := by rw [List.drop_eq_getElem_cons (by omega), List.drop_eq_getElem_cons (by omega)]
  have e3 : l.drop (i + 2) = l[i + 2] :: l.drop (i + 3) := by rw [List.drop_eq_getElem_cons (by omega)]
  refine ⟨l.take i, l[i], l[i + 1], l[i + 2], l.drop (i + 3), ?_, ?_, by simp; omega⟩
  · rw [← e1, List.take_append_drop]
  · unfold swp; rw [e1, e2, e3]; simp only [List.take_succ_cons, List.take_zero, List.append_assoc, List.cons_append, List.nil_append]
theorem set_parts {l : List Nat} {i d : Nat} (h : i < l.length) : ∃ p q, l = p ++ l[i] :: q ∧ l.set i d = p ++ d :: q := by
  refine ⟨l.take i, l.drop (i + 1), ?_, ?_⟩
  · rw [← List.drop_eq_getElem_cons h, List.take_append_drop]
  · rw [List.set_eq_take_append_cons_drop, if_pos h]
theorem set_le {l : List Nat} {i d : Nat} (hl : ∀ x ∈ l, x ≤ 9) (hd : d ≤ 9) : ∀ x ∈ l.set i d, x ≤ 9 := by
  intro x hx
  rcases List.mem_or_eq_of_mem_set hx with h | h
  · exact hl x h
  · omega
theorem swp_mem {l : List Nat} {i far : Nat} {x : Nat} (h : x ∈ swp l i far) : x ∈ l := by
  unfold swp at h
  simp only [List.mem_append] at h
  rcases h with (((h | h) | h) | h) | h
  · exact List.mem_of_mem_take h
  · exact List.mem_of_mem_drop (List.mem_of_mem_take h)
  · exact List.mem_of_mem_drop (List.mem_of_mem_take h)
  · exact List.mem_of_mem_drop (List.mem_of_mem_take h)
  · exact List.mem_of_mem_drop h
theorem swp_length {l : List Nat} {i far : Nat} (h1 : 1 ≤ far) (h : i + far < l.length) : (swp l i far).length = l.length := by
  unfold swp
  simp only [List.length_append, List.length_take, List.length_drop]
  omega
end Go.Proofs.YthhbnmmhjfgpdaaDoor
