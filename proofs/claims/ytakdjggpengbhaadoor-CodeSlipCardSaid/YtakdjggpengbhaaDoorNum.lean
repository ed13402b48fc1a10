/- The drawers of digits: 'numerals', 'slipped', 'swapped'. -/
import Derived.Test.YtakdjggpengbhaaDoorPicked
import Derived.Test.YtakdjggpengbhaaDoorFit
import Derived.Test.YtakdjggpengbhaaDoorStr
import Derived.Test.YtakdjggpengbhaaDoorMem
namespace Go.Proofs.YtakdjggpengbhaaDoor
open Go.RowKit

theorem el_u8 : Elem Tryd.prog 70 5 1 1 := elem_of Tryd.underlying70 (show _ = some (some (.int .u8 0), 1, 1) by kernel_rfl) rfl (by omega)
/-- A digit's byte, as a number. -/
def dv (d : Nat) : Int := 48 + d
theorem dstr_nums (ds : List Nat) : strOfNums (ds.map dv) = dstr ds := by
  apply str_ext
  rw [strOfNums_data, dstr_toList, List.map_map]
  apply List.map_congr_left
  intro d _
  show UInt8.ofNat (dv d).toNat = dg d
  unfold dg dv
  congr 1
/-- The answer is a text of digits, one at least, 'most' at most. -/
def IsNum (most : Nat) (w : World) (e : Ending) (w' : World) : Prop := ∃ ds : List Nat, 0 < ds.length ∧ ds.length ≤ most ∧ (∀ d ∈ ds, d ≤ 9) ∧ e = .returned (.string (dstr ds)) ∧ Below w.heap.size w w'


/-- A slice of bytes that came in. -/
def IsRaw (w : World) (v : Value) : Prop := ∃ (A : Option Addr) (n c : Nat) (zs : List Int), v = .slice A n c ∧ zs.length = n ∧ (∀ z ∈ zs, 0 ≤ z ∧ z ≤ 255) ∧ Rd w w.heap.size 1 A n (zs.map (Value.int .u8)) ∧ n ≤ maxLen
theorem IsRaw.below {w w' : World} {v : Value} (h : IsRaw w v) (hb : Below w.heap.size w w') : IsRaw w' v := by
  obtain ⟨A, n, c, zs, h1, h2, h3, h4, h5⟩ := h
  exact ⟨A, n, c, zs, h1, h2, h3, (h4.below hb).more hb.size, h5⟩
theorem one_str {x : Int} (h0 : 0 ≤ x) (h9 : x ≤ 9) : strOfNums [48 + x] = dstr [x.toNat] := by
  have h : (x.toNat : Int) = x := by omega
  rw [← dstr_nums]; simp [dv, h]
theorem slip_str {ds : List Nat} {i : Nat} {x : Int} (hi : i < ds.length) (h0 : 0 ≤ x) (h9 : x ≤ 9) :
    (dstr ds).extract 0 i ++ strOfNums [48 + x] ++ (dstr ds).extract (i + 1) ds.length = dstr (ds.set i x.toNat) := by
  rw [one_str h0 h9, dstr_extract, dstr_extract, ← dstr_append, ← dstr_append, List.set_eq_take_append_cons_drop, if_pos hi]
  congr 1
  rw [List.take_of_length_le (l := ds.drop (i + 1)) (by simp)]
  simp
/-- One digit is another one. -/
def IsSlip (ds : List Nat) (w : World) (e : Ending) (w' : World) : Prop :=
  ∃ (i d : Nat) (hi : i < ds.length), d ≤ 9 ∧ d ≠ ds[i] ∧ e = .returned (.string (dstr (ds.set i d))) ∧ Below w.heap.size w w'
/-- The digit at this place is another one. -/
def IsSlipAt (ds : List Nat) (i : Nat) (w : World) (e : Ending) (w' : World) : Prop :=
  ∃ (d : Nat) (hi : i < ds.length), d ≤ 9 ∧ d ≠ ds[i] ∧ e = .returned (.string (dstr (ds.set i d))) ∧ Below w.heap.size w w'
set_option maxHeartbeats 400000 in
theorem slipped_is (ds : List Nat) (at_ by_ : Int) (i : Nat) (w : World) (hi : Hid (pk at_ (ds.length : Int) = (i : Int))) (hil : i < ds.length) (h0 : 0 < ds.length) (h1 : ds.length ≤ 100000) (hd : ∀ d ∈ ds, d ≤ 9) (ha : (Lit.int .i64 at_).wf = true) (hb : (Lit.int .i64 by_).wf = true) :
    Calls Tryd.prog 12 #[.string (dstr ds), .int .i64 at_, .int .i64 by_] w (IsSlipAt ds i w) := by
  have hsz := dstr_size ds
  obtain ⟨j, hj, hj0, hj9⟩ := pk_int by_ 9 (by omega)
  have hbt := dstr_byte hd i (by omega)
  have hdi := hd _ (List.getElem_mem hil)
  generalize hdd : ds[i] = d at *
  have Hdd := Lib.hid hdd
  clear hdd
  go_enter Tryd.func12, Tryd.ntmps12
  go_wp2_with fail
  refine (picked_is _ hi ha (by omega) (by omega)).mono ?_
  rintro e w' ⟨rfl, rfl⟩
  go_wp2_with fail
  go_quiet ((go_at_call 10; exact quiet_eq (picked_is _ hj hb (by omega) (by omega))))
  have hS := strOfNums_size
  have hil' : i ≤ ds.length := by omega
  have hil2 : (i : Int) ≤ (ds.length : Int) := by omega
  have hil3 : (i : Int) + 1 ≤ (ds.length : Int) := by omega
  have hmin : min i ds.length = i := by omega
  have hcv := conv_one (dst := 9) Tryd.underlying70 Tryd.underlying5 Tryd.underlying9 w
  go_wp2_with fail
  go_region
  go_wp2
  go_ret
  have hx : 0 ≤ (48 + (d : Int) - 48 + 1 + j) % 10 ∧ (48 + (d : Int) - 48 + 1 + j) % 10 ≤ 9 := by omega
  refine ⟨((48 + (d : Int) - 48 + 1 + j) % 10).toNat, hil, by omega, ?_, by rw [← slip_str hil hx.1 hx.2]; rfl, below_draws (Below.refl _ _) _ |>.alloc (Nat.le_refl _) _⟩
  rw [Hdd.out]; omega
theorem slipped_ok (ds : List Nat) (at_ by_ : Int) (w : World) (h0 : 0 < ds.length) (h1 : ds.length ≤ 100000) (hd : ∀ d ∈ ds, d ≤ 9) (ha : (Lit.int .i64 at_).wf = true) (hb : (Lit.int .i64 by_).wf = true) :
    Calls Tryd.prog 12 #[.string (dstr ds), .int .i64 at_, .int .i64 by_] w (IsSlip ds w) := by
  obtain ⟨i, hi, hil⟩ := pk_nat at_ ds.length h0
  exact (slipped_is ds at_ by_ i w hi hil h0 h1 hd ha hb).mono fun _ _ ⟨d, hi, h⟩ => ⟨i, d, hi, h⟩
/-- Two digits that lie 'far' apart have changed places. -/
def swp (l : List Nat) (i far : Nat) : List Nat := l.take i ++ (l.drop (i + far)).take 1 ++ (l.drop (i + 1)).take (far - 1) ++ (l.drop i).take 1 ++ l.drop (i + far + 1)
theorem swp_str (ds : List Nat) (i far : Nat) :
    (dstr ds).extract 0 i ++ (dstr ds).extract (i + far) (i + far + 1) ++ (dstr ds).extract (i + 1) (i + far) ++ (dstr ds).extract i (i + 1) ++ (dstr ds).extract (i + far + 1) ds.length = dstr (swp ds i far) := by
  simp only [dstr_extract, ← dstr_append]
  unfold swp
  rw [List.take_of_length_le (l := ds.drop (i + far + 1)) (by simp), Nat.add_sub_cancel_left, Nat.add_sub_cancel_left, show i + far - (i + 1) = far - 1 by omega]
  simp
def IsSwap (ds : List Nat) (far : Nat) (w : World) (e : Ending) (w' : World) : Prop :=
  ∃ i : Nat, i + far < ds.length ∧ e = .returned (.string (dstr (swp ds i far))) ∧ Below w.heap.size w w'
set_option maxHeartbeats 400000 in
theorem swapped_ok (ds : List Nat) (at_ : Int) (far : Nat) (w : World) (h0 : 1 ≤ far) (hf : far < ds.length) (h1 : ds.length ≤ 100000) (ha : (Lit.int .i64 at_).wf = true) :
    Calls Tryd.prog 13 #[.string (dstr ds), .int .i64 at_, .int .i64 far] w (IsSwap ds far w) := by
  have hsz := dstr_size ds
  obtain ⟨i, hi, hi0, hil⟩ := pk_int at_ ((ds.length : Int) - (far : Int)) (by omega)
  obtain ⟨i, rfl⟩ := Int.eq_ofNat_of_zero_le hi0
  go_enter Tryd.func13, Tryd.ntmps13
  go_wp2_with fail
  refine (picked_is _ hi ha (by omega) (by omega)).mono ?_
  rintro e w' ⟨rfl, rfl⟩
  have hS := @ByteArray.size_append
  go_wp2_with fail
  go_quiet (fail)
  go_wp2
  go_ret
  exact ⟨i, by omega, by rw [← swp_str]; rfl, below_draws (Below.refl _ _) _⟩
theorem swp_one {l : List Nat} {i : Nat} (h : i + 1 < l.length) : ∃ p x y q, l = p ++ x :: y :: q ∧ swp l i 1 = p ++ y :: x :: q ∧ p.length = i := by
  have e1 : l.drop i = l[i] :: l[i + 1] :: l.drop (i + 2) := by rw [List.drop_eq_getElem_cons (by omega), List.drop_eq_getElem_cons (by omega)]
  have e2 : l.drop (i + 1) = l[i + 1] :: l.drop (i + 2) := by rw [List.drop_eq_getElem_cons (by omega)]
  refine ⟨l.take i, l[i], l[i + 1], l.drop (i + 2), ?_, ?_, by simp; omega⟩
  · rw [← e1, List.take_append_drop]
  · unfold swp; rw [e1, e2]; simp only [Nat.sub_self, List.take_succ_cons, List.take_zero, List.append_assoc, List.cons_append, List.nil_append]
theorem swp_two {l : List Nat} {i : Nat} (h : i + 2 < l.length) : ∃ p x m y q, l = p ++ x :: m :: y :: q ∧ swp l i 2 = p ++ y :: m :: x :: q ∧ p.length = i := by
  have e1 : l.drop i = l[i] :: l[i + 1] :: l[i + 2] :: l.drop (i + 3) := by rw [List.drop_eq_getElem_cons (by omega), List.drop_eq_getElem_cons (by omega), List.drop_eq_getElem_cons (by omega)]
  have e2 : l.drop (i + 1) = l[i + 1] :: l[i + 2] :: l.drop (i + 3) := by rw [List.drop_eq_getElem_cons (by omega), List.drop_eq_getElem_cons (by omega)]
  have e3 : l.drop (i + 2) = l[i + 2] :: l.drop (i + 3) := by rw [List.drop_eq_getElem_cons (by omega)]
  refine ⟨l.take i, l[i], l[i + 1], l[i + 2], l.drop (i + 3), ?_, ?_, by simp; omega⟩
  · rw [← e1, List.take_append_drop]
  · unfold swp; rw [e1, e2, e3]; simp only [List.take_succ_cons, List.take_zero, List.append_assoc, List.cons_append, List.nil_append]
theorem set_parts {l : List Nat} {i d : Nat} (h : i < l.length) : ∃ p q, l = p ++ l[i] :: q ∧ l.set i d = p ++ d :: q := by
  refine ⟨l.take i, l.drop (i + 1), ?_, ?_⟩
  · rw [← List.drop_eq_getElem_cons h, List.take_append_drop]
  · rw [List.set_eq_take_append_cons_drop, if_pos h]
theorem set_le {l : List Nat} {i d : Nat} (hl : ∀ x ∈ l, x ≤ 9) (hd : d ≤ 9) : ∀ x ∈ l.set i d, x ≤ 9 := by
  intro x hx
  rcases List.mem_or_eq_of_mem_set hx with h | h
  · exact hl x h
  · omega
theorem swp_mem {l : List Nat} {i far : Nat} {x : Nat} (h : x ∈ swp l i far) : x ∈ l := by
  unfold swp at h
  simp only [List.mem_append] at h
  rcases h with (((h | h) | h) | h) | h
  · exact List.mem_of_mem_take h
  · exact List.mem_of_mem_drop (List.mem_of_mem_take h)
  · exact List.mem_of_mem_drop (List.mem_of_mem_take h)
  · exact List.mem_of_mem_drop (List.mem_of_mem_take h)
  · exact List.mem_of_mem_drop h
theorem swp_length {l : List Nat} {i far : Nat} (h1 : 1 ≤ far) (h : i + far < l.length) : (swp l i far).length = l.length := by
  unfold swp
  simp only [List.length_append, List.length_take, List.length_drop]
  omega
end Go.Proofs.YtakdjggpengbhaaDoor
