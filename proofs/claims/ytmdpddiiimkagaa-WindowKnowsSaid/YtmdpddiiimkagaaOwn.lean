/- Rows of the call's own, over calls and over stores elsewhere; slices of integers. -/
import Derived.Test.YtmdpddiiimkagaaPush
import Derived.Test.YtmdpddiiimkagaaCellD
import Derived.OwnWalk
namespace Go.Proofs.Ytmdpddiiimkagaa
open Go.RowKit
section
variable {w w' : World} {base : Nat} {e : TypeId} {size : Nat} {v : Value} {n : Nat} {xs : List Value}
theorem own_below (h : w.ownsRow base e size v n xs) (hb : Below w.heap.size w w') : w'.ownsRow base e size v n xs :=
  h.kept (row := none) ⟨hb.os, hb.tape, hb.output, hb.size, fun i hi _ => hb.block i hi⟩ (by cases v.ownBlock <;> simp)
theorem own_far (h : w.ownsRow base e size v n xs) {p : Addr} (hp : p.block < base) (u : Value) : (w.setCell p u).ownsRow base e size v n xs := by
  refine h.kept (row := some p.block) ⟨rfl, rfl, rfl, by simp, fun k _ hk => heap_setCell_other w p k u (fun e => hk (by simp [e]))⟩ ?_
  cases hv : v.ownBlock with
  | none => exact .inl rfl
  | some g =>
    have := (h.lt g hv).1
    refine .inr ?_
    intro h'
    injection h' with h'
    omega
theorem own_drewN (h : w.ownsRow base e size v n xs) (k : Nat) : (w.drewN k).ownsRow base e size v n xs := h
end
theorem heap_new_at (w : World) (o : Obj) (g : Nat) (h : w.heap.size = g) : (w.alloc o).heap[g]? = some o := by subst h; exact heap_alloc_new w o
/-- The cells of integers. -/
def nis (xs : List Nat) : List Value := xs.map fun (x : Nat) => Value.int .i64 (x : Int)
theorem nis_length (xs : List Nat) : (nis xs).length = xs.length := by simp [nis]
theorem nis_get {xs : List Nat} {i : Nat} (h : i < xs.length) : (nis xs)[i]? = some (.int .i64 xs[i]) := by simp [nis, h]
theorem nis_append (a b : List Nat) : nis (a ++ b) = nis a ++ nis b := by simp [nis]
theorem int_info : (Try.prog.info? 3).map (fun i => (i.zero, i.size, i.bytes)) = some (some (.int .i64 0), 1, 8) := by kernel_rfl
theorem el_int : Elem Try.prog 53 3 1 8 := elem_of Try.underlying53 int_info rfl (by omega)
/-- make([]T, n), T of one cell. -/
theorem run_make_z {P : Program} {t e : TypeId} {z : Value} {bytes : Nat} (hu : P.underlying t = some (.slice e)) (hinfo : (P.info? e).map (fun i => (i.zero, i.size, i.bytes)) = some (some z, 1, bytes)) (hz1 : z.cells = #[z]) (n : Nat) (hb : bytes * n ≤ 281474976710656) (h63 : n ≤ 9223372036854775807) (w : World) :
    (Instr.makeSlice t (.int .i64 n) (.int .i64 n)).run P w = .ok (.slice (some ⟨w.heap.size, 0, none⟩) n n) (w.alloc (.cells (List.replicate n z).toArray e)) := by
  obtain ⟨i, hi, hz, hsize, hby⟩ := info_parts hinfo
  have hbn : (i.bytes : Int) * (n : Int) ≤ 281474976710656 := by
    rw [hby, ← Int.natCast_mul]; omega
  have h := run_make (P := P) w t e i z hu hi hz .i64 .i64 n n (by omega) (by omega) hbn (by omega)
  simp only [Int.toNat_natCast] at h
  rw [h, hsize, Nat.mul_one, hz1]
  congr 3
  apply Array.ext
  · simp [madeCells]
  · intro j h1 h2
    simp [madeCells, Nat.mod_one]
/-- A slice value that reads as these numbers. -/
def IsNs (w : World) (v : Value) (xs : List Nat) : Prop :=
  ∃ (A : Option Addr) (c : Nat), v = .slice A xs.length c ∧ xs.length ≤ c ∧ c ≤ maxLen ∧ Rd w w.heap.size 1 A xs.length (nis xs)
theorem IsNs.below {w w' : World} {v : Value} {xs : List Nat} (h : IsNs w v xs) (hb : Below w.heap.size w w') : IsNs w' v xs := by
  obtain ⟨A, c, h1, h2, h3, h5⟩ := h
  exact ⟨A, c, h1, h2, h3, (h5.below hb).more hb.size⟩
theorem isns_own {w : World} {base e : Nat} {A : Option Addr} {n c : Nat} {l : List Nat} (hn : l.length = n) (h : w.ownsRow base e 1 (.slice A n c) n (nis l)) : IsNs w (.slice A n c) l := by
  subst hn
  exact ⟨A, c, rfl, (own_cap h).1, (own_cap h).2, Rd.of_own h⟩
theorem IsNs.at_ {w : World} {A : Option Addr} {n c : Nat} {l : List Nat} (h : IsNs w (.slice A n c) l) {k : Nat} (hk : k < l.length) :
    ∃ b off, A = some ⟨b, off, none⟩ ∧ b < w.heap.size ∧ w.cell? ⟨b, off + k, none⟩ = some (.int .i64 (l[k] : Nat)) := by
  obtain ⟨A', c', e, _, _, hr⟩ := h
  injection e with e1 e2
  subst e1
  obtain ⟨b, off, rfl, hB, hc⟩ := hr.at_ (by omega)
  exact ⟨b, off, rfl, hB, hc _ _ (nis_get hk)⟩
end Go.Proofs.Ytmdpddiiimkagaa
