/- The walk of the law PadPlain. -/
import Derived.Test.YthhbnmmhjfgpdaaDoorPadL
namespace Go.Proofs.YthhbnmmhjfgpdaaDoor
open Go.RowKit
set_option linter.unusedVariables false
set_option maxRecDepth 100000 in
set_option maxHeartbeats 2000000 in
theorem walk_padPlain (w : World) (a0 : Value) (w0 : Fit Tryd.prog w 22 a0) :
    Calls Tryd.prog 3 #[a0] w fun e w' => e = .returned (.bool true) ∧ Below w.heap.size w w' := by
  have H := Mem.init w
  go_enter Tryd.func3, Tryd.ntmps3
  go_wp2_with fail
  refine (numerals_fit w0 30 (by omega) (by omega)).mono ?_
  rintro e wa ⟨ds, hpos, hlen, hd, rfl, hba⟩
  replace H : Mem (w) [] (wa) [] := Mem.call H hba
  clear hba
  have hK := fun W => keys_digits ds W hd hpos hlen
  have hsz := dstr_size ds
  have hcap : ¬ 9223372036854775807 < ds.length + 1 := by omega
  have hE := fun W => pad_eql ByteArray.empty ByteArray.empty false false W
  have hE2 := fun W => ent_eql (dstr ds) (dstr ds) 0 0 W
  simp only [beq_self_eq_true, Bool.and_true] at hE hE2
  clear hpos hlen hd w0
  go_wp2_with fail
  refine (hK _).mono ?_
  rintro e wb ⟨A, c, rfl, hown, hbb⟩
  replace H : Mem (w) [] (wb) [] := Mem.call H hbb
  obtain ⟨b, off, rfl, hB, hc⟩ := (Rd.of_own hown).at_ (by omega)
  have hc0 : wb.cell? ⟨b, off, none⟩ = some (.string (dstr ds)) := hc 0 _ rfl
  have hc1 : wb.cell? ⟨b, off + 1, none⟩ = some (.int .i64 0) := hc 1 _ rfl
  clear hK hbb hown hc
  replace H : Mem (w) [] _ [.blk (wb.heap.size) 26 #[.string ByteArray.empty, .bool false]] := Mem.alloc H (wb.heap.size) (by first | (simp; done) | (simp; omega)) #[.string ByteArray.empty, .bool false] 26
  have pp0 : ((wb).alloc (.cells #[.string ByteArray.empty, .bool false] 26)).cell? ⟨wb.heap.size, 0, none⟩ = some (.string ByteArray.empty) := (H.blk 0 rfl).cell 0
  have ppf0 : ((wb).alloc (.cells #[.string ByteArray.empty, .bool false] 26)).frozen? ⟨wb.heap.size, 0, none⟩ = false := (H.blk 0 rfl).frozen 0
  have pp1 : ((wb).alloc (.cells #[.string ByteArray.empty, .bool false] 26)).cell? ⟨wb.heap.size, 1, none⟩ = some (.bool false) := (H.blk 0 rfl).cell 1
  have ppf1 : ((wb).alloc (.cells #[.string ByteArray.empty, .bool false] 26)).frozen? ⟨wb.heap.size, 1, none⟩ = false := (H.blk 0 rfl).frozen 1
  have pplt : wb.heap.size < ((wb).alloc (.cells #[.string ByteArray.empty, .bool false] 26)).heap.size := H.lt 0 rfl
  go_wp2
  go_ret
  exact ⟨rfl, H.below⟩
end Go.Proofs.YthhbnmmhjfgpdaaDoor
