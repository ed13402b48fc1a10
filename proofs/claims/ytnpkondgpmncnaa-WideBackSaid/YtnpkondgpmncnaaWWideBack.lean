/- The walk of the law WideBack. -/
import Derived.Test.YtnpkondgpmncnaaShow
import Derived.Test.YtnpkondgpmncnaaReadW
namespace Go.Proofs.Ytnpkondgpmncnaa
open Go.RowKit
set_option linter.unusedVariables false
theorem wideb_same (a0 a1 a2 : Int) (W : World) : (Op.equalIn 10000 40 (.agg #[.int .u32 a0, .int .u32 a1, .int .u32 a2]) (.agg #[.int .u32 a0, .int .u32 a1, .int .u32 a2])).run Try.prog W = .ok true W := by
  rw [wide_eql]; simp
set_option maxRecDepth 100000 in
set_option maxHeartbeats 1000000 in
theorem walk_wideBack (w : World) (a0 : Value) (w0 : Fit Try.prog w 40 a0) :
    Calls Try.prog 5 #[a0] w fun e w' => e = .returned (.bool true) ∧ Below w.heap.size w w' := by
  obtain ⟨x0, x1, x2, rfl, h0, h1, h2⟩ := wide_fit w0
  obtain ⟨l, hl⟩ : ∃ l, dec (val3 x0 x1 x2) = l := ⟨_, rfl⟩
  have hSh := fun W => show_ok x0 x1 x2 W h0 h1 h2
  have h9 := val3_lt h0 h1 h2
  have hle := dec_le (val3 x0 x1 x2)
  have hpos := dec_pos (val3 x0 x1 x2)
  have hlen := dec_len (val3 x0 x1 x2) 29 (by omega) (by omega)
  have hhead : l.length = 1 ∨ l[0]? ≠ some 0 := by
    rcases Nat.eq_zero_or_pos (val3 x0 x1 x2) with h | h
    · exact .inl (by rw [← hl, h, dec_small (by omega)]; rfl)
    · obtain ⟨d, t, ht, hd⟩ := dec_head _ h
      refine .inr ?_
      rw [← hl, ht]; simp; omega
  have hv := val10_dec (val3 x0 x1 x2)
  rw [hl] at hSh hle hpos hlen hv
  have hRd := fun W => wread_ok l W hle hpos (by omega) hhead (by rw [hv]; exact h9)
  rw [hv] at hRd
  have hsz := dstr_size l
  have hszI : decide ((l.length : Int) ≤ 29) = true := by simp; omega
  have hEq := fun W => wideb_same (x0 : Int) (x1 : Int) (x2 : Int) W
  clear hl hhead hle hpos hv h9 w0
  have H := Mem.init w
  obtain ⟨W0, hW0⟩ : ∃ W0, (w).alloc (.cells #[.int .u32 (x0 : Int), .int .u32 (x1 : Int), .int .u32 (x2 : Int)] 40) = W0 := ⟨_, rfl⟩
  replace H : Mem (w) [] _ [.blk (w.heap.size) 40 #[.int .u32 (x0 : Int), .int .u32 (x1 : Int), .int .u32 (x2 : Int)]] := Mem.alloc H (w.heap.size) (by first | (simp; done) | (simp; omega)) #[.int .u32 (x0 : Int), .int .u32 (x1 : Int), .int .u32 (x2 : Int)] 40
  rw [hW0] at H
  have wb0 : (W0).cell? ⟨w.heap.size, 0, none⟩ = some (.int .u32 (x0 : Int)) := (H.blk 0 rfl).cell 0
  have wbf0 : (W0).frozen? ⟨w.heap.size, 0, none⟩ = false := (H.blk 0 rfl).frozen 0
  have wb1 : (W0).cell? ⟨w.heap.size, 1, none⟩ = some (.int .u32 (x1 : Int)) := (H.blk 0 rfl).cell 1
  have wbf1 : (W0).frozen? ⟨w.heap.size, 1, none⟩ = false := (H.blk 0 rfl).frozen 1
  have wb2 : (W0).cell? ⟨w.heap.size, 2, none⟩ = some (.int .u32 (x2 : Int)) := (H.blk 0 rfl).cell 2
  have wbf2 : (W0).frozen? ⟨w.heap.size, 2, none⟩ = false := (H.blk 0 rfl).frozen 2
  have wblt : w.heap.size < (W0).heap.size := H.lt 0 rfl
  go_enter Try.func5, Try.ntmps5
  go_wp2_with fail
  refine (hSh _).mono ?_
  rintro e wa ⟨rfl, hba⟩
  replace H : Mem (w) [] (wa) [.blk (w.heap.size) 40 #[.int .u32 (x0 : Int), .int .u32 (x1 : Int), .int .u32 (x2 : Int)]] := Mem.call H hba
  clear wb0 wbf0 wb1 wbf1 wb2 wbf2 wblt
  have wb0 : (wa).cell? ⟨w.heap.size, 0, none⟩ = some (.int .u32 (x0 : Int)) := (H.blk 0 rfl).cell 0
  have wbf0 : (wa).frozen? ⟨w.heap.size, 0, none⟩ = false := (H.blk 0 rfl).frozen 0
  have wb1 : (wa).cell? ⟨w.heap.size, 1, none⟩ = some (.int .u32 (x1 : Int)) := (H.blk 0 rfl).cell 1
  have wbf1 : (wa).frozen? ⟨w.heap.size, 1, none⟩ = false := (H.blk 0 rfl).frozen 1
  have wb2 : (wa).cell? ⟨w.heap.size, 2, none⟩ = some (.int .u32 (x2 : Int)) := (H.blk 0 rfl).cell 2
  have wbf2 : (wa).frozen? ⟨w.heap.size, 2, none⟩ = false := (H.blk 0 rfl).frozen 2
  have wblt : w.heap.size < (wa).heap.size := H.lt 0 rfl
  clear hba hSh hW0
  go_wp2_with fail
  refine (hRd _).mono ?_
  rintro e wc ⟨y0, y1, y2, k0, k1, k2, hy, rfl, hbc⟩
  obtain ⟨rfl, rfl, rfl⟩ := val3_inj h0 h1 h2 k0 k1 k2 hy.out.symm
  replace H : Mem (w) [] (wc) [.blk (w.heap.size) 40 #[.int .u32 (x0 : Int), .int .u32 (x1 : Int), .int .u32 (x2 : Int)]] := Mem.call H hbc
  clear wb0 wbf0 wb1 wbf1 wb2 wbf2 wblt
  have wb0 : (wc).cell? ⟨w.heap.size, 0, none⟩ = some (.int .u32 (x0 : Int)) := (H.blk 0 rfl).cell 0
  have wbf0 : (wc).frozen? ⟨w.heap.size, 0, none⟩ = false := (H.blk 0 rfl).frozen 0
  have wb1 : (wc).cell? ⟨w.heap.size, 1, none⟩ = some (.int .u32 (x1 : Int)) := (H.blk 0 rfl).cell 1
  have wbf1 : (wc).frozen? ⟨w.heap.size, 1, none⟩ = false := (H.blk 0 rfl).frozen 1
  have wb2 : (wc).cell? ⟨w.heap.size, 2, none⟩ = some (.int .u32 (x2 : Int)) := (H.blk 0 rfl).cell 2
  have wbf2 : (wc).frozen? ⟨w.heap.size, 2, none⟩ = false := (H.blk 0 rfl).frozen 2
  have wblt : w.heap.size < (wc).heap.size := H.lt 0 rfl
  clear hbc hRd hy h0 h1 h2 k0 k1 k2
  go_wp2
  go_ret
  exact ⟨rfl, H.call (below_a1 _ _) |>.below⟩
end Go.Proofs.Ytnpkondgpmncnaa
