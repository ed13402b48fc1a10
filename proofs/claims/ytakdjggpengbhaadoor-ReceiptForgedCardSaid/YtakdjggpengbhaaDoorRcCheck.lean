/- A receipt whose money does not add up: receipt.Check, receipt.Show. -/
import Derived.Test.YtakdjggpengbhaaDoorHeap
import Derived.Test.YtakdjggpengbhaaDoorPicked
import Derived.Test.YtakdjggpengbhaaDoorStr
namespace Go.Proofs.YtakdjggpengbhaaDoor
open Go.RowKit
set_option linter.unusedVariables false
set_option maxRecDepth 100000 in
set_option maxHeartbeats 4000000 in
theorem check_money (m id T d f p g u : Nat) (Sx : ByteArray) (w : World) (hm : m < 50) (h1 : 1 ≤ id) (h2 : id ≤ 1048575) (hT : T ≤ 100000000) (hd : d ≤ 30000000) (hf : f ≤ 30000000) (hp : p ≤ 30000000) (hg : g ≤ 30000000) (hu : u ≤ 2097151) (hne : ¬ T = d + f + p + g) :
    Calls Tryd.prog 20 #[.agg #[.int .i64 (m : Int), .int .i64 (id : Int), .int .i64 (T : Int), .int .i64 (d : Int), .int .i64 (f : Int), .int .i64 (p : Int), .int .i64 (g : Int), .int .i64 (u : Int), .string Sx]] w fun e w' => e = .returned (.int .i64 19) ∧ Below w.heap.size w w' := by
  have i0 : ∀ W, (Instr.index 100 (.agg #[.int .i64 (T : Int), .int .i64 (d : Int), .int .i64 (f : Int), .int .i64 (p : Int), .int .i64 (g : Int)]) (.int .i64 0)).run Tryd.prog W = .ok (.int .i64 (T : Int)) W := fun _ => by kernel_rfl
  have i1 : ∀ W, (Instr.index 100 (.agg #[.int .i64 (T : Int), .int .i64 (d : Int), .int .i64 (f : Int), .int .i64 (p : Int), .int .i64 (g : Int)]) (.int .i64 1)).run Tryd.prog W = .ok (.int .i64 (d : Int)) W := fun _ => by kernel_rfl
  have i2 : ∀ W, (Instr.index 100 (.agg #[.int .i64 (T : Int), .int .i64 (d : Int), .int .i64 (f : Int), .int .i64 (p : Int), .int .i64 (g : Int)]) (.int .i64 2)).run Tryd.prog W = .ok (.int .i64 (f : Int)) W := fun _ => by kernel_rfl
  have i3 : ∀ W, (Instr.index 100 (.agg #[.int .i64 (T : Int), .int .i64 (d : Int), .int .i64 (f : Int), .int .i64 (p : Int), .int .i64 (g : Int)]) (.int .i64 3)).run Tryd.prog W = .ok (.int .i64 (p : Int)) W := fun _ => by kernel_rfl
  have i4 : ∀ W, (Instr.index 100 (.agg #[.int .i64 (T : Int), .int .i64 (d : Int), .int .i64 (f : Int), .int .i64 (p : Int), .int .i64 (g : Int)]) (.int .i64 4)).run Tryd.prog W = .ok (.int .i64 (g : Int)) W := fun _ => by kernel_rfl
  have a1 : IntKind.i64.wrap ((d : Int) + (f : Int)) = (d : Int) + (f : Int) := IntWalk.i64_in _ (by omega)
  have a2 : IntKind.i64.wrap ((d : Int) + (f : Int) + (p : Int)) = (d : Int) + (f : Int) + (p : Int) := IntWalk.i64_in _ (by omega)
  have a3 : IntKind.i64.wrap ((d : Int) + (f : Int) + (p : Int) + (g : Int)) = (d : Int) + (f : Int) + (p : Int) + (g : Int) := IntWalk.i64_in _ (by omega)
  have nI : ((T : Int) == (d : Int) + (f : Int) + (p : Int) + (g : Int)) = false := by rw [beq_eq_false_iff_ne]; omega
  have nJ : ¬ (T : Int) = (d : Int) + (f : Int) + (p : Int) + (g : Int) := by omega
  have b0 : (m : Int) < 50 := by omega
  have b1 : 1 ≤ (id : Int) := by omega
  have b2 : (id : Int) ≤ 1048575 := by omega
  have c0 : (T : Int) ≤ 100000000 := by omega
  have c1 : (d : Int) ≤ 100000000 := by omega
  have c2 : (f : Int) ≤ 100000000 := by omega
  have c3 : (p : Int) ≤ 100000000 := by omega
  have c4 : (g : Int) ≤ 100000000 := by omega
  have c5 : (u : Int) ≤ 2097151 := by omega
  clear hm h1 h2 hT hd hf hp hg hu hne
  have HM := Mem.init w
  obtain ⟨W0, hW0⟩ : ∃ W0, (w).alloc (.cells #[.int .i64 (m : Int), .int .i64 (id : Int), .int .i64 (T : Int), .int .i64 (d : Int), .int .i64 (f : Int), .int .i64 (p : Int), .int .i64 (g : Int), .int .i64 (u : Int), .string Sx] 59) = W0 := ⟨_, rfl⟩
  replace HM : Mem (w) [] _ [.blk (w.heap.size) 59 #[.int .i64 (m : Int), .int .i64 (id : Int), .int .i64 (T : Int), .int .i64 (d : Int), .int .i64 (f : Int), .int .i64 (p : Int), .int .i64 (g : Int), .int .i64 (u : Int), .string Sx]] := Mem.alloc HM (w.heap.size) (by first | (simp; done) | (simp; omega)) #[.int .i64 (m : Int), .int .i64 (id : Int), .int .i64 (T : Int), .int .i64 (d : Int), .int .i64 (f : Int), .int .i64 (p : Int), .int .i64 (g : Int), .int .i64 (u : Int), .string Sx] 59
  rw [hW0] at HM
  have ra0 : (W0).cell? ⟨w.heap.size, 0, none⟩ = some (.int .i64 (m : Int)) := (HM.blk 0 rfl).cell 0
  have raf0 : (W0).frozen? ⟨w.heap.size, 0, none⟩ = false := (HM.blk 0 rfl).frozen 0
  have ra1 : (W0).cell? ⟨w.heap.size, 1, none⟩ = some (.int .i64 (id : Int)) := (HM.blk 0 rfl).cell 1
  have raf1 : (W0).frozen? ⟨w.heap.size, 1, none⟩ = false := (HM.blk 0 rfl).frozen 1
  have ra2 : (W0).cell? ⟨w.heap.size, 2, none⟩ = some (.int .i64 (T : Int)) := (HM.blk 0 rfl).cell 2
  have raf2 : (W0).frozen? ⟨w.heap.size, 2, none⟩ = false := (HM.blk 0 rfl).frozen 2
  have ra3 : (W0).cell? ⟨w.heap.size, 3, none⟩ = some (.int .i64 (d : Int)) := (HM.blk 0 rfl).cell 3
  have raf3 : (W0).frozen? ⟨w.heap.size, 3, none⟩ = false := (HM.blk 0 rfl).frozen 3
  have ra4 : (W0).cell? ⟨w.heap.size, 4, none⟩ = some (.int .i64 (f : Int)) := (HM.blk 0 rfl).cell 4
  have raf4 : (W0).frozen? ⟨w.heap.size, 4, none⟩ = false := (HM.blk 0 rfl).frozen 4
  have ra5 : (W0).cell? ⟨w.heap.size, 5, none⟩ = some (.int .i64 (p : Int)) := (HM.blk 0 rfl).cell 5
  have raf5 : (W0).frozen? ⟨w.heap.size, 5, none⟩ = false := (HM.blk 0 rfl).frozen 5
  have ra6 : (W0).cell? ⟨w.heap.size, 6, none⟩ = some (.int .i64 (g : Int)) := (HM.blk 0 rfl).cell 6
  have raf6 : (W0).frozen? ⟨w.heap.size, 6, none⟩ = false := (HM.blk 0 rfl).frozen 6
  have ra7 : (W0).cell? ⟨w.heap.size, 7, none⟩ = some (.int .i64 (u : Int)) := (HM.blk 0 rfl).cell 7
  have raf7 : (W0).frozen? ⟨w.heap.size, 7, none⟩ = false := (HM.blk 0 rfl).frozen 7
  have ra8 : (W0).cell? ⟨w.heap.size, 8, none⟩ = some (.string Sx) := (HM.blk 0 rfl).cell 8
  have raf8 : (W0).frozen? ⟨w.heap.size, 8, none⟩ = false := (HM.blk 0 rfl).frozen 8
  have ralt : w.heap.size < (W0).heap.size := HM.lt 0 rfl
  go_enter Tryd.func20, Tryd.ntmps20
  go_wp2
  go_loopw [30] (fun v wr => ∃ k : Nat, k ≤ 5 ∧ v = .int .i64 (k : Int) ∧ Mem w [] wr [.blk (w.heap.size) 59 #[.int .i64 (m : Int), .int .i64 (id : Int), .int .i64 (T : Int), .int .i64 (d : Int), .int .i64 (f : Int), .int .i64 (p : Int), .int .i64 (g : Int), .int .i64 (u : Int), .string Sx], .blk (W0.heap.size) 57 #[.int .i64 (id : Int), .int .i64 (T : Int), .int .i64 (d : Int), .int .i64 (f : Int), .int .i64 (p : Int), .int .i64 (g : Int), .int .i64 (u : Int)]]) (fun v _ => 5 - (intOf v).toNat)
  case atStart =>
    obtain ⟨W1, hW1⟩ : ∃ W1, (W0).alloc (.cells #[.int .i64 (id : Int), .int .i64 (T : Int), .int .i64 (d : Int), .int .i64 (f : Int), .int .i64 (p : Int), .int .i64 (g : Int), .int .i64 (u : Int)] 57) = W1 := ⟨_, rfl⟩
    replace HM : Mem (w) [] _ [.blk (w.heap.size) 59 #[.int .i64 (m : Int), .int .i64 (id : Int), .int .i64 (T : Int), .int .i64 (d : Int), .int .i64 (f : Int), .int .i64 (p : Int), .int .i64 (g : Int), .int .i64 (u : Int), .string Sx], .blk (W0.heap.size) 57 #[.int .i64 (id : Int), .int .i64 (T : Int), .int .i64 (d : Int), .int .i64 (f : Int), .int .i64 (p : Int), .int .i64 (g : Int), .int .i64 (u : Int)]] := Mem.alloc HM (W0.heap.size) (by first | (simp; done) | (simp; omega)) #[.int .i64 (id : Int), .int .i64 (T : Int), .int .i64 (d : Int), .int .i64 (f : Int), .int .i64 (p : Int), .int .i64 (g : Int), .int .i64 (u : Int)] 57
    rw [hW1] at HM ⊢
    clear hW1
    exact ⟨0, by omega, rfl, HM⟩
  case round =>
    obtain ⟨k, hk, rfl, HM⟩ := hrel
    have HM : Mem (w) [] (wr) [.blk (w.heap.size) 59 #[.int .i64 (m : Int), .int .i64 (id : Int), .int .i64 (T : Int), .int .i64 (d : Int), .int .i64 (f : Int), .int .i64 (p : Int), .int .i64 (g : Int), .int .i64 (u : Int), .string Sx], .blk (W0.heap.size) 57 #[.int .i64 (id : Int), .int .i64 (T : Int), .int .i64 (d : Int), .int .i64 (f : Int), .int .i64 (p : Int), .int .i64 (g : Int), .int .i64 (u : Int)]] := HM

    obtain rfl | rfl | rfl | rfl | rfl | rfl : k = 0 ∨ k = 1 ∨ k = 2 ∨ k = 3 ∨ k = 4 ∨ k = 5 := by omega
    · skip
      go_wp2
      go_roundw
      case rel => exact ⟨1, by omega, by first | rfl | go_num, HM⟩
      case measure => simp [intOf]
    · skip
      go_wp2
      go_roundw
      case rel => exact ⟨2, by omega, by first | rfl | go_num, HM⟩
      case measure => simp [intOf]
    · skip
      go_wp2
      go_roundw
      case rel => exact ⟨3, by omega, by first | rfl | go_num, HM⟩
      case measure => simp [intOf]
    · skip
      go_wp2
      go_roundw
      case rel => exact ⟨4, by omega, by first | rfl | go_num, HM⟩
      case measure => simp [intOf]
    · skip
      go_wp2
      go_roundw
      case rel => exact ⟨5, by omega, by first | rfl | go_num, HM⟩
      case measure => simp [intOf]
    · skip
      clear ra0 raf0 ra1 raf1 ra2 raf2 ra3 raf3 ra4 raf4 ra5 raf5 ra6 raf6 ra7 raf7 ra8 raf8 ralt
      have ra0 : (wr).cell? ⟨w.heap.size, 0, none⟩ = some (.int .i64 (m : Int)) := (HM.blk 0 rfl).cell 0
      have raf0 : (wr).frozen? ⟨w.heap.size, 0, none⟩ = false := (HM.blk 0 rfl).frozen 0
      have ra1 : (wr).cell? ⟨w.heap.size, 1, none⟩ = some (.int .i64 (id : Int)) := (HM.blk 0 rfl).cell 1
      have raf1 : (wr).frozen? ⟨w.heap.size, 1, none⟩ = false := (HM.blk 0 rfl).frozen 1
      have ra2 : (wr).cell? ⟨w.heap.size, 2, none⟩ = some (.int .i64 (T : Int)) := (HM.blk 0 rfl).cell 2
      have raf2 : (wr).frozen? ⟨w.heap.size, 2, none⟩ = false := (HM.blk 0 rfl).frozen 2
      have ra3 : (wr).cell? ⟨w.heap.size, 3, none⟩ = some (.int .i64 (d : Int)) := (HM.blk 0 rfl).cell 3
      have raf3 : (wr).frozen? ⟨w.heap.size, 3, none⟩ = false := (HM.blk 0 rfl).frozen 3
      have ra4 : (wr).cell? ⟨w.heap.size, 4, none⟩ = some (.int .i64 (f : Int)) := (HM.blk 0 rfl).cell 4
      have raf4 : (wr).frozen? ⟨w.heap.size, 4, none⟩ = false := (HM.blk 0 rfl).frozen 4
      have ra5 : (wr).cell? ⟨w.heap.size, 5, none⟩ = some (.int .i64 (p : Int)) := (HM.blk 0 rfl).cell 5
      have raf5 : (wr).frozen? ⟨w.heap.size, 5, none⟩ = false := (HM.blk 0 rfl).frozen 5
      have ra6 : (wr).cell? ⟨w.heap.size, 6, none⟩ = some (.int .i64 (g : Int)) := (HM.blk 0 rfl).cell 6
      have raf6 : (wr).frozen? ⟨w.heap.size, 6, none⟩ = false := (HM.blk 0 rfl).frozen 6
      have ra7 : (wr).cell? ⟨w.heap.size, 7, none⟩ = some (.int .i64 (u : Int)) := (HM.blk 0 rfl).cell 7
      have raf7 : (wr).frozen? ⟨w.heap.size, 7, none⟩ = false := (HM.blk 0 rfl).frozen 7
      have ra8 : (wr).cell? ⟨w.heap.size, 8, none⟩ = some (.string Sx) := (HM.blk 0 rfl).cell 8
      have raf8 : (wr).frozen? ⟨w.heap.size, 8, none⟩ = false := (HM.blk 0 rfl).frozen 8
      have ralt : w.heap.size < (wr).heap.size := HM.lt 0 rfl
      have ba0 : (wr).cell? ⟨W0.heap.size, 0, none⟩ = some (.int .i64 (id : Int)) := (HM.blk 1 rfl).cell 0
      have baf0 : (wr).frozen? ⟨W0.heap.size, 0, none⟩ = false := (HM.blk 1 rfl).frozen 0
      have ba1 : (wr).cell? ⟨W0.heap.size, 1, none⟩ = some (.int .i64 (T : Int)) := (HM.blk 1 rfl).cell 1
      have baf1 : (wr).frozen? ⟨W0.heap.size, 1, none⟩ = false := (HM.blk 1 rfl).frozen 1
      have ba2 : (wr).cell? ⟨W0.heap.size, 2, none⟩ = some (.int .i64 (d : Int)) := (HM.blk 1 rfl).cell 2
      have baf2 : (wr).frozen? ⟨W0.heap.size, 2, none⟩ = false := (HM.blk 1 rfl).frozen 2
      have ba3 : (wr).cell? ⟨W0.heap.size, 3, none⟩ = some (.int .i64 (f : Int)) := (HM.blk 1 rfl).cell 3
      have baf3 : (wr).frozen? ⟨W0.heap.size, 3, none⟩ = false := (HM.blk 1 rfl).frozen 3
      have ba4 : (wr).cell? ⟨W0.heap.size, 4, none⟩ = some (.int .i64 (p : Int)) := (HM.blk 1 rfl).cell 4
      have baf4 : (wr).frozen? ⟨W0.heap.size, 4, none⟩ = false := (HM.blk 1 rfl).frozen 4
      have ba5 : (wr).cell? ⟨W0.heap.size, 5, none⟩ = some (.int .i64 (g : Int)) := (HM.blk 1 rfl).cell 5
      have baf5 : (wr).frozen? ⟨W0.heap.size, 5, none⟩ = false := (HM.blk 1 rfl).frozen 5
      have ba6 : (wr).cell? ⟨W0.heap.size, 6, none⟩ = some (.int .i64 (u : Int)) := (HM.blk 1 rfl).cell 6
      have baf6 : (wr).frozen? ⟨W0.heap.size, 6, none⟩ = false := (HM.blk 1 rfl).frozen 6
      have balt : W0.heap.size < (wr).heap.size := HM.lt 1 rfl
      have ne_ra_ba : w.heap.size ≠ W0.heap.size := HM.ne 0 1 rfl rfl (by decide)
      have ne_ba_ra : W0.heap.size ≠ w.heap.size := HM.ne 1 0 rfl rfl (by decide)
      clear i0 i1 i2 i3 i4
      go_wp2
      go_ret
      exact ⟨rfl, HM.below⟩
set_option maxRecDepth 100000 in
set_option maxHeartbeats 2000000 in
theorem show_money (m id T d f p g u : Nat) (Sx : ByteArray) (w : World) (hm : m < 50) (h1 : 1 ≤ id) (h2 : id ≤ 1048575) (hT : T ≤ 100000000) (hd : d ≤ 30000000) (hf : f ≤ 30000000) (hp : p ≤ 30000000) (hg : g ≤ 30000000) (hu : u ≤ 2097151) (hne : ¬ T = d + f + p + g) :
    Calls Tryd.prog 21 #[.agg #[.int .i64 (m : Int), .int .i64 (id : Int), .int .i64 (T : Int), .int .i64 (d : Int), .int .i64 (f : Int), .int .i64 (p : Int), .int .i64 (g : Int), .int .i64 (u : Int), .string Sx]] w fun e w' => e = .returned (.tuple #[.string ⟨#[]⟩, .int .i64 19]) ∧ Below w.heap.size w w' := by
  have hC := fun W => check_money m id T d f p g u Sx W hm h1 h2 hT hd hf hp hg hu hne
  clear hm h1 h2 hT hd hf hp hg hu hne
  have HM := Mem.init w
  obtain ⟨W0, hW0⟩ : ∃ W0, (w).alloc (.cells #[.int .i64 (m : Int), .int .i64 (id : Int), .int .i64 (T : Int), .int .i64 (d : Int), .int .i64 (f : Int), .int .i64 (p : Int), .int .i64 (g : Int), .int .i64 (u : Int), .string Sx] 59) = W0 := ⟨_, rfl⟩
  replace HM : Mem (w) [] _ [.blk (w.heap.size) 59 #[.int .i64 (m : Int), .int .i64 (id : Int), .int .i64 (T : Int), .int .i64 (d : Int), .int .i64 (f : Int), .int .i64 (p : Int), .int .i64 (g : Int), .int .i64 (u : Int), .string Sx]] := Mem.alloc HM (w.heap.size) (by first | (simp; done) | (simp; omega)) #[.int .i64 (m : Int), .int .i64 (id : Int), .int .i64 (T : Int), .int .i64 (d : Int), .int .i64 (f : Int), .int .i64 (p : Int), .int .i64 (g : Int), .int .i64 (u : Int), .string Sx] 59
  rw [hW0] at HM
  have ra0 : (W0).cell? ⟨w.heap.size, 0, none⟩ = some (.int .i64 (m : Int)) := (HM.blk 0 rfl).cell 0
  have raf0 : (W0).frozen? ⟨w.heap.size, 0, none⟩ = false := (HM.blk 0 rfl).frozen 0
  have ra1 : (W0).cell? ⟨w.heap.size, 1, none⟩ = some (.int .i64 (id : Int)) := (HM.blk 0 rfl).cell 1
  have raf1 : (W0).frozen? ⟨w.heap.size, 1, none⟩ = false := (HM.blk 0 rfl).frozen 1
  have ra2 : (W0).cell? ⟨w.heap.size, 2, none⟩ = some (.int .i64 (T : Int)) := (HM.blk 0 rfl).cell 2
  have raf2 : (W0).frozen? ⟨w.heap.size, 2, none⟩ = false := (HM.blk 0 rfl).frozen 2
  have ra3 : (W0).cell? ⟨w.heap.size, 3, none⟩ = some (.int .i64 (d : Int)) := (HM.blk 0 rfl).cell 3
  have raf3 : (W0).frozen? ⟨w.heap.size, 3, none⟩ = false := (HM.blk 0 rfl).frozen 3
  have ra4 : (W0).cell? ⟨w.heap.size, 4, none⟩ = some (.int .i64 (f : Int)) := (HM.blk 0 rfl).cell 4
  have raf4 : (W0).frozen? ⟨w.heap.size, 4, none⟩ = false := (HM.blk 0 rfl).frozen 4
  have ra5 : (W0).cell? ⟨w.heap.size, 5, none⟩ = some (.int .i64 (p : Int)) := (HM.blk 0 rfl).cell 5
  have raf5 : (W0).frozen? ⟨w.heap.size, 5, none⟩ = false := (HM.blk 0 rfl).frozen 5
  have ra6 : (W0).cell? ⟨w.heap.size, 6, none⟩ = some (.int .i64 (g : Int)) := (HM.blk 0 rfl).cell 6
  have raf6 : (W0).frozen? ⟨w.heap.size, 6, none⟩ = false := (HM.blk 0 rfl).frozen 6
  have ra7 : (W0).cell? ⟨w.heap.size, 7, none⟩ = some (.int .i64 (u : Int)) := (HM.blk 0 rfl).cell 7
  have raf7 : (W0).frozen? ⟨w.heap.size, 7, none⟩ = false := (HM.blk 0 rfl).frozen 7
  have ra8 : (W0).cell? ⟨w.heap.size, 8, none⟩ = some (.string Sx) := (HM.blk 0 rfl).cell 8
  have raf8 : (W0).frozen? ⟨w.heap.size, 8, none⟩ = false := (HM.blk 0 rfl).frozen 8
  have ralt : w.heap.size < (W0).heap.size := HM.lt 0 rfl
  go_enter Tryd.func21, Tryd.ntmps21
  go_wp2_with fail
  refine (hC _).mono ?_
  rintro e wa ⟨rfl, hba⟩
  replace HM : Mem (w) [] (wa) [.blk (w.heap.size) 59 #[.int .i64 (m : Int), .int .i64 (id : Int), .int .i64 (T : Int), .int .i64 (d : Int), .int .i64 (f : Int), .int .i64 (p : Int), .int .i64 (g : Int), .int .i64 (u : Int), .string Sx]] := Mem.call HM hba
  clear hba hC
  go_wp2
  go_ret2
  exact ⟨rfl, HM.below⟩
end Go.Proofs.YtakdjggpengbhaaDoor
