/- vendmeterkeep: made, newMeter, sold. -/
import Derived.Test.YtopnlkhepjbjkaaDoorG13
import Derived.Test.YtopnlkhepjbjkaaDoorG11
import Derived.Test.YtopnlkhepjbjkaaDoorG1
import Derived.Test.YtopnlkhepjbjkaaDoorG2
import Derived.BigRegion
import Derived.Deep.RegionHeld3
import Derived.Deep.DeepCutAuto
namespace Go.Proofs.YtopnlkhepjbjkaaDoor
open Go.RowKit
set_option linter.unusedVariables false
theorem pk_natI (n : Int) (many : Int) (h : 1 ≤ many) : ∃ p : Nat, Hid (pk n many = (p : Int)) ∧ (p : Int) < many := by
  obtain ⟨r, h1, h2, h3⟩ := pk_int n many h
  exact ⟨r.toNat, by show _ = _; rw [h1.out]; omega, by omega⟩
theorem pk_self {p : Nat} {many : Int} (h : (p : Int) < many) : pk (p : Int) many = (p : Int) := by
  rw [pk_pos _ _ (by omega)]; exact Int.emod_eq_of_lt (by omega) h
/-- The answer of 'made': a token that may be, of this class. -/
def RetMade (cls : Nat) (w : World) (e : Ending) (w' : World) : Prop :=
  ∃ (id am tag : Nat), e = .returned (.agg #[.int .i64 (cls : Int), .int .i64 (id : Int), .int .i64 (am : Int), .int .i64 (tag : Int)]) ∧ TkOk cls id am tag ∧ Below w.heap.size w w'
/-- The token's other numbers, out of the raw ones. -/
def madeV (cls : Nat) (b c d : Int) : Int × Int × Int := (1 + pk b 1048575, (if cls = 0 then 1 + pk c 2097151 else if cls = 2 then 1 + pk c 15 else 0), pk d 65536)
/-- The answer of 'made', told by the raw numbers. -/
def RetMadeV (cls : Nat) (b c d : Int) (w : World) (e : Ending) (w' : World) : Prop :=
  ∃ (id am tag : Nat), e = .returned (.agg #[.int .i64 (cls : Int), .int .i64 (id : Int), .int .i64 (am : Int), .int .i64 (tag : Int)]) ∧ TkOk cls id am tag ∧ Hid (madeV cls b c d = ((id : Int), (am : Int), (tag : Int))) ∧ Below w.heap.size w w'
set_option maxRecDepth 100000 in
set_option maxHeartbeats 2000000 in
theorem made_is (a b c d : Int) (cls : Nat) (w : World) (va : (Lit.int .i64 a).wf = true) (vb : (Lit.int .i64 b).wf = true) (vc : (Lit.int .i64 c).wf = true) (vd : (Lit.int .i64 d).wf = true) (hc : Hid (pk a 4 = (cls : Int))) :
    Calls Tryd.prog 27 #[.agg #[.int .i64 a, .int .i64 b, .int .i64 c, .int .i64 d]] w (RetMadeV cls b c d w) := by
  obtain ⟨i, hi, hi1⟩ := pk_natI b 1048575 (by omega)
  obtain ⟨tag, ht, ht1⟩ := pk_natI d 65536 (by omega)
  obtain ⟨p, hp, hp1⟩ := pk_natI c 2097151 (by omega)
  obtain ⟨q, hq, hq1⟩ := pk_natI c 15 (by omega)
  have hc4 : cls < 4 := by
    have h1 := pk_hi a 4 (by omega)
    rw [hc.out] at h1; omega
  obtain ⟨id, hid⟩ : ∃ id : Nat, (1 : Int) + (i : Int) = (id : Int) := ⟨1 + i, by omega⟩
  obtain ⟨p1, hpp⟩ : ∃ id : Nat, (1 : Int) + (p : Int) = (id : Int) := ⟨1 + p, by omega⟩
  obtain ⟨q1, hqq⟩ : ∃ id : Nat, (1 : Int) + (q : Int) = (id : Int) := ⟨1 + q, by omega⟩
  have e1 : IntKind.i64.wrap (1 + (i : Int)) = (id : Int) := by rw [hid]; exact IntWalk.i64_in _ (by omega)
  have e2 : IntKind.i64.wrap (1 + (p : Int)) = (p1 : Int) := by rw [hpp]; exact IntWalk.i64_in _ (by omega)
  have e3 : IntKind.i64.wrap (1 + (q : Int)) = (q1 : Int) := by rw [hqq]; exact IntWalk.i64_in _ (by omega)
  have b1 : 1 ≤ id ∧ id ≤ 1048575 := by omega
  have b2 : 1 ≤ p1 ∧ p1 ≤ 2097151 := by omega
  have b3 : 1 ≤ q1 ∧ q1 ≤ 15 := by omega
  have b4 : tag ≤ 65535 := by omega
  have V1 := Lib.hid (show 1 + pk b 1048575 = (id : Int) by rw [hi.out]; exact hid)
  have V2 := Lib.hid (show 1 + pk c 2097151 = (p1 : Int) by rw [hp.out]; exact hpp)
  have V3 := Lib.hid (show 1 + pk c 15 = (q1 : Int) by rw [hq.out]; exact hqq)
  clear hid hpp hqq hi1 hp1 hq1 ht1
  have B1 := Lib.hid b1
  have B2 := Lib.hid b2
  have B3 := Lib.hid b3
  have B4 := Lib.hid b4
  clear b1 b2 b3 b4
  have HM := Mem.init w
  obtain ⟨W0, hW0⟩ : ∃ W0, ((w).alloc (.cells #[.int .i64 a, .int .i64 b, .int .i64 c, .int .i64 d] 45)).alloc (.cells #[.int .i64 0, .int .i64 0, .int .i64 0, .int .i64 0] 48) = W0 := ⟨_, rfl⟩
  replace HM : Mem (w) [] _ [.blk (w.heap.size) 45 #[.int .i64 a, .int .i64 b, .int .i64 c, .int .i64 d]] := Mem.alloc HM (w.heap.size) (by first | (simp; done) | (simp; omega)) #[.int .i64 a, .int .i64 b, .int .i64 c, .int .i64 d] 45
  replace HM : Mem (w) [] _ [.blk (w.heap.size) 45 #[.int .i64 a, .int .i64 b, .int .i64 c, .int .i64 d], .blk (w.heap.size + 1) 48 #[.int .i64 0, .int .i64 0, .int .i64 0, .int .i64 0]] := Mem.alloc HM (w.heap.size + 1) (by first | (simp; done) | (simp; omega)) #[.int .i64 0, .int .i64 0, .int .i64 0, .int .i64 0] 48
  rw [hW0] at HM
  have rx0 : (W0).cell? ⟨w.heap.size, 0, none⟩ = some (.int .i64 a) := (HM.blk 0 rfl).cell 0
  have rxf0 : (W0).frozen? ⟨w.heap.size, 0, none⟩ = false := (HM.blk 0 rfl).frozen 0
  have rx1 : (W0).cell? ⟨w.heap.size, 1, none⟩ = some (.int .i64 b) := (HM.blk 0 rfl).cell 1
  have rxf1 : (W0).frozen? ⟨w.heap.size, 1, none⟩ = false := (HM.blk 0 rfl).frozen 1
  have rx2 : (W0).cell? ⟨w.heap.size, 2, none⟩ = some (.int .i64 c) := (HM.blk 0 rfl).cell 2
  have rxf2 : (W0).frozen? ⟨w.heap.size, 2, none⟩ = false := (HM.blk 0 rfl).frozen 2
  have rx3 : (W0).cell? ⟨w.heap.size, 3, none⟩ = some (.int .i64 d) := (HM.blk 0 rfl).cell 3
  have rxf3 : (W0).frozen? ⟨w.heap.size, 3, none⟩ = false := (HM.blk 0 rfl).frozen 3
  have rxlt : w.heap.size < (W0).heap.size := HM.lt 0 rfl
  go_enter Tryd.func27, Tryd.ntmps27
  go_upto_region 1 with fail
  go_cut [3] (fun p wx => ∃ gt : Nat, p = .pointer (some ⟨gt, 0, none⟩) ∧ Mem w [] wx [.blk w.heap.size 45 #[.int .i64 a, .int .i64 b, .int .i64 c, .int .i64 d], .blk (w.heap.size + 1) 48 #[.int .i64 0, .int .i64 0, .int .i64 0, .int .i64 0], .blk gt 48 #[.int .i64 (cls : Int), .int .i64 (id : Int), .int .i64 0, .int .i64 (tag : Int)]])
  case first =>
    go_region_held3 (fun w' => w'.cell? ⟨w.heap.size, 0, none⟩ = some (.int .i64 a) ∧ w'.cell? ⟨w.heap.size, 1, none⟩ = some (.int .i64 b) ∧ w'.cell? ⟨w.heap.size, 3, none⟩ = some (.int .i64 d)) (first | go_keep | fail) (first | (go_at_call 8; (with_reducible refine (picked_is _ hc va (by omega) (by omega)).mono ?_); rintro e w' ⟨rfl, rfl⟩) | (go_at_call 8; (with_reducible refine (picked_is _ hi vb (by omega) (by omega)).mono ?_); rintro e w' ⟨rfl, rfl⟩) | (go_at_call 8; (with_reducible refine (picked_is _ ht vd (by omega) (by omega)).mono ?_); rintro e w' ⟨rfl, rfl⟩))
    all_goals
      obtain ⟨W1, hW1⟩ : ∃ W1, ((W0).alloc (.cells #[.int .i64 (cls : Int), .int .i64 (id : Int), .int .i64 0, .int .i64 (tag : Int)] 48)).drew = W1 := ⟨_, rfl⟩
      replace HM : Mem (w) [] _ [.blk (w.heap.size) 45 #[.int .i64 a, .int .i64 b, .int .i64 c, .int .i64 d], .blk (w.heap.size + 1) 48 #[.int .i64 0, .int .i64 0, .int .i64 0, .int .i64 0], .blk (W0.heap.size) 48 #[.int .i64 (cls : Int), .int .i64 (id : Int), .int .i64 0, .int .i64 (tag : Int)]] := Mem.alloc HM (W0.heap.size) (by first | (simp; done) | (simp; omega)) #[.int .i64 (cls : Int), .int .i64 (id : Int), .int .i64 0, .int .i64 (tag : Int)] 48
      replace HM := HM.drew
      rw [hW1] at HM ⊢
      clear hW1
      go_wp2_with fail
      go_meet
      exact ⟨_, rfl, HM⟩
  case rest =>
    obtain ⟨gt, rfl, HM⟩ := hcut
    have HM : Mem (w) [] (wc) [.blk (w.heap.size) 45 #[.int .i64 a, .int .i64 b, .int .i64 c, .int .i64 d], .blk (w.heap.size + 1) 48 #[.int .i64 0, .int .i64 0, .int .i64 0, .int .i64 0], .blk (gt) 48 #[.int .i64 (cls : Int), .int .i64 (id : Int), .int .i64 0, .int .i64 (tag : Int)]] := HM
    clear rx0 rxf0 rx1 rxf1 rx2 rxf2 rx3 rxf3 rxlt
    have rx0 : (wc).cell? ⟨w.heap.size, 0, none⟩ = some (.int .i64 a) := (HM.blk 0 rfl).cell 0
    have rxf0 : (wc).frozen? ⟨w.heap.size, 0, none⟩ = false := (HM.blk 0 rfl).frozen 0
    have rx1 : (wc).cell? ⟨w.heap.size, 1, none⟩ = some (.int .i64 b) := (HM.blk 0 rfl).cell 1
    have rxf1 : (wc).frozen? ⟨w.heap.size, 1, none⟩ = false := (HM.blk 0 rfl).frozen 1
    have rx2 : (wc).cell? ⟨w.heap.size, 2, none⟩ = some (.int .i64 c) := (HM.blk 0 rfl).cell 2
    have rxf2 : (wc).frozen? ⟨w.heap.size, 2, none⟩ = false := (HM.blk 0 rfl).frozen 2
    have rx3 : (wc).cell? ⟨w.heap.size, 3, none⟩ = some (.int .i64 d) := (HM.blk 0 rfl).cell 3
    have rxf3 : (wc).frozen? ⟨w.heap.size, 3, none⟩ = false := (HM.blk 0 rfl).frozen 3
    have rxlt : w.heap.size < (wc).heap.size := HM.lt 0 rfl
    have rs0 : (wc).cell? ⟨w.heap.size + 1, 0, none⟩ = some (.int .i64 0) := (HM.blk 1 rfl).cell 0
    have rsf0 : (wc).frozen? ⟨w.heap.size + 1, 0, none⟩ = false := (HM.blk 1 rfl).frozen 0
    have rs1 : (wc).cell? ⟨w.heap.size + 1, 1, none⟩ = some (.int .i64 0) := (HM.blk 1 rfl).cell 1
    have rsf1 : (wc).frozen? ⟨w.heap.size + 1, 1, none⟩ = false := (HM.blk 1 rfl).frozen 1
    have rs2 : (wc).cell? ⟨w.heap.size + 1, 2, none⟩ = some (.int .i64 0) := (HM.blk 1 rfl).cell 2
    have rsf2 : (wc).frozen? ⟨w.heap.size + 1, 2, none⟩ = false := (HM.blk 1 rfl).frozen 2
    have rs3 : (wc).cell? ⟨w.heap.size + 1, 3, none⟩ = some (.int .i64 0) := (HM.blk 1 rfl).cell 3
    have rsf3 : (wc).frozen? ⟨w.heap.size + 1, 3, none⟩ = false := (HM.blk 1 rfl).frozen 3
    have rslt : w.heap.size + 1 < (wc).heap.size := HM.lt 1 rfl
    have tk0 : (wc).cell? ⟨gt, 0, none⟩ = some (.int .i64 (cls : Int)) := (HM.blk 2 rfl).cell 0
    have tkf0 : (wc).frozen? ⟨gt, 0, none⟩ = false := (HM.blk 2 rfl).frozen 0
    have tk1 : (wc).cell? ⟨gt, 1, none⟩ = some (.int .i64 (id : Int)) := (HM.blk 2 rfl).cell 1
    have tkf1 : (wc).frozen? ⟨gt, 1, none⟩ = false := (HM.blk 2 rfl).frozen 1
    have tk2 : (wc).cell? ⟨gt, 2, none⟩ = some (.int .i64 0) := (HM.blk 2 rfl).cell 2
    have tkf2 : (wc).frozen? ⟨gt, 2, none⟩ = false := (HM.blk 2 rfl).frozen 2
    have tk3 : (wc).cell? ⟨gt, 3, none⟩ = some (.int .i64 (tag : Int)) := (HM.blk 2 rfl).cell 3
    have tkf3 : (wc).frozen? ⟨gt, 3, none⟩ = false := (HM.blk 2 rfl).frozen 3
    have tklt : gt < (wc).heap.size := HM.lt 2 rfl
    have ne_rx_rs : w.heap.size ≠ w.heap.size + 1 := HM.ne 0 1 rfl rfl (by decide)
    have ne_rx_tk : w.heap.size ≠ gt := HM.ne 0 2 rfl rfl (by decide)
    have ne_rs_rx : w.heap.size + 1 ≠ w.heap.size := HM.ne 1 0 rfl rfl (by decide)
    have ne_rs_tk : w.heap.size + 1 ≠ gt := HM.ne 1 2 rfl rfl (by decide)
    have ne_tk_rx : gt ≠ w.heap.size := HM.ne 2 0 rfl rfl (by decide)
    have ne_tk_rs : gt ≠ w.heap.size + 1 := HM.ne 2 1 rfl rfl (by decide)

    have h3 : (((cls : Int) == 0) = true ∧ ((cls : Int) == 2) = false ∧ cls = 0) ∨ (((cls : Int) == 0) = false ∧ ((cls : Int) == 2) = true ∧ cls = 2) ∨ (((cls : Int) == 0) = false ∧ ((cls : Int) == 2) = false ∧ (cls = 1 ∨ cls = 3)) := by
      by_cases h0 : cls = 0
      · exact .inl ⟨by simp; omega, by simp; omega, h0⟩
      · by_cases h2 : cls = 2
        · exact .inr (.inl ⟨by simp; omega, by simp; omega, h2⟩)
        · exact .inr (.inr ⟨by simp; omega, by simp; omega, by omega⟩)
    rcases h3 with ⟨g1, g2, g3⟩ | ⟨g1, g2, g3⟩ | ⟨g1, g2, g3⟩
    · have G3 := Lib.hid g3
      clear g3
      go_wp2_with (go_at_call 8; (with_reducible refine (picked_is _ hp vc (by omega) (by omega)).mono ?_); rintro e w' ⟨rfl, rfl⟩)
      obtain ⟨W2, hW2⟩ : ∃ W2, (((((wc).setCell ⟨gt, 2, none⟩ (.int .i64 (p1 : Int))).setCell ⟨w.heap.size + 1, 0, none⟩ (.int .i64 (cls : Int))).setCell ⟨w.heap.size + 1, 1, none⟩ (.int .i64 (id : Int))).setCell ⟨w.heap.size + 1, 2, none⟩ (.int .i64 (p1 : Int))).setCell ⟨w.heap.size + 1, 3, none⟩ (.int .i64 (tag : Int)) = W2 := ⟨_, rfl⟩
      replace HM : Mem (w) [] _ [.blk (w.heap.size) 45 #[.int .i64 a, .int .i64 b, .int .i64 c, .int .i64 d], .blk (w.heap.size + 1) 48 #[.int .i64 0, .int .i64 0, .int .i64 0, .int .i64 0], .blk (gt) 48 #[.int .i64 (cls : Int), .int .i64 (id : Int), .int .i64 (p1 : Int), .int .i64 (tag : Int)]] := Mem.set 2 HM rfl 2 (.int .i64 (p1 : Int))
      replace HM : Mem (w) [] _ [.blk (w.heap.size) 45 #[.int .i64 a, .int .i64 b, .int .i64 c, .int .i64 d], .blk (w.heap.size + 1) 48 #[.int .i64 (cls : Int), .int .i64 0, .int .i64 0, .int .i64 0], .blk (gt) 48 #[.int .i64 (cls : Int), .int .i64 (id : Int), .int .i64 (p1 : Int), .int .i64 (tag : Int)]] := Mem.set 1 HM rfl 0 (.int .i64 (cls : Int))
      replace HM : Mem (w) [] _ [.blk (w.heap.size) 45 #[.int .i64 a, .int .i64 b, .int .i64 c, .int .i64 d], .blk (w.heap.size + 1) 48 #[.int .i64 (cls : Int), .int .i64 (id : Int), .int .i64 0, .int .i64 0], .blk (gt) 48 #[.int .i64 (cls : Int), .int .i64 (id : Int), .int .i64 (p1 : Int), .int .i64 (tag : Int)]] := Mem.set 1 HM rfl 1 (.int .i64 (id : Int))
      replace HM : Mem (w) [] _ [.blk (w.heap.size) 45 #[.int .i64 a, .int .i64 b, .int .i64 c, .int .i64 d], .blk (w.heap.size + 1) 48 #[.int .i64 (cls : Int), .int .i64 (id : Int), .int .i64 (p1 : Int), .int .i64 0], .blk (gt) 48 #[.int .i64 (cls : Int), .int .i64 (id : Int), .int .i64 (p1 : Int), .int .i64 (tag : Int)]] := Mem.set 1 HM rfl 2 (.int .i64 (p1 : Int))
      replace HM : Mem (w) [] _ [.blk (w.heap.size) 45 #[.int .i64 a, .int .i64 b, .int .i64 c, .int .i64 d], .blk (w.heap.size + 1) 48 #[.int .i64 (cls : Int), .int .i64 (id : Int), .int .i64 (p1 : Int), .int .i64 (tag : Int)], .blk (gt) 48 #[.int .i64 (cls : Int), .int .i64 (id : Int), .int .i64 (p1 : Int), .int .i64 (tag : Int)]] := Mem.set 1 HM rfl 3 (.int .i64 (tag : Int))
      rw [hW2] at HM ⊢
      clear hW2
      clear rx0 rxf0 rx1 rxf1 rx2 rxf2 rx3 rxf3 rxlt rs0 rsf0 rs1 rsf1 rs2 rsf2 rs3 rsf3 rslt tk0 tkf0 tk1 tkf1 tk2 tkf2 tk3 tkf3 tklt ne_rx_rs ne_rx_tk ne_rs_rx ne_rs_tk ne_tk_rx ne_tk_rs
      have rs0 : (W2).cell? ⟨w.heap.size + 1, 0, none⟩ = some (.int .i64 (cls : Int)) := (HM.blk 1 rfl).cell 0
      have rsf0 : (W2).frozen? ⟨w.heap.size + 1, 0, none⟩ = false := (HM.blk 1 rfl).frozen 0
      have rs1 : (W2).cell? ⟨w.heap.size + 1, 1, none⟩ = some (.int .i64 (id : Int)) := (HM.blk 1 rfl).cell 1
      have rsf1 : (W2).frozen? ⟨w.heap.size + 1, 1, none⟩ = false := (HM.blk 1 rfl).frozen 1
      have rs2 : (W2).cell? ⟨w.heap.size + 1, 2, none⟩ = some (.int .i64 (p1 : Int)) := (HM.blk 1 rfl).cell 2
      have rsf2 : (W2).frozen? ⟨w.heap.size + 1, 2, none⟩ = false := (HM.blk 1 rfl).frozen 2
      have rs3 : (W2).cell? ⟨w.heap.size + 1, 3, none⟩ = some (.int .i64 (tag : Int)) := (HM.blk 1 rfl).cell 3
      have rsf3 : (W2).frozen? ⟨w.heap.size + 1, 3, none⟩ = false := (HM.blk 1 rfl).frozen 3
      have rslt : w.heap.size + 1 < (W2).heap.size := HM.lt 1 rfl
      refine bodyPost_ret (v := .agg #[.int .i64 (cls : Int), .int .i64 (id : Int), .int .i64 (p1 : Int), .int .i64 (tag : Int)]) (by simp [results, Tryd.results27, go_sem, rs0, rs1, rs2, rs3]; done) rfl ?_
      exact ⟨id, p1, tag, rfl, ⟨by omega, B1.out.1, B1.out.2, .inl ⟨G3.out, B2.out.1, B2.out.2⟩, B4.out⟩, (show _ = _ by unfold madeV; rw [if_pos G3.out, V1.out, V2.out, ht.out]), HM.below⟩
    · skip
      have G3 := Lib.hid g3
      clear g3
      go_wp2_with (go_at_call 8; (with_reducible refine (picked_is _ hq vc (by omega) (by omega)).mono ?_); rintro e w' ⟨rfl, rfl⟩)
      obtain ⟨W2, hW2⟩ : ∃ W2, (((((wc).setCell ⟨gt, 2, none⟩ (.int .i64 (q1 : Int))).setCell ⟨w.heap.size + 1, 0, none⟩ (.int .i64 (cls : Int))).setCell ⟨w.heap.size + 1, 1, none⟩ (.int .i64 (id : Int))).setCell ⟨w.heap.size + 1, 2, none⟩ (.int .i64 (q1 : Int))).setCell ⟨w.heap.size + 1, 3, none⟩ (.int .i64 (tag : Int)) = W2 := ⟨_, rfl⟩
      replace HM : Mem (w) [] _ [.blk (w.heap.size) 45 #[.int .i64 a, .int .i64 b, .int .i64 c, .int .i64 d], .blk (w.heap.size + 1) 48 #[.int .i64 0, .int .i64 0, .int .i64 0, .int .i64 0], .blk (gt) 48 #[.int .i64 (cls : Int), .int .i64 (id : Int), .int .i64 (q1 : Int), .int .i64 (tag : Int)]] := Mem.set 2 HM rfl 2 (.int .i64 (q1 : Int))
      replace HM : Mem (w) [] _ [.blk (w.heap.size) 45 #[.int .i64 a, .int .i64 b, .int .i64 c, .int .i64 d], .blk (w.heap.size + 1) 48 #[.int .i64 (cls : Int), .int .i64 0, .int .i64 0, .int .i64 0], .blk (gt) 48 #[.int .i64 (cls : Int), .int .i64 (id : Int), .int .i64 (q1 : Int), .int .i64 (tag : Int)]] := Mem.set 1 HM rfl 0 (.int .i64 (cls : Int))
      replace HM : Mem (w) [] _ [.blk (w.heap.size) 45 #[.int .i64 a, .int .i64 b, .int .i64 c, .int .i64 d], .blk (w.heap.size + 1) 48 #[.int .i64 (cls : Int), .int .i64 (id : Int), .int .i64 0, .int .i64 0], .blk (gt) 48 #[.int .i64 (cls : Int), .int .i64 (id : Int), .int .i64 (q1 : Int), .int .i64 (tag : Int)]] := Mem.set 1 HM rfl 1 (.int .i64 (id : Int))
      replace HM : Mem (w) [] _ [.blk (w.heap.size) 45 #[.int .i64 a, .int .i64 b, .int .i64 c, .int .i64 d], .blk (w.heap.size + 1) 48 #[.int .i64 (cls : Int), .int .i64 (id : Int), .int .i64 (q1 : Int), .int .i64 0], .blk (gt) 48 #[.int .i64 (cls : Int), .int .i64 (id : Int), .int .i64 (q1 : Int), .int .i64 (tag : Int)]] := Mem.set 1 HM rfl 2 (.int .i64 (q1 : Int))
      replace HM : Mem (w) [] _ [.blk (w.heap.size) 45 #[.int .i64 a, .int .i64 b, .int .i64 c, .int .i64 d], .blk (w.heap.size + 1) 48 #[.int .i64 (cls : Int), .int .i64 (id : Int), .int .i64 (q1 : Int), .int .i64 (tag : Int)], .blk (gt) 48 #[.int .i64 (cls : Int), .int .i64 (id : Int), .int .i64 (q1 : Int), .int .i64 (tag : Int)]] := Mem.set 1 HM rfl 3 (.int .i64 (tag : Int))
      rw [hW2] at HM ⊢
      clear hW2
      clear rx0 rxf0 rx1 rxf1 rx2 rxf2 rx3 rxf3 rxlt rs0 rsf0 rs1 rsf1 rs2 rsf2 rs3 rsf3 rslt tk0 tkf0 tk1 tkf1 tk2 tkf2 tk3 tkf3 tklt ne_rx_rs ne_rx_tk ne_rs_rx ne_rs_tk ne_tk_rx ne_tk_rs
      have rs0 : (W2).cell? ⟨w.heap.size + 1, 0, none⟩ = some (.int .i64 (cls : Int)) := (HM.blk 1 rfl).cell 0
      have rsf0 : (W2).frozen? ⟨w.heap.size + 1, 0, none⟩ = false := (HM.blk 1 rfl).frozen 0
      have rs1 : (W2).cell? ⟨w.heap.size + 1, 1, none⟩ = some (.int .i64 (id : Int)) := (HM.blk 1 rfl).cell 1
      have rsf1 : (W2).frozen? ⟨w.heap.size + 1, 1, none⟩ = false := (HM.blk 1 rfl).frozen 1
      have rs2 : (W2).cell? ⟨w.heap.size + 1, 2, none⟩ = some (.int .i64 (q1 : Int)) := (HM.blk 1 rfl).cell 2
      have rsf2 : (W2).frozen? ⟨w.heap.size + 1, 2, none⟩ = false := (HM.blk 1 rfl).frozen 2
      have rs3 : (W2).cell? ⟨w.heap.size + 1, 3, none⟩ = some (.int .i64 (tag : Int)) := (HM.blk 1 rfl).cell 3
      have rsf3 : (W2).frozen? ⟨w.heap.size + 1, 3, none⟩ = false := (HM.blk 1 rfl).frozen 3
      have rslt : w.heap.size + 1 < (W2).heap.size := HM.lt 1 rfl
      refine bodyPost_ret (v := .agg #[.int .i64 (cls : Int), .int .i64 (id : Int), .int .i64 (q1 : Int), .int .i64 (tag : Int)]) (by simp [results, Tryd.results27, go_sem, rs0, rs1, rs2, rs3]; done) rfl ?_
      exact ⟨id, q1, tag, rfl, ⟨by omega, B1.out.1, B1.out.2, .inr (.inr (.inl ⟨G3.out, B3.out.1, B3.out.2⟩)), B4.out⟩, (show _ = _ by unfold madeV; rw [if_neg (by have := G3.out; omega), if_pos G3.out, V1.out, V3.out, ht.out]), HM.below⟩
    · skip
      have G3 := Lib.hid g3
      clear g3
      go_wp2_with fail
      obtain ⟨W2, hW2⟩ : ∃ W2, ((((wc).setCell ⟨w.heap.size + 1, 0, none⟩ (.int .i64 (cls : Int))).setCell ⟨w.heap.size + 1, 1, none⟩ (.int .i64 (id : Int))).setCell ⟨w.heap.size + 1, 2, none⟩ (.int .i64 0)).setCell ⟨w.heap.size + 1, 3, none⟩ (.int .i64 (tag : Int)) = W2 := ⟨_, rfl⟩
      replace HM : Mem (w) [] _ [.blk (w.heap.size) 45 #[.int .i64 a, .int .i64 b, .int .i64 c, .int .i64 d], .blk (w.heap.size + 1) 48 #[.int .i64 (cls : Int), .int .i64 0, .int .i64 0, .int .i64 0], .blk (gt) 48 #[.int .i64 (cls : Int), .int .i64 (id : Int), .int .i64 0, .int .i64 (tag : Int)]] := Mem.set 1 HM rfl 0 (.int .i64 (cls : Int))
      replace HM : Mem (w) [] _ [.blk (w.heap.size) 45 #[.int .i64 a, .int .i64 b, .int .i64 c, .int .i64 d], .blk (w.heap.size + 1) 48 #[.int .i64 (cls : Int), .int .i64 (id : Int), .int .i64 0, .int .i64 0], .blk (gt) 48 #[.int .i64 (cls : Int), .int .i64 (id : Int), .int .i64 0, .int .i64 (tag : Int)]] := Mem.set 1 HM rfl 1 (.int .i64 (id : Int))
      replace HM : Mem (w) [] _ [.blk (w.heap.size) 45 #[.int .i64 a, .int .i64 b, .int .i64 c, .int .i64 d], .blk (w.heap.size + 1) 48 #[.int .i64 (cls : Int), .int .i64 (id : Int), .int .i64 0, .int .i64 0], .blk (gt) 48 #[.int .i64 (cls : Int), .int .i64 (id : Int), .int .i64 0, .int .i64 (tag : Int)]] := Mem.set 1 HM rfl 2 (.int .i64 0)
      replace HM : Mem (w) [] _ [.blk (w.heap.size) 45 #[.int .i64 a, .int .i64 b, .int .i64 c, .int .i64 d], .blk (w.heap.size + 1) 48 #[.int .i64 (cls : Int), .int .i64 (id : Int), .int .i64 0, .int .i64 (tag : Int)], .blk (gt) 48 #[.int .i64 (cls : Int), .int .i64 (id : Int), .int .i64 0, .int .i64 (tag : Int)]] := Mem.set 1 HM rfl 3 (.int .i64 (tag : Int))
      rw [hW2] at HM ⊢
      clear hW2
      clear rx0 rxf0 rx1 rxf1 rx2 rxf2 rx3 rxf3 rxlt rs0 rsf0 rs1 rsf1 rs2 rsf2 rs3 rsf3 rslt tk0 tkf0 tk1 tkf1 tk2 tkf2 tk3 tkf3 tklt ne_rx_rs ne_rx_tk ne_rs_rx ne_rs_tk ne_tk_rx ne_tk_rs
      have rs0 : (W2).cell? ⟨w.heap.size + 1, 0, none⟩ = some (.int .i64 (cls : Int)) := (HM.blk 1 rfl).cell 0
      have rsf0 : (W2).frozen? ⟨w.heap.size + 1, 0, none⟩ = false := (HM.blk 1 rfl).frozen 0
      have rs1 : (W2).cell? ⟨w.heap.size + 1, 1, none⟩ = some (.int .i64 (id : Int)) := (HM.blk 1 rfl).cell 1
      have rsf1 : (W2).frozen? ⟨w.heap.size + 1, 1, none⟩ = false := (HM.blk 1 rfl).frozen 1
      have rs2 : (W2).cell? ⟨w.heap.size + 1, 2, none⟩ = some (.int .i64 0) := (HM.blk 1 rfl).cell 2
      have rsf2 : (W2).frozen? ⟨w.heap.size + 1, 2, none⟩ = false := (HM.blk 1 rfl).frozen 2
      have rs3 : (W2).cell? ⟨w.heap.size + 1, 3, none⟩ = some (.int .i64 (tag : Int)) := (HM.blk 1 rfl).cell 3
      have rsf3 : (W2).frozen? ⟨w.heap.size + 1, 3, none⟩ = false := (HM.blk 1 rfl).frozen 3
      have rslt : w.heap.size + 1 < (W2).heap.size := HM.lt 1 rfl
      refine bodyPost_ret (v := .agg #[.int .i64 (cls : Int), .int .i64 (id : Int), .int .i64 0, .int .i64 (tag : Int)]) (by simp [results, Tryd.results27, go_sem, rs0, rs1, rs2, rs3]; done) rfl ?_
      exact ⟨id, 0, tag, rfl, ⟨by omega, B1.out.1, B1.out.2, by have := G3.out; omega, B4.out⟩, (show _ = _ by unfold madeV; rw [if_neg (by have := G3.out; omega), if_neg (by have := G3.out; omega), V1.out, ht.out]; rfl), HM.below⟩
theorem made_ok (a b c d : Int) (cls : Nat) (w : World) (va : (Lit.int .i64 a).wf = true) (vb : (Lit.int .i64 b).wf = true) (vc : (Lit.int .i64 c).wf = true) (vd : (Lit.int .i64 d).wf = true) (hc : Hid (pk a 4 = (cls : Int))) :
    Calls Tryd.prog 27 #[.agg #[.int .i64 a, .int .i64 b, .int .i64 c, .int .i64 d]] w (RetMade cls w) := (made_is a b c d cls w va vb vc vd hc).mono fun _ _ ⟨id, am, tag, he, hk, _, hb⟩ => ⟨id, am, tag, he, hk, hb⟩
/-- The answer of 'sold'. -/
def RetSold (l : List Pr) (me rev cls : Nat) (w : World) (e : Ending) (w' : World) : Prop :=
  ∃ (id am tag t2 : Nat) (l2 : List Pr) (A : Option Addr) (c : Nat), e = .returned (.tuple #[.agg #[.slice A l2.length c], .agg #[.int .i64 (cls : Int), .int .i64 (id : Int), .int .i64 (am : Int), .int .i64 (t2 : Int)], .bool true]) ∧
    TkOk cls id am t2 ∧ issL l (me : Int) (rev : Int) (tbody cls id am : Nat) (tag : Int) = l2 ∧ issT l (me : Int) (rev : Int) (tbody cls id am : Nat) (tag : Int) = (t2 : Int) ∧ OOk l2 ∧ w'.ownsRow w.heap.size 116 4 (.slice A l2.length c) l2.length (prs l2) ∧ Below w.heap.size w w'
set_option maxRecDepth 100000 in
set_option maxHeartbeats 2000000 in
theorem vsold_ok (v : Value) (l : List Pr) (me rev : Nat) (m2 m3 m4 m5 m6 a b c d : Int) (cls : Nat) (w : World) (hv : IsPs w v l) (hl : OOk l) (h500 : l.length < 500) (h1 : me < 50) (h2 : rev ≤ 15) (wa : (Lit.int .i64 a).wf = true) (wb : (Lit.int .i64 b).wf = true) (wc : (Lit.int .i64 c).wf = true) (wd : (Lit.int .i64 d).wf = true) (hc : Hid (pk a 4 = (cls : Int))) :
    Calls Tryd.prog 13 #[.agg #[v], .agg #[.int .i64 (me : Int), .int .i64 (rev : Int), .int .i64 m2, .int .i64 m3, .int .u64 m4, .int .i64 m5, .int .i64 m6], .agg #[.int .i64 a, .int .i64 b, .int .i64 c, .int .i64 d]] w (RetSold l me rev cls w) := by
  have hv0 := hv
  obtain ⟨A, c', rfl, _, _, _, _⟩ := hv
  have hMd := fun W => made_ok a b c d cls W wa wb wc wd hc
  have HM := Mem.init w
  obtain ⟨W0, hW0⟩ : ∃ W0, (((((w).alloc (.cells #[.slice A l.length c'] 33)).alloc (.cells #[.int .i64 (me : Int), .int .i64 (rev : Int), .int .i64 m2, .int .i64 m3, .int .u64 m4, .int .i64 m5, .int .i64 m6] 39)).alloc (.cells #[.int .i64 a, .int .i64 b, .int .i64 c, .int .i64 d] 45)).alloc (.cells #[.slice none 0 0] 33)).alloc (.cells #[.int .i64 0, .int .i64 0, .int .i64 0, .int .i64 0] 48) = W0 := ⟨_, rfl⟩
  replace HM : Mem (w) [] _ [.blk (w.heap.size) 33 #[.slice A l.length c']] := Mem.alloc HM (w.heap.size) (by first | (simp; done) | (simp; omega)) #[.slice A l.length c'] 33
  replace HM : Mem (w) [] _ [.blk (w.heap.size) 33 #[.slice A l.length c'], .blk (w.heap.size + 1) 39 #[.int .i64 (me : Int), .int .i64 (rev : Int), .int .i64 m2, .int .i64 m3, .int .u64 m4, .int .i64 m5, .int .i64 m6]] := Mem.alloc HM (w.heap.size + 1) (by first | (simp; done) | (simp; omega)) #[.int .i64 (me : Int), .int .i64 (rev : Int), .int .i64 m2, .int .i64 m3, .int .u64 m4, .int .i64 m5, .int .i64 m6] 39
  replace HM : Mem (w) [] _ [.blk (w.heap.size) 33 #[.slice A l.length c'], .blk (w.heap.size + 1) 39 #[.int .i64 (me : Int), .int .i64 (rev : Int), .int .i64 m2, .int .i64 m3, .int .u64 m4, .int .i64 m5, .int .i64 m6], .blk (w.heap.size + 1 + 1) 45 #[.int .i64 a, .int .i64 b, .int .i64 c, .int .i64 d]] := Mem.alloc HM (w.heap.size + 1 + 1) (by first | (simp; done) | (simp; omega)) #[.int .i64 a, .int .i64 b, .int .i64 c, .int .i64 d] 45
  replace HM : Mem (w) [] _ [.blk (w.heap.size) 33 #[.slice A l.length c'], .blk (w.heap.size + 1) 39 #[.int .i64 (me : Int), .int .i64 (rev : Int), .int .i64 m2, .int .i64 m3, .int .u64 m4, .int .i64 m5, .int .i64 m6], .blk (w.heap.size + 1 + 1) 45 #[.int .i64 a, .int .i64 b, .int .i64 c, .int .i64 d], .blk (w.heap.size + 1 + 1 + 1) 33 #[.slice none 0 0]] := Mem.alloc HM (w.heap.size + 1 + 1 + 1) (by first | (simp; done) | (simp; omega)) #[.slice none 0 0] 33
  replace HM : Mem (w) [] _ [.blk (w.heap.size) 33 #[.slice A l.length c'], .blk (w.heap.size + 1) 39 #[.int .i64 (me : Int), .int .i64 (rev : Int), .int .i64 m2, .int .i64 m3, .int .u64 m4, .int .i64 m5, .int .i64 m6], .blk (w.heap.size + 1 + 1) 45 #[.int .i64 a, .int .i64 b, .int .i64 c, .int .i64 d], .blk (w.heap.size + 1 + 1 + 1) 33 #[.slice none 0 0], .blk (w.heap.size + 1 + 1 + 1 + 1) 48 #[.int .i64 0, .int .i64 0, .int .i64 0, .int .i64 0]] := Mem.alloc HM (w.heap.size + 1 + 1 + 1 + 1) (by first | (simp; done) | (simp; omega)) #[.int .i64 0, .int .i64 0, .int .i64 0, .int .i64 0] 48
  rw [hW0] at HM
  have oc0 : (W0).cell? ⟨w.heap.size, 0, none⟩ = some (.slice A l.length c') := (HM.blk 0 rfl).cell 0
  have ocf0 : (W0).frozen? ⟨w.heap.size, 0, none⟩ = false := (HM.blk 0 rfl).frozen 0
  have oclt : w.heap.size < (W0).heap.size := HM.lt 0 rfl
  have mt0 : (W0).cell? ⟨w.heap.size + 1, 0, none⟩ = some (.int .i64 (me : Int)) := (HM.blk 1 rfl).cell 0
  have mtf0 : (W0).frozen? ⟨w.heap.size + 1, 0, none⟩ = false := (HM.blk 1 rfl).frozen 0
  have mt1 : (W0).cell? ⟨w.heap.size + 1, 1, none⟩ = some (.int .i64 (rev : Int)) := (HM.blk 1 rfl).cell 1
  have mtf1 : (W0).frozen? ⟨w.heap.size + 1, 1, none⟩ = false := (HM.blk 1 rfl).frozen 1
  have mt2 : (W0).cell? ⟨w.heap.size + 1, 2, none⟩ = some (.int .i64 m2) := (HM.blk 1 rfl).cell 2
  have mtf2 : (W0).frozen? ⟨w.heap.size + 1, 2, none⟩ = false := (HM.blk 1 rfl).frozen 2
  have mt3 : (W0).cell? ⟨w.heap.size + 1, 3, none⟩ = some (.int .i64 m3) := (HM.blk 1 rfl).cell 3
  have mtf3 : (W0).frozen? ⟨w.heap.size + 1, 3, none⟩ = false := (HM.blk 1 rfl).frozen 3
  have mt4 : (W0).cell? ⟨w.heap.size + 1, 4, none⟩ = some (.int .u64 m4) := (HM.blk 1 rfl).cell 4
  have mtf4 : (W0).frozen? ⟨w.heap.size + 1, 4, none⟩ = false := (HM.blk 1 rfl).frozen 4
  have mt5 : (W0).cell? ⟨w.heap.size + 1, 5, none⟩ = some (.int .i64 m5) := (HM.blk 1 rfl).cell 5
  have mtf5 : (W0).frozen? ⟨w.heap.size + 1, 5, none⟩ = false := (HM.blk 1 rfl).frozen 5
  have mt6 : (W0).cell? ⟨w.heap.size + 1, 6, none⟩ = some (.int .i64 m6) := (HM.blk 1 rfl).cell 6
  have mtf6 : (W0).frozen? ⟨w.heap.size + 1, 6, none⟩ = false := (HM.blk 1 rfl).frozen 6
  have mtlt : w.heap.size + 1 < (W0).heap.size := HM.lt 1 rfl
  have rx0 : (W0).cell? ⟨w.heap.size + 1 + 1, 0, none⟩ = some (.int .i64 a) := (HM.blk 2 rfl).cell 0
  have rxf0 : (W0).frozen? ⟨w.heap.size + 1 + 1, 0, none⟩ = false := (HM.blk 2 rfl).frozen 0
  have rx1 : (W0).cell? ⟨w.heap.size + 1 + 1, 1, none⟩ = some (.int .i64 b) := (HM.blk 2 rfl).cell 1
  have rxf1 : (W0).frozen? ⟨w.heap.size + 1 + 1, 1, none⟩ = false := (HM.blk 2 rfl).frozen 1
  have rx2 : (W0).cell? ⟨w.heap.size + 1 + 1, 2, none⟩ = some (.int .i64 c) := (HM.blk 2 rfl).cell 2
  have rxf2 : (W0).frozen? ⟨w.heap.size + 1 + 1, 2, none⟩ = false := (HM.blk 2 rfl).frozen 2
  have rx3 : (W0).cell? ⟨w.heap.size + 1 + 1, 3, none⟩ = some (.int .i64 d) := (HM.blk 2 rfl).cell 3
  have rxf3 : (W0).frozen? ⟨w.heap.size + 1 + 1, 3, none⟩ = false := (HM.blk 2 rfl).frozen 3
  have rxlt : w.heap.size + 1 + 1 < (W0).heap.size := HM.lt 2 rfl
  have ne_oc_mt : w.heap.size ≠ w.heap.size + 1 := HM.ne 0 1 rfl rfl (by decide)
  have ne_oc_rx : w.heap.size ≠ w.heap.size + 1 + 1 := HM.ne 0 2 rfl rfl (by decide)
  have ne_mt_oc : w.heap.size + 1 ≠ w.heap.size := HM.ne 1 0 rfl rfl (by decide)
  have ne_mt_rx : w.heap.size + 1 ≠ w.heap.size + 1 + 1 := HM.ne 1 2 rfl rfl (by decide)
  have ne_rx_oc : w.heap.size + 1 + 1 ≠ w.heap.size := HM.ne 2 0 rfl rfl (by decide)
  have ne_rx_mt : w.heap.size + 1 + 1 ≠ w.heap.size + 1 := HM.ne 2 1 rfl rfl (by decide)
  go_enter Tryd.func13, Tryd.ntmps13
  go_wp2_with fail
  refine (hMd _).mono ?_
  rintro e wa ⟨id, am, tag, rfl, hk, hba⟩
  replace HM : Mem (w) [] (wa) [.blk (w.heap.size) 33 #[.slice A l.length c'], .blk (w.heap.size + 1) 39 #[.int .i64 (me : Int), .int .i64 (rev : Int), .int .i64 m2, .int .i64 m3, .int .u64 m4, .int .i64 m5, .int .i64 m6], .blk (w.heap.size + 1 + 1) 45 #[.int .i64 a, .int .i64 b, .int .i64 c, .int .i64 d], .blk (w.heap.size + 1 + 1 + 1) 33 #[.slice none 0 0], .blk (w.heap.size + 1 + 1 + 1 + 1) 48 #[.int .i64 0, .int .i64 0, .int .i64 0, .int .i64 0]] := Mem.call HM hba
  clear hMd hba hW0
  clear oc0 ocf0 oclt mt0 mtf0 mt1 mtf1 mt2 mtf2 mt3 mtf3 mt4 mtf4 mt5 mtf5 mt6 mtf6 mtlt rx0 rxf0 rx1 rxf1 rx2 rxf2 rx3 rxf3 rxlt ne_oc_mt ne_oc_rx ne_mt_oc ne_mt_rx ne_rx_oc ne_rx_mt
  have oc0 : (wa).cell? ⟨w.heap.size, 0, none⟩ = some (.slice A l.length c') := (HM.blk 0 rfl).cell 0
  have ocf0 : (wa).frozen? ⟨w.heap.size, 0, none⟩ = false := (HM.blk 0 rfl).frozen 0
  have oclt : w.heap.size < (wa).heap.size := HM.lt 0 rfl
  have mt0 : (wa).cell? ⟨w.heap.size + 1, 0, none⟩ = some (.int .i64 (me : Int)) := (HM.blk 1 rfl).cell 0
  have mtf0 : (wa).frozen? ⟨w.heap.size + 1, 0, none⟩ = false := (HM.blk 1 rfl).frozen 0
  have mt1 : (wa).cell? ⟨w.heap.size + 1, 1, none⟩ = some (.int .i64 (rev : Int)) := (HM.blk 1 rfl).cell 1
  have mtf1 : (wa).frozen? ⟨w.heap.size + 1, 1, none⟩ = false := (HM.blk 1 rfl).frozen 1
  have mt2 : (wa).cell? ⟨w.heap.size + 1, 2, none⟩ = some (.int .i64 m2) := (HM.blk 1 rfl).cell 2
  have mtf2 : (wa).frozen? ⟨w.heap.size + 1, 2, none⟩ = false := (HM.blk 1 rfl).frozen 2
  have mt3 : (wa).cell? ⟨w.heap.size + 1, 3, none⟩ = some (.int .i64 m3) := (HM.blk 1 rfl).cell 3
  have mtf3 : (wa).frozen? ⟨w.heap.size + 1, 3, none⟩ = false := (HM.blk 1 rfl).frozen 3
  have mt4 : (wa).cell? ⟨w.heap.size + 1, 4, none⟩ = some (.int .u64 m4) := (HM.blk 1 rfl).cell 4
  have mtf4 : (wa).frozen? ⟨w.heap.size + 1, 4, none⟩ = false := (HM.blk 1 rfl).frozen 4
  have mt5 : (wa).cell? ⟨w.heap.size + 1, 5, none⟩ = some (.int .i64 m5) := (HM.blk 1 rfl).cell 5
  have mtf5 : (wa).frozen? ⟨w.heap.size + 1, 5, none⟩ = false := (HM.blk 1 rfl).frozen 5
  have mt6 : (wa).cell? ⟨w.heap.size + 1, 6, none⟩ = some (.int .i64 m6) := (HM.blk 1 rfl).cell 6
  have mtf6 : (wa).frozen? ⟨w.heap.size + 1, 6, none⟩ = false := (HM.blk 1 rfl).frozen 6
  have mtlt : w.heap.size + 1 < (wa).heap.size := HM.lt 1 rfl
  have rx0 : (wa).cell? ⟨w.heap.size + 1 + 1, 0, none⟩ = some (.int .i64 a) := (HM.blk 2 rfl).cell 0
  have rxf0 : (wa).frozen? ⟨w.heap.size + 1 + 1, 0, none⟩ = false := (HM.blk 2 rfl).frozen 0
  have rx1 : (wa).cell? ⟨w.heap.size + 1 + 1, 1, none⟩ = some (.int .i64 b) := (HM.blk 2 rfl).cell 1
  have rxf1 : (wa).frozen? ⟨w.heap.size + 1 + 1, 1, none⟩ = false := (HM.blk 2 rfl).frozen 1
  have rx2 : (wa).cell? ⟨w.heap.size + 1 + 1, 2, none⟩ = some (.int .i64 c) := (HM.blk 2 rfl).cell 2
  have rxf2 : (wa).frozen? ⟨w.heap.size + 1 + 1, 2, none⟩ = false := (HM.blk 2 rfl).frozen 2
  have rx3 : (wa).cell? ⟨w.heap.size + 1 + 1, 3, none⟩ = some (.int .i64 d) := (HM.blk 2 rfl).cell 3
  have rxf3 : (wa).frozen? ⟨w.heap.size + 1 + 1, 3, none⟩ = false := (HM.blk 2 rfl).frozen 3
  have rxlt : w.heap.size + 1 + 1 < (wa).heap.size := HM.lt 2 rfl
  have ne_oc_mt : w.heap.size ≠ w.heap.size + 1 := HM.ne 0 1 rfl rfl (by decide)
  have ne_oc_rx : w.heap.size ≠ w.heap.size + 1 + 1 := HM.ne 0 2 rfl rfl (by decide)
  have ne_mt_oc : w.heap.size + 1 ≠ w.heap.size := HM.ne 1 0 rfl rfl (by decide)
  have ne_mt_rx : w.heap.size + 1 ≠ w.heap.size + 1 + 1 := HM.ne 1 2 rfl rfl (by decide)
  have ne_rx_oc : w.heap.size + 1 + 1 ≠ w.heap.size := HM.ne 2 0 rfl rfl (by decide)
  have ne_rx_mt : w.heap.size + 1 + 1 ≠ w.heap.size + 1 := HM.ne 2 1 rfl rfl (by decide)
  obtain ⟨body, hbody⟩ : ∃ b, tbody cls id am = b := ⟨_, rfl⟩
  have hB := fun W => tbody_ok cls id am tag body W hk (Lib.hid hbody)
  have hbl := tbody_le hk
  rw [hbody] at hbl
  obtain ⟨k1, k2, k3, k4, k5⟩ := hk
  have hmk : mayK ((me : Int), (rev : Int), (body : Int)) := by unfold mayK; dsimp only; omega
  have hwf : wf3 (me : Int) (rev : Int) (body : Int) := ⟨WalkArith.wf_i64 (by omega), WalkArith.wf_i64 (by omega), WalkArith.wf_i64 (by omega)⟩
  obtain ⟨t0, t9⟩ := issT_bd (x := (me : Int)) (y := (rev : Int)) (z := (body : Int)) (d := (tag : Int)) hl (by omega) (by omega)
  obtain ⟨t2, ht2⟩ : ∃ t2 : Nat, issT l (me : Int) (rev : Int) (body : Int) (tag : Int) = (t2 : Int) := ⟨(issT l (me : Int) (rev : Int) (body : Int) (tag : Int)).toNat, by omega⟩
  rw [ht2] at t0 t9
  obtain ⟨l2, hl2⟩ : ∃ l2, issL l (me : Int) (rev : Int) (body : Int) (tag : Int) = l2 := ⟨_, rfl⟩
  have hO2 := issL_ok (x := (me : Int)) (y := (rev : Int)) (z := (body : Int)) (d := (tag : Int)) hl hmk (by omega) (by omega) h500
  rw [hl2] at hO2
  have hI := fun W h => issue_ok (.slice A l.length c') l l2 (me : Int) (rev : Int) (body : Int) (tag : Int) (t2 : Int) W h hl hmk hwf (by omega) (by omega) h500 (Lib.hid hl2) (Lib.hid ht2)
  have HL2 := Lib.hid hl2
  have HT2 := Lib.hid ht2
  have HBD := Lib.hid hbody
  clear hl2 ht2 hbody
  go_wp2_with fail
  obtain ⟨Wb, hWb⟩ : ∃ Wb, (wa).alloc (.cells #[.int .i64 (cls : Int), .int .i64 (id : Int), .int .i64 (am : Int), .int .i64 (tag : Int)] 48) = Wb := ⟨_, rfl⟩
  replace HM : Mem (w) [] _ [.blk (w.heap.size) 33 #[.slice A l.length c'], .blk (w.heap.size + 1) 39 #[.int .i64 (me : Int), .int .i64 (rev : Int), .int .i64 m2, .int .i64 m3, .int .u64 m4, .int .i64 m5, .int .i64 m6], .blk (w.heap.size + 1 + 1) 45 #[.int .i64 a, .int .i64 b, .int .i64 c, .int .i64 d], .blk (w.heap.size + 1 + 1 + 1) 33 #[.slice none 0 0], .blk (w.heap.size + 1 + 1 + 1 + 1) 48 #[.int .i64 0, .int .i64 0, .int .i64 0, .int .i64 0], .blk (wa.heap.size) 48 #[.int .i64 (cls : Int), .int .i64 (id : Int), .int .i64 (am : Int), .int .i64 (tag : Int)]] := Mem.alloc HM (wa.heap.size) (by first | (simp; done) | (simp; omega)) #[.int .i64 (cls : Int), .int .i64 (id : Int), .int .i64 (am : Int), .int .i64 (tag : Int)] 48
  rw [hWb] at HM ⊢
  clear hWb
  refine (hB _).mono ?_
  rintro e wb ⟨rfl, hbb⟩
  replace HM : Mem (w) [] (wb) [.blk (w.heap.size) 33 #[.slice A l.length c'], .blk (w.heap.size + 1) 39 #[.int .i64 (me : Int), .int .i64 (rev : Int), .int .i64 m2, .int .i64 m3, .int .u64 m4, .int .i64 m5, .int .i64 m6], .blk (w.heap.size + 1 + 1) 45 #[.int .i64 a, .int .i64 b, .int .i64 c, .int .i64 d], .blk (w.heap.size + 1 + 1 + 1) 33 #[.slice none 0 0], .blk (w.heap.size + 1 + 1 + 1 + 1) 48 #[.int .i64 0, .int .i64 0, .int .i64 0, .int .i64 0], .blk (wa.heap.size) 48 #[.int .i64 (cls : Int), .int .i64 (id : Int), .int .i64 (am : Int), .int .i64 (tag : Int)]] := Mem.call HM hbb
  clear oc0 ocf0 oclt mt0 mtf0 mt1 mtf1 mt2 mtf2 mt3 mtf3 mt4 mtf4 mt5 mtf5 mt6 mtf6 mtlt rx0 rxf0 rx1 rxf1 rx2 rxf2 rx3 rxf3 rxlt ne_oc_mt ne_oc_rx ne_mt_oc ne_mt_rx ne_rx_oc ne_rx_mt
  have oc0 : (wb).cell? ⟨w.heap.size, 0, none⟩ = some (.slice A l.length c') := (HM.blk 0 rfl).cell 0
  have ocf0 : (wb).frozen? ⟨w.heap.size, 0, none⟩ = false := (HM.blk 0 rfl).frozen 0
  have oclt : w.heap.size < (wb).heap.size := HM.lt 0 rfl
  have mt0 : (wb).cell? ⟨w.heap.size + 1, 0, none⟩ = some (.int .i64 (me : Int)) := (HM.blk 1 rfl).cell 0
  have mtf0 : (wb).frozen? ⟨w.heap.size + 1, 0, none⟩ = false := (HM.blk 1 rfl).frozen 0
  have mt1 : (wb).cell? ⟨w.heap.size + 1, 1, none⟩ = some (.int .i64 (rev : Int)) := (HM.blk 1 rfl).cell 1
  have mtf1 : (wb).frozen? ⟨w.heap.size + 1, 1, none⟩ = false := (HM.blk 1 rfl).frozen 1
  have mt2 : (wb).cell? ⟨w.heap.size + 1, 2, none⟩ = some (.int .i64 m2) := (HM.blk 1 rfl).cell 2
  have mtf2 : (wb).frozen? ⟨w.heap.size + 1, 2, none⟩ = false := (HM.blk 1 rfl).frozen 2
  have mt3 : (wb).cell? ⟨w.heap.size + 1, 3, none⟩ = some (.int .i64 m3) := (HM.blk 1 rfl).cell 3
  have mtf3 : (wb).frozen? ⟨w.heap.size + 1, 3, none⟩ = false := (HM.blk 1 rfl).frozen 3
  have mt4 : (wb).cell? ⟨w.heap.size + 1, 4, none⟩ = some (.int .u64 m4) := (HM.blk 1 rfl).cell 4
  have mtf4 : (wb).frozen? ⟨w.heap.size + 1, 4, none⟩ = false := (HM.blk 1 rfl).frozen 4
  have mt5 : (wb).cell? ⟨w.heap.size + 1, 5, none⟩ = some (.int .i64 m5) := (HM.blk 1 rfl).cell 5
  have mtf5 : (wb).frozen? ⟨w.heap.size + 1, 5, none⟩ = false := (HM.blk 1 rfl).frozen 5
  have mt6 : (wb).cell? ⟨w.heap.size + 1, 6, none⟩ = some (.int .i64 m6) := (HM.blk 1 rfl).cell 6
  have mtf6 : (wb).frozen? ⟨w.heap.size + 1, 6, none⟩ = false := (HM.blk 1 rfl).frozen 6
  have mtlt : w.heap.size + 1 < (wb).heap.size := HM.lt 1 rfl
  have tk0 : (wb).cell? ⟨wa.heap.size, 0, none⟩ = some (.int .i64 (cls : Int)) := (HM.blk 5 rfl).cell 0
  have tkf0 : (wb).frozen? ⟨wa.heap.size, 0, none⟩ = false := (HM.blk 5 rfl).frozen 0
  have tk1 : (wb).cell? ⟨wa.heap.size, 1, none⟩ = some (.int .i64 (id : Int)) := (HM.blk 5 rfl).cell 1
  have tkf1 : (wb).frozen? ⟨wa.heap.size, 1, none⟩ = false := (HM.blk 5 rfl).frozen 1
  have tk2 : (wb).cell? ⟨wa.heap.size, 2, none⟩ = some (.int .i64 (am : Int)) := (HM.blk 5 rfl).cell 2
  have tkf2 : (wb).frozen? ⟨wa.heap.size, 2, none⟩ = false := (HM.blk 5 rfl).frozen 2
  have tk3 : (wb).cell? ⟨wa.heap.size, 3, none⟩ = some (.int .i64 (tag : Int)) := (HM.blk 5 rfl).cell 3
  have tkf3 : (wb).frozen? ⟨wa.heap.size, 3, none⟩ = false := (HM.blk 5 rfl).frozen 3
  have tklt : wa.heap.size < (wb).heap.size := HM.lt 5 rfl
  have ne_oc_mt : w.heap.size ≠ w.heap.size + 1 := HM.ne 0 1 rfl rfl (by decide)
  have ne_oc_tk : w.heap.size ≠ wa.heap.size := HM.ne 0 5 rfl rfl (by decide)
  have ne_mt_oc : w.heap.size + 1 ≠ w.heap.size := HM.ne 1 0 rfl rfl (by decide)
  have ne_mt_tk : w.heap.size + 1 ≠ wa.heap.size := HM.ne 1 5 rfl rfl (by decide)
  have ne_tk_oc : wa.heap.size ≠ w.heap.size := HM.ne 5 0 rfl rfl (by decide)
  have ne_tk_mt : wa.heap.size ≠ w.heap.size + 1 := HM.ne 5 1 rfl rfl (by decide)
  clear hB hbb
  go_wp2_with fail
  refine (hI _ (hv0.below HM.below)).mono ?_
  rintro e wd ⟨A2, c2, rfl, _, hown, hbd⟩
  replace HM : Mem (w) [] (wd) [.blk (w.heap.size) 33 #[.slice A l.length c'], .blk (w.heap.size + 1) 39 #[.int .i64 (me : Int), .int .i64 (rev : Int), .int .i64 m2, .int .i64 m3, .int .u64 m4, .int .i64 m5, .int .i64 m6], .blk (w.heap.size + 1 + 1) 45 #[.int .i64 a, .int .i64 b, .int .i64 c, .int .i64 d], .blk (w.heap.size + 1 + 1 + 1) 33 #[.slice none 0 0], .blk (w.heap.size + 1 + 1 + 1 + 1) 48 #[.int .i64 0, .int .i64 0, .int .i64 0, .int .i64 0], .blk (wa.heap.size) 48 #[.int .i64 (cls : Int), .int .i64 (id : Int), .int .i64 (am : Int), .int .i64 (tag : Int)], .row (wb.heap.size) (116) (4) (.slice A2 l2.length c2) (l2.length) (prs l2)] := Mem.row HM hbd hown (Nat.le_refl _)
  clear oc0 ocf0 oclt mt0 mtf0 mt1 mtf1 mt2 mtf2 mt3 mtf3 mt4 mtf4 mt5 mtf5 mt6 mtf6 mtlt tk0 tkf0 tk1 tkf1 tk2 tkf2 tk3 tkf3 tklt ne_oc_mt ne_oc_tk ne_mt_oc ne_mt_tk ne_tk_oc ne_tk_mt
  have tk0 : (wd).cell? ⟨wa.heap.size, 0, none⟩ = some (.int .i64 (cls : Int)) := (HM.blk 5 rfl).cell 0
  have tkf0 : (wd).frozen? ⟨wa.heap.size, 0, none⟩ = false := (HM.blk 5 rfl).frozen 0
  have tk1 : (wd).cell? ⟨wa.heap.size, 1, none⟩ = some (.int .i64 (id : Int)) := (HM.blk 5 rfl).cell 1
  have tkf1 : (wd).frozen? ⟨wa.heap.size, 1, none⟩ = false := (HM.blk 5 rfl).frozen 1
  have tk2 : (wd).cell? ⟨wa.heap.size, 2, none⟩ = some (.int .i64 (am : Int)) := (HM.blk 5 rfl).cell 2
  have tkf2 : (wd).frozen? ⟨wa.heap.size, 2, none⟩ = false := (HM.blk 5 rfl).frozen 2
  have tk3 : (wd).cell? ⟨wa.heap.size, 3, none⟩ = some (.int .i64 (tag : Int)) := (HM.blk 5 rfl).cell 3
  have tkf3 : (wd).frozen? ⟨wa.heap.size, 3, none⟩ = false := (HM.blk 5 rfl).frozen 3
  have tklt : wa.heap.size < (wd).heap.size := HM.lt 5 rfl
  have ro0 : (wd).cell? ⟨w.heap.size + 1 + 1 + 1, 0, none⟩ = some (.slice none 0 0) := (HM.blk 3 rfl).cell 0
  have rof0 : (wd).frozen? ⟨w.heap.size + 1 + 1 + 1, 0, none⟩ = false := (HM.blk 3 rfl).frozen 0
  have rolt : w.heap.size + 1 + 1 + 1 < (wd).heap.size := HM.lt 3 rfl
  have rt0 : (wd).cell? ⟨w.heap.size + 1 + 1 + 1 + 1, 0, none⟩ = some (.int .i64 0) := (HM.blk 4 rfl).cell 0
  have rtf0 : (wd).frozen? ⟨w.heap.size + 1 + 1 + 1 + 1, 0, none⟩ = false := (HM.blk 4 rfl).frozen 0
  have rt1 : (wd).cell? ⟨w.heap.size + 1 + 1 + 1 + 1, 1, none⟩ = some (.int .i64 0) := (HM.blk 4 rfl).cell 1
  have rtf1 : (wd).frozen? ⟨w.heap.size + 1 + 1 + 1 + 1, 1, none⟩ = false := (HM.blk 4 rfl).frozen 1
  have rt2 : (wd).cell? ⟨w.heap.size + 1 + 1 + 1 + 1, 2, none⟩ = some (.int .i64 0) := (HM.blk 4 rfl).cell 2
  have rtf2 : (wd).frozen? ⟨w.heap.size + 1 + 1 + 1 + 1, 2, none⟩ = false := (HM.blk 4 rfl).frozen 2
  have rt3 : (wd).cell? ⟨w.heap.size + 1 + 1 + 1 + 1, 3, none⟩ = some (.int .i64 0) := (HM.blk 4 rfl).cell 3
  have rtf3 : (wd).frozen? ⟨w.heap.size + 1 + 1 + 1 + 1, 3, none⟩ = false := (HM.blk 4 rfl).frozen 3
  have rtlt : w.heap.size + 1 + 1 + 1 + 1 < (wd).heap.size := HM.lt 4 rfl
  have ne_tk_ro : wa.heap.size ≠ w.heap.size + 1 + 1 + 1 := HM.ne 5 3 rfl rfl (by decide)
  have ne_tk_rt : wa.heap.size ≠ w.heap.size + 1 + 1 + 1 + 1 := HM.ne 5 4 rfl rfl (by decide)
  have ne_ro_tk : w.heap.size + 1 + 1 + 1 ≠ wa.heap.size := HM.ne 3 5 rfl rfl (by decide)
  have ne_ro_rt : w.heap.size + 1 + 1 + 1 ≠ w.heap.size + 1 + 1 + 1 + 1 := HM.ne 3 4 rfl rfl (by decide)
  have ne_rt_tk : w.heap.size + 1 + 1 + 1 + 1 ≠ wa.heap.size := HM.ne 4 5 rfl rfl (by decide)
  have ne_rt_ro : w.heap.size + 1 + 1 + 1 + 1 ≠ w.heap.size + 1 + 1 + 1 := HM.ne 4 3 rfl rfl (by decide)
  clear hI hbd hown
  go_wp2_with fail
  obtain ⟨We, hWe⟩ : ∃ We, ((wd).setCell ⟨wa.heap.size, 3, none⟩ (.int .i64 (t2 : Int))).alloc (.cells #[.slice A2 l2.length c2] 33) = We := ⟨_, rfl⟩
  replace HM : Mem (w) [] _ [.blk (w.heap.size) 33 #[.slice A l.length c'], .blk (w.heap.size + 1) 39 #[.int .i64 (me : Int), .int .i64 (rev : Int), .int .i64 m2, .int .i64 m3, .int .u64 m4, .int .i64 m5, .int .i64 m6], .blk (w.heap.size + 1 + 1) 45 #[.int .i64 a, .int .i64 b, .int .i64 c, .int .i64 d], .blk (w.heap.size + 1 + 1 + 1) 33 #[.slice none 0 0], .blk (w.heap.size + 1 + 1 + 1 + 1) 48 #[.int .i64 0, .int .i64 0, .int .i64 0, .int .i64 0], .blk (wa.heap.size) 48 #[.int .i64 (cls : Int), .int .i64 (id : Int), .int .i64 (am : Int), .int .i64 (t2 : Int)], .row (wb.heap.size) (116) (4) (.slice A2 l2.length c2) (l2.length) (prs l2)] := Mem.set 5 HM rfl 3 (.int .i64 (t2 : Int))
  replace HM : Mem (w) [] _ [.blk (w.heap.size) 33 #[.slice A l.length c'], .blk (w.heap.size + 1) 39 #[.int .i64 (me : Int), .int .i64 (rev : Int), .int .i64 m2, .int .i64 m3, .int .u64 m4, .int .i64 m5, .int .i64 m6], .blk (w.heap.size + 1 + 1) 45 #[.int .i64 a, .int .i64 b, .int .i64 c, .int .i64 d], .blk (w.heap.size + 1 + 1 + 1) 33 #[.slice none 0 0], .blk (w.heap.size + 1 + 1 + 1 + 1) 48 #[.int .i64 0, .int .i64 0, .int .i64 0, .int .i64 0], .blk (wa.heap.size) 48 #[.int .i64 (cls : Int), .int .i64 (id : Int), .int .i64 (am : Int), .int .i64 (t2 : Int)], .row (wb.heap.size) (116) (4) (.slice A2 l2.length c2) (l2.length) (prs l2), .blk (wd.heap.size) 33 #[.slice A2 l2.length c2]] := Mem.alloc HM (wd.heap.size) (by first | (simp; done) | (simp; omega)) #[.slice A2 l2.length c2] 33
  rw [hWe] at HM ⊢
  clear hWe
  clear tk0 tkf0 tk1 tkf1 tk2 tkf2 tk3 tkf3 tklt ro0 rof0 rolt rt0 rtf0 rt1 rtf1 rt2 rtf2 rt3 rtf3 rtlt ne_tk_ro ne_tk_rt ne_ro_tk ne_ro_rt ne_rt_tk ne_rt_ro
  have tk0 : (We).cell? ⟨wa.heap.size, 0, none⟩ = some (.int .i64 (cls : Int)) := (HM.blk 5 rfl).cell 0
  have tkf0 : (We).frozen? ⟨wa.heap.size, 0, none⟩ = false := (HM.blk 5 rfl).frozen 0
  have tk1 : (We).cell? ⟨wa.heap.size, 1, none⟩ = some (.int .i64 (id : Int)) := (HM.blk 5 rfl).cell 1
  have tkf1 : (We).frozen? ⟨wa.heap.size, 1, none⟩ = false := (HM.blk 5 rfl).frozen 1
  have tk2 : (We).cell? ⟨wa.heap.size, 2, none⟩ = some (.int .i64 (am : Int)) := (HM.blk 5 rfl).cell 2
  have tkf2 : (We).frozen? ⟨wa.heap.size, 2, none⟩ = false := (HM.blk 5 rfl).frozen 2
  have tk3 : (We).cell? ⟨wa.heap.size, 3, none⟩ = some (.int .i64 (t2 : Int)) := (HM.blk 5 rfl).cell 3
  have tkf3 : (We).frozen? ⟨wa.heap.size, 3, none⟩ = false := (HM.blk 5 rfl).frozen 3
  have tklt : wa.heap.size < (We).heap.size := HM.lt 5 rfl
  have ro0 : (We).cell? ⟨w.heap.size + 1 + 1 + 1, 0, none⟩ = some (.slice none 0 0) := (HM.blk 3 rfl).cell 0
  have rof0 : (We).frozen? ⟨w.heap.size + 1 + 1 + 1, 0, none⟩ = false := (HM.blk 3 rfl).frozen 0
  have rolt : w.heap.size + 1 + 1 + 1 < (We).heap.size := HM.lt 3 rfl
  have rt0 : (We).cell? ⟨w.heap.size + 1 + 1 + 1 + 1, 0, none⟩ = some (.int .i64 0) := (HM.blk 4 rfl).cell 0
  have rtf0 : (We).frozen? ⟨w.heap.size + 1 + 1 + 1 + 1, 0, none⟩ = false := (HM.blk 4 rfl).frozen 0
  have rt1 : (We).cell? ⟨w.heap.size + 1 + 1 + 1 + 1, 1, none⟩ = some (.int .i64 0) := (HM.blk 4 rfl).cell 1
  have rtf1 : (We).frozen? ⟨w.heap.size + 1 + 1 + 1 + 1, 1, none⟩ = false := (HM.blk 4 rfl).frozen 1
  have rt2 : (We).cell? ⟨w.heap.size + 1 + 1 + 1 + 1, 2, none⟩ = some (.int .i64 0) := (HM.blk 4 rfl).cell 2
  have rtf2 : (We).frozen? ⟨w.heap.size + 1 + 1 + 1 + 1, 2, none⟩ = false := (HM.blk 4 rfl).frozen 2
  have rt3 : (We).cell? ⟨w.heap.size + 1 + 1 + 1 + 1, 3, none⟩ = some (.int .i64 0) := (HM.blk 4 rfl).cell 3
  have rtf3 : (We).frozen? ⟨w.heap.size + 1 + 1 + 1 + 1, 3, none⟩ = false := (HM.blk 4 rfl).frozen 3
  have rtlt : w.heap.size + 1 + 1 + 1 + 1 < (We).heap.size := HM.lt 4 rfl
  have ao0 : (We).cell? ⟨wd.heap.size, 0, none⟩ = some (.slice A2 l2.length c2) := (HM.blk 7 rfl).cell 0
  have aof0 : (We).frozen? ⟨wd.heap.size, 0, none⟩ = false := (HM.blk 7 rfl).frozen 0
  have aolt : wd.heap.size < (We).heap.size := HM.lt 7 rfl
  have ne_tk_ro : wa.heap.size ≠ w.heap.size + 1 + 1 + 1 := HM.ne 5 3 rfl rfl (by decide)
  have ne_tk_rt : wa.heap.size ≠ w.heap.size + 1 + 1 + 1 + 1 := HM.ne 5 4 rfl rfl (by decide)
  have ne_tk_ao : wa.heap.size ≠ wd.heap.size := HM.ne 5 7 rfl rfl (by decide)
  have ne_ro_tk : w.heap.size + 1 + 1 + 1 ≠ wa.heap.size := HM.ne 3 5 rfl rfl (by decide)
  have ne_ro_rt : w.heap.size + 1 + 1 + 1 ≠ w.heap.size + 1 + 1 + 1 + 1 := HM.ne 3 4 rfl rfl (by decide)
  have ne_ro_ao : w.heap.size + 1 + 1 + 1 ≠ wd.heap.size := HM.ne 3 7 rfl rfl (by decide)
  have ne_rt_tk : w.heap.size + 1 + 1 + 1 + 1 ≠ wa.heap.size := HM.ne 4 5 rfl rfl (by decide)
  have ne_rt_ro : w.heap.size + 1 + 1 + 1 + 1 ≠ w.heap.size + 1 + 1 + 1 := HM.ne 4 3 rfl rfl (by decide)
  have ne_rt_ao : w.heap.size + 1 + 1 + 1 + 1 ≠ wd.heap.size := HM.ne 4 7 rfl rfl (by decide)
  have ne_ao_tk : wd.heap.size ≠ wa.heap.size := HM.ne 7 5 rfl rfl (by decide)
  have ne_ao_ro : wd.heap.size ≠ w.heap.size + 1 + 1 + 1 := HM.ne 7 3 rfl rfl (by decide)
  have ne_ao_rt : wd.heap.size ≠ w.heap.size + 1 + 1 + 1 + 1 := HM.ne 7 4 rfl rfl (by decide)
  go_region
  obtain ⟨Wf, hWf⟩ : ∃ Wf, ((((((We).setCell ⟨w.heap.size + 1 + 1 + 1, 0, none⟩ (.slice A2 l2.length c2)).setCell ⟨w.heap.size + 1 + 1 + 1 + 1, 0, none⟩ (.int .i64 (cls : Int))).setCell ⟨w.heap.size + 1 + 1 + 1 + 1, 1, none⟩ (.int .i64 (id : Int))).setCell ⟨w.heap.size + 1 + 1 + 1 + 1, 2, none⟩ (.int .i64 (am : Int))).setCell ⟨w.heap.size + 1 + 1 + 1 + 1, 3, none⟩ (.int .i64 (t2 : Int))).drew = Wf := ⟨_, rfl⟩
  replace HM : Mem (w) [] _ [.blk (w.heap.size) 33 #[.slice A l.length c'], .blk (w.heap.size + 1) 39 #[.int .i64 (me : Int), .int .i64 (rev : Int), .int .i64 m2, .int .i64 m3, .int .u64 m4, .int .i64 m5, .int .i64 m6], .blk (w.heap.size + 1 + 1) 45 #[.int .i64 a, .int .i64 b, .int .i64 c, .int .i64 d], .blk (w.heap.size + 1 + 1 + 1) 33 #[.slice A2 l2.length c2], .blk (w.heap.size + 1 + 1 + 1 + 1) 48 #[.int .i64 0, .int .i64 0, .int .i64 0, .int .i64 0], .blk (wa.heap.size) 48 #[.int .i64 (cls : Int), .int .i64 (id : Int), .int .i64 (am : Int), .int .i64 (t2 : Int)], .row (wb.heap.size) (116) (4) (.slice A2 l2.length c2) (l2.length) (prs l2), .blk (wd.heap.size) 33 #[.slice A2 l2.length c2]] := Mem.set 3 HM rfl 0 (.slice A2 l2.length c2)
  replace HM : Mem (w) [] _ [.blk (w.heap.size) 33 #[.slice A l.length c'], .blk (w.heap.size + 1) 39 #[.int .i64 (me : Int), .int .i64 (rev : Int), .int .i64 m2, .int .i64 m3, .int .u64 m4, .int .i64 m5, .int .i64 m6], .blk (w.heap.size + 1 + 1) 45 #[.int .i64 a, .int .i64 b, .int .i64 c, .int .i64 d], .blk (w.heap.size + 1 + 1 + 1) 33 #[.slice A2 l2.length c2], .blk (w.heap.size + 1 + 1 + 1 + 1) 48 #[.int .i64 (cls : Int), .int .i64 0, .int .i64 0, .int .i64 0], .blk (wa.heap.size) 48 #[.int .i64 (cls : Int), .int .i64 (id : Int), .int .i64 (am : Int), .int .i64 (t2 : Int)], .row (wb.heap.size) (116) (4) (.slice A2 l2.length c2) (l2.length) (prs l2), .blk (wd.heap.size) 33 #[.slice A2 l2.length c2]] := Mem.set 4 HM rfl 0 (.int .i64 (cls : Int))
  replace HM : Mem (w) [] _ [.blk (w.heap.size) 33 #[.slice A l.length c'], .blk (w.heap.size + 1) 39 #[.int .i64 (me : Int), .int .i64 (rev : Int), .int .i64 m2, .int .i64 m3, .int .u64 m4, .int .i64 m5, .int .i64 m6], .blk (w.heap.size + 1 + 1) 45 #[.int .i64 a, .int .i64 b, .int .i64 c, .int .i64 d], .blk (w.heap.size + 1 + 1 + 1) 33 #[.slice A2 l2.length c2], .blk (w.heap.size + 1 + 1 + 1 + 1) 48 #[.int .i64 (cls : Int), .int .i64 (id : Int), .int .i64 0, .int .i64 0], .blk (wa.heap.size) 48 #[.int .i64 (cls : Int), .int .i64 (id : Int), .int .i64 (am : Int), .int .i64 (t2 : Int)], .row (wb.heap.size) (116) (4) (.slice A2 l2.length c2) (l2.length) (prs l2), .blk (wd.heap.size) 33 #[.slice A2 l2.length c2]] := Mem.set 4 HM rfl 1 (.int .i64 (id : Int))
  replace HM : Mem (w) [] _ [.blk (w.heap.size) 33 #[.slice A l.length c'], .blk (w.heap.size + 1) 39 #[.int .i64 (me : Int), .int .i64 (rev : Int), .int .i64 m2, .int .i64 m3, .int .u64 m4, .int .i64 m5, .int .i64 m6], .blk (w.heap.size + 1 + 1) 45 #[.int .i64 a, .int .i64 b, .int .i64 c, .int .i64 d], .blk (w.heap.size + 1 + 1 + 1) 33 #[.slice A2 l2.length c2], .blk (w.heap.size + 1 + 1 + 1 + 1) 48 #[.int .i64 (cls : Int), .int .i64 (id : Int), .int .i64 (am : Int), .int .i64 0], .blk (wa.heap.size) 48 #[.int .i64 (cls : Int), .int .i64 (id : Int), .int .i64 (am : Int), .int .i64 (t2 : Int)], .row (wb.heap.size) (116) (4) (.slice A2 l2.length c2) (l2.length) (prs l2), .blk (wd.heap.size) 33 #[.slice A2 l2.length c2]] := Mem.set 4 HM rfl 2 (.int .i64 (am : Int))
  replace HM : Mem (w) [] _ [.blk (w.heap.size) 33 #[.slice A l.length c'], .blk (w.heap.size + 1) 39 #[.int .i64 (me : Int), .int .i64 (rev : Int), .int .i64 m2, .int .i64 m3, .int .u64 m4, .int .i64 m5, .int .i64 m6], .blk (w.heap.size + 1 + 1) 45 #[.int .i64 a, .int .i64 b, .int .i64 c, .int .i64 d], .blk (w.heap.size + 1 + 1 + 1) 33 #[.slice A2 l2.length c2], .blk (w.heap.size + 1 + 1 + 1 + 1) 48 #[.int .i64 (cls : Int), .int .i64 (id : Int), .int .i64 (am : Int), .int .i64 (t2 : Int)], .blk (wa.heap.size) 48 #[.int .i64 (cls : Int), .int .i64 (id : Int), .int .i64 (am : Int), .int .i64 (t2 : Int)], .row (wb.heap.size) (116) (4) (.slice A2 l2.length c2) (l2.length) (prs l2), .blk (wd.heap.size) 33 #[.slice A2 l2.length c2]] := Mem.set 4 HM rfl 3 (.int .i64 (t2 : Int))
  replace HM := HM.drew
  rw [hWf] at HM ⊢
  clear hWf
  clear tk0 tkf0 tk1 tkf1 tk2 tkf2 tk3 tkf3 tklt ro0 rof0 rolt rt0 rtf0 rt1 rtf1 rt2 rtf2 rt3 rtf3 rtlt ao0 aof0 aolt ne_tk_ro ne_tk_rt ne_tk_ao ne_ro_tk ne_ro_rt ne_ro_ao ne_rt_tk ne_rt_ro ne_rt_ao ne_ao_tk ne_ao_ro ne_ao_rt
  have ro0 : (Wf).cell? ⟨w.heap.size + 1 + 1 + 1, 0, none⟩ = some (.slice A2 l2.length c2) := (HM.blk 3 rfl).cell 0
  have rof0 : (Wf).frozen? ⟨w.heap.size + 1 + 1 + 1, 0, none⟩ = false := (HM.blk 3 rfl).frozen 0
  have rolt : w.heap.size + 1 + 1 + 1 < (Wf).heap.size := HM.lt 3 rfl
  have rt0 : (Wf).cell? ⟨w.heap.size + 1 + 1 + 1 + 1, 0, none⟩ = some (.int .i64 (cls : Int)) := (HM.blk 4 rfl).cell 0
  have rtf0 : (Wf).frozen? ⟨w.heap.size + 1 + 1 + 1 + 1, 0, none⟩ = false := (HM.blk 4 rfl).frozen 0
  have rt1 : (Wf).cell? ⟨w.heap.size + 1 + 1 + 1 + 1, 1, none⟩ = some (.int .i64 (id : Int)) := (HM.blk 4 rfl).cell 1
  have rtf1 : (Wf).frozen? ⟨w.heap.size + 1 + 1 + 1 + 1, 1, none⟩ = false := (HM.blk 4 rfl).frozen 1
  have rt2 : (Wf).cell? ⟨w.heap.size + 1 + 1 + 1 + 1, 2, none⟩ = some (.int .i64 (am : Int)) := (HM.blk 4 rfl).cell 2
  have rtf2 : (Wf).frozen? ⟨w.heap.size + 1 + 1 + 1 + 1, 2, none⟩ = false := (HM.blk 4 rfl).frozen 2
  have rt3 : (Wf).cell? ⟨w.heap.size + 1 + 1 + 1 + 1, 3, none⟩ = some (.int .i64 (t2 : Int)) := (HM.blk 4 rfl).cell 3
  have rtf3 : (Wf).frozen? ⟨w.heap.size + 1 + 1 + 1 + 1, 3, none⟩ = false := (HM.blk 4 rfl).frozen 3
  have rtlt : w.heap.size + 1 + 1 + 1 + 1 < (Wf).heap.size := HM.lt 4 rfl
  have ne_ro_rt : w.heap.size + 1 + 1 + 1 ≠ w.heap.size + 1 + 1 + 1 + 1 := HM.ne 3 4 rfl rfl (by decide)
  have ne_rt_ro : w.heap.size + 1 + 1 + 1 + 1 ≠ w.heap.size + 1 + 1 + 1 := HM.ne 4 3 rfl rfl (by decide)
  go_wp2
  refine bodyPost_ret (v := .tuple #[.agg #[.slice A2 l2.length c2], .agg #[.int .i64 (cls : Int), .int .i64 (id : Int), .int .i64 (am : Int), .int .i64 (t2 : Int)], .bool true]) (by simp [results, Tryd.results13, go_sem, ro0, rt0, rt1, rt2, rt3]; done) rfl ?_
  exact ⟨id, am, tag, t2, l2, A2, c2, rfl, ⟨k1, k2, k3, k4, by omega⟩, by rw [HBD.out]; exact HL2.out, by rw [HBD.out]; exact HT2.out, hO2, HM.ownb 6 rfl, HM.below⟩
end Go.Proofs.YtopnlkhepjbjkaaDoor
