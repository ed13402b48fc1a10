/- vendmeterkeep: made, newMeter, sold. -/
import Derived.Test.YtakdjggpengbhaaDoorTok
import Derived.Test.YtakdjggpengbhaaDoorAsked
import Derived.Test.YtakdjggpengbhaaDoorPicked
import Derived.Test.YtakdjggpengbhaaDoorHeap
import Derived.Test.YtakdjggpengbhaaDoorKeyD
import Derived.BigRegion
import Derived.Deep.RegionHeld3
import Derived.Deep.DeepCutAuto
namespace Go.Proofs.YtakdjggpengbhaaDoor
open Go.RowKit
set_option linter.unusedVariables false
theorem pk_natI (n : Int) (many : Int) (h : 1 ≤ many) : ∃ p : Nat, Hid (pk n many = (p : Int)) ∧ (p : Int) < many := by
  obtain ⟨r, h1, h2, h3⟩ := pk_int n many h
  exact ⟨r.toNat, by show _ = _; rw [h1.out]; omega, by omega⟩
theorem pk_self {p : Nat} {many : Int} (h : (p : Int) < many) : pk (p : Int) many = (p : Int) := by
  rw [pk_pos _ _ (by omega)]; exact Int.emod_eq_of_lt (by omega) h
/-- The answer of 'made': a token that may be, of this class. -/
def RetMade (cls : Nat) (w : World) (e : Ending) (w' : World) : Prop :=
  ∃ (id am tag : Nat), e = .returned (.agg #[.int .i64 (cls : Int), .int .i64 (id : Int), .int .i64 (am : Int), .int .i64 (tag : Int)]) ∧ TkOk cls id am tag ∧ Below w.heap.size w w'
/-- The token's other numbers, out of the raw ones. -/
def madeV (cls : Nat) (b c d : Int) : Int × Int × Int := (1 + pk b 1048575, (if cls = 0 then 1 + pk c 2097151 else if cls = 2 then 1 + pk c 15 else 0), pk d 65536)
/-- The answer of 'made', told by the raw numbers. -/
def RetMadeV (cls : Nat) (b c d : Int) (w : World) (e : Ending) (w' : World) : Prop :=
  ∃ (id am tag : Nat), e = .returned (.agg #[.int .i64 (cls : Int), .int .i64 (id : Int), .int .i64 (am : Int), .int .i64 (tag : Int)]) ∧ TkOk cls id am tag ∧ Hid (madeV cls b c d = ((id : Int), (am : Int), (tag : Int))) ∧ Below w.heap.size w w'
set_option maxRecDepth 100000 in
set_option maxHeartbeats 2000000 in
theorem made_is (a b c d : Int) (cls : Nat) (w : World) (va : (Lit.int .i64 a).wf = true) (vb : (Lit.int .i64 b).wf = true) (vc : (Lit.int .i64 c).wf = true) (vd : (Lit.int .i64 d).wf = true) (hc : Hid (pk a 4 = (cls : Int))) :
    Calls Tryd.prog 39 #[.agg #[.int .i64 a, .int .i64 b, .int .i64 c, .int .i64 d]] w (RetMadeV cls b c d w) := by
  obtain ⟨i, hi, hi1⟩ := pk_natI b 1048575 (by omega)
  obtain ⟨tag, ht, ht1⟩ := pk_natI d 65536 (by omega)
  obtain ⟨p, hp, hp1⟩ := pk_natI c 2097151 (by omega)
  obtain ⟨q, hq, hq1⟩ := pk_natI c 15 (by omega)
  have hc4 : cls < 4 := by
    have h1 := pk_hi a 4 (by omega)
    rw [hc.out] at h1; omega
  obtain ⟨id, hid⟩ : ∃ id : Nat, (1 : Int) + (i : Int) = (id : Int) := ⟨1 + i, by omega⟩
  obtain ⟨p1, hpp⟩ : ∃ id : Nat, (1 : Int) + (p : Int) = (id : Int) := ⟨1 + p, by omega⟩
  obtain ⟨q1, hqq⟩ : ∃ id : Nat, (1 : Int) + (q : Int) = (id : Int) := ⟨1 + q, by omega⟩
  have e1 : IntKind.i64.wrap (1 + (i : Int)) = (id : Int) := by rw [hid]; exact IntWalk.i64_in _ (by omega)
  have e2 : IntKind.i64.wrap (1 + (p : Int)) = (p1 : Int) := by rw [hpp]; exact IntWalk.i64_in _ (by omega)
  have e3 : IntKind.i64.wrap (1 + (q : Int)) = (q1 : Int) := by rw [hqq]; exact IntWalk.i64_in _ (by omega)
  have b1 : 1 ≤ id ∧ id ≤ 1048575 := by omega
  have b2 : 1 ≤ p1 ∧ p1 ≤ 2097151 := by omega
  have b3 : 1 ≤ q1 ∧ q1 ≤ 15 := by omega
  have b4 : tag ≤ 65535 := by omega
  have V1 := Lib.hid (show 1 + pk b 1048575 = (id : Int) by rw [hi.out]; exact hid)
  have V2 := Lib.hid (show 1 + pk c 2097151 = (p1 : Int) by rw [hp.out]; exact hpp)
  have V3 := Lib.hid (show 1 + pk c 15 = (q1 : Int) by rw [hq.out]; exact hqq)
  clear hid hpp hqq hi1 hp1 hq1 ht1
  have B1 := Lib.hid b1
  have B2 := Lib.hid b2
  have B3 := Lib.hid b3
  have B4 := Lib.hid b4
  clear b1 b2 b3 b4
  have HM := Mem.init w
  obtain ⟨W0, hW0⟩ : ∃ W0, ((w).alloc (.cells #[.int .i64 a, .int .i64 b, .int .i64 c, .int .i64 d] 53)).alloc (.cells #[.int .i64 0, .int .i64 0, .int .i64 0, .int .i64 0] 97) = W0 := ⟨_, rfl⟩
  replace HM : Mem (w) [] _ [.blk (w.heap.size) 53 #[.int .i64 a, .int .i64 b, .int .i64 c, .int .i64 d]] := Mem.alloc HM (w.heap.size) (by first | (simp; done) | (simp; omega)) #[.int .i64 a, .int .i64 b, .int .i64 c, .int .i64 d] 53
  replace HM : Mem (w) [] _ [.blk (w.heap.size) 53 #[.int .i64 a, .int .i64 b, .int .i64 c, .int .i64 d], .blk (w.heap.size + 1) 97 #[.int .i64 0, .int .i64 0, .int .i64 0, .int .i64 0]] := Mem.alloc HM (w.heap.size + 1) (by first | (simp; done) | (simp; omega)) #[.int .i64 0, .int .i64 0, .int .i64 0, .int .i64 0] 97
  rw [hW0] at HM
  have rx0 : (W0).cell? ⟨w.heap.size, 0, none⟩ = some (.int .i64 a) := (HM.blk 0 rfl).cell 0
  have rxf0 : (W0).frozen? ⟨w.heap.size, 0, none⟩ = false := (HM.blk 0 rfl).frozen 0
  have rx1 : (W0).cell? ⟨w.heap.size, 1, none⟩ = some (.int .i64 b) := (HM.blk 0 rfl).cell 1
  have rxf1 : (W0).frozen? ⟨w.heap.size, 1, none⟩ = false := (HM.blk 0 rfl).frozen 1
  have rx2 : (W0).cell? ⟨w.heap.size, 2, none⟩ = some (.int .i64 c) := (HM.blk 0 rfl).cell 2
  have rxf2 : (W0).frozen? ⟨w.heap.size, 2, none⟩ = false := (HM.blk 0 rfl).frozen 2
  have rx3 : (W0).cell? ⟨w.heap.size, 3, none⟩ = some (.int .i64 d) := (HM.blk 0 rfl).cell 3
  have rxf3 : (W0).frozen? ⟨w.heap.size, 3, none⟩ = false := (HM.blk 0 rfl).frozen 3
  have rxlt : w.heap.size < (W0).heap.size := HM.lt 0 rfl
  go_enter Tryd.func39, Tryd.ntmps39
  go_upto_region 1 with fail
  go_cut [3] (fun p wx => ∃ gt : Nat, p = .pointer (some ⟨gt, 0, none⟩) ∧ Mem w [] wx [.blk w.heap.size 53 #[.int .i64 a, .int .i64 b, .int .i64 c, .int .i64 d], .blk (w.heap.size + 1) 97 #[.int .i64 0, .int .i64 0, .int .i64 0, .int .i64 0], .blk gt 97 #[.int .i64 (cls : Int), .int .i64 (id : Int), .int .i64 0, .int .i64 (tag : Int)]])
  case first =>
    go_region_held3 (fun w' => w'.cell? ⟨w.heap.size, 0, none⟩ = some (.int .i64 a) ∧ w'.cell? ⟨w.heap.size, 1, none⟩ = some (.int .i64 b) ∧ w'.cell? ⟨w.heap.size, 3, none⟩ = some (.int .i64 d)) (first | go_keep | fail) (first | (go_at_call 10; (with_reducible refine (picked_is _ hc va (by omega) (by omega)).mono ?_); rintro e w' ⟨rfl, rfl⟩) | (go_at_call 10; (with_reducible refine (picked_is _ hi vb (by omega) (by omega)).mono ?_); rintro e w' ⟨rfl, rfl⟩) | (go_at_call 10; (with_reducible refine (picked_is _ ht vd (by omega) (by omega)).mono ?_); rintro e w' ⟨rfl, rfl⟩))
    all_goals
      obtain ⟨W1, hW1⟩ : ∃ W1, ((W0).alloc (.cells #[.int .i64 (cls : Int), .int .i64 (id : Int), .int .i64 0, .int .i64 (tag : Int)] 97)).drew = W1 := ⟨_, rfl⟩
      replace HM : Mem (w) [] _ [.blk (w.heap.size) 53 #[.int .i64 a, .int .i64 b, .int .i64 c, .int .i64 d], .blk (w.heap.size + 1) 97 #[.int .i64 0, .int .i64 0, .int .i64 0, .int .i64 0], .blk (W0.heap.size) 97 #[.int .i64 (cls : Int), .int .i64 (id : Int), .int .i64 0, .int .i64 (tag : Int)]] := Mem.alloc HM (W0.heap.size) (by first | (simp; done) | (simp; omega)) #[.int .i64 (cls : Int), .int .i64 (id : Int), .int .i64 0, .int .i64 (tag : Int)] 97
      replace HM := HM.drew
      rw [hW1] at HM ⊢
      clear hW1
      go_wp2_with fail
      go_meet
      exact ⟨_, rfl, HM⟩
  case rest =>
    obtain ⟨gt, rfl, HM⟩ := hcut
    have HM : Mem (w) [] (wc) [.blk (w.heap.size) 53 #[.int .i64 a, .int .i64 b, .int .i64 c, .int .i64 d], .blk (w.heap.size + 1) 97 #[.int .i64 0, .int .i64 0, .int .i64 0, .int .i64 0], .blk (gt) 97 #[.int .i64 (cls : Int), .int .i64 (id : Int), .int .i64 0, .int .i64 (tag : Int)]] := HM
    clear rx0 rxf0 rx1 rxf1 rx2 rxf2 rx3 rxf3 rxlt
    have rx0 : (wc).cell? ⟨w.heap.size, 0, none⟩ = some (.int .i64 a) := (HM.blk 0 rfl).cell 0
    have rxf0 : (wc).frozen? ⟨w.heap.size, 0, none⟩ = false := (HM.blk 0 rfl).frozen 0
    have rx1 : (wc).cell? ⟨w.heap.size, 1, none⟩ = some (.int .i64 b) := (HM.blk 0 rfl).cell 1
    have rxf1 : (wc).frozen? ⟨w.heap.size, 1, none⟩ = false := (HM.blk 0 rfl).frozen 1
    have rx2 : (wc).cell? ⟨w.heap.size, 2, none⟩ = some (.int .i64 c) := (HM.blk 0 rfl).cell 2
    have rxf2 : (wc).frozen? ⟨w.heap.size, 2, none⟩ = false := (HM.blk 0 rfl).frozen 2
    have rx3 : (wc).cell? ⟨w.heap.size, 3, none⟩ = some (.int .i64 d) := (HM.blk 0 rfl).cell 3
    have rxf3 : (wc).frozen? ⟨w.heap.size, 3, none⟩ = false := (HM.blk 0 rfl).frozen 3
    have rxlt : w.heap.size < (wc).heap.size := HM.lt 0 rfl
    have rs0 : (wc).cell? ⟨w.heap.size + 1, 0, none⟩ = some (.int .i64 0) := (HM.blk 1 rfl).cell 0
    have rsf0 : (wc).frozen? ⟨w.heap.size + 1, 0, none⟩ = false := (HM.blk 1 rfl).frozen 0
    have rs1 : (wc).cell? ⟨w.heap.size + 1, 1, none⟩ = some (.int .i64 0) := (HM.blk 1 rfl).cell 1
    have rsf1 : (wc).frozen? ⟨w.heap.size + 1, 1, none⟩ = false := (HM.blk 1 rfl).frozen 1
    have rs2 : (wc).cell? ⟨w.heap.size + 1, 2, none⟩ = some (.int .i64 0) := (HM.blk 1 rfl).cell 2
    have rsf2 : (wc).frozen? ⟨w.heap.size + 1, 2, none⟩ = false := (HM.blk 1 rfl).frozen 2
    have rs3 : (wc).cell? ⟨w.heap.size + 1, 3, none⟩ = some (.int .i64 0) := (HM.blk 1 rfl).cell 3
    have rsf3 : (wc).frozen? ⟨w.heap.size + 1, 3, none⟩ = false := (HM.blk 1 rfl).frozen 3
    have rslt : w.heap.size + 1 < (wc).heap.size := HM.lt 1 rfl
    have tk0 : (wc).cell? ⟨gt, 0, none⟩ = some (.int .i64 (cls : Int)) := (HM.blk 2 rfl).cell 0
    have tkf0 : (wc).frozen? ⟨gt, 0, none⟩ = false := (HM.blk 2 rfl).frozen 0
    have tk1 : (wc).cell? ⟨gt, 1, none⟩ = some (.int .i64 (id : Int)) := (HM.blk 2 rfl).cell 1
    have tkf1 : (wc).frozen? ⟨gt, 1, none⟩ = false := (HM.blk 2 rfl).frozen 1
    have tk2 : (wc).cell? ⟨gt, 2, none⟩ = some (.int .i64 0) := (HM.blk 2 rfl).cell 2
    have tkf2 : (wc).frozen? ⟨gt, 2, none⟩ = false := (HM.blk 2 rfl).frozen 2
    have tk3 : (wc).cell? ⟨gt, 3, none⟩ = some (.int .i64 (tag : Int)) := (HM.blk 2 rfl).cell 3
    have tkf3 : (wc).frozen? ⟨gt, 3, none⟩ = false := (HM.blk 2 rfl).frozen 3
    have tklt : gt < (wc).heap.size := HM.lt 2 rfl
    have ne_rx_rs : w.heap.size ≠ w.heap.size + 1 := HM.ne 0 1 rfl rfl (by decide)
    have ne_rx_tk : w.heap.size ≠ gt := HM.ne 0 2 rfl rfl (by decide)
    have ne_rs_rx : w.heap.size + 1 ≠ w.heap.size := HM.ne 1 0 rfl rfl (by decide)
    have ne_rs_tk : w.heap.size + 1 ≠ gt := HM.ne 1 2 rfl rfl (by decide)
    have ne_tk_rx : gt ≠ w.heap.size := HM.ne 2 0 rfl rfl (by decide)
    have ne_tk_rs : gt ≠ w.heap.size + 1 := HM.ne 2 1 rfl rfl (by decide)

    have h3 : (((cls : Int) == 0) = true ∧ ((cls : Int) == 2) = false ∧ cls = 0) ∨ (((cls : Int) == 0) = false ∧ ((cls : Int) == 2) = true ∧ cls = 2) ∨ (((cls : Int) == 0) = false ∧ ((cls : Int) == 2) = false ∧ (cls = 1 ∨ cls = 3)) := by
      by_cases h0 : cls = 0
      · exact .inl ⟨by simp; omega, by simp; omega, h0⟩
      · by_cases h2 : cls = 2
        · exact .inr (.inl ⟨by simp; omega, by simp; omega, h2⟩)
        · exact .inr (.inr ⟨by simp; omega, by simp; omega, by omega⟩)
    rcases h3 with ⟨g1, g2, g3⟩ | ⟨g1, g2, g3⟩ | ⟨g1, g2, g3⟩
    · have G3 := Lib.hid g3
      clear g3
      go_wp2_with (go_at_call 10; (with_reducible refine (picked_is _ hp vc (by omega) (by omega)).mono ?_); rintro e w' ⟨rfl, rfl⟩)
      obtain ⟨W2, hW2⟩ : ∃ W2, (((((wc).setCell ⟨gt, 2, none⟩ (.int .i64 (p1 : Int))).setCell ⟨w.heap.size + 1, 0, none⟩ (.int .i64 (cls : Int))).setCell ⟨w.heap.size + 1, 1, none⟩ (.int .i64 (id : Int))).setCell ⟨w.heap.size + 1, 2, none⟩ (.int .i64 (p1 : Int))).setCell ⟨w.heap.size + 1, 3, none⟩ (.int .i64 (tag : Int)) = W2 := ⟨_, rfl⟩
      replace HM : Mem (w) [] _ [.blk (w.heap.size) 53 #[.int .i64 a, .int .i64 b, .int .i64 c, .int .i64 d], .blk (w.heap.size + 1) 97 #[.int .i64 0, .int .i64 0, .int .i64 0, .int .i64 0], .blk (gt) 97 #[.int .i64 (cls : Int), .int .i64 (id : Int), .int .i64 (p1 : Int), .int .i64 (tag : Int)]] := Mem.set 2 HM rfl 2 (.int .i64 (p1 : Int))
      replace HM : Mem (w) [] _ [.blk (w.heap.size) 53 #[.int .i64 a, .int .i64 b, .int .i64 c, .int .i64 d], .blk (w.heap.size + 1) 97 #[.int .i64 (cls : Int), .int .i64 0, .int .i64 0, .int .i64 0], .blk (gt) 97 #[.int .i64 (cls : Int), .int .i64 (id : Int), .int .i64 (p1 : Int), .int .i64 (tag : Int)]] := Mem.set 1 HM rfl 0 (.int .i64 (cls : Int))
      replace HM : Mem (w) [] _ [.blk (w.heap.size) 53 #[.int .i64 a, .int .i64 b, .int .i64 c, .int .i64 d], .blk (w.heap.size + 1) 97 #[.int .i64 (cls : Int), .int .i64 (id : Int), .int .i64 0, .int .i64 0], .blk (gt) 97 #[.int .i64 (cls : Int), .int .i64 (id : Int), .int .i64 (p1 : Int), .int .i64 (tag : Int)]] := Mem.set 1 HM rfl 1 (.int .i64 (id : Int))
      replace HM : Mem (w) [] _ [.blk (w.heap.size) 53 #[.int .i64 a, .int .i64 b, .int .i64 c, .int .i64 d], .blk (w.heap.size + 1) 97 #[.int .i64 (cls : Int), .int .i64 (id : Int), .int .i64 (p1 : Int), .int .i64 0], .blk (gt) 97 #[.int .i64 (cls : Int), .int .i64 (id : Int), .int .i64 (p1 : Int), .int .i64 (tag : Int)]] := Mem.set 1 HM rfl 2 (.int .i64 (p1 : Int))
      replace HM : Mem (w) [] _ [.blk (w.heap.size) 53 #[.int .i64 a, .int .i64 b, .int .i64 c, .int .i64 d], .blk (w.heap.size + 1) 97 #[.int .i64 (cls : Int), .int .i64 (id : Int), .int .i64 (p1 : Int), .int .i64 (tag : Int)], .blk (gt) 97 #[.int .i64 (cls : Int), .int .i64 (id : Int), .int .i64 (p1 : Int), .int .i64 (tag : Int)]] := Mem.set 1 HM rfl 3 (.int .i64 (tag : Int))
      rw [hW2] at HM ⊢
      clear hW2
      clear rx0 rxf0 rx1 rxf1 rx2 rxf2 rx3 rxf3 rxlt rs0 rsf0 rs1 rsf1 rs2 rsf2 rs3 rsf3 rslt tk0 tkf0 tk1 tkf1 tk2 tkf2 tk3 tkf3 tklt ne_rx_rs ne_rx_tk ne_rs_rx ne_rs_tk ne_tk_rx ne_tk_rs
      have rs0 : (W2).cell? ⟨w.heap.size + 1, 0, none⟩ = some (.int .i64 (cls : Int)) := (HM.blk 1 rfl).cell 0
      have rsf0 : (W2).frozen? ⟨w.heap.size + 1, 0, none⟩ = false := (HM.blk 1 rfl).frozen 0
      have rs1 : (W2).cell? ⟨w.heap.size + 1, 1, none⟩ = some (.int .i64 (id : Int)) := (HM.blk 1 rfl).cell 1
      have rsf1 : (W2).frozen? ⟨w.heap.size + 1, 1, none⟩ = false := (HM.blk 1 rfl).frozen 1
      have rs2 : (W2).cell? ⟨w.heap.size + 1, 2, none⟩ = some (.int .i64 (p1 : Int)) := (HM.blk 1 rfl).cell 2
      have rsf2 : (W2).frozen? ⟨w.heap.size + 1, 2, none⟩ = false := (HM.blk 1 rfl).frozen 2
      have rs3 : (W2).cell? ⟨w.heap.size + 1, 3, none⟩ = some (.int .i64 (tag : Int)) := (HM.blk 1 rfl).cell 3
      have rsf3 : (W2).frozen? ⟨w.heap.size + 1, 3, none⟩ = false := (HM.blk 1 rfl).frozen 3
      have rslt : w.heap.size + 1 < (W2).heap.size := HM.lt 1 rfl
      refine bodyPost_ret (v := .agg #[.int .i64 (cls : Int), .int .i64 (id : Int), .int .i64 (p1 : Int), .int .i64 (tag : Int)]) (by simp [results, Tryd.results39, go_sem, rs0, rs1, rs2, rs3]; done) rfl ?_
      exact ⟨id, p1, tag, rfl, ⟨by omega, B1.out.1, B1.out.2, .inl ⟨G3.out, B2.out.1, B2.out.2⟩, B4.out⟩, (show _ = _ by unfold madeV; rw [if_pos G3.out, V1.out, V2.out, ht.out]), HM.below⟩
    · skip
      have G3 := Lib.hid g3
      clear g3
      go_wp2_with (go_at_call 10; (with_reducible refine (picked_is _ hq vc (by omega) (by omega)).mono ?_); rintro e w' ⟨rfl, rfl⟩)
      obtain ⟨W2, hW2⟩ : ∃ W2, (((((wc).setCell ⟨gt, 2, none⟩ (.int .i64 (q1 : Int))).setCell ⟨w.heap.size + 1, 0, none⟩ (.int .i64 (cls : Int))).setCell ⟨w.heap.size + 1, 1, none⟩ (.int .i64 (id : Int))).setCell ⟨w.heap.size + 1, 2, none⟩ (.int .i64 (q1 : Int))).setCell ⟨w.heap.size + 1, 3, none⟩ (.int .i64 (tag : Int)) = W2 := ⟨_, rfl⟩
      replace HM : Mem (w) [] _ [.blk (w.heap.size) 53 #[.int .i64 a, .int .i64 b, .int .i64 c, .int .i64 d], .blk (w.heap.size + 1) 97 #[.int .i64 0, .int .i64 0, .int .i64 0, .int .i64 0], .blk (gt) 97 #[.int .i64 (cls : Int), .int .i64 (id : Int), .int .i64 (q1 : Int), .int .i64 (tag : Int)]] := Mem.set 2 HM rfl 2 (.int .i64 (q1 : Int))
      replace HM : Mem (w) [] _ [.blk (w.heap.size) 53 #[.int .i64 a, .int .i64 b, .int .i64 c, .int .i64 d], .blk (w.heap.size + 1) 97 #[.int .i64 (cls : Int), .int .i64 0, .int .i64 0, .int .i64 0], .blk (gt) 97 #[.int .i64 (cls : Int), .int .i64 (id : Int), .int .i64 (q1 : Int), .int .i64 (tag : Int)]] := Mem.set 1 HM rfl 0 (.int .i64 (cls : Int))
      replace HM : Mem (w) [] _ [.blk (w.heap.size) 53 #[.int .i64 a, .int .i64 b, .int .i64 c, .int .i64 d], .blk (w.heap.size + 1) 97 #[.int .i64 (cls : Int), .int .i64 (id : Int), .int .i64 0, .int .i64 0], .blk (gt) 97 #[.int .i64 (cls : Int), .int .i64 (id : Int), .int .i64 (q1 : Int), .int .i64 (tag : Int)]] := Mem.set 1 HM rfl 1 (.int .i64 (id : Int))
      replace HM : Mem (w) [] _ [.blk (w.heap.size) 53 #[.int .i64 a, .int .i64 b, .int .i64 c, .int .i64 d], .blk (w.heap.size + 1) 97 #[.int .i64 (cls : Int), .int .i64 (id : Int), .int .i64 (q1 : Int), .int .i64 0], .blk (gt) 97 #[.int .i64 (cls : Int), .int .i64 (id : Int), .int .i64 (q1 : Int), .int .i64 (tag : Int)]] := Mem.set 1 HM rfl 2 (.int .i64 (q1 : Int))
      replace HM : Mem (w) [] _ [.blk (w.heap.size) 53 #[.int .i64 a, .int .i64 b, .int .i64 c, .int .i64 d], .blk (w.heap.size + 1) 97 #[.int .i64 (cls : Int), .int .i64 (id : Int), .int .i64 (q1 : Int), .int .i64 (tag : Int)], .blk (gt) 97 #[.int .i64 (cls : Int), .int .i64 (id : Int), .int .i64 (q1 : Int), .int .i64 (tag : Int)]] := Mem.set 1 HM rfl 3 (.int .i64 (tag : Int))
      rw [hW2] at HM ⊢
      clear hW2
      clear rx0 rxf0 rx1 rxf1 rx2 rxf2 rx3 rxf3 rxlt rs0 rsf0 rs1 rsf1 rs2 rsf2 rs3 rsf3 rslt tk0 tkf0 tk1 tkf1 tk2 tkf2 tk3 tkf3 tklt ne_rx_rs ne_rx_tk ne_rs_rx ne_rs_tk ne_tk_rx ne_tk_rs
      have rs0 : (W2).cell? ⟨w.heap.size + 1, 0, none⟩ = some (.int .i64 (cls : Int)) := (HM.blk 1 rfl).cell 0
      have rsf0 : (W2).frozen? ⟨w.heap.size + 1, 0, none⟩ = false := (HM.blk 1 rfl).frozen 0
      have rs1 : (W2).cell? ⟨w.heap.size + 1, 1, none⟩ = some (.int .i64 (id : Int)) := (HM.blk 1 rfl).cell 1
      have rsf1 : (W2).frozen? ⟨w.heap.size + 1, 1, none⟩ = false := (HM.blk 1 rfl).frozen 1
      have rs2 : (W2).cell? ⟨w.heap.size + 1, 2, none⟩ = some (.int .i64 (q1 : Int)) := (HM.blk 1 rfl).cell 2
      have rsf2 : (W2).frozen? ⟨w.heap.size + 1, 2, none⟩ = false := (HM.blk 1 rfl).frozen 2
      have rs3 : (W2).cell? ⟨w.heap.size + 1, 3, none⟩ = some (.int .i64 (tag : Int)) := (HM.blk 1 rfl).cell 3
      have rsf3 : (W2).frozen? ⟨w.heap.size + 1, 3, none⟩ = false := (HM.blk 1 rfl).frozen 3
      have rslt : w.heap.size + 1 < (W2).heap.size := HM.lt 1 rfl
      refine bodyPost_ret (v := .agg #[.int .i64 (cls : Int), .int .i64 (id : Int), .int .i64 (q1 : Int), .int .i64 (tag : Int)]) (by simp [results, Tryd.results39, go_sem, rs0, rs1, rs2, rs3]; done) rfl ?_
      exact ⟨id, q1, tag, rfl, ⟨by omega, B1.out.1, B1.out.2, .inr (.inr (.inl ⟨G3.out, B3.out.1, B3.out.2⟩)), B4.out⟩, (show _ = _ by unfold madeV; rw [if_neg (by have := G3.out; omega), if_pos G3.out, V1.out, V3.out, ht.out]), HM.below⟩
    · skip
      have G3 := Lib.hid g3
      clear g3
      go_wp2_with fail
      obtain ⟨W2, hW2⟩ : ∃ W2, ((((wc).setCell ⟨w.heap.size + 1, 0, none⟩ (.int .i64 (cls : Int))).setCell ⟨w.heap.size + 1, 1, none⟩ (.int .i64 (id : Int))).setCell ⟨w.heap.size + 1, 2, none⟩ (.int .i64 0)).setCell ⟨w.heap.size + 1, 3, none⟩ (.int .i64 (tag : Int)) = W2 := ⟨_, rfl⟩
      replace HM : Mem (w) [] _ [.blk (w.heap.size) 53 #[.int .i64 a, .int .i64 b, .int .i64 c, .int .i64 d], .blk (w.heap.size + 1) 97 #[.int .i64 (cls : Int), .int .i64 0, .int .i64 0, .int .i64 0], .blk (gt) 97 #[.int .i64 (cls : Int), .int .i64 (id : Int), .int .i64 0, .int .i64 (tag : Int)]] := Mem.set 1 HM rfl 0 (.int .i64 (cls : Int))
      replace HM : Mem (w) [] _ [.blk (w.heap.size) 53 #[.int .i64 a, .int .i64 b, .int .i64 c, .int .i64 d], .blk (w.heap.size + 1) 97 #[.int .i64 (cls : Int), .int .i64 (id : Int), .int .i64 0, .int .i64 0], .blk (gt) 97 #[.int .i64 (cls : Int), .int .i64 (id : Int), .int .i64 0, .int .i64 (tag : Int)]] := Mem.set 1 HM rfl 1 (.int .i64 (id : Int))
      replace HM : Mem (w) [] _ [.blk (w.heap.size) 53 #[.int .i64 a, .int .i64 b, .int .i64 c, .int .i64 d], .blk (w.heap.size + 1) 97 #[.int .i64 (cls : Int), .int .i64 (id : Int), .int .i64 0, .int .i64 0], .blk (gt) 97 #[.int .i64 (cls : Int), .int .i64 (id : Int), .int .i64 0, .int .i64 (tag : Int)]] := Mem.set 1 HM rfl 2 (.int .i64 0)
      replace HM : Mem (w) [] _ [.blk (w.heap.size) 53 #[.int .i64 a, .int .i64 b, .int .i64 c, .int .i64 d], .blk (w.heap.size + 1) 97 #[.int .i64 (cls : Int), .int .i64 (id : Int), .int .i64 0, .int .i64 (tag : Int)], .blk (gt) 97 #[.int .i64 (cls : Int), .int .i64 (id : Int), .int .i64 0, .int .i64 (tag : Int)]] := Mem.set 1 HM rfl 3 (.int .i64 (tag : Int))
      rw [hW2] at HM ⊢
      clear hW2
      clear rx0 rxf0 rx1 rxf1 rx2 rxf2 rx3 rxf3 rxlt rs0 rsf0 rs1 rsf1 rs2 rsf2 rs3 rsf3 rslt tk0 tkf0 tk1 tkf1 tk2 tkf2 tk3 tkf3 tklt ne_rx_rs ne_rx_tk ne_rs_rx ne_rs_tk ne_tk_rx ne_tk_rs
      have rs0 : (W2).cell? ⟨w.heap.size + 1, 0, none⟩ = some (.int .i64 (cls : Int)) := (HM.blk 1 rfl).cell 0
      have rsf0 : (W2).frozen? ⟨w.heap.size + 1, 0, none⟩ = false := (HM.blk 1 rfl).frozen 0
      have rs1 : (W2).cell? ⟨w.heap.size + 1, 1, none⟩ = some (.int .i64 (id : Int)) := (HM.blk 1 rfl).cell 1
      have rsf1 : (W2).frozen? ⟨w.heap.size + 1, 1, none⟩ = false := (HM.blk 1 rfl).frozen 1
      have rs2 : (W2).cell? ⟨w.heap.size + 1, 2, none⟩ = some (.int .i64 0) := (HM.blk 1 rfl).cell 2
      have rsf2 : (W2).frozen? ⟨w.heap.size + 1, 2, none⟩ = false := (HM.blk 1 rfl).frozen 2
      have rs3 : (W2).cell? ⟨w.heap.size + 1, 3, none⟩ = some (.int .i64 (tag : Int)) := (HM.blk 1 rfl).cell 3
      have rsf3 : (W2).frozen? ⟨w.heap.size + 1, 3, none⟩ = false := (HM.blk 1 rfl).frozen 3
      have rslt : w.heap.size + 1 < (W2).heap.size := HM.lt 1 rfl
      refine bodyPost_ret (v := .agg #[.int .i64 (cls : Int), .int .i64 (id : Int), .int .i64 0, .int .i64 (tag : Int)]) (by simp [results, Tryd.results39, go_sem, rs0, rs1, rs2, rs3]; done) rfl ?_
      exact ⟨id, 0, tag, rfl, ⟨by omega, B1.out.1, B1.out.2, by have := G3.out; omega, B4.out⟩, (show _ = _ by unfold madeV; rw [if_neg (by have := G3.out; omega), if_neg (by have := G3.out; omega), V1.out, ht.out]; rfl), HM.below⟩
theorem made_ok (a b c d : Int) (cls : Nat) (w : World) (va : (Lit.int .i64 a).wf = true) (vb : (Lit.int .i64 b).wf = true) (vc : (Lit.int .i64 c).wf = true) (vd : (Lit.int .i64 d).wf = true) (hc : Hid (pk a 4 = (cls : Int))) :
    Calls Tryd.prog 39 #[.agg #[.int .i64 a, .int .i64 b, .int .i64 c, .int .i64 d]] w (RetMade cls w) := (made_is a b c d cls w va vb vc vd hc).mono fun _ _ ⟨id, am, tag, he, hk, _, hb⟩ => ⟨id, am, tag, he, hk, hb⟩
end Go.Proofs.YtakdjggpengbhaaDoor
