/- A receipt that is right: vendmeterkeep.slip. -/
import Derived.Test.YtakdjggpengbhaaDoorFmt
import Derived.Test.YtakdjggpengbhaaDoorMade
import Derived.Deep.RegionHeld3
import Derived.Deep.DeepCutAuto
namespace Go.Proofs.YtakdjggpengbhaaDoor
open Go.RowKit
set_option linter.unusedVariables false
/-- The answer of 'slip'. -/
def RetSlip (w : World) (e : Ending) (w' : World) : Prop :=
  ∃ (m cls id am tag T d f p g u : Nat), m < 50 ∧ TkOk cls id am tag ∧ d < 20000000 ∧ f < 20000000 ∧ p < 20000000 ∧ g < 20000000 ∧ T = d + f + p + g ∧ u = (if cls = 0 then am else 0) ∧ e = .returned (.tuple #[.agg #[.int .i64 (m : Int), .int .i64 (id : Int), .int .i64 (T : Int), .int .i64 (d : Int), .int .i64 (f : Int), .int .i64 (p : Int), .int .i64 (g : Int), .int .i64 (u : Int), .string (dstr (tokD cls id am tag))], .bool true]) ∧ Below w.heap.size w w'
set_option maxRecDepth 100000 in
set_option maxHeartbeats 8000000 in
theorem slip_ok (xm xc xi xa xt xd xf xp xg : Int) (w : World) (wm : (Lit.int .i64 xm).wf = true) (wc : (Lit.int .i64 xc).wf = true) (wi : (Lit.int .i64 xi).wf = true) (wa : (Lit.int .i64 xa).wf = true) (wt : (Lit.int .i64 xt).wf = true) (wd : (Lit.int .i64 xd).wf = true) (wf : (Lit.int .i64 xf).wf = true) (wp : (Lit.int .i64 xp).wf = true) (wg : (Lit.int .i64 xg).wf = true) :
    Calls Tryd.prog 19 #[.agg #[.int .i64 xm, .int .i64 xc, .int .i64 xi, .int .i64 xa, .int .i64 xt, .int .i64 xd, .int .i64 xf, .int .i64 xp, .int .i64 xg]] w (RetSlip w) := by
  obtain ⟨cls, hc, hc4⟩ := pk_natI xc 4 (by omega)
  obtain ⟨m, hm, hm50⟩ := pk_natI xm 50 (by omega)
  obtain ⟨vd, hd, ld⟩ := pk_natI xd 20000000 (by omega)
  obtain ⟨vf, hf, lf⟩ := pk_natI xf 20000000 (by omega)
  obtain ⟨vp, hp, lp⟩ := pk_natI xp 20000000 (by omega)
  obtain ⟨vg, hg, lg⟩ := pk_natI xg 20000000 (by omega)
  have hMd := fun W => made_ok xc xi xa xt cls W wc wi wa wt hc
  obtain ⟨T, hT⟩ : ∃ T, vd + vf + vp + vg = T := ⟨_, rfl⟩
  have i1 : IntKind.i64.wrap ((vd : Int) + (vf : Int)) = (vd : Int) + (vf : Int) := IntWalk.i64_in _ (by omega)
  have i2 : IntKind.i64.wrap ((vd : Int) + (vf : Int) + (vp : Int)) = (vd : Int) + (vf : Int) + (vp : Int) := IntWalk.i64_in _ (by omega)
  have hTI : (vd : Int) + (vf : Int) + (vp : Int) + (vg : Int) = (T : Int) := by omega
  have i3 : IntKind.i64.wrap (T : Int) = (T : Int) := IntWalk.i64_in _ (by omega)
  have B := Lib.hid (show m < 50 ∧ vd < 20000000 ∧ vf < 20000000 ∧ vp < 20000000 ∧ vg < 20000000 ∧ T = vd + vf + vp + vg by omega)
  clear hT hm50 hc4 ld lf lp lg
  have HM := Mem.init w
  obtain ⟨W0, hW0⟩ : ∃ W0, ((w).alloc (.cells #[.int .i64 xm, .int .i64 xc, .int .i64 xi, .int .i64 xa, .int .i64 xt, .int .i64 xd, .int .i64 xf, .int .i64 xp, .int .i64 xg] 55)).alloc (.cells #[.int .i64 0, .int .i64 0, .int .i64 0, .int .i64 0, .int .i64 0, .int .i64 0, .int .i64 0, .int .i64 0, .string ⟨#[]⟩] 59) = W0 := ⟨_, rfl⟩
  replace HM : Mem (w) [] _ [.blk (w.heap.size) 55 #[.int .i64 xm, .int .i64 xc, .int .i64 xi, .int .i64 xa, .int .i64 xt, .int .i64 xd, .int .i64 xf, .int .i64 xp, .int .i64 xg]] := Mem.alloc HM (w.heap.size) (by first | (simp; done) | (simp; omega)) #[.int .i64 xm, .int .i64 xc, .int .i64 xi, .int .i64 xa, .int .i64 xt, .int .i64 xd, .int .i64 xf, .int .i64 xp, .int .i64 xg] 55
  replace HM : Mem (w) [] _ [.blk (w.heap.size) 55 #[.int .i64 xm, .int .i64 xc, .int .i64 xi, .int .i64 xa, .int .i64 xt, .int .i64 xd, .int .i64 xf, .int .i64 xp, .int .i64 xg], .blk (w.heap.size + 1) 59 #[.int .i64 0, .int .i64 0, .int .i64 0, .int .i64 0, .int .i64 0, .int .i64 0, .int .i64 0, .int .i64 0, .string ⟨#[]⟩]] := Mem.alloc HM (w.heap.size + 1) (by first | (simp; done) | (simp; omega)) #[.int .i64 0, .int .i64 0, .int .i64 0, .int .i64 0, .int .i64 0, .int .i64 0, .int .i64 0, .int .i64 0, .string ⟨#[]⟩] 59
  rw [hW0] at HM
  have sx0 : (W0).cell? ⟨w.heap.size, 0, none⟩ = some (.int .i64 xm) := (HM.blk 0 rfl).cell 0
  have sxf0 : (W0).frozen? ⟨w.heap.size, 0, none⟩ = false := (HM.blk 0 rfl).frozen 0
  have sx1 : (W0).cell? ⟨w.heap.size, 1, none⟩ = some (.int .i64 xc) := (HM.blk 0 rfl).cell 1
  have sxf1 : (W0).frozen? ⟨w.heap.size, 1, none⟩ = false := (HM.blk 0 rfl).frozen 1
  have sx2 : (W0).cell? ⟨w.heap.size, 2, none⟩ = some (.int .i64 xi) := (HM.blk 0 rfl).cell 2
  have sxf2 : (W0).frozen? ⟨w.heap.size, 2, none⟩ = false := (HM.blk 0 rfl).frozen 2
  have sx3 : (W0).cell? ⟨w.heap.size, 3, none⟩ = some (.int .i64 xa) := (HM.blk 0 rfl).cell 3
  have sxf3 : (W0).frozen? ⟨w.heap.size, 3, none⟩ = false := (HM.blk 0 rfl).frozen 3
  have sx4 : (W0).cell? ⟨w.heap.size, 4, none⟩ = some (.int .i64 xt) := (HM.blk 0 rfl).cell 4
  have sxf4 : (W0).frozen? ⟨w.heap.size, 4, none⟩ = false := (HM.blk 0 rfl).frozen 4
  have sx5 : (W0).cell? ⟨w.heap.size, 5, none⟩ = some (.int .i64 xd) := (HM.blk 0 rfl).cell 5
  have sxf5 : (W0).frozen? ⟨w.heap.size, 5, none⟩ = false := (HM.blk 0 rfl).frozen 5
  have sx6 : (W0).cell? ⟨w.heap.size, 6, none⟩ = some (.int .i64 xf) := (HM.blk 0 rfl).cell 6
  have sxf6 : (W0).frozen? ⟨w.heap.size, 6, none⟩ = false := (HM.blk 0 rfl).frozen 6
  have sx7 : (W0).cell? ⟨w.heap.size, 7, none⟩ = some (.int .i64 xp) := (HM.blk 0 rfl).cell 7
  have sxf7 : (W0).frozen? ⟨w.heap.size, 7, none⟩ = false := (HM.blk 0 rfl).frozen 7
  have sx8 : (W0).cell? ⟨w.heap.size, 8, none⟩ = some (.int .i64 xg) := (HM.blk 0 rfl).cell 8
  have sxf8 : (W0).frozen? ⟨w.heap.size, 8, none⟩ = false := (HM.blk 0 rfl).frozen 8
  have sxlt : w.heap.size < (W0).heap.size := HM.lt 0 rfl
  go_enter Tryd.func19, Tryd.ntmps19
  go_wp2_with fail
  refine (hMd _).mono ?_
  rintro e wa ⟨id, am, tag, rfl, hk, hba⟩
  replace HM : Mem (w) [] (wa) [.blk (w.heap.size) 55 #[.int .i64 xm, .int .i64 xc, .int .i64 xi, .int .i64 xa, .int .i64 xt, .int .i64 xd, .int .i64 xf, .int .i64 xp, .int .i64 xg], .blk (w.heap.size + 1) 59 #[.int .i64 0, .int .i64 0, .int .i64 0, .int .i64 0, .int .i64 0, .int .i64 0, .int .i64 0, .int .i64 0, .string ⟨#[]⟩]] := Mem.call HM hba
  clear hba hMd hW0
  have hF := fun W => format_ok cls id am tag W hk
  have HK := Lib.hid hk
  obtain ⟨Sx, hSx⟩ : ∃ s, dstr (tokD cls id am tag) = s := ⟨_, rfl⟩
  rw [hSx] at hF
  have HS := Lib.hid hSx
  clear hk hSx
  go_wp2_with fail
  obtain ⟨W1, hW1⟩ : ∃ W1, (wa).alloc (.cells #[.int .i64 (cls : Int), .int .i64 (id : Int), .int .i64 (am : Int), .int .i64 (tag : Int)] 97) = W1 := ⟨_, rfl⟩
  replace HM : Mem (w) [] _ [.blk (w.heap.size) 55 #[.int .i64 xm, .int .i64 xc, .int .i64 xi, .int .i64 xa, .int .i64 xt, .int .i64 xd, .int .i64 xf, .int .i64 xp, .int .i64 xg], .blk (w.heap.size + 1) 59 #[.int .i64 0, .int .i64 0, .int .i64 0, .int .i64 0, .int .i64 0, .int .i64 0, .int .i64 0, .int .i64 0, .string ⟨#[]⟩], .blk (wa.heap.size) 97 #[.int .i64 (cls : Int), .int .i64 (id : Int), .int .i64 (am : Int), .int .i64 (tag : Int)]] := Mem.alloc HM (wa.heap.size) (by first | (simp; done) | (simp; omega)) #[.int .i64 (cls : Int), .int .i64 (id : Int), .int .i64 (am : Int), .int .i64 (tag : Int)] 97
  rw [hW1] at HM ⊢
  clear hW1
  refine (hF _).mono ?_
  rintro e wb ⟨rfl, hbb⟩
  replace HM : Mem (w) [] (wb) [.blk (w.heap.size) 55 #[.int .i64 xm, .int .i64 xc, .int .i64 xi, .int .i64 xa, .int .i64 xt, .int .i64 xd, .int .i64 xf, .int .i64 xp, .int .i64 xg], .blk (w.heap.size + 1) 59 #[.int .i64 0, .int .i64 0, .int .i64 0, .int .i64 0, .int .i64 0, .int .i64 0, .int .i64 0, .int .i64 0, .string ⟨#[]⟩], .blk (wa.heap.size) 97 #[.int .i64 (cls : Int), .int .i64 (id : Int), .int .i64 (am : Int), .int .i64 (tag : Int)]] := Mem.call HM hbb
  clear sx0 sxf0 sx1 sxf1 sx2 sxf2 sx3 sxf3 sx4 sxf4 sx5 sxf5 sx6 sxf6 sx7 sxf7 sx8 sxf8 sxlt
  have sx0 : (wb).cell? ⟨w.heap.size, 0, none⟩ = some (.int .i64 xm) := (HM.blk 0 rfl).cell 0
  have sxf0 : (wb).frozen? ⟨w.heap.size, 0, none⟩ = false := (HM.blk 0 rfl).frozen 0
  have sx1 : (wb).cell? ⟨w.heap.size, 1, none⟩ = some (.int .i64 xc) := (HM.blk 0 rfl).cell 1
  have sxf1 : (wb).frozen? ⟨w.heap.size, 1, none⟩ = false := (HM.blk 0 rfl).frozen 1
  have sx2 : (wb).cell? ⟨w.heap.size, 2, none⟩ = some (.int .i64 xi) := (HM.blk 0 rfl).cell 2
  have sxf2 : (wb).frozen? ⟨w.heap.size, 2, none⟩ = false := (HM.blk 0 rfl).frozen 2
  have sx3 : (wb).cell? ⟨w.heap.size, 3, none⟩ = some (.int .i64 xa) := (HM.blk 0 rfl).cell 3
  have sxf3 : (wb).frozen? ⟨w.heap.size, 3, none⟩ = false := (HM.blk 0 rfl).frozen 3
  have sx4 : (wb).cell? ⟨w.heap.size, 4, none⟩ = some (.int .i64 xt) := (HM.blk 0 rfl).cell 4
  have sxf4 : (wb).frozen? ⟨w.heap.size, 4, none⟩ = false := (HM.blk 0 rfl).frozen 4
  have sx5 : (wb).cell? ⟨w.heap.size, 5, none⟩ = some (.int .i64 xd) := (HM.blk 0 rfl).cell 5
  have sxf5 : (wb).frozen? ⟨w.heap.size, 5, none⟩ = false := (HM.blk 0 rfl).frozen 5
  have sx6 : (wb).cell? ⟨w.heap.size, 6, none⟩ = some (.int .i64 xf) := (HM.blk 0 rfl).cell 6
  have sxf6 : (wb).frozen? ⟨w.heap.size, 6, none⟩ = false := (HM.blk 0 rfl).frozen 6
  have sx7 : (wb).cell? ⟨w.heap.size, 7, none⟩ = some (.int .i64 xp) := (HM.blk 0 rfl).cell 7
  have sxf7 : (wb).frozen? ⟨w.heap.size, 7, none⟩ = false := (HM.blk 0 rfl).frozen 7
  have sx8 : (wb).cell? ⟨w.heap.size, 8, none⟩ = some (.int .i64 xg) := (HM.blk 0 rfl).cell 8
  have sxf8 : (wb).frozen? ⟨w.heap.size, 8, none⟩ = false := (HM.blk 0 rfl).frozen 8
  have sxlt : w.heap.size < (wb).heap.size := HM.lt 0 rfl
  have tk0 : (wb).cell? ⟨wa.heap.size, 0, none⟩ = some (.int .i64 (cls : Int)) := (HM.blk 2 rfl).cell 0
  have tkf0 : (wb).frozen? ⟨wa.heap.size, 0, none⟩ = false := (HM.blk 2 rfl).frozen 0
  have tk1 : (wb).cell? ⟨wa.heap.size, 1, none⟩ = some (.int .i64 (id : Int)) := (HM.blk 2 rfl).cell 1
  have tkf1 : (wb).frozen? ⟨wa.heap.size, 1, none⟩ = false := (HM.blk 2 rfl).frozen 1
  have tk2 : (wb).cell? ⟨wa.heap.size, 2, none⟩ = some (.int .i64 (am : Int)) := (HM.blk 2 rfl).cell 2
  have tkf2 : (wb).frozen? ⟨wa.heap.size, 2, none⟩ = false := (HM.blk 2 rfl).frozen 2
  have tk3 : (wb).cell? ⟨wa.heap.size, 3, none⟩ = some (.int .i64 (tag : Int)) := (HM.blk 2 rfl).cell 3
  have tkf3 : (wb).frozen? ⟨wa.heap.size, 3, none⟩ = false := (HM.blk 2 rfl).frozen 3
  have tklt : wa.heap.size < (wb).heap.size := HM.lt 2 rfl
  have ne_sx_tk : w.heap.size ≠ wa.heap.size := HM.ne 0 2 rfl rfl (by decide)
  have ne_tk_sx : wa.heap.size ≠ w.heap.size := HM.ne 2 0 rfl rfl (by decide)
  clear hbb hF
  go_upto_region 3 with fail
  go_cut [7] (fun p wx => ∃ gt : Nat, p = .pointer (some ⟨gt, 0, none⟩) ∧ Mem w [] wx [.blk (w.heap.size) 55 #[.int .i64 xm, .int .i64 xc, .int .i64 xi, .int .i64 xa, .int .i64 xt, .int .i64 xd, .int .i64 xf, .int .i64 xp, .int .i64 xg], .blk (w.heap.size + 1) 59 #[.int .i64 0, .int .i64 0, .int .i64 0, .int .i64 0, .int .i64 0, .int .i64 0, .int .i64 0, .int .i64 0, .string ⟨#[]⟩], .blk (wa.heap.size) 97 #[.int .i64 (cls : Int), .int .i64 (id : Int), .int .i64 (am : Int), .int .i64 (tag : Int)], .blk (gt) 57 #[.int .i64 (id : Int), .int .i64 0, .int .i64 (vd : Int), .int .i64 (vf : Int), .int .i64 (vp : Int), .int .i64 (vg : Int), .int .i64 0]])
  case first =>
    go_region_held3 (fun w' => w'.cell? ⟨wa.heap.size, 1, none⟩ = some (.int .i64 (id : Int)) ∧ w'.cell? ⟨w.heap.size, 5, none⟩ = some (.int .i64 xd) ∧ w'.cell? ⟨w.heap.size, 6, none⟩ = some (.int .i64 xf) ∧ w'.cell? ⟨w.heap.size, 7, none⟩ = some (.int .i64 xp) ∧ w'.cell? ⟨w.heap.size, 8, none⟩ = some (.int .i64 xg)) (first | go_keep | fail) (first | (go_at_call 10; (with_reducible refine (picked_is _ hd wd (by omega) (by omega)).mono ?_); rintro e w' ⟨rfl, rfl⟩) | (go_at_call 10; (with_reducible refine (picked_is _ hf wf (by omega) (by omega)).mono ?_); rintro e w' ⟨rfl, rfl⟩) | (go_at_call 10; (with_reducible refine (picked_is _ hp wp (by omega) (by omega)).mono ?_); rintro e w' ⟨rfl, rfl⟩) | (go_at_call 10; (with_reducible refine (picked_is _ hg wg (by omega) (by omega)).mono ?_); rintro e w' ⟨rfl, rfl⟩))
    all_goals
      obtain ⟨W2, hW2⟩ : ∃ W2, ((wb).alloc (.cells #[.int .i64 (id : Int), .int .i64 0, .int .i64 (vd : Int), .int .i64 (vf : Int), .int .i64 (vp : Int), .int .i64 (vg : Int), .int .i64 0] 57)).drew = W2 := ⟨_, rfl⟩
      replace HM : Mem (w) [] _ [.blk (w.heap.size) 55 #[.int .i64 xm, .int .i64 xc, .int .i64 xi, .int .i64 xa, .int .i64 xt, .int .i64 xd, .int .i64 xf, .int .i64 xp, .int .i64 xg], .blk (w.heap.size + 1) 59 #[.int .i64 0, .int .i64 0, .int .i64 0, .int .i64 0, .int .i64 0, .int .i64 0, .int .i64 0, .int .i64 0, .string ⟨#[]⟩], .blk (wa.heap.size) 97 #[.int .i64 (cls : Int), .int .i64 (id : Int), .int .i64 (am : Int), .int .i64 (tag : Int)], .blk (wb.heap.size) 57 #[.int .i64 (id : Int), .int .i64 0, .int .i64 (vd : Int), .int .i64 (vf : Int), .int .i64 (vp : Int), .int .i64 (vg : Int), .int .i64 0]] := Mem.alloc HM (wb.heap.size) (by first | (simp; done) | (simp; omega)) #[.int .i64 (id : Int), .int .i64 0, .int .i64 (vd : Int), .int .i64 (vf : Int), .int .i64 (vp : Int), .int .i64 (vg : Int), .int .i64 0] 57
      replace HM := HM.drew
      rw [hW2] at HM ⊢
      clear hW2
      go_wp2_with fail
      go_meet
      exact ⟨_, rfl, HM⟩
  case rest =>
    obtain ⟨gt, rfl, HM⟩ := hcut
    have HM : Mem (w) [] (wc) [.blk (w.heap.size) 55 #[.int .i64 xm, .int .i64 xc, .int .i64 xi, .int .i64 xa, .int .i64 xt, .int .i64 xd, .int .i64 xf, .int .i64 xp, .int .i64 xg], .blk (w.heap.size + 1) 59 #[.int .i64 0, .int .i64 0, .int .i64 0, .int .i64 0, .int .i64 0, .int .i64 0, .int .i64 0, .int .i64 0, .string ⟨#[]⟩], .blk (wa.heap.size) 97 #[.int .i64 (cls : Int), .int .i64 (id : Int), .int .i64 (am : Int), .int .i64 (tag : Int)], .blk (gt) 57 #[.int .i64 (id : Int), .int .i64 0, .int .i64 (vd : Int), .int .i64 (vf : Int), .int .i64 (vp : Int), .int .i64 (vg : Int), .int .i64 0]] := HM
    clear sx0 sxf0 sx1 sxf1 sx2 sxf2 sx3 sxf3 sx4 sxf4 sx5 sxf5 sx6 sxf6 sx7 sxf7 sx8 sxf8 sxlt tk0 tkf0 tk1 tkf1 tk2 tkf2 tk3 tkf3 tklt ne_sx_tk ne_tk_sx
    have sx0 : (wc).cell? ⟨w.heap.size, 0, none⟩ = some (.int .i64 xm) := (HM.blk 0 rfl).cell 0
    have sxf0 : (wc).frozen? ⟨w.heap.size, 0, none⟩ = false := (HM.blk 0 rfl).frozen 0
    have sx1 : (wc).cell? ⟨w.heap.size, 1, none⟩ = some (.int .i64 xc) := (HM.blk 0 rfl).cell 1
    have sxf1 : (wc).frozen? ⟨w.heap.size, 1, none⟩ = false := (HM.blk 0 rfl).frozen 1
    have sx2 : (wc).cell? ⟨w.heap.size, 2, none⟩ = some (.int .i64 xi) := (HM.blk 0 rfl).cell 2
    have sxf2 : (wc).frozen? ⟨w.heap.size, 2, none⟩ = false := (HM.blk 0 rfl).frozen 2
    have sx3 : (wc).cell? ⟨w.heap.size, 3, none⟩ = some (.int .i64 xa) := (HM.blk 0 rfl).cell 3
    have sxf3 : (wc).frozen? ⟨w.heap.size, 3, none⟩ = false := (HM.blk 0 rfl).frozen 3
    have sx4 : (wc).cell? ⟨w.heap.size, 4, none⟩ = some (.int .i64 xt) := (HM.blk 0 rfl).cell 4
    have sxf4 : (wc).frozen? ⟨w.heap.size, 4, none⟩ = false := (HM.blk 0 rfl).frozen 4
    have sx5 : (wc).cell? ⟨w.heap.size, 5, none⟩ = some (.int .i64 xd) := (HM.blk 0 rfl).cell 5
    have sxf5 : (wc).frozen? ⟨w.heap.size, 5, none⟩ = false := (HM.blk 0 rfl).frozen 5
    have sx6 : (wc).cell? ⟨w.heap.size, 6, none⟩ = some (.int .i64 xf) := (HM.blk 0 rfl).cell 6
    have sxf6 : (wc).frozen? ⟨w.heap.size, 6, none⟩ = false := (HM.blk 0 rfl).frozen 6
    have sx7 : (wc).cell? ⟨w.heap.size, 7, none⟩ = some (.int .i64 xp) := (HM.blk 0 rfl).cell 7
    have sxf7 : (wc).frozen? ⟨w.heap.size, 7, none⟩ = false := (HM.blk 0 rfl).frozen 7
    have sx8 : (wc).cell? ⟨w.heap.size, 8, none⟩ = some (.int .i64 xg) := (HM.blk 0 rfl).cell 8
    have sxf8 : (wc).frozen? ⟨w.heap.size, 8, none⟩ = false := (HM.blk 0 rfl).frozen 8
    have sxlt : w.heap.size < (wc).heap.size := HM.lt 0 rfl
    have tk0 : (wc).cell? ⟨wa.heap.size, 0, none⟩ = some (.int .i64 (cls : Int)) := (HM.blk 2 rfl).cell 0
    have tkf0 : (wc).frozen? ⟨wa.heap.size, 0, none⟩ = false := (HM.blk 2 rfl).frozen 0
    have tk1 : (wc).cell? ⟨wa.heap.size, 1, none⟩ = some (.int .i64 (id : Int)) := (HM.blk 2 rfl).cell 1
    have tkf1 : (wc).frozen? ⟨wa.heap.size, 1, none⟩ = false := (HM.blk 2 rfl).frozen 1
    have tk2 : (wc).cell? ⟨wa.heap.size, 2, none⟩ = some (.int .i64 (am : Int)) := (HM.blk 2 rfl).cell 2
    have tkf2 : (wc).frozen? ⟨wa.heap.size, 2, none⟩ = false := (HM.blk 2 rfl).frozen 2
    have tk3 : (wc).cell? ⟨wa.heap.size, 3, none⟩ = some (.int .i64 (tag : Int)) := (HM.blk 2 rfl).cell 3
    have tkf3 : (wc).frozen? ⟨wa.heap.size, 3, none⟩ = false := (HM.blk 2 rfl).frozen 3
    have tklt : wa.heap.size < (wc).heap.size := HM.lt 2 rfl
    have bt0 : (wc).cell? ⟨gt, 0, none⟩ = some (.int .i64 (id : Int)) := (HM.blk 3 rfl).cell 0
    have btf0 : (wc).frozen? ⟨gt, 0, none⟩ = false := (HM.blk 3 rfl).frozen 0
    have bt1 : (wc).cell? ⟨gt, 1, none⟩ = some (.int .i64 0) := (HM.blk 3 rfl).cell 1
    have btf1 : (wc).frozen? ⟨gt, 1, none⟩ = false := (HM.blk 3 rfl).frozen 1
    have bt2 : (wc).cell? ⟨gt, 2, none⟩ = some (.int .i64 (vd : Int)) := (HM.blk 3 rfl).cell 2
    have btf2 : (wc).frozen? ⟨gt, 2, none⟩ = false := (HM.blk 3 rfl).frozen 2
    have bt3 : (wc).cell? ⟨gt, 3, none⟩ = some (.int .i64 (vf : Int)) := (HM.blk 3 rfl).cell 3
    have btf3 : (wc).frozen? ⟨gt, 3, none⟩ = false := (HM.blk 3 rfl).frozen 3
    have bt4 : (wc).cell? ⟨gt, 4, none⟩ = some (.int .i64 (vp : Int)) := (HM.blk 3 rfl).cell 4
    have btf4 : (wc).frozen? ⟨gt, 4, none⟩ = false := (HM.blk 3 rfl).frozen 4
    have bt5 : (wc).cell? ⟨gt, 5, none⟩ = some (.int .i64 (vg : Int)) := (HM.blk 3 rfl).cell 5
    have btf5 : (wc).frozen? ⟨gt, 5, none⟩ = false := (HM.blk 3 rfl).frozen 5
    have bt6 : (wc).cell? ⟨gt, 6, none⟩ = some (.int .i64 0) := (HM.blk 3 rfl).cell 6
    have btf6 : (wc).frozen? ⟨gt, 6, none⟩ = false := (HM.blk 3 rfl).frozen 6
    have btlt : gt < (wc).heap.size := HM.lt 3 rfl
    have ne_sx_tk : w.heap.size ≠ wa.heap.size := HM.ne 0 2 rfl rfl (by decide)
    have ne_sx_bt : w.heap.size ≠ gt := HM.ne 0 3 rfl rfl (by decide)
    have ne_tk_sx : wa.heap.size ≠ w.heap.size := HM.ne 2 0 rfl rfl (by decide)
    have ne_tk_bt : wa.heap.size ≠ gt := HM.ne 2 3 rfl rfl (by decide)
    have ne_bt_sx : gt ≠ w.heap.size := HM.ne 3 0 rfl rfl (by decide)
    have ne_bt_tk : gt ≠ wa.heap.size := HM.ne 3 2 rfl rfl (by decide)

    by_cases q : cls = 0
    · have g1 : ((cls : Int) == 0) = true := by simp; omega
      have q1 := Lib.hid q
      clear q
      go_upto_region 7 with fail
      obtain ⟨W5, hW5⟩ : ∃ W5, ((wc).setCell ⟨gt, 1, none⟩ (.int .i64 (T : Int))).setCell ⟨gt, 6, none⟩ (.int .i64 (am : Int)) = W5 := ⟨_, rfl⟩
      replace HM : Mem (w) [] _ [.blk (w.heap.size) 55 #[.int .i64 xm, .int .i64 xc, .int .i64 xi, .int .i64 xa, .int .i64 xt, .int .i64 xd, .int .i64 xf, .int .i64 xp, .int .i64 xg], .blk (w.heap.size + 1) 59 #[.int .i64 0, .int .i64 0, .int .i64 0, .int .i64 0, .int .i64 0, .int .i64 0, .int .i64 0, .int .i64 0, .string ⟨#[]⟩], .blk (wa.heap.size) 97 #[.int .i64 (cls : Int), .int .i64 (id : Int), .int .i64 (am : Int), .int .i64 (tag : Int)], .blk (gt) 57 #[.int .i64 (id : Int), .int .i64 (T : Int), .int .i64 (vd : Int), .int .i64 (vf : Int), .int .i64 (vp : Int), .int .i64 (vg : Int), .int .i64 0]] := Mem.set 3 HM rfl 1 (.int .i64 (T : Int))
      replace HM : Mem (w) [] _ [.blk (w.heap.size) 55 #[.int .i64 xm, .int .i64 xc, .int .i64 xi, .int .i64 xa, .int .i64 xt, .int .i64 xd, .int .i64 xf, .int .i64 xp, .int .i64 xg], .blk (w.heap.size + 1) 59 #[.int .i64 0, .int .i64 0, .int .i64 0, .int .i64 0, .int .i64 0, .int .i64 0, .int .i64 0, .int .i64 0, .string ⟨#[]⟩], .blk (wa.heap.size) 97 #[.int .i64 (cls : Int), .int .i64 (id : Int), .int .i64 (am : Int), .int .i64 (tag : Int)], .blk (gt) 57 #[.int .i64 (id : Int), .int .i64 (T : Int), .int .i64 (vd : Int), .int .i64 (vf : Int), .int .i64 (vp : Int), .int .i64 (vg : Int), .int .i64 (am : Int)]] := Mem.set 3 HM rfl 6 (.int .i64 (am : Int))
      rw [hW5] at HM ⊢
      clear hW5
      clear sx0 sxf0 sx1 sxf1 sx2 sxf2 sx3 sxf3 sx4 sxf4 sx5 sxf5 sx6 sxf6 sx7 sxf7 sx8 sxf8 sxlt tk0 tkf0 tk1 tkf1 tk2 tkf2 tk3 tkf3 tklt bt0 btf0 bt1 btf1 bt2 btf2 bt3 btf3 bt4 btf4 bt5 btf5 bt6 btf6 btlt ne_sx_tk ne_sx_bt ne_tk_sx ne_tk_bt ne_bt_sx ne_bt_tk
      have sx0 : (W5).cell? ⟨w.heap.size, 0, none⟩ = some (.int .i64 xm) := (HM.blk 0 rfl).cell 0
      have sxf0 : (W5).frozen? ⟨w.heap.size, 0, none⟩ = false := (HM.blk 0 rfl).frozen 0
      have sx1 : (W5).cell? ⟨w.heap.size, 1, none⟩ = some (.int .i64 xc) := (HM.blk 0 rfl).cell 1
      have sxf1 : (W5).frozen? ⟨w.heap.size, 1, none⟩ = false := (HM.blk 0 rfl).frozen 1
      have sx2 : (W5).cell? ⟨w.heap.size, 2, none⟩ = some (.int .i64 xi) := (HM.blk 0 rfl).cell 2
      have sxf2 : (W5).frozen? ⟨w.heap.size, 2, none⟩ = false := (HM.blk 0 rfl).frozen 2
      have sx3 : (W5).cell? ⟨w.heap.size, 3, none⟩ = some (.int .i64 xa) := (HM.blk 0 rfl).cell 3
      have sxf3 : (W5).frozen? ⟨w.heap.size, 3, none⟩ = false := (HM.blk 0 rfl).frozen 3
      have sx4 : (W5).cell? ⟨w.heap.size, 4, none⟩ = some (.int .i64 xt) := (HM.blk 0 rfl).cell 4
      have sxf4 : (W5).frozen? ⟨w.heap.size, 4, none⟩ = false := (HM.blk 0 rfl).frozen 4
      have sx5 : (W5).cell? ⟨w.heap.size, 5, none⟩ = some (.int .i64 xd) := (HM.blk 0 rfl).cell 5
      have sxf5 : (W5).frozen? ⟨w.heap.size, 5, none⟩ = false := (HM.blk 0 rfl).frozen 5
      have sx6 : (W5).cell? ⟨w.heap.size, 6, none⟩ = some (.int .i64 xf) := (HM.blk 0 rfl).cell 6
      have sxf6 : (W5).frozen? ⟨w.heap.size, 6, none⟩ = false := (HM.blk 0 rfl).frozen 6
      have sx7 : (W5).cell? ⟨w.heap.size, 7, none⟩ = some (.int .i64 xp) := (HM.blk 0 rfl).cell 7
      have sxf7 : (W5).frozen? ⟨w.heap.size, 7, none⟩ = false := (HM.blk 0 rfl).frozen 7
      have sx8 : (W5).cell? ⟨w.heap.size, 8, none⟩ = some (.int .i64 xg) := (HM.blk 0 rfl).cell 8
      have sxf8 : (W5).frozen? ⟨w.heap.size, 8, none⟩ = false := (HM.blk 0 rfl).frozen 8
      have sxlt : w.heap.size < (W5).heap.size := HM.lt 0 rfl
      have bt0 : (W5).cell? ⟨gt, 0, none⟩ = some (.int .i64 (id : Int)) := (HM.blk 3 rfl).cell 0
      have btf0 : (W5).frozen? ⟨gt, 0, none⟩ = false := (HM.blk 3 rfl).frozen 0
      have bt1 : (W5).cell? ⟨gt, 1, none⟩ = some (.int .i64 (T : Int)) := (HM.blk 3 rfl).cell 1
      have btf1 : (W5).frozen? ⟨gt, 1, none⟩ = false := (HM.blk 3 rfl).frozen 1
      have bt2 : (W5).cell? ⟨gt, 2, none⟩ = some (.int .i64 (vd : Int)) := (HM.blk 3 rfl).cell 2
      have btf2 : (W5).frozen? ⟨gt, 2, none⟩ = false := (HM.blk 3 rfl).frozen 2
      have bt3 : (W5).cell? ⟨gt, 3, none⟩ = some (.int .i64 (vf : Int)) := (HM.blk 3 rfl).cell 3
      have btf3 : (W5).frozen? ⟨gt, 3, none⟩ = false := (HM.blk 3 rfl).frozen 3
      have bt4 : (W5).cell? ⟨gt, 4, none⟩ = some (.int .i64 (vp : Int)) := (HM.blk 3 rfl).cell 4
      have btf4 : (W5).frozen? ⟨gt, 4, none⟩ = false := (HM.blk 3 rfl).frozen 4
      have bt5 : (W5).cell? ⟨gt, 5, none⟩ = some (.int .i64 (vg : Int)) := (HM.blk 3 rfl).cell 5
      have btf5 : (W5).frozen? ⟨gt, 5, none⟩ = false := (HM.blk 3 rfl).frozen 5
      have bt6 : (W5).cell? ⟨gt, 6, none⟩ = some (.int .i64 (am : Int)) := (HM.blk 3 rfl).cell 6
      have btf6 : (W5).frozen? ⟨gt, 6, none⟩ = false := (HM.blk 3 rfl).frozen 6
      have btlt : gt < (W5).heap.size := HM.lt 3 rfl
      have rs0 : (W5).cell? ⟨w.heap.size + 1, 0, none⟩ = some (.int .i64 0) := (HM.blk 1 rfl).cell 0
      have rsf0 : (W5).frozen? ⟨w.heap.size + 1, 0, none⟩ = false := (HM.blk 1 rfl).frozen 0
      have rs1 : (W5).cell? ⟨w.heap.size + 1, 1, none⟩ = some (.int .i64 0) := (HM.blk 1 rfl).cell 1
      have rsf1 : (W5).frozen? ⟨w.heap.size + 1, 1, none⟩ = false := (HM.blk 1 rfl).frozen 1
      have rs2 : (W5).cell? ⟨w.heap.size + 1, 2, none⟩ = some (.int .i64 0) := (HM.blk 1 rfl).cell 2
      have rsf2 : (W5).frozen? ⟨w.heap.size + 1, 2, none⟩ = false := (HM.blk 1 rfl).frozen 2
      have rs3 : (W5).cell? ⟨w.heap.size + 1, 3, none⟩ = some (.int .i64 0) := (HM.blk 1 rfl).cell 3
      have rsf3 : (W5).frozen? ⟨w.heap.size + 1, 3, none⟩ = false := (HM.blk 1 rfl).frozen 3
      have rs4 : (W5).cell? ⟨w.heap.size + 1, 4, none⟩ = some (.int .i64 0) := (HM.blk 1 rfl).cell 4
      have rsf4 : (W5).frozen? ⟨w.heap.size + 1, 4, none⟩ = false := (HM.blk 1 rfl).frozen 4
      have rs5 : (W5).cell? ⟨w.heap.size + 1, 5, none⟩ = some (.int .i64 0) := (HM.blk 1 rfl).cell 5
      have rsf5 : (W5).frozen? ⟨w.heap.size + 1, 5, none⟩ = false := (HM.blk 1 rfl).frozen 5
      have rs6 : (W5).cell? ⟨w.heap.size + 1, 6, none⟩ = some (.int .i64 0) := (HM.blk 1 rfl).cell 6
      have rsf6 : (W5).frozen? ⟨w.heap.size + 1, 6, none⟩ = false := (HM.blk 1 rfl).frozen 6
      have rs7 : (W5).cell? ⟨w.heap.size + 1, 7, none⟩ = some (.int .i64 0) := (HM.blk 1 rfl).cell 7
      have rsf7 : (W5).frozen? ⟨w.heap.size + 1, 7, none⟩ = false := (HM.blk 1 rfl).frozen 7
      have rs8 : (W5).cell? ⟨w.heap.size + 1, 8, none⟩ = some (.string ⟨#[]⟩) := (HM.blk 1 rfl).cell 8
      have rsf8 : (W5).frozen? ⟨w.heap.size + 1, 8, none⟩ = false := (HM.blk 1 rfl).frozen 8
      have rslt : w.heap.size + 1 < (W5).heap.size := HM.lt 1 rfl
      have ne_sx_bt : w.heap.size ≠ gt := HM.ne 0 3 rfl rfl (by decide)
      have ne_sx_rs : w.heap.size ≠ w.heap.size + 1 := HM.ne 0 1 rfl rfl (by decide)
      have ne_bt_sx : gt ≠ w.heap.size := HM.ne 3 0 rfl rfl (by decide)
      have ne_bt_rs : gt ≠ w.heap.size + 1 := HM.ne 3 1 rfl rfl (by decide)
      have ne_rs_sx : w.heap.size + 1 ≠ w.heap.size := HM.ne 1 0 rfl rfl (by decide)
      have ne_rs_bt : w.heap.size + 1 ≠ gt := HM.ne 1 3 rfl rfl (by decide)
      go_region_held3 (fun w' => w'.cell? ⟨w.heap.size, 0, none⟩ = some (.int .i64 xm) ∧ w'.cell? ⟨gt, 0, none⟩ = some (.int .i64 (id : Int)) ∧ w'.cell? ⟨gt, 1, none⟩ = some (.int .i64 (T : Int)) ∧ w'.cell? ⟨gt, 2, none⟩ = some (.int .i64 (vd : Int)) ∧ w'.cell? ⟨gt, 3, none⟩ = some (.int .i64 (vf : Int)) ∧ w'.cell? ⟨gt, 4, none⟩ = some (.int .i64 (vp : Int)) ∧ w'.cell? ⟨gt, 5, none⟩ = some (.int .i64 (vg : Int)) ∧ w'.cell? ⟨gt, 6, none⟩ = some (.int .i64 (am : Int))) (first | go_keep | fail) (first | (go_at_call 10; (with_reducible refine (picked_is _ hm wm (by omega) (by omega)).mono ?_); rintro e w' ⟨rfl, rfl⟩))
      all_goals
        obtain ⟨W6, hW6⟩ : ∃ W6, ((((((((((W5).setCell ⟨w.heap.size + 1, 0, none⟩ (.int .i64 (m : Int))).setCell ⟨w.heap.size + 1, 1, none⟩ (.int .i64 (id : Int))).setCell ⟨w.heap.size + 1, 2, none⟩ (.int .i64 (T : Int))).setCell ⟨w.heap.size + 1, 3, none⟩ (.int .i64 (vd : Int))).setCell ⟨w.heap.size + 1, 4, none⟩ (.int .i64 (vf : Int))).setCell ⟨w.heap.size + 1, 5, none⟩ (.int .i64 (vp : Int))).setCell ⟨w.heap.size + 1, 6, none⟩ (.int .i64 (vg : Int))).setCell ⟨w.heap.size + 1, 7, none⟩ (.int .i64 (am : Int))).setCell ⟨w.heap.size + 1, 8, none⟩ (.string Sx)).drew = W6 := ⟨_, rfl⟩
        replace HM : Mem (w) [] _ [.blk (w.heap.size) 55 #[.int .i64 xm, .int .i64 xc, .int .i64 xi, .int .i64 xa, .int .i64 xt, .int .i64 xd, .int .i64 xf, .int .i64 xp, .int .i64 xg], .blk (w.heap.size + 1) 59 #[.int .i64 (m : Int), .int .i64 0, .int .i64 0, .int .i64 0, .int .i64 0, .int .i64 0, .int .i64 0, .int .i64 0, .string ⟨#[]⟩], .blk (wa.heap.size) 97 #[.int .i64 (cls : Int), .int .i64 (id : Int), .int .i64 (am : Int), .int .i64 (tag : Int)], .blk (gt) 57 #[.int .i64 (id : Int), .int .i64 (T : Int), .int .i64 (vd : Int), .int .i64 (vf : Int), .int .i64 (vp : Int), .int .i64 (vg : Int), .int .i64 (am : Int)]] := Mem.set 1 HM rfl 0 (.int .i64 (m : Int))
        replace HM : Mem (w) [] _ [.blk (w.heap.size) 55 #[.int .i64 xm, .int .i64 xc, .int .i64 xi, .int .i64 xa, .int .i64 xt, .int .i64 xd, .int .i64 xf, .int .i64 xp, .int .i64 xg], .blk (w.heap.size + 1) 59 #[.int .i64 (m : Int), .int .i64 (id : Int), .int .i64 0, .int .i64 0, .int .i64 0, .int .i64 0, .int .i64 0, .int .i64 0, .string ⟨#[]⟩], .blk (wa.heap.size) 97 #[.int .i64 (cls : Int), .int .i64 (id : Int), .int .i64 (am : Int), .int .i64 (tag : Int)], .blk (gt) 57 #[.int .i64 (id : Int), .int .i64 (T : Int), .int .i64 (vd : Int), .int .i64 (vf : Int), .int .i64 (vp : Int), .int .i64 (vg : Int), .int .i64 (am : Int)]] := Mem.set 1 HM rfl 1 (.int .i64 (id : Int))
        replace HM : Mem (w) [] _ [.blk (w.heap.size) 55 #[.int .i64 xm, .int .i64 xc, .int .i64 xi, .int .i64 xa, .int .i64 xt, .int .i64 xd, .int .i64 xf, .int .i64 xp, .int .i64 xg], .blk (w.heap.size + 1) 59 #[.int .i64 (m : Int), .int .i64 (id : Int), .int .i64 (T : Int), .int .i64 0, .int .i64 0, .int .i64 0, .int .i64 0, .int .i64 0, .string ⟨#[]⟩], .blk (wa.heap.size) 97 #[.int .i64 (cls : Int), .int .i64 (id : Int), .int .i64 (am : Int), .int .i64 (tag : Int)], .blk (gt) 57 #[.int .i64 (id : Int), .int .i64 (T : Int), .int .i64 (vd : Int), .int .i64 (vf : Int), .int .i64 (vp : Int), .int .i64 (vg : Int), .int .i64 (am : Int)]] := Mem.set 1 HM rfl 2 (.int .i64 (T : Int))
        replace HM : Mem (w) [] _ [.blk (w.heap.size) 55 #[.int .i64 xm, .int .i64 xc, .int .i64 xi, .int .i64 xa, .int .i64 xt, .int .i64 xd, .int .i64 xf, .int .i64 xp, .int .i64 xg], .blk (w.heap.size + 1) 59 #[.int .i64 (m : Int), .int .i64 (id : Int), .int .i64 (T : Int), .int .i64 (vd : Int), .int .i64 0, .int .i64 0, .int .i64 0, .int .i64 0, .string ⟨#[]⟩], .blk (wa.heap.size) 97 #[.int .i64 (cls : Int), .int .i64 (id : Int), .int .i64 (am : Int), .int .i64 (tag : Int)], .blk (gt) 57 #[.int .i64 (id : Int), .int .i64 (T : Int), .int .i64 (vd : Int), .int .i64 (vf : Int), .int .i64 (vp : Int), .int .i64 (vg : Int), .int .i64 (am : Int)]] := Mem.set 1 HM rfl 3 (.int .i64 (vd : Int))
        replace HM : Mem (w) [] _ [.blk (w.heap.size) 55 #[.int .i64 xm, .int .i64 xc, .int .i64 xi, .int .i64 xa, .int .i64 xt, .int .i64 xd, .int .i64 xf, .int .i64 xp, .int .i64 xg], .blk (w.heap.size + 1) 59 #[.int .i64 (m : Int), .int .i64 (id : Int), .int .i64 (T : Int), .int .i64 (vd : Int), .int .i64 (vf : Int), .int .i64 0, .int .i64 0, .int .i64 0, .string ⟨#[]⟩], .blk (wa.heap.size) 97 #[.int .i64 (cls : Int), .int .i64 (id : Int), .int .i64 (am : Int), .int .i64 (tag : Int)], .blk (gt) 57 #[.int .i64 (id : Int), .int .i64 (T : Int), .int .i64 (vd : Int), .int .i64 (vf : Int), .int .i64 (vp : Int), .int .i64 (vg : Int), .int .i64 (am : Int)]] := Mem.set 1 HM rfl 4 (.int .i64 (vf : Int))
        replace HM : Mem (w) [] _ [.blk (w.heap.size) 55 #[.int .i64 xm, .int .i64 xc, .int .i64 xi, .int .i64 xa, .int .i64 xt, .int .i64 xd, .int .i64 xf, .int .i64 xp, .int .i64 xg], .blk (w.heap.size + 1) 59 #[.int .i64 (m : Int), .int .i64 (id : Int), .int .i64 (T : Int), .int .i64 (vd : Int), .int .i64 (vf : Int), .int .i64 (vp : Int), .int .i64 0, .int .i64 0, .string ⟨#[]⟩], .blk (wa.heap.size) 97 #[.int .i64 (cls : Int), .int .i64 (id : Int), .int .i64 (am : Int), .int .i64 (tag : Int)], .blk (gt) 57 #[.int .i64 (id : Int), .int .i64 (T : Int), .int .i64 (vd : Int), .int .i64 (vf : Int), .int .i64 (vp : Int), .int .i64 (vg : Int), .int .i64 (am : Int)]] := Mem.set 1 HM rfl 5 (.int .i64 (vp : Int))
        replace HM : Mem (w) [] _ [.blk (w.heap.size) 55 #[.int .i64 xm, .int .i64 xc, .int .i64 xi, .int .i64 xa, .int .i64 xt, .int .i64 xd, .int .i64 xf, .int .i64 xp, .int .i64 xg], .blk (w.heap.size + 1) 59 #[.int .i64 (m : Int), .int .i64 (id : Int), .int .i64 (T : Int), .int .i64 (vd : Int), .int .i64 (vf : Int), .int .i64 (vp : Int), .int .i64 (vg : Int), .int .i64 0, .string ⟨#[]⟩], .blk (wa.heap.size) 97 #[.int .i64 (cls : Int), .int .i64 (id : Int), .int .i64 (am : Int), .int .i64 (tag : Int)], .blk (gt) 57 #[.int .i64 (id : Int), .int .i64 (T : Int), .int .i64 (vd : Int), .int .i64 (vf : Int), .int .i64 (vp : Int), .int .i64 (vg : Int), .int .i64 (am : Int)]] := Mem.set 1 HM rfl 6 (.int .i64 (vg : Int))
        replace HM : Mem (w) [] _ [.blk (w.heap.size) 55 #[.int .i64 xm, .int .i64 xc, .int .i64 xi, .int .i64 xa, .int .i64 xt, .int .i64 xd, .int .i64 xf, .int .i64 xp, .int .i64 xg], .blk (w.heap.size + 1) 59 #[.int .i64 (m : Int), .int .i64 (id : Int), .int .i64 (T : Int), .int .i64 (vd : Int), .int .i64 (vf : Int), .int .i64 (vp : Int), .int .i64 (vg : Int), .int .i64 (am : Int), .string ⟨#[]⟩], .blk (wa.heap.size) 97 #[.int .i64 (cls : Int), .int .i64 (id : Int), .int .i64 (am : Int), .int .i64 (tag : Int)], .blk (gt) 57 #[.int .i64 (id : Int), .int .i64 (T : Int), .int .i64 (vd : Int), .int .i64 (vf : Int), .int .i64 (vp : Int), .int .i64 (vg : Int), .int .i64 (am : Int)]] := Mem.set 1 HM rfl 7 (.int .i64 (am : Int))
        replace HM : Mem (w) [] _ [.blk (w.heap.size) 55 #[.int .i64 xm, .int .i64 xc, .int .i64 xi, .int .i64 xa, .int .i64 xt, .int .i64 xd, .int .i64 xf, .int .i64 xp, .int .i64 xg], .blk (w.heap.size + 1) 59 #[.int .i64 (m : Int), .int .i64 (id : Int), .int .i64 (T : Int), .int .i64 (vd : Int), .int .i64 (vf : Int), .int .i64 (vp : Int), .int .i64 (vg : Int), .int .i64 (am : Int), .string Sx], .blk (wa.heap.size) 97 #[.int .i64 (cls : Int), .int .i64 (id : Int), .int .i64 (am : Int), .int .i64 (tag : Int)], .blk (gt) 57 #[.int .i64 (id : Int), .int .i64 (T : Int), .int .i64 (vd : Int), .int .i64 (vf : Int), .int .i64 (vp : Int), .int .i64 (vg : Int), .int .i64 (am : Int)]] := Mem.set 1 HM rfl 8 (.string Sx)
        replace HM := HM.drew
        rw [hW6] at HM ⊢
        clear hW6
        clear sx0 sxf0 sx1 sxf1 sx2 sxf2 sx3 sxf3 sx4 sxf4 sx5 sxf5 sx6 sxf6 sx7 sxf7 sx8 sxf8 sxlt bt0 btf0 bt1 btf1 bt2 btf2 bt3 btf3 bt4 btf4 bt5 btf5 bt6 btf6 btlt rs0 rsf0 rs1 rsf1 rs2 rsf2 rs3 rsf3 rs4 rsf4 rs5 rsf5 rs6 rsf6 rs7 rsf7 rs8 rsf8 rslt ne_sx_bt ne_sx_rs ne_bt_sx ne_bt_rs ne_rs_sx ne_rs_bt
        have rs0 : (W6).cell? ⟨w.heap.size + 1, 0, none⟩ = some (.int .i64 (m : Int)) := (HM.blk 1 rfl).cell 0
        have rsf0 : (W6).frozen? ⟨w.heap.size + 1, 0, none⟩ = false := (HM.blk 1 rfl).frozen 0
        have rs1 : (W6).cell? ⟨w.heap.size + 1, 1, none⟩ = some (.int .i64 (id : Int)) := (HM.blk 1 rfl).cell 1
        have rsf1 : (W6).frozen? ⟨w.heap.size + 1, 1, none⟩ = false := (HM.blk 1 rfl).frozen 1
        have rs2 : (W6).cell? ⟨w.heap.size + 1, 2, none⟩ = some (.int .i64 (T : Int)) := (HM.blk 1 rfl).cell 2
        have rsf2 : (W6).frozen? ⟨w.heap.size + 1, 2, none⟩ = false := (HM.blk 1 rfl).frozen 2
        have rs3 : (W6).cell? ⟨w.heap.size + 1, 3, none⟩ = some (.int .i64 (vd : Int)) := (HM.blk 1 rfl).cell 3
        have rsf3 : (W6).frozen? ⟨w.heap.size + 1, 3, none⟩ = false := (HM.blk 1 rfl).frozen 3
        have rs4 : (W6).cell? ⟨w.heap.size + 1, 4, none⟩ = some (.int .i64 (vf : Int)) := (HM.blk 1 rfl).cell 4
        have rsf4 : (W6).frozen? ⟨w.heap.size + 1, 4, none⟩ = false := (HM.blk 1 rfl).frozen 4
        have rs5 : (W6).cell? ⟨w.heap.size + 1, 5, none⟩ = some (.int .i64 (vp : Int)) := (HM.blk 1 rfl).cell 5
        have rsf5 : (W6).frozen? ⟨w.heap.size + 1, 5, none⟩ = false := (HM.blk 1 rfl).frozen 5
        have rs6 : (W6).cell? ⟨w.heap.size + 1, 6, none⟩ = some (.int .i64 (vg : Int)) := (HM.blk 1 rfl).cell 6
        have rsf6 : (W6).frozen? ⟨w.heap.size + 1, 6, none⟩ = false := (HM.blk 1 rfl).frozen 6
        have rs7 : (W6).cell? ⟨w.heap.size + 1, 7, none⟩ = some (.int .i64 (am : Int)) := (HM.blk 1 rfl).cell 7
        have rsf7 : (W6).frozen? ⟨w.heap.size + 1, 7, none⟩ = false := (HM.blk 1 rfl).frozen 7
        have rs8 : (W6).cell? ⟨w.heap.size + 1, 8, none⟩ = some (.string Sx) := (HM.blk 1 rfl).cell 8
        have rsf8 : (W6).frozen? ⟨w.heap.size + 1, 8, none⟩ = false := (HM.blk 1 rfl).frozen 8
        have rslt : w.heap.size + 1 < (W6).heap.size := HM.lt 1 rfl
        go_wp2_with fail
        refine bodyPost_ret (v := .tuple #[.agg #[.int .i64 (m : Int), .int .i64 (id : Int), .int .i64 (T : Int), .int .i64 (vd : Int), .int .i64 (vf : Int), .int .i64 (vp : Int), .int .i64 (vg : Int), .int .i64 (am : Int), .string Sx], .bool true]) (by simp [results, Tryd.results19, go_sem, rs0, rs1, rs2, rs3, rs4, rs5, rs6, rs7, rs8]; done) rfl ?_
        exact ⟨m, cls, id, am, tag, T, vd, vf, vp, vg, am, B.out.1, HK.out, B.out.2.1, B.out.2.2.1, B.out.2.2.2.1, B.out.2.2.2.2.1, B.out.2.2.2.2.2, by rw [if_pos q1.out], by rw [HS.out], HM.below⟩
    · skip
      have g1 : ((cls : Int) == 0) = false := by rw [beq_eq_false_iff_ne]; omega
      have q1 := Lib.hid q
      clear q
      go_upto_region 7 with fail
      obtain ⟨W5, hW5⟩ : ∃ W5, (wc).setCell ⟨gt, 1, none⟩ (.int .i64 (T : Int)) = W5 := ⟨_, rfl⟩
      replace HM : Mem (w) [] _ [.blk (w.heap.size) 55 #[.int .i64 xm, .int .i64 xc, .int .i64 xi, .int .i64 xa, .int .i64 xt, .int .i64 xd, .int .i64 xf, .int .i64 xp, .int .i64 xg], .blk (w.heap.size + 1) 59 #[.int .i64 0, .int .i64 0, .int .i64 0, .int .i64 0, .int .i64 0, .int .i64 0, .int .i64 0, .int .i64 0, .string ⟨#[]⟩], .blk (wa.heap.size) 97 #[.int .i64 (cls : Int), .int .i64 (id : Int), .int .i64 (am : Int), .int .i64 (tag : Int)], .blk (gt) 57 #[.int .i64 (id : Int), .int .i64 (T : Int), .int .i64 (vd : Int), .int .i64 (vf : Int), .int .i64 (vp : Int), .int .i64 (vg : Int), .int .i64 0]] := Mem.set 3 HM rfl 1 (.int .i64 (T : Int))
      rw [hW5] at HM ⊢
      clear hW5
      clear sx0 sxf0 sx1 sxf1 sx2 sxf2 sx3 sxf3 sx4 sxf4 sx5 sxf5 sx6 sxf6 sx7 sxf7 sx8 sxf8 sxlt tk0 tkf0 tk1 tkf1 tk2 tkf2 tk3 tkf3 tklt bt0 btf0 bt1 btf1 bt2 btf2 bt3 btf3 bt4 btf4 bt5 btf5 bt6 btf6 btlt ne_sx_tk ne_sx_bt ne_tk_sx ne_tk_bt ne_bt_sx ne_bt_tk
      have sx0 : (W5).cell? ⟨w.heap.size, 0, none⟩ = some (.int .i64 xm) := (HM.blk 0 rfl).cell 0
      have sxf0 : (W5).frozen? ⟨w.heap.size, 0, none⟩ = false := (HM.blk 0 rfl).frozen 0
      have sx1 : (W5).cell? ⟨w.heap.size, 1, none⟩ = some (.int .i64 xc) := (HM.blk 0 rfl).cell 1
      have sxf1 : (W5).frozen? ⟨w.heap.size, 1, none⟩ = false := (HM.blk 0 rfl).frozen 1
      have sx2 : (W5).cell? ⟨w.heap.size, 2, none⟩ = some (.int .i64 xi) := (HM.blk 0 rfl).cell 2
      have sxf2 : (W5).frozen? ⟨w.heap.size, 2, none⟩ = false := (HM.blk 0 rfl).frozen 2
      have sx3 : (W5).cell? ⟨w.heap.size, 3, none⟩ = some (.int .i64 xa) := (HM.blk 0 rfl).cell 3
      have sxf3 : (W5).frozen? ⟨w.heap.size, 3, none⟩ = false := (HM.blk 0 rfl).frozen 3
      have sx4 : (W5).cell? ⟨w.heap.size, 4, none⟩ = some (.int .i64 xt) := (HM.blk 0 rfl).cell 4
      have sxf4 : (W5).frozen? ⟨w.heap.size, 4, none⟩ = false := (HM.blk 0 rfl).frozen 4
      have sx5 : (W5).cell? ⟨w.heap.size, 5, none⟩ = some (.int .i64 xd) := (HM.blk 0 rfl).cell 5
      have sxf5 : (W5).frozen? ⟨w.heap.size, 5, none⟩ = false := (HM.blk 0 rfl).frozen 5
      have sx6 : (W5).cell? ⟨w.heap.size, 6, none⟩ = some (.int .i64 xf) := (HM.blk 0 rfl).cell 6
      have sxf6 : (W5).frozen? ⟨w.heap.size, 6, none⟩ = false := (HM.blk 0 rfl).frozen 6
      have sx7 : (W5).cell? ⟨w.heap.size, 7, none⟩ = some (.int .i64 xp) := (HM.blk 0 rfl).cell 7
      have sxf7 : (W5).frozen? ⟨w.heap.size, 7, none⟩ = false := (HM.blk 0 rfl).frozen 7
      have sx8 : (W5).cell? ⟨w.heap.size, 8, none⟩ = some (.int .i64 xg) := (HM.blk 0 rfl).cell 8
      have sxf8 : (W5).frozen? ⟨w.heap.size, 8, none⟩ = false := (HM.blk 0 rfl).frozen 8
      have sxlt : w.heap.size < (W5).heap.size := HM.lt 0 rfl
      have bt0 : (W5).cell? ⟨gt, 0, none⟩ = some (.int .i64 (id : Int)) := (HM.blk 3 rfl).cell 0
      have btf0 : (W5).frozen? ⟨gt, 0, none⟩ = false := (HM.blk 3 rfl).frozen 0
      have bt1 : (W5).cell? ⟨gt, 1, none⟩ = some (.int .i64 (T : Int)) := (HM.blk 3 rfl).cell 1
      have btf1 : (W5).frozen? ⟨gt, 1, none⟩ = false := (HM.blk 3 rfl).frozen 1
      have bt2 : (W5).cell? ⟨gt, 2, none⟩ = some (.int .i64 (vd : Int)) := (HM.blk 3 rfl).cell 2
      have btf2 : (W5).frozen? ⟨gt, 2, none⟩ = false := (HM.blk 3 rfl).frozen 2
      have bt3 : (W5).cell? ⟨gt, 3, none⟩ = some (.int .i64 (vf : Int)) := (HM.blk 3 rfl).cell 3
      have btf3 : (W5).frozen? ⟨gt, 3, none⟩ = false := (HM.blk 3 rfl).frozen 3
      have bt4 : (W5).cell? ⟨gt, 4, none⟩ = some (.int .i64 (vp : Int)) := (HM.blk 3 rfl).cell 4
      have btf4 : (W5).frozen? ⟨gt, 4, none⟩ = false := (HM.blk 3 rfl).frozen 4
      have bt5 : (W5).cell? ⟨gt, 5, none⟩ = some (.int .i64 (vg : Int)) := (HM.blk 3 rfl).cell 5
      have btf5 : (W5).frozen? ⟨gt, 5, none⟩ = false := (HM.blk 3 rfl).frozen 5
      have bt6 : (W5).cell? ⟨gt, 6, none⟩ = some (.int .i64 0) := (HM.blk 3 rfl).cell 6
      have btf6 : (W5).frozen? ⟨gt, 6, none⟩ = false := (HM.blk 3 rfl).frozen 6
      have btlt : gt < (W5).heap.size := HM.lt 3 rfl
      have rs0 : (W5).cell? ⟨w.heap.size + 1, 0, none⟩ = some (.int .i64 0) := (HM.blk 1 rfl).cell 0
      have rsf0 : (W5).frozen? ⟨w.heap.size + 1, 0, none⟩ = false := (HM.blk 1 rfl).frozen 0
      have rs1 : (W5).cell? ⟨w.heap.size + 1, 1, none⟩ = some (.int .i64 0) := (HM.blk 1 rfl).cell 1
      have rsf1 : (W5).frozen? ⟨w.heap.size + 1, 1, none⟩ = false := (HM.blk 1 rfl).frozen 1
      have rs2 : (W5).cell? ⟨w.heap.size + 1, 2, none⟩ = some (.int .i64 0) := (HM.blk 1 rfl).cell 2
      have rsf2 : (W5).frozen? ⟨w.heap.size + 1, 2, none⟩ = false := (HM.blk 1 rfl).frozen 2
      have rs3 : (W5).cell? ⟨w.heap.size + 1, 3, none⟩ = some (.int .i64 0) := (HM.blk 1 rfl).cell 3
      have rsf3 : (W5).frozen? ⟨w.heap.size + 1, 3, none⟩ = false := (HM.blk 1 rfl).frozen 3
      have rs4 : (W5).cell? ⟨w.heap.size + 1, 4, none⟩ = some (.int .i64 0) := (HM.blk 1 rfl).cell 4
      have rsf4 : (W5).frozen? ⟨w.heap.size + 1, 4, none⟩ = false := (HM.blk 1 rfl).frozen 4
      have rs5 : (W5).cell? ⟨w.heap.size + 1, 5, none⟩ = some (.int .i64 0) := (HM.blk 1 rfl).cell 5
      have rsf5 : (W5).frozen? ⟨w.heap.size + 1, 5, none⟩ = false := (HM.blk 1 rfl).frozen 5
      have rs6 : (W5).cell? ⟨w.heap.size + 1, 6, none⟩ = some (.int .i64 0) := (HM.blk 1 rfl).cell 6
      have rsf6 : (W5).frozen? ⟨w.heap.size + 1, 6, none⟩ = false := (HM.blk 1 rfl).frozen 6
      have rs7 : (W5).cell? ⟨w.heap.size + 1, 7, none⟩ = some (.int .i64 0) := (HM.blk 1 rfl).cell 7
      have rsf7 : (W5).frozen? ⟨w.heap.size + 1, 7, none⟩ = false := (HM.blk 1 rfl).frozen 7
      have rs8 : (W5).cell? ⟨w.heap.size + 1, 8, none⟩ = some (.string ⟨#[]⟩) := (HM.blk 1 rfl).cell 8
      have rsf8 : (W5).frozen? ⟨w.heap.size + 1, 8, none⟩ = false := (HM.blk 1 rfl).frozen 8
      have rslt : w.heap.size + 1 < (W5).heap.size := HM.lt 1 rfl
      have ne_sx_bt : w.heap.size ≠ gt := HM.ne 0 3 rfl rfl (by decide)
      have ne_sx_rs : w.heap.size ≠ w.heap.size + 1 := HM.ne 0 1 rfl rfl (by decide)
      have ne_bt_sx : gt ≠ w.heap.size := HM.ne 3 0 rfl rfl (by decide)
      have ne_bt_rs : gt ≠ w.heap.size + 1 := HM.ne 3 1 rfl rfl (by decide)
      have ne_rs_sx : w.heap.size + 1 ≠ w.heap.size := HM.ne 1 0 rfl rfl (by decide)
      have ne_rs_bt : w.heap.size + 1 ≠ gt := HM.ne 1 3 rfl rfl (by decide)
      go_region_held3 (fun w' => w'.cell? ⟨w.heap.size, 0, none⟩ = some (.int .i64 xm) ∧ w'.cell? ⟨gt, 0, none⟩ = some (.int .i64 (id : Int)) ∧ w'.cell? ⟨gt, 1, none⟩ = some (.int .i64 (T : Int)) ∧ w'.cell? ⟨gt, 2, none⟩ = some (.int .i64 (vd : Int)) ∧ w'.cell? ⟨gt, 3, none⟩ = some (.int .i64 (vf : Int)) ∧ w'.cell? ⟨gt, 4, none⟩ = some (.int .i64 (vp : Int)) ∧ w'.cell? ⟨gt, 5, none⟩ = some (.int .i64 (vg : Int)) ∧ w'.cell? ⟨gt, 6, none⟩ = some (.int .i64 0)) (first | go_keep | fail) (first | (go_at_call 10; (with_reducible refine (picked_is _ hm wm (by omega) (by omega)).mono ?_); rintro e w' ⟨rfl, rfl⟩))
      all_goals
        obtain ⟨W6, hW6⟩ : ∃ W6, ((((((((((W5).setCell ⟨w.heap.size + 1, 0, none⟩ (.int .i64 (m : Int))).setCell ⟨w.heap.size + 1, 1, none⟩ (.int .i64 (id : Int))).setCell ⟨w.heap.size + 1, 2, none⟩ (.int .i64 (T : Int))).setCell ⟨w.heap.size + 1, 3, none⟩ (.int .i64 (vd : Int))).setCell ⟨w.heap.size + 1, 4, none⟩ (.int .i64 (vf : Int))).setCell ⟨w.heap.size + 1, 5, none⟩ (.int .i64 (vp : Int))).setCell ⟨w.heap.size + 1, 6, none⟩ (.int .i64 (vg : Int))).setCell ⟨w.heap.size + 1, 7, none⟩ (.int .i64 0)).setCell ⟨w.heap.size + 1, 8, none⟩ (.string Sx)).drew = W6 := ⟨_, rfl⟩
        replace HM : Mem (w) [] _ [.blk (w.heap.size) 55 #[.int .i64 xm, .int .i64 xc, .int .i64 xi, .int .i64 xa, .int .i64 xt, .int .i64 xd, .int .i64 xf, .int .i64 xp, .int .i64 xg], .blk (w.heap.size + 1) 59 #[.int .i64 (m : Int), .int .i64 0, .int .i64 0, .int .i64 0, .int .i64 0, .int .i64 0, .int .i64 0, .int .i64 0, .string ⟨#[]⟩], .blk (wa.heap.size) 97 #[.int .i64 (cls : Int), .int .i64 (id : Int), .int .i64 (am : Int), .int .i64 (tag : Int)], .blk (gt) 57 #[.int .i64 (id : Int), .int .i64 (T : Int), .int .i64 (vd : Int), .int .i64 (vf : Int), .int .i64 (vp : Int), .int .i64 (vg : Int), .int .i64 0]] := Mem.set 1 HM rfl 0 (.int .i64 (m : Int))
        replace HM : Mem (w) [] _ [.blk (w.heap.size) 55 #[.int .i64 xm, .int .i64 xc, .int .i64 xi, .int .i64 xa, .int .i64 xt, .int .i64 xd, .int .i64 xf, .int .i64 xp, .int .i64 xg], .blk (w.heap.size + 1) 59 #[.int .i64 (m : Int), .int .i64 (id : Int), .int .i64 0, .int .i64 0, .int .i64 0, .int .i64 0, .int .i64 0, .int .i64 0, .string ⟨#[]⟩], .blk (wa.heap.size) 97 #[.int .i64 (cls : Int), .int .i64 (id : Int), .int .i64 (am : Int), .int .i64 (tag : Int)], .blk (gt) 57 #[.int .i64 (id : Int), .int .i64 (T : Int), .int .i64 (vd : Int), .int .i64 (vf : Int), .int .i64 (vp : Int), .int .i64 (vg : Int), .int .i64 0]] := Mem.set 1 HM rfl 1 (.int .i64 (id : Int))
        replace HM : Mem (w) [] _ [.blk (w.heap.size) 55 #[.int .i64 xm, .int .i64 xc, .int .i64 xi, .int .i64 xa, .int .i64 xt, .int .i64 xd, .int .i64 xf, .int .i64 xp, .int .i64 xg], .blk (w.heap.size + 1) 59 #[.int .i64 (m : Int), .int .i64 (id : Int), .int .i64 (T : Int), .int .i64 0, .int .i64 0, .int .i64 0, .int .i64 0, .int .i64 0, .string ⟨#[]⟩], .blk (wa.heap.size) 97 #[.int .i64 (cls : Int), .int .i64 (id : Int), .int .i64 (am : Int), .int .i64 (tag : Int)], .blk (gt) 57 #[.int .i64 (id : Int), .int .i64 (T : Int), .int .i64 (vd : Int), .int .i64 (vf : Int), .int .i64 (vp : Int), .int .i64 (vg : Int), .int .i64 0]] := Mem.set 1 HM rfl 2 (.int .i64 (T : Int))
        replace HM : Mem (w) [] _ [.blk (w.heap.size) 55 #[.int .i64 xm, .int .i64 xc, .int .i64 xi, .int .i64 xa, .int .i64 xt, .int .i64 xd, .int .i64 xf, .int .i64 xp, .int .i64 xg], .blk (w.heap.size + 1) 59 #[.int .i64 (m : Int), .int .i64 (id : Int), .int .i64 (T : Int), .int .i64 (vd : Int), .int .i64 0, .int .i64 0, .int .i64 0, .int .i64 0, .string ⟨#[]⟩], .blk (wa.heap.size) 97 #[.int .i64 (cls : Int), .int .i64 (id : Int), .int .i64 (am : Int), .int .i64 (tag : Int)], .blk (gt) 57 #[.int .i64 (id : Int), .int .i64 (T : Int), .int .i64 (vd : Int), .int .i64 (vf : Int), .int .i64 (vp : Int), .int .i64 (vg : Int), .int .i64 0]] := Mem.set 1 HM rfl 3 (.int .i64 (vd : Int))
        replace HM : Mem (w) [] _ [.blk (w.heap.size) 55 #[.int .i64 xm, .int .i64 xc, .int .i64 xi, .int .i64 xa, .int .i64 xt, .int .i64 xd, .int .i64 xf, .int .i64 xp, .int .i64 xg], .blk (w.heap.size + 1) 59 #[.int .i64 (m : Int), .int .i64 (id : Int), .int .i64 (T : Int), .int .i64 (vd : Int), .int .i64 (vf : Int), .int .i64 0, .int .i64 0, .int .i64 0, .string ⟨#[]⟩], .blk (wa.heap.size) 97 #[.int .i64 (cls : Int), .int .i64 (id : Int), .int .i64 (am : Int), .int .i64 (tag : Int)], .blk (gt) 57 #[.int .i64 (id : Int), .int .i64 (T : Int), .int .i64 (vd : Int), .int .i64 (vf : Int), .int .i64 (vp : Int), .int .i64 (vg : Int), .int .i64 0]] := Mem.set 1 HM rfl 4 (.int .i64 (vf : Int))
        replace HM : Mem (w) [] _ [.blk (w.heap.size) 55 #[.int .i64 xm, .int .i64 xc, .int .i64 xi, .int .i64 xa, .int .i64 xt, .int .i64 xd, .int .i64 xf, .int .i64 xp, .int .i64 xg], .blk (w.heap.size + 1) 59 #[.int .i64 (m : Int), .int .i64 (id : Int), .int .i64 (T : Int), .int .i64 (vd : Int), .int .i64 (vf : Int), .int .i64 (vp : Int), .int .i64 0, .int .i64 0, .string ⟨#[]⟩], .blk (wa.heap.size) 97 #[.int .i64 (cls : Int), .int .i64 (id : Int), .int .i64 (am : Int), .int .i64 (tag : Int)], .blk (gt) 57 #[.int .i64 (id : Int), .int .i64 (T : Int), .int .i64 (vd : Int), .int .i64 (vf : Int), .int .i64 (vp : Int), .int .i64 (vg : Int), .int .i64 0]] := Mem.set 1 HM rfl 5 (.int .i64 (vp : Int))
        replace HM : Mem (w) [] _ [.blk (w.heap.size) 55 #[.int .i64 xm, .int .i64 xc, .int .i64 xi, .int .i64 xa, .int .i64 xt, .int .i64 xd, .int .i64 xf, .int .i64 xp, .int .i64 xg], .blk (w.heap.size + 1) 59 #[.int .i64 (m : Int), .int .i64 (id : Int), .int .i64 (T : Int), .int .i64 (vd : Int), .int .i64 (vf : Int), .int .i64 (vp : Int), .int .i64 (vg : Int), .int .i64 0, .string ⟨#[]⟩], .blk (wa.heap.size) 97 #[.int .i64 (cls : Int), .int .i64 (id : Int), .int .i64 (am : Int), .int .i64 (tag : Int)], .blk (gt) 57 #[.int .i64 (id : Int), .int .i64 (T : Int), .int .i64 (vd : Int), .int .i64 (vf : Int), .int .i64 (vp : Int), .int .i64 (vg : Int), .int .i64 0]] := Mem.set 1 HM rfl 6 (.int .i64 (vg : Int))
        replace HM : Mem (w) [] _ [.blk (w.heap.size) 55 #[.int .i64 xm, .int .i64 xc, .int .i64 xi, .int .i64 xa, .int .i64 xt, .int .i64 xd, .int .i64 xf, .int .i64 xp, .int .i64 xg], .blk (w.heap.size + 1) 59 #[.int .i64 (m : Int), .int .i64 (id : Int), .int .i64 (T : Int), .int .i64 (vd : Int), .int .i64 (vf : Int), .int .i64 (vp : Int), .int .i64 (vg : Int), .int .i64 0, .string ⟨#[]⟩], .blk (wa.heap.size) 97 #[.int .i64 (cls : Int), .int .i64 (id : Int), .int .i64 (am : Int), .int .i64 (tag : Int)], .blk (gt) 57 #[.int .i64 (id : Int), .int .i64 (T : Int), .int .i64 (vd : Int), .int .i64 (vf : Int), .int .i64 (vp : Int), .int .i64 (vg : Int), .int .i64 0]] := Mem.set 1 HM rfl 7 (.int .i64 0)
        replace HM : Mem (w) [] _ [.blk (w.heap.size) 55 #[.int .i64 xm, .int .i64 xc, .int .i64 xi, .int .i64 xa, .int .i64 xt, .int .i64 xd, .int .i64 xf, .int .i64 xp, .int .i64 xg], .blk (w.heap.size + 1) 59 #[.int .i64 (m : Int), .int .i64 (id : Int), .int .i64 (T : Int), .int .i64 (vd : Int), .int .i64 (vf : Int), .int .i64 (vp : Int), .int .i64 (vg : Int), .int .i64 0, .string Sx], .blk (wa.heap.size) 97 #[.int .i64 (cls : Int), .int .i64 (id : Int), .int .i64 (am : Int), .int .i64 (tag : Int)], .blk (gt) 57 #[.int .i64 (id : Int), .int .i64 (T : Int), .int .i64 (vd : Int), .int .i64 (vf : Int), .int .i64 (vp : Int), .int .i64 (vg : Int), .int .i64 0]] := Mem.set 1 HM rfl 8 (.string Sx)
        replace HM := HM.drew
        rw [hW6] at HM ⊢
        clear hW6
        clear sx0 sxf0 sx1 sxf1 sx2 sxf2 sx3 sxf3 sx4 sxf4 sx5 sxf5 sx6 sxf6 sx7 sxf7 sx8 sxf8 sxlt bt0 btf0 bt1 btf1 bt2 btf2 bt3 btf3 bt4 btf4 bt5 btf5 bt6 btf6 btlt rs0 rsf0 rs1 rsf1 rs2 rsf2 rs3 rsf3 rs4 rsf4 rs5 rsf5 rs6 rsf6 rs7 rsf7 rs8 rsf8 rslt ne_sx_bt ne_sx_rs ne_bt_sx ne_bt_rs ne_rs_sx ne_rs_bt
        have rs0 : (W6).cell? ⟨w.heap.size + 1, 0, none⟩ = some (.int .i64 (m : Int)) := (HM.blk 1 rfl).cell 0
        have rsf0 : (W6).frozen? ⟨w.heap.size + 1, 0, none⟩ = false := (HM.blk 1 rfl).frozen 0
        have rs1 : (W6).cell? ⟨w.heap.size + 1, 1, none⟩ = some (.int .i64 (id : Int)) := (HM.blk 1 rfl).cell 1
        have rsf1 : (W6).frozen? ⟨w.heap.size + 1, 1, none⟩ = false := (HM.blk 1 rfl).frozen 1
        have rs2 : (W6).cell? ⟨w.heap.size + 1, 2, none⟩ = some (.int .i64 (T : Int)) := (HM.blk 1 rfl).cell 2
        have rsf2 : (W6).frozen? ⟨w.heap.size + 1, 2, none⟩ = false := (HM.blk 1 rfl).frozen 2
        have rs3 : (W6).cell? ⟨w.heap.size + 1, 3, none⟩ = some (.int .i64 (vd : Int)) := (HM.blk 1 rfl).cell 3
        have rsf3 : (W6).frozen? ⟨w.heap.size + 1, 3, none⟩ = false := (HM.blk 1 rfl).frozen 3
        have rs4 : (W6).cell? ⟨w.heap.size + 1, 4, none⟩ = some (.int .i64 (vf : Int)) := (HM.blk 1 rfl).cell 4
        have rsf4 : (W6).frozen? ⟨w.heap.size + 1, 4, none⟩ = false := (HM.blk 1 rfl).frozen 4
        have rs5 : (W6).cell? ⟨w.heap.size + 1, 5, none⟩ = some (.int .i64 (vp : Int)) := (HM.blk 1 rfl).cell 5
        have rsf5 : (W6).frozen? ⟨w.heap.size + 1, 5, none⟩ = false := (HM.blk 1 rfl).frozen 5
        have rs6 : (W6).cell? ⟨w.heap.size + 1, 6, none⟩ = some (.int .i64 (vg : Int)) := (HM.blk 1 rfl).cell 6
        have rsf6 : (W6).frozen? ⟨w.heap.size + 1, 6, none⟩ = false := (HM.blk 1 rfl).frozen 6
        have rs7 : (W6).cell? ⟨w.heap.size + 1, 7, none⟩ = some (.int .i64 0) := (HM.blk 1 rfl).cell 7
        have rsf7 : (W6).frozen? ⟨w.heap.size + 1, 7, none⟩ = false := (HM.blk 1 rfl).frozen 7
        have rs8 : (W6).cell? ⟨w.heap.size + 1, 8, none⟩ = some (.string Sx) := (HM.blk 1 rfl).cell 8
        have rsf8 : (W6).frozen? ⟨w.heap.size + 1, 8, none⟩ = false := (HM.blk 1 rfl).frozen 8
        have rslt : w.heap.size + 1 < (W6).heap.size := HM.lt 1 rfl
        go_wp2_with fail
        refine bodyPost_ret (v := .tuple #[.agg #[.int .i64 (m : Int), .int .i64 (id : Int), .int .i64 (T : Int), .int .i64 (vd : Int), .int .i64 (vf : Int), .int .i64 (vp : Int), .int .i64 (vg : Int), .int .i64 0, .string Sx], .bool true]) (by simp [results, Tryd.results19, go_sem, rs0, rs1, rs2, rs3, rs4, rs5, rs6, rs7, rs8]; done) rfl ?_
        exact ⟨m, cls, id, am, tag, T, vd, vf, vp, vg, 0, B.out.1, HK.out, B.out.2.1, B.out.2.2.1, B.out.2.2.2.1, B.out.2.2.2.2.1, B.out.2.2.2.2.2, by rw [if_neg q1.out], by rw [HS.out]; rfl, HM.below⟩
end Go.Proofs.YtakdjggpengbhaaDoor
