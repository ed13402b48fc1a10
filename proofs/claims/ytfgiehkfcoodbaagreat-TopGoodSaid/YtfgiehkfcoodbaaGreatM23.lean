/- words: Plus and Times. -/
import Derived.Test.YtfgiehkfcoodbaaGreatM3
import Derived.ChangeKeysEq
namespace Go.Proofs.YtfgiehkfcoodbaaGreat
open Go.RowKit
set_option linter.unusedVariables false
set_option maxRecDepth 100000
set_option maxHeartbeats 16000000
theorem times_ok (x0 x1 x2 m:Nat) (w:World) (h0:x0 < 4294967296) (h1:x1 < 4294967296) (h2:x2 < 4294967296) (hm:m < 4294967296) :
 Calls Tryz.prog 152 #[.agg #[.int .u32 x0,.int .u32 x1,.int .u32 x2],.int .u32 m] w fun e w' =>
  e = .returned (.tuple #[.agg #[.int .u32 (tmV m x0 0),.int .u32 (tmV m x1 (tmC m x0 0)),.int .u32 (tmV m x2 (tmC m x1 (tmC m x0 0)))],.int .u32 (tmC m x2 (tmC m x1 (tmC m x0 0)))]) ∧ Below w.heap.size w w':=by
 have k1:=tmC_lt hm h0 (c:=0) (by omega)
 have k2:=tmC_lt hm h1 k1
 go_enter Tryz.func152,Tryz.ntmps152
 go_wp2_with fail
 refine (up_ptr _ x0 x1 x2 0 (tmV m x0 0) (tmC m x0 0) (tmV m x1 (tmC m x0 0)) (tmC m x1 (tmC m x0 0)) (tmV m x2 (tmC m x1 (tmC m x0 0))) (tmC m x2 (tmC m x1 (tmC m x0 0))) _ (fun W hb => ?_)).mono ?_
 ·have hc:W.cell? ⟨w.heap.size + 1,0,none⟩ = some (.int .u32 m):=by rw [hb.cell (p:=⟨w.heap.size + 1,0,none⟩) (by simp)];go_simp
  exact ⟨times_fn x0 0 m _ W h0 (by omega) hm hc,times_fn x1 _ m _ W h1 k1 hm hc,times_fn x2 _ m _ W h2 k2 hm hc⟩
 rintro e w1 ⟨rfl,hb⟩
 have hb':Below w.heap.size w w1:=(below_a3 _ _ _ _).step hb
 have h3:=fun j => hb.cell (p:=⟨w.heap.size + 1 + 1,j,none⟩) (by simp)
 have h4:=fun j => hb.frozen (p:=⟨w.heap.size + 1 + 1,j,none⟩) (by simp)
 have h5:w.heap.size + 1 + 1 < w1.heap.size:=by have:=hb.size;simp at this;omega
 go_wp2
 exact bodyPost_ret (v:=.tuple #[.agg #[.int .u32 (tmV m x0 0),.int .u32 (tmV m x1 (tmC m x0 0)),.int .u32 (tmV m x2 (tmC m x1 (tmC m x0 0)))],.int .u32 (tmC m x2 (tmC m x1 (tmC m x0 0)))]) (by simp [results,Tryz.results152,go_sem,h3];done) rfl ⟨rfl,by
  repeat (refine Below.setCell ?_ (by dsimp only;omega) _)
  exact hb'⟩
theorem plus_ok (x0 x1 x2 m:Nat) (w:World) (h0:x0 < 4294967296) (h1:x1 < 4294967296) (h2:x2 < 4294967296) (hm:m < 4294967296) :
 Calls Tryz.prog 200 #[.agg #[.int .u32 x0,.int .u32 x1,.int .u32 x2],.int .u32 m] w fun e w' =>
  e = .returned (.tuple #[.agg #[.int .u32 (adV x0 m),.int .u32 (adV x1 (adC x0 m)),.int .u32 (adV x2 (adC x1 (adC x0 m)))],.int .u32 (adC x2 (adC x1 (adC x0 m)))]) ∧ Below w.heap.size w w':=by
 have k1:adC x0 m < 4294967296:=by unfold adC;omega
 have k2:adC x1 (adC x0 m) < 4294967296:=by unfold adC at *;omega
 go_enter Tryz.func200,Tryz.ntmps200
 go_wp2_with fail
 refine (up_none x0 x1 x2 m (adV x0 m) (adC x0 m) (adV x1 (adC x0 m)) (adC x1 (adC x0 m)) (adV x2 (adC x1 (adC x0 m))) (adC x2 (adC x1 (adC x0 m))) _ (fun W hb => ?_)).mono ?_
 ·exact ⟨plus_fn x0 m W h0 hm,plus_fn x1 _ W h1 k1,plus_fn x2 _ W h2 k2⟩
 rintro e w1 ⟨rfl,hb⟩
 have hb':Below w.heap.size w w1:=(below_a2 _ _ _).step hb
 have h3:=fun j => hb.cell (p:=⟨w.heap.size + 1,j,none⟩) (by simp)
 have h4:=fun j => hb.frozen (p:=⟨w.heap.size + 1,j,none⟩) (by simp)
 have h5:w.heap.size + 1 < w1.heap.size:=by have:=hb.size;simp at this;omega
 go_wp2
 exact bodyPost_ret (v:=.tuple #[.agg #[.int .u32 (adV x0 m),.int .u32 (adV x1 (adC x0 m)),.int .u32 (adV x2 (adC x1 (adC x0 m)))],.int .u32 (adC x2 (adC x1 (adC x0 m)))]) (by simp [results,Tryz.results200,go_sem,h3];done) rfl ⟨rfl,by
  repeat (refine Below.setCell ?_ (by dsimp only;omega) _)
  exact hb'⟩
/-! ### Three words as one number -/
def val3 (x0 x1 x2:Nat):Nat:=x0 + x1 * 4294967296 + x2 * 18446744073709551616
theorem val3_lt {x0 x1 x2:Nat} (a0:x0 < 4294967296) (a1:x1 < 4294967296) (a2:x2 < 4294967296):val3 x0 x1 x2 < 79228162514264337593543950336:=by unfold val3;omega
theorem tm_step (m x c:Nat):tmC m x c * 4294967296 + tmV m x c = x * m + c:=by unfold tmC tmV;rw [Nat.mul_comm];exact Nat.div_add_mod _ _
theorem ad_step (x c:Nat):adC x c * 4294967296 + adV x c = x + c:=by unfold adC adV;rw [Nat.mul_comm];exact Nat.div_add_mod _ _
theorem times_val (x0 x1 x2 m:Nat):val3 x0 x1 x2 * m = val3 (tmV m x0 0) (tmV m x1 (tmC m x0 0)) (tmV m x2 (tmC m x1 (tmC m x0 0))) + tmC m x2 (tmC m x1 (tmC m x0 0)) * 79228162514264337593543950336:=by
 have e:val3 x0 x1 x2 * m = x0 * m + x1 * m * 4294967296 + x2 * m * 18446744073709551616:=by
  unfold val3;rw [Nat.add_mul,Nat.add_mul,Nat.mul_right_comm x1,Nat.mul_right_comm x2]
 rw [e]
 unfold val3
 have d0:=tm_step m x0 0
 have d1:=tm_step m x1 (tmC m x0 0)
 have d2:=tm_step m x2 (tmC m x1 (tmC m x0 0))
 omega
theorem plus_val (x0 x1 x2 m:Nat):val3 x0 x1 x2 + m = val3 (adV x0 m) (adV x1 (adC x0 m)) (adV x2 (adC x1 (adC x0 m))) + adC x2 (adC x1 (adC x0 m)) * 79228162514264337593543950336:=by
 unfold val3
 have d0:=ad_step x0 m
 have d1:=ad_step x1 (adC x0 m)
 have d2:=ad_step x2 (adC x1 (adC x0 m))
 omega
theorem tmV_lt (m x c:Nat):tmV m x c < 4294967296:=Nat.mod_lt _ (by omega)
theorem adV_lt (x c:Nat):adV x c < 4294967296:=Nat.mod_lt _ (by omega)
theorem wide_eql (a0 a1 a2 b0 b1 b2:Int) (W:World) :
 (Op.equalIn 10000 288 (.agg #[.int .u32 a0,.int .u32 a1,.int .u32 a2]) (.agg #[.int .u32 b0,.int .u32 b1,.int .u32 b2])).run Tryz.prog W = .ok (a0 == b0 && (a1 == b1 && a2 == b2)) W:=by
 have c:Tryz.prog.cellsOf 143 = 1:=by kernel_rfl
 obtain ⟨i,hi,_,_,_⟩:=info_parts (show (Tryz.prog.info? 143).map (fun i => (i.zero,i.size,i.bytes)) = some (some (.int .u32 0),1,4) by kernel_rfl)
 rw [run_equalIn_array W 9999 _ _ Tryz.underlying288 hi,c]
 simp [Op.eqItems,List.range,List.range.loop,part,go_sem]
 by_cases h0:a0 = b0 <;> by_cases h1:a1 = b1 <;> by_cases h2:a2 = b2 <;> simp [h0,h1,h2]
def IsWide (n:Nat) (w:World) (e:Ending) (w':World):Prop :=
 ∃ y0 y1 y2 c:Nat,y0 < 4294967296 ∧ y1 < 4294967296 ∧ y2 < 4294967296 ∧ c < 4294967296 ∧ Hid (val3 y0 y1 y2 + c * 79228162514264337593543950336 = n) ∧
  e = .returned (.tuple #[.agg #[.int .u32 y0,.int .u32 y1,.int .u32 y2],.int .u32 c]) ∧ Below w.heap.size w w'
theorem times_is (x0 x1 x2 m:Nat) (w:World) (h0:x0 < 4294967296) (h1:x1 < 4294967296) (h2:x2 < 4294967296) (hm:m < 4294967296) :
 Calls Tryz.prog 152 #[.agg #[.int .u32 x0,.int .u32 x1,.int .u32 x2],.int .u32 m] w (IsWide (val3 x0 x1 x2 * m) w) :=
 (times_ok x0 x1 x2 m w h0 h1 h2 hm).mono fun _ _ ⟨he,hb⟩ => ⟨_,_,_,_,tmV_lt _ _ _,tmV_lt _ _ _,tmV_lt _ _ _,tmC_lt hm h2 (tmC_lt hm h1 (tmC_lt hm h0 (by omega))),(times_val x0 x1 x2 m).symm,he,hb⟩
theorem plus_is (x0 x1 x2 m:Nat) (w:World) (h0:x0 < 4294967296) (h1:x1 < 4294967296) (h2:x2 < 4294967296) (hm:m < 4294967296) :
 Calls Tryz.prog 200 #[.agg #[.int .u32 x0,.int .u32 x1,.int .u32 x2],.int .u32 m] w (IsWide (val3 x0 x1 x2 + m) w) :=
 (plus_ok x0 x1 x2 m w h0 h1 h2 hm).mono fun _ _ ⟨he,hb⟩ => ⟨_,_,_,_,adV_lt _ _,adV_lt _ _,adV_lt _ _,by
  have k1:adC x0 m < 4294967296:=by unfold adC;omega
  have k2:adC x1 (adC x0 m) < 4294967296:=by have:=ad_step x1 (adC x0 m);omega
  have:=ad_step x2 (adC x1 (adC x0 m));omega,(plus_val x0 x1 x2 m).symm,he,hb⟩
end Go.Proofs.YtfgiehkfcoodbaaGreat
