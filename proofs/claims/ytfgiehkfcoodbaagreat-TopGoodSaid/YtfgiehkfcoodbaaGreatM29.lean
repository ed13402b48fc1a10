/- token: bounds, fault, Body. -/
import Derived.Test.YtfgiehkfcoodbaaGreatM0
import Derived.Test.YtfgiehkfcoodbaaGreatM24
import Derived.Test.YtfgiehkfcoodbaaGreatM9
import Derived.OwnWalk
namespace Go.Proofs.YtfgiehkfcoodbaaGreat
open Go.RowKit
set_option linter.unusedVariables false
set_option maxRecDepth 100000
set_option maxHeartbeats 16000000
theorem bounds_is {cls lo hi:Int} {ok:Bool} (h:Hid (cb cls = (lo,hi,ok))) (w:World) :
 Calls Tryz.prog 149 #[cls] w fun e w' => e = .returned (.tuple #[lo,hi,.bool ok]) ∧ w = w':=by
 have h:=h.out
 unfold cb at h
 by_cases c0:cls = 0
 ·subst c0
  simp at h
  obtain ⟨rfl,rfl,rfl⟩:=h
  go_enter Tryz.func149,Tryz.ntmps149
  go_wp2
  go_ret3
  exact ⟨rfl,rfl⟩
 ·by_cases c2:cls = 2
  ·subst c2
   simp at h
   obtain ⟨rfl,rfl,rfl⟩:=h
   go_enter Tryz.func149,Tryz.ntmps149
   go_wp2
   go_ret3
   exact ⟨rfl,rfl⟩
  ·by_cases c1:cls = 1
   ·subst c1
    simp at h
    obtain ⟨rfl,rfl,rfl⟩:=h
    go_enter Tryz.func149,Tryz.ntmps149
    go_wp2
    go_ret3
    exact ⟨rfl,rfl⟩
   ·by_cases c3:cls = 3
    ·subst c3
     simp at h
     obtain ⟨rfl,rfl,rfl⟩:=h
     go_enter Tryz.func149,Tryz.ntmps149
     go_wp2
     go_ret3
     exact ⟨rfl,rfl⟩
    ·rw [if_neg c0,if_neg c2,if_neg (by omega)] at h
     simp at h
     obtain ⟨rfl,rfl,rfl⟩:=h
     have d0:(cls == 0) = false:=by simp [c0]
     have d1:(cls == 1) = false:=by simp [c1]
     have d2:(cls == 2) = false:=by simp [c2]
     have d3:(cls == 3) = false:=by simp [c3]
     go_enter Tryz.func149,Tryz.ntmps149
     go_wp2
     go_ret3
     exact ⟨rfl,rfl⟩
theorem fault_is {cls id am tag f:Int} (hf:Hid (tfault cls id am tag = f)) (w:World) :
 Calls Tryz.prog 142 #[.agg #[cls,id,am,tag]] w fun e w' => e = .returned (.int .i64 f) ∧ Below w.heap.size w w':=by
 obtain ⟨lo,hi,ok,hcb⟩:∃ lo hi ok,cb cls = (lo,hi,ok):=⟨_,_,_,rfl⟩
 have hB:=fun W => bounds_is (Lib.hid hcb) W
 have hf:=hf.out
 unfold tfault at hf
 rw [hcb] at hf
 dsimp only at hf
 have H:=Mem.init w
 replace H:=H.al w.heap.size #[cls,id,am,tag] (273) |>.gen
 simp only [List.nil_append] at H
 obtain ⟨W0,hW0,H⟩:=H
 have Ltk:=H.c4 0 rfl
 cases ok with
 | false =>
  simp at hf
  subst hf
  go_enter Tryz.func142,Tryz.ntmps142
  go_wp2_with (go_at_call 149;with_reducible refine (hB _).mono ?_;rintro e w' ⟨rfl,rfl⟩)
  go_ret
  exact ⟨rfl,H.below⟩
 | true =>
  rw [if_neg (by simp)] at hf
  by_cases g1:id < 1
  ·rw [if_pos (.inl g1)] at hf
   subst hf
   go_enter Tryz.func142,Tryz.ntmps142
   go_wp2_with (go_at_call 149;with_reducible refine (hB _).mono ?_;rintro e w' ⟨rfl,rfl⟩)
   go_ret
   exact ⟨rfl,H.below⟩
  ·by_cases g2:1048575 < id
   ·rw [if_pos (by omega)] at hf
    subst hf
    go_enter Tryz.func142,Tryz.ntmps142
    go_wp2_with (go_at_call 149;with_reducible refine (hB _).mono ?_;rintro e w' ⟨rfl,rfl⟩)
    go_ret
    exact ⟨rfl,H.below⟩
   ·by_cases g3:am < lo
    ·rw [if_pos (by omega)] at hf
     subst hf
     go_enter Tryz.func142,Tryz.ntmps142
     go_wp2_with (go_at_call 149;with_reducible refine (hB _).mono ?_;rintro e w' ⟨rfl,rfl⟩)
     go_ret
     exact ⟨rfl,H.below⟩
    ·by_cases g4:hi < am
     ·rw [if_pos (by omega)] at hf
      subst hf
      go_enter Tryz.func142,Tryz.ntmps142
      go_wp2_with (go_at_call 149;with_reducible refine (hB _).mono ?_;rintro e w' ⟨rfl,rfl⟩)
      go_ret
      exact ⟨rfl,H.below⟩
     ·by_cases g5:tag < 0
      ·rw [if_pos (by omega)] at hf
       subst hf
       go_enter Tryz.func142,Tryz.ntmps142
       go_wp2_with (go_at_call 149;with_reducible refine (hB _).mono ?_;rintro e w' ⟨rfl,rfl⟩)
       go_ret
       exact ⟨rfl,H.below⟩
      ·by_cases g6:65535 < tag
       ·rw [if_pos (by omega)] at hf
        subst hf
        go_enter Tryz.func142,Tryz.ntmps142
        go_wp2_with (go_at_call 149;with_reducible refine (hB _).mono ?_;rintro e w' ⟨rfl,rfl⟩)
        go_ret
        exact ⟨rfl,H.below⟩
       ·rw [if_neg (by omega)] at hf
        subst hf
        go_enter Tryz.func142,Tryz.ntmps142
        go_wp2_with (go_at_call 149;with_reducible refine (hB _).mono ?_;rintro e w' ⟨rfl,rfl⟩)
        go_ret
        exact ⟨rfl,H.below⟩
theorem tbody_ok (cls id am tag b:Nat) (w:World) (hk:TkOk cls id am tag) (hb:Hid (tbody cls id am = b)) :
 Calls Tryz.prog 139 #[.agg #[cls,id,am,tag]] w fun e w' => e = .returned (.tuple #[b,()]) ∧ Below w.heap.size w w':=by
 have hF:=fun W => fault_is (Lib.hid (tfault_ok hk)) W
 have ham:=hk.am
 obtain ⟨k1,k2,k3,k4,k5⟩:=hk
 have e1:=body_e1 (cls:=cls) (id:=id) k1 k3
 obtain ⟨X,hX⟩:∃ X,cls * 1048576 + id = X:=⟨_,rfl⟩
 rw [hX] at e1
 have e2:=body_e2 (x:=X) (am:=am) (by omega) ham
 have hb:=hb.out
 rw [← hX,tbody_eq,hb] at e2
 rw [hX] at e2
 have X9:(X:Int) ≤ 4194303:=by omega
 clear hX hb k4
 have H:=Mem.init w
 replace H:=H.al w.heap.size #[cls,id,am,tag] (273) |>.gen
 simp only [List.nil_append] at H
 obtain ⟨W0,hW0,H⟩:=H
 have Ltk:=H.c4 0 rfl
 go_enter Tryz.func139,Tryz.ntmps139
 go_wp2_with fail
 refine (hF _).mono ?_
 rintro e wa ⟨rfl,hba⟩
 replace H:=Mem.call H hba
 clear Ltk
 have Ltk:=H.c4 0 rfl
 clear hba hF hW0
 go_wp2
 go_ret2
 exact ⟨rfl,H.below⟩
end Go.Proofs.YtfgiehkfcoodbaaGreat
