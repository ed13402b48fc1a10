/- (vendmeterkeep.shop).events: the events that a server's words keep. -/
import Derived.Test.YtpcgpnkmjjamhaaGreatM29
namespace Go.Proofs.YtpcgpnkmjjamhaaGreat
open Go.RowKit
set_option linter.unusedVariables false
def RetEvs (L : List Ev) (w : World) (e : Ending) (w' : World) : Prop :=
 ∃ (A : Option Addr) (c : Nat), e = .returned (.tuple #[.slice A L.length c, .bool true]) ∧ w'.ownsRow w.heap.size 46 13 (.slice A L.length c) L.length (evs L) ∧ Below w.heap.size w w'
set_option maxRecDepth 100000 in
set_option maxHeartbeats 4000000 in
theorem events_ok (T : Tm) (tv po x1 x2 x3 x4 : Value) (Ac : Option Addr) (nc cc : Nat) (c : List Nat) (L : List Ev) (B : List Cu) (w : World) (hc : IsWs w (.slice Ac nc cc) c) (hS : Srv T c L B) :
   Calls Tryz.prog 10 #[.agg #[tv, x1, x2, x3, x4, .slice Ac nc cc, po]] w (RetEvs L w) := by
 have hRp := fun W h => replay_ok (.slice Ac nc cc) c (L.map evW) W h hS.tape hS.h1 hS.h2
 have hl := hS.len
 obtain ⟨n, hn⟩ : ∃ n, L.length = n := ⟨_, rfl⟩
 have HX := Lib.hid (And.intro hS.ok hn)
 unfold RetRep at hRp
 simp only [List.length_map, hn] at hRp
 rw [hn] at hl
 clear hS
 have H := Mem.init w
 obtain ⟨W0, hW0⟩ : ∃ W0, (w).alloc (.cells #[tv, x1, x2, x3, x4, .slice Ac nc cc, po] 34) = W0 := ⟨_, rfl⟩
 replace H := Mem.alloc H (w.heap.size) (by first | (simp; done) | (simp; omega)) #[tv, x1, x2, x3, x4, .slice Ac nc cc, po] 34
 simp only [List.nil_append] at H
 rw [hW0] at H
 have hc0 := hc.below H.below
 obtain ⟨shlt, sh0, shf0, sh1, shf1, sh2, shf2, sh3, shf3, sh4, shf4, sh5, shf5, sh6, shf6⟩ := H.c7 0 rfl
 go_enter Tryz.func10, Tryz.ntmps10
 go_wp2_with fail
 refine (hRp _ hc0).mono ?_
 rintro e w1 ⟨Ar, cr, vs, rfl, hro, hrs, hb1⟩
 have hrr := RetRep.is (L := L.map evW) (by simp only [List.length_map, hn]; exact hro) hrs
 simp only [List.length_map, hn] at hrr
 replace H := Mem.call H hb1
 clear hRp hro hrs hb1 hW0 hc0

 go_wp2
 clear hn
 go_loopw [8, 7] (fun i l wr => ∃ (q : Nat) (A' : Option Addr) (c' : Nat), q ≤ n ∧ i = .int .i64 ↑q ∧ l = .slice A' q c' ∧ Mem w1 [] wr [.row w1.heap.size 46 13 (.slice A' q c') q (evs (L.take q))]) (fun i _ _ => n - (intOf i).toNat)
 case atStart => exact ⟨0, none, 0, by omega, rfl, rfl, Mem.nilrow (Mem.init w1) _ _ _⟩
 case round =>
   obtain ⟨q, A', c', hq, rfl, rfl, HM⟩ := hrel
   have hbq := HM.below
   by_cases hlt : q < n
   · clear H
     obtain ⟨hok, hn⟩ := HX.out
     have hrq := hrr.below hbq
     obtain ⟨b, off, u, rfl, hB, hcu, hu⟩ := IsRr.at_ (k := q) (l := L.map evW) hrq (by rw [List.length_map]; omega)
     have hvok := hok L[q] (List.getElem_mem (by omega))
     have hsu := evs_succ (L := L) (q := q) (by omega)
     rw [List.getElem_map] at hu
     have HS := Lib.hid hsu
     generalize L[q] = v at hu hvok HS
     clear hsu
     obtain ⟨Au, nu, cpu, rfl⟩ : ∃ Au nu cpu, u = .slice Au nu cpu := by obtain ⟨X, y, h, _⟩ := hu; exact ⟨X, _, y, h⟩
     have hD := fun W h => decode_v v hvok Au nu cpu W h
     have hql : (q : Int) < (n : Int) := by omega
     have hone := evCells_one v
     clear hok hn hvok hrq
     have H : Mem (w1) [] (wr) [.row (w1.heap.size) (46) (13) (.slice A' q c') (q) (evs (L.take q))] := HM
     clear HM
     go_wp2_with fail
     refine (hD _ hu).mono ?_
     rintro e wd ⟨rfl, hbd⟩
     replace H := Mem.call H hbd
     clear hD hu hcu hB hrr hbq
     unfold evV
     obtain ⟨wx, hwx⟩ : ∃ wx, (wd).alloc (.cells #[.int .i64 ↑v.k, .int .i64 ↑v.me, .int .i64 ↑v.mo, .int .i64 ↑v.id, .int .i64 ↑v.te, .int .i64 ↑v.de, .int .i64 ↑v.fe, .int .i64 ↑v.pr, .int .i64 ↑v.ch, .int .i64 ↑v.un, .int .i64 ↑v.tg, .int .i64 ↑v.ow, .int .i64 ↑v.bp] 46) = wx := ⟨_, rfl⟩
     replace H := Mem.alloc H (wd.heap.size) (by first | (simp; done) | (simp; omega)) #[.int .i64 ↑v.k, .int .i64 ↑v.me, .int .i64 ↑v.mo, .int .i64 ↑v.id, .int .i64 ↑v.te, .int .i64 ↑v.de, .int .i64 ↑v.fe, .int .i64 ↑v.pr, .int .i64 ↑v.ch, .int .i64 ↑v.un, .int .i64 ↑v.tg, .int .i64 ↑v.ow, .int .i64 ↑v.bp] 46
     simp only [List.cons_append, List.nil_append] at H
     rw [hwx] at H
     clear shlt sh0 shf0 sh1 shf1 sh2 shf2 sh3 shf3 sh4 shf4 sh5 shf5 sh6 shf6
     obtain ⟨evlt, ev0, evf0, ev1, evf1, ev2, evf2, ev3, evf3, ev4, evf4, ev5, evf5, ev6, evf6, ev7, evf7, ev8, evf8, ev9, evf9, ev10, evf10, ev11, evf11, ev12, evf12⟩ := H.c13 1 rfl
     go_wp2_with (at_builtin; refine wpList_pushM el_ev rfl (.tmp 36) (.tmp 38) rfl 0 H rfl rfl _ rfl rfl (news := evCells v) rfl hone (by omega) (by unfold maxLen; omega) H.keep.size ?_; intro A3 c3 wy HY)
     go_roundw
     case rel =>
       refine ⟨q + 1, A3, c3, by omega, by go_num, rfl, ?_⟩
       rw [HS.out]
       exact Mem.drop_ 1 HY
     case measure => simp [intOf]; omega
   · obtain ⟨hok, hn⟩ := HX.out
     have hqn : q = n := by omega
     have hql : ¬ (q : Int) < (n : Int) := by omega
     subst hqn
     rw [List.take_of_length_le (Nat.le_of_eq hn)] at HM
     have hwr := H.below.size
     have hbw := H.below.trans (hbq.mono hwr)
     have hown := own_mono (HM.own_ 0 rfl) hwr
     clear hok hrr H hbq HM
     go_wp2
     refine bodyPost_ret (v := .tuple #[.slice A' q c', .bool true]) (by simp [results, Tryz.results10, go_sem]; done) rfl ?_
     unfold RetEvs
     rw [hn]
     exact ⟨A', c', rfl, hown, hbw⟩
end Go.Proofs.YtpcgpnkmjjamhaaGreat
