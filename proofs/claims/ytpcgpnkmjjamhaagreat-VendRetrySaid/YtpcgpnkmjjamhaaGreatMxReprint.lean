/- vend.Reprint. -/
import Derived.Test.YtpcgpnkmjjamhaaGreatMxSoP
import Derived.Test.YtpcgpnkmjjamhaaGreatM29
import Derived.Test.YtpcgpnkmjjamhaaGreatM35
namespace Go.Proofs.YtpcgpnkmjjamhaaGreat
open Go.RowKit
set_option linter.unusedVariables false
def repV : Option So → Value
 | some s => .tuple #[.string (dstr (tokD s.cls s.id s.am s.tag)), .int .i64 0]
 | none => .tuple #[.string ⟨#[]⟩, .int .i64 22]
theorem findS_at {l : List So} {k id : Nat} (hk : k < l.length) (hno : ∀ j (h : j < l.length), j < k → (l[j]'h).id ≠ id) (h : l[k].id = id) : findS l id = some l[k] := by
 unfold findS
 rw [List.find?_eq_some_iff_getElem]
 refine ⟨by simpa using h, k, hk, rfl, fun j hj => ?_⟩
 have := hno j (by omega) hj
 simpa using this
theorem findS_none {l : List So} {id : Nat} (hno : ∀ j (h : j < l.length), (l[j]'h).id ≠ id) : findS l id = none := by
 unfold findS
 rw [List.find?_eq_none]
 intro s hs
 obtain ⟨j, hj, rfl⟩ := List.getElem_of_mem hs
 simpa using hno j hj
set_option maxRecDepth 100000 in
set_option maxHeartbeats 4000000 in
theorem reprint_ok (T : Tm) (hT : T.Ok) (At : Option Addr) (nt ct : Nat) (cv : Value) (c : List Nat) (L : List Ev) (B : List Cu) (me i id : Nat) (w : World) (hvt : IsDs w (.slice At nt ct) T.tl) (hc : IsWs w cv c) (hS : Srv T c L B) (hp : place B me = some i) :
   Calls Tryz.prog 18 #[.agg #[.slice At nt ct, .int .i64 ↑T.fx, .int .i64 ↑T.fb, .int .i64 ↑T.db, .int .i64 ↑T.al], cv, .int .i64 ↑me, .int .i64 ↑id] w fun e w' => e = .returned (repV (findS (B.getD i cu0).s id)) ∧ Below w.heap.size w w' := by
 obtain ⟨hi, hime⟩ := place_some hp
 clear hime
 have hso := hS.so hT
 have hgd : B.getD i cu0 = B[i] := by simp [hi]
 rw [hgd]
 have hO := fun W h1 h2 => vopen_ok T hT At nt ct cv c L B W h1 h2 hS
 unfold RetShop at hO
 have HI := Lib.hid hp
 have hat := fun W A n c (h : IsBk W (.slice A n c) B) => h.at_ hi
 have hsoi := hso B[i] (List.getElem_mem hi)
 generalize B[i] = cu at hat hsoi ⊢
 obtain ⟨⟨ame, rev, next, month, bought, free, l⟩, s⟩ := cu
 dsimp only at hat hsoi ⊢
 clear hS hso hgd hi hp
 have H := Mem.init w
 obtain ⟨W0, hW0⟩ : ∃ W0, (w).alloc (.cells #[.slice At nt ct, .int .i64 ↑T.fx, .int .i64 ↑T.fb, .int .i64 ↑T.db, .int .i64 ↑T.al] 28) = W0 := ⟨_, rfl⟩
 replace H := Mem.alloc H (w.heap.size) (by first | (simp; done) | (simp; omega)) #[.slice At nt ct, .int .i64 ↑T.fx, .int .i64 ↑T.fb, .int .i64 ↑T.db, .int .i64 ↑T.al] 28
 simp only [List.nil_append] at H
 rw [hW0] at H
 have hvt0 := hvt.below H.below
 have hc0 := hc.below H.below
 obtain ⟨ttlt, tt0, ttf0, tt1, ttf1, tt2, ttf2, tt3, ttf3, tt4, ttf4⟩ := H.c5 0 rfl
 go_enter Tryz.func18, Tryz.ntmps18
 go_wp2_with fail
 refine (hO _ hvt0 hc0).mono ?_
 rintro e w1 ⟨g, u, rfl, HK, hbk⟩
 obtain ⟨Ab, nb, cb, rfl⟩ := hbk.slice
 have hbw := HK.below
 obtain ⟨b, off, Ad, cd, As, cs, rfl, hbl, hds, hss, p0, p1, p2, p3, p4, p5, p6, p7⟩ := hat w1 Ab nb cb hbk.is
 have hS1 := HK.blk 0 rfl
 replace H := Mem.call H hbw
 clear hO hvt0 hc0 hW0 hbw hat p0 p1 p2 p3 p4 p5 p6 hds
 clear ttlt tt0 ttf0 tt1 ttf1 tt2 ttf2 tt3 ttf3 tt4 ttf4
 go_wp2_with fail
 refine (customer_some g b off nb cb i me _ _ _ _ _ _ _ B _ hS1 hbk.is HI.out).mono ?_
 rintro e w2 ⟨rfl, hb2⟩
 have q7 := (hb2.cell (p := ⟨b, off + i * 8 + 7, none⟩) hbl).trans p7
 have hss2 := hss.below hb2
 obtain ⟨ns, hns⟩ : ∃ ns, s.length = ns := ⟨_, rfl⟩
 rw [hns] at q7 hss2
 have hlim : ns ≤ maxLen := by obtain ⟨A9, c9, e9, h1, h2, _⟩ := hss2; rw [hns] at h1; exact Nat.le_trans h1 h2
 have hlim2 : (ns : Int) ≤ 9223372036854775807 := by unfold maxLen at hlim; omega
 have HU := Lib.hid (And.intro hns hsoi)
 replace H := Mem.call H hb2
 have hbw2 := H.below
 clear hb2 hss p7 hbl hbk HK hS1 hns hsoi hlim
 go_wp2_with fail
 go_loopw [38] (fun i9 wr => ∃ k : Nat, k ≤ ns ∧ i9 = .int .i64 ↑k ∧ Below w2.heap.size w2 wr ∧ ∀ j (h : j < s.length), j < k → s[j].id ≠ id) (fun i9 _ => ns - (intOf i9).toNat)
 case atStart => exact ⟨0, by omega, rfl, Below.refl _ _, fun j _ h => absurd h (by omega)⟩
 case round =>
   obtain ⟨k, hk, rfl, hbr, hno⟩ := hrel
   obtain ⟨hns, hsoi⟩ := HU.out
   by_cases hlt : k < ns
   · have hks : k < s.length := by omega
     obtain ⟨bs, os, rfl, hBs, r0, r1, r2, r3, r4⟩ := hss2.at_ hks
     have u0 := (hbr.cell (p := ⟨bs, os + k * 5, none⟩) hBs).trans r0
     have u1 := (hbr.cell (p := ⟨bs, os + k * 5 + 1, none⟩) hBs).trans r1
     have u2 := (hbr.cell (p := ⟨bs, os + k * 5 + 2, none⟩) hBs).trans r2
     have u3 := (hbr.cell (p := ⟨bs, os + k * 5 + 3, none⟩) hBs).trans r3
     have u4 := (hbr.cell (p := ⟨bs, os + k * 5 + 4, none⟩) hBs).trans r4
     have htk := hsoi s[k] (List.getElem_mem hks)
     have HP := Lib.hid (fun h : s[k].id = id => findS_at hks hno h)
     have HN := Lib.hid hno
     obtain ⟨so, hso⟩ : ∃ so, s[k] = so := ⟨_, rfl⟩
     have HS := Lib.hid hso
     rw [hso] at u0 u1 u2 u3 u4 htk HP
     obtain ⟨sid, scl, sam, stg, srv⟩ := so
     dsimp only at u0 u1 u2 u3 u4 htk HP
     have kl : (k : Int) < (ns : Int) := by omega
     have hFm := fun W => format_ok scl sid sam stg W htk
     have hbz := hbw2.trans (hbr.mono H.keep.size)
     clear r0 r1 r2 r3 r4 hBs hno hns hsoi hso htk hss2
     by_cases hid : sid = id
     · subst hid
       obtain ⟨dg, hdg⟩ : ∃ dg, dstr (tokD scl sid sam stg) = dg := ⟨_, rfl⟩
       rw [hdg] at hFm
       have HD := Lib.hid hdg
       clear hdg
       go_wp2_with fail
       refine (hFm _).mono ?_
       rintro e w5 ⟨rfl, hb5⟩
       clear hFm
       go_wp2
       refine bodyPost_ret (v := .tuple #[.string dg, .int .i64 0]) (by simp [results, Tryz.results18, go_sem]; done) rfl ?_
       refine ⟨by rw [HP.out (by first | trivial | exact rfl)]; unfold repV; dsimp only; rw [HD.out], ?_⟩
       exact hbz.trans (((below_a1 _ _).trans (hb5.mono (by simp))).mono (Nat.le_trans H.keep.size hbr.size))
     · have hidI : ((sid : Int) == (id : Int)) = false := by simp; omega
       have hidn : ¬ (sid : Int) = (id : Int) := by omega
       clear hFm
       go_wp2
       go_roundw
       case rel =>
         refine ⟨k + 1, by omega, by go_num, hbr.trans ((below_a1 _ _).mono hbr.size), fun j h hj => ?_⟩
         by_cases e : j = k
         · subst e; rw [HS.out]; exact hid
         · exact HN.out j h (by omega)
       case measure => simp [intOf]; omega
   · have kl : ¬ (k : Int) < (ns : Int) := by omega
     have hnone := findS_none (l := s) (id := id) fun j hj => hno j hj (by omega)
     have HN := Lib.hid hnone
     have hbz := hbw2.trans (hbr.mono H.keep.size)
     clear hno hns hsoi hnone
     go_wp2
     refine bodyPost_ret (v := .tuple #[.string ⟨#[]⟩, .int .i64 22]) (by simp [results, Tryz.results18, go_sem]; done) rfl ?_
     exact ⟨by rw [HN.out]; rfl, hbz⟩
end Go.Proofs.YtpcgpnkmjjamhaaGreat
