/- The walk of the law PadPieces. -/
import Derived.Test.YthhbnmmhjfgpdaaDoorPadP
import Derived.Deep.RegionHeld3
import Derived.Deep.DeepCutAuto
namespace Go.Proofs.YthhbnmmhjfgpdaaDoor
open Go.RowKit
set_option linter.unusedVariables false
theorem Mem.rebase {w0 w : World} {L : List Chunk} {base : Nat} {e : TypeId} {size : Nat} {v : Value} {n : Nat} {xs : List Value} (H : Mem w0 [] w L) (i : Nat) (hi : L[i]? = some (.row base e size v n xs)) : Mem w0 [] w (L.set i (.row w0.heap.size e size v n xs)) :=
  H.turn hi (c' := .row w0.heap.size e size v n xs) ⟨rfl, rfl, rfl, Nat.le_refl _, fun _ _ _ => rfl⟩ (H.ownb i hi) (fun k hk => .inl hk)
theorem Mem.perm {w0 w : World} {G : List Nat} {l l' : List Chunk} (H : Mem w0 G w l) (hp : l.Perm l') : Mem w0 G w l' :=
  ⟨H.keep, fun c hc => H.ok c (hp.mem_iff.2 hc), (hp.pairwise_iff (fun h => Chunk.apart.symm h)).1 H.pair, fun c hc => H.own c (hp.mem_iff.2 hc)⟩
theorem Mem.swap2 {w0 w : World} {G : List Nat} {l : List Chunk} {a b : Chunk} (H : Mem w0 G w (l ++ [a] ++ [b])) : Mem w0 G w (l ++ [b] ++ [a]) :=
  H.perm (by rw [List.append_assoc, List.append_assoc]; exact List.Perm.append_left l (List.Perm.swap b a []))
/-- A digit and an end. -/
theorem kk_end (p : PadS) (hp : PadOk p) (es : List EntS) : ∃ e, kkeys [55, 35] (p, es) = (([], false), es ++ [e]) := by
  obtain ⟨D, b⟩ := p
  have h7 : kv 55 = 7 := by decide
  by_cases hl : D.length = 30
  · exact ⟨([], 3), by simp [kkeys, kstep, kpress, h7, hl]⟩
  · cases b with
    | true => exact ⟨([], 3), by simp [kkeys, kstep, kpress, h7, hl]⟩
    | false => exact ⟨(D ++ [7], 0), by simp [kkeys, kstep, kpress, h7, hl]⟩
theorem kk_take (R : List Int) (k : Nat) (h : k < R.length) (x : PadS × List EntS) : kkeys (R.take (k + 1)) x = kstep (kkeys (R.take k) x) R[k] := by
  rw [List.take_succ_eq_append_getElem h, kkeys_append]; rfl
theorem retkeys_at {D : List Nat} {b : Bool} {E : List EntS} {w : World} {e : Ending} {w' : World} (h : RetKeys ((D, b), E) w e w') : ∃ (A : Option Addr) (c : Nat), e = .returned (.tuple #[.slice A E.length c, .agg #[.string (dstr D), .bool b], .int .i64 0]) ∧ w'.ownsRow w.heap.size 31 2 (.slice A E.length c) E.length (entsV E) ∧ Below w.heap.size w w' := h
theorem retpress_at {D : List Nat} {b : Bool} {o : Option EntS} {w : World} {e : Ending} {w' : World} (h : RetPressE (D, b) o w e w') (m : Nat) (es2 : List EntS) (h2 : o.toList = es2) (hm : es2.length = m) : ∃ (A : Option Addr) (c : Nat), e = .returned (.tuple #[.agg #[.string (dstr D), .bool b], .slice A m c, .int .i64 0]) ∧ w'.ownsRow w.heap.size 31 2 (.slice A m c) m (entsV es2) ∧ Below w.heap.size w w' := by
  subst h2; subst hm; exact h
set_option maxRecDepth 100000 in
set_option maxHeartbeats 8000000 in
theorem walk_padPieces (w : World) (a0 : Value) (w0 : Fit Tryd.prog w 33 a0) (a1 : Value) (w1 : Fit Tryd.prog w 33 a1) :
    Calls Tryd.prog 6 #[a0, a1] w fun e w' => e = .returned (.bool true) ∧ Below w.heap.size w w' := by
  obtain ⟨zs, hz⟩ := is_fit w0
  obtain ⟨ys, hy⟩ := is_fit w1
  clear w0 w1
  have H := Mem.init w
  go_enter Tryd.func6, Tryd.ntmps6
  go_wp2_with fail
  refine (characters_ok a0 zs w hz).mono ?_
  rintro e wa ⟨Ra, A1, c1, hl1, hv1, rfl, ho1, hba⟩
  have hy1 := hy.below hba
  replace H : Mem (w) [] (wa) [.row (w.heap.size) (21) (1) (.slice A1 Ra.length c1) (Ra.length) (Ra.map (Value.int .i32))] := Mem.row H hba ho1 (Nat.le_refl _)
  clear hba ho1 hz hy
  go_wp2_with fail
  refine (characters_ok a1 ys wa hy1).mono ?_
  rintro e wb ⟨Rb, A2, c2, hl2, hv2, rfl, ho2, hbb⟩
  replace H : Mem (w) [] (wb) [.row (w.heap.size) (21) (1) (.slice A1 Ra.length c1) (Ra.length) (Ra.map (Value.int .i32)), .row (wa.heap.size) (21) (1) (.slice A2 Rb.length c2) (Rb.length) (Rb.map (Value.int .i32))] := Mem.row H hbb ho2 (Nat.le_refl _)
  clear hbb ho2 hy1
  obtain ⟨⟨⟨D1, b1⟩, E1⟩, hX1⟩ : ∃ X, kkeys Ra (([], false), []) = X := ⟨_, rfl⟩
  obtain ⟨⟨⟨D2, b2⟩, E2⟩, hX2⟩ : ∃ X, kkeys (Ra ++ Rb) (([], false), []) = X := ⟨_, rfl⟩
  have hok1 : PadOk (D1, b1) := by have := kkeys_ok Ra (([], false), []) ⟨by simp, by simp⟩; rw [hX1] at this; exact this
  have hok2 : PadOk (D2, b2) := by have := kkeys_ok (Ra ++ Rb) (([], false), []) ⟨by simp, by simp⟩; rw [hX2] at this; exact this
  have hE1 : E1.length ≤ Ra.length := by have := kkeys_len Ra (([], false), []); rw [hX1] at this; simpa using this
  have hE2 : E2.length ≤ Ra.length + Rb.length := by have := kkeys_len (Ra ++ Rb) (([], false), []); rw [hX2] at this; simpa using this
  obtain ⟨en, hen⟩ := kk_end (D2, b2) hok2 E2
  have hX3 : kkeys (Ra ++ Rb ++ [55, 35]) (([], false), []) = (([], false), E2 ++ [en]) := by rw [kkeys_append, hX2, hen]
  have hX12 : Hid (kkeys Rb ((D1, b1), E1) = ((D2, b2), E2)) := by show _ = _; rw [← hX2, kkeys_append, hX1]
  have hK1 := fun W => keys_runes Ra W hv1 (by omega)
  have hK2 := fun W => keys_runes (Ra ++ Rb) W (fun r hr => (List.mem_append.1 hr).elim (hv1 r) (hv2 r)) (by simp; omega)
  have hK3 := fun W => keys_runes (Ra ++ Rb ++ [55, 35]) W (fun r hr => by
    rcases List.mem_append.1 hr with h | h
    · exact (List.mem_append.1 h).elim (hv1 r) (hv2 r)
    · simp at h; rcases h with rfl | rfl <;> decide) (by simp; omega)
  rw [hX1] at hK1
  rw [hX2, rtext_append] at hK2
  rw [hX3, rtext_append, rtext_append, show rtext [55, 35] = (⟨#[55, 35]⟩ : ByteArray) from rfl] at hK3
  have hts1 := rtext_size Ra
  have hts2 := rtext_size Rb
  obtain ⟨T1, hT1⟩ : ∃ T, rtext Ra = T := ⟨_, rfl⟩
  obtain ⟨T2, hT2⟩ : ∃ T, rtext Rb = T := ⟨_, rfl⟩
  rw [hT1] at hK1 hK2 hK3 hts1
  rw [hT2] at hK2 hK3 hts2
  have hcap1 : ¬ 9223372036854775807 < T1.size + T2.size := by omega
  have hcap2 : ¬ 9223372036854775807 < T1.size + T2.size + 2 := by omega
  have happ := app_size T1 T2
  clear hX1 hX2 hX3 hen hts1 hts2 hok2
  have hs1 := own_runes (H.own_ 0 rfl)
  rw [hT1] at hs1
  go_wp2_with fail
  with_reducible refine (hK1 _).mono ?_
  intro e wk hx
  obtain ⟨A3, c3, rfl, ho3, hbc⟩ := retkeys_at hx
  clear hx hK1 hs1
  replace H : Mem (w) [] (wk) [.row (w.heap.size) (21) (1) (.slice A1 Ra.length c1) (Ra.length) (Ra.map (Value.int .i32)), .row (wa.heap.size) (21) (1) (.slice A2 Rb.length c2) (Rb.length) (Rb.map (Value.int .i32)), .row (wb.heap.size) (31) (2) (.slice A3 E1.length c3) (E1.length) (entsV E1)] := Mem.row H hbc ho3 (Nat.le_refl _)
  clear hbc ho3
  replace H : Mem (w) [] _ [.row (w.heap.size) (21) (1) (.slice A1 Ra.length c1) (Ra.length) (Ra.map (Value.int .i32)), .row (wa.heap.size) (21) (1) (.slice A2 Rb.length c2) (Rb.length) (Rb.map (Value.int .i32)), .row (wb.heap.size) (31) (2) (.slice A3 E1.length c3) (E1.length) (entsV E1), .blk (wk.heap.size) 26 #[.string (dstr D1), .bool b1]] := Mem.alloc H (wk.heap.size) (by first | (simp; done) | (simp; omega)) #[.string (dstr D1), .bool b1] 26
  have hs1 := own_runes (H.own_ 0 rfl)
  have hs2 := own_runes (H.own_ 1 rfl)
  rw [hT1] at hs1
  rw [hT2] at hs2
  go_wp2_with fail
  with_reducible refine (hK2 _).mono ?_
  intro e wd hx
  obtain ⟨A4, c4, rfl, ho4, hbd⟩ := retkeys_at hx
  clear hx hK2 hs1 hs2
  replace H : Mem (w) [] (wd) [.row (w.heap.size) (21) (1) (.slice A1 Ra.length c1) (Ra.length) (Ra.map (Value.int .i32)), .row (wa.heap.size) (21) (1) (.slice A2 Rb.length c2) (Rb.length) (Rb.map (Value.int .i32)), .row (wb.heap.size) (31) (2) (.slice A3 E1.length c3) (E1.length) (entsV E1), .blk (wk.heap.size) 26 #[.string (dstr D1), .bool b1], .row ((wk.alloc (.cells #[.string (dstr D1), .bool b1] 26)).heap.size) (31) (2) (.slice A4 E2.length c4) (E2.length) (entsV E2)] := Mem.row H hbd ho4 (Nat.le_refl _)
  clear hbd ho4
  go_wp2_with fail
  obtain ⟨wq, hwq⟩ : ∃ wq, (wd).alloc (.cells #[.string (dstr D2), .bool b2] 26) = wq := ⟨_, rfl⟩
  replace H : Mem (w) [] _ [.row (w.heap.size) (21) (1) (.slice A1 Ra.length c1) (Ra.length) (Ra.map (Value.int .i32)), .row (wa.heap.size) (21) (1) (.slice A2 Rb.length c2) (Rb.length) (Rb.map (Value.int .i32)), .row (wb.heap.size) (31) (2) (.slice A3 E1.length c3) (E1.length) (entsV E1), .blk (wk.heap.size) 26 #[.string (dstr D1), .bool b1], .row ((wk.alloc (.cells #[.string (dstr D1), .bool b1] 26)).heap.size) (31) (2) (.slice A4 E2.length c4) (E2.length) (entsV E2), .blk (wd.heap.size) 26 #[.string (dstr D2), .bool b2]] := Mem.alloc H (wd.heap.size) (by first | (simp; done) | (simp; omega)) #[.string (dstr D2), .bool b2] 26
  rw [hwq] at H ⊢
  clear hwq
  replace H := Mem.rebase H 2 rfl
  have H : Mem (w) [] (wq) [.row (w.heap.size) (21) (1) (.slice A1 Ra.length c1) (Ra.length) (Ra.map (Value.int .i32)), .row (wa.heap.size) (21) (1) (.slice A2 Rb.length c2) (Rb.length) (Rb.map (Value.int .i32)), .row (w.heap.size) (31) (2) (.slice A3 E1.length c3) (E1.length) (entsV E1), .blk (wk.heap.size) 26 #[.string (dstr D1), .bool b1], .row ((wk.alloc (.cells #[.string (dstr D1), .bool b1] 26)).heap.size) (31) (2) (.slice A4 E2.length c4) (E2.length) (entsV E2), .blk (wd.heap.size) 26 #[.string (dstr D2), .bool b2]] := H
  go_wp2
  go_loopw [7, 13] (fun v i wr => ∃ (k : Nat) (D : List Nat) (b : Bool) (es : List EntS) (A : Option Addr) (c : Nat), k ≤ Rb.length ∧ i = .int .i64 (k : Int) ∧ Hid (kkeys (Rb.take k) ((D1, b1), E1) = ((D, b), es)) ∧ PadOk (D, b) ∧ es.length ≤ 200 + k ∧ v = .slice A es.length c ∧ Mem w [] wr [.row (w.heap.size) (21) (1) (.slice A1 Ra.length c1) (Ra.length) (Ra.map (Value.int .i32)), .row (wa.heap.size) (21) (1) (.slice A2 Rb.length c2) (Rb.length) (Rb.map (Value.int .i32)), .row (w.heap.size) (31) (2) (.slice A es.length c) (es.length) (entsV es), .blk (wk.heap.size) 26 #[.string (dstr D), .bool b], .row ((wk.alloc (.cells #[.string (dstr D1), .bool b1] 26)).heap.size) (31) (2) (.slice A4 E2.length c4) (E2.length) (entsV E2), .blk (wd.heap.size) 26 #[.string (dstr D2), .bool b2]]) (fun _ i _ => Rb.length - (intOf i).toNat)
  case atStart => exact ⟨0, D1, b1, E1, A3, c3, by omega, rfl, Lib.hid rfl, hok1, by omega, rfl, H⟩
  case round =>
    obtain ⟨k, D, b, es, A, c, hk, rfl, hkk, hpo, hel, rfl, HM⟩ := hrel
    clear H hok1
    have H : Mem (w) [] (wr) [.row (w.heap.size) (21) (1) (.slice A1 Ra.length c1) (Ra.length) (Ra.map (Value.int .i32)), .row (wa.heap.size) (21) (1) (.slice A2 Rb.length c2) (Rb.length) (Rb.map (Value.int .i32)), .row (w.heap.size) (31) (2) (.slice A es.length c) (es.length) (entsV es), .blk (wk.heap.size) 26 #[.string (dstr D), .bool b], .row ((wk.alloc (.cells #[.string (dstr D1), .bool b1] 26)).heap.size) (31) (2) (.slice A4 E2.length c4) (E2.length) (entsV E2), .blk (wd.heap.size) 26 #[.string (dstr D2), .bool b2]] := HM
    clear HM

    by_cases hlt : k < Rb.length
    · obtain ⟨bb, bo, hA2, hB, hcr⟩ := (Rd.of_own (H.own_ 1 rfl)).at_ (by omega)
      subst hA2
      have hck : wr.cell? ⟨bb, bo + k, none⟩ = some (.int .i32 Rb[k]) := hcr k _ (by simp [hlt])
      have hvk := hv2 _ (List.getElem_mem hlt)
      have htk := kk_take Rb k hlt ((D1, b1), E1)
      rw [hkk.out] at htk
      obtain ⟨r, hr⟩ : ∃ r, Rb[k] = r := ⟨_, rfl⟩
      rw [hr] at hck hvk htk
      have hr0 : 0 ≤ r ∧ r ≤ 2147483647 := by unfold Utf8.valid at hvk; simp at hvk; omega
      have hP := fun W => pressE_ok D b hpo r W hr0.1 hr0.2
      have hpo2 := kpress_ok hpo r
      unfold kstep at htk
      dsimp only at htk
      obtain ⟨⟨D', b'⟩, hq⟩ : ∃ q, (kpress (D, b) r).1 = q := ⟨_, rfl⟩
      obtain ⟨o, ho⟩ : ∃ o, (kpress (D, b) r).2 = o := ⟨_, rfl⟩
      rw [hq, ho] at hP htk
      rw [hq] at hpo2
      obtain ⟨es2, hes2⟩ : ∃ l, o.toList = l := ⟨_, rfl⟩
      obtain ⟨m, hm⟩ : ∃ m, es2.length = m := ⟨_, rfl⟩
      have hP2 : ∀ W, Calls Tryd.prog 12 #[.agg #[.string (dstr D), .bool b], .int .i32 r] W (fun e w' => ∃ (A : Option Addr) (c : Nat), e = .returned (.tuple #[.agg #[.string (dstr D'), .bool b'], .slice A m c, .int .i64 0]) ∧ w'.ownsRow W.heap.size 31 2 (.slice A m c) m (entsV es2) ∧ Below W.heap.size W w') := fun W => (hP W).mono fun e w' h => retpress_at h m es2 hes2 hm
      have hm1 : m ≤ 1 := by rw [← hm, ← hes2]; cases o <;> simp
      rw [hes2] at htk
      have HTK := Lib.hid htk
      have HPO := Lib.hid hpo2
      have HMM := Lib.hid hm
      clear hP hq ho hr hes2 hm htk hpo2 hpo hvk hkk hcr hB hr0
      have H : Mem (w) [] (wr) [.row (w.heap.size) (21) (1) (.slice A1 Ra.length c1) (Ra.length) (Ra.map (Value.int .i32)), .row (wa.heap.size) (21) (1) (.slice (some ⟨bb, bo, none⟩) Rb.length c2) (Rb.length) (Rb.map (Value.int .i32)), .row (w.heap.size) (31) (2) (.slice A es.length c) (es.length) (entsV es), .blk (wk.heap.size) 26 #[.string (dstr D), .bool b], .row ((wk.alloc (.cells #[.string (dstr D1), .bool b1] 26)).heap.size) (31) (2) (.slice A4 E2.length c4) (E2.length) (entsV E2), .blk (wd.heap.size) 26 #[.string (dstr D2), .bool b2]] := H
      have outA : ∀ (we : World) (Al : Option Addr) (cl : Nat), Below wr.drew.heap.size wr.drew we → we.ownsRow wr.drew.heap.size 31 2 (.slice Al m cl) m (entsV es2) → Mem w [] (we.alloc (.cells #[.string (dstr D'), .bool b'] 26)) ([.row (w.heap.size) (21) (1) (.slice A1 Ra.length c1) (Ra.length) (Ra.map (Value.int .i32)), .row (wa.heap.size) (21) (1) (.slice (some ⟨bb, bo, none⟩) Rb.length c2) (Rb.length) (Rb.map (Value.int .i32)), .row (w.heap.size) (31) (2) (.slice A es.length c) (es.length) (entsV es), .blk (wk.heap.size) 26 #[.string (dstr D), .bool b], .row ((wk.alloc (.cells #[.string (dstr D1), .bool b1] 26)).heap.size) (31) (2) (.slice A4 E2.length c4) (E2.length) (entsV E2), .blk (wd.heap.size) 26 #[.string (dstr D2), .bool b2]] ++ [.blk we.heap.size 26 #[.string (dstr D'), .bool b']] ++ [.row wr.heap.size 31 2 (.slice Al m cl) m (entsV es2)]) := fun we Al cl hb ho => Mem.swap2 (Mem.alloc (Mem.row (Mem.drew H) hb ho (Nat.le_refl _)) _ rfl _ _)
      have outB : ∀ (we : World) (Al : Option Addr) (cl : Nat), Below (wr.alloc (.cells #[.string ⟨#[]⟩, .bool false] 26)).drew.heap.size (wr.alloc (.cells #[.string ⟨#[]⟩, .bool false] 26)).drew we → we.ownsRow (wr.alloc (.cells #[.string ⟨#[]⟩, .bool false] 26)).drew.heap.size 31 2 (.slice Al m cl) m (entsV es2) → Mem w [] we ([.row (w.heap.size) (21) (1) (.slice A1 Ra.length c1) (Ra.length) (Ra.map (Value.int .i32)), .row (wa.heap.size) (21) (1) (.slice (some ⟨bb, bo, none⟩) Rb.length c2) (Rb.length) (Rb.map (Value.int .i32)), .row (w.heap.size) (31) (2) (.slice A es.length c) (es.length) (entsV es), .blk (wk.heap.size) 26 #[.string (dstr D), .bool b], .row ((wk.alloc (.cells #[.string (dstr D1), .bool b1] 26)).heap.size) (31) (2) (.slice A4 E2.length c4) (E2.length) (entsV E2), .blk (wd.heap.size) 26 #[.string (dstr D2), .bool b2]] ++ [.blk wr.heap.size 26 #[.string ⟨#[]⟩, .bool false]] ++ [.row (wr.alloc (.cells #[.string ⟨#[]⟩, .bool false] 26)).drew.heap.size 31 2 (.slice Al m cl) m (entsV es2)]) := fun we Al cl hb ho => Mem.row (Mem.drew (Mem.alloc H _ rfl _ _)) hb ho (Nat.le_refl _)
      have pv0 : (wr).cell? ⟨wk.heap.size, 0, none⟩ = some (.string (dstr D)) := (H.blk 3 rfl).cell 0
      have pvf0 : (wr).frozen? ⟨wk.heap.size, 0, none⟩ = false := (H.blk 3 rfl).frozen 0
      have pv1 : (wr).cell? ⟨wk.heap.size, 1, none⟩ = some (.bool b) := (H.blk 3 rfl).cell 1
      have pvf1 : (wr).frozen? ⟨wk.heap.size, 1, none⟩ = false := (H.blk 3 rfl).frozen 1
      have pvlt : wk.heap.size < (wr).heap.size := H.lt 3 rfl
      have hblt : bb < wr.heap.size := by
        rcases (H.own_ 1 rfl).2 with ⟨h1, _⟩ | ⟨g, cap, cur, h1, _, h3, _⟩
        · cases h1
        · injection h1 with h1
          injection h1 with h1
          injection h1 with h1
          rw [h1]
          exact (Array.getElem?_eq_some_iff.1 h3).1
      have nn1 : wk.heap.size ≠ wr.heap.size := Nat.ne_of_lt pvlt
      have nn2 : bb ≠ wr.heap.size := Nat.ne_of_lt hblt
      have nn1' := Ne.symm nn1
      have nn2' := Ne.symm nn2
      go_wp2_with fail
      go_cut [14, 15, 16] (fun p l e wx => ∃ gt Al cl bs, p = .pointer (some ⟨gt, 0, none⟩) ∧ l = .slice Al m cl ∧ e = .int .i64 0 ∧ Mem w [] wx [.row (w.heap.size) (21) (1) (.slice A1 Ra.length c1) (Ra.length) (Ra.map (Value.int .i32)), .row (wa.heap.size) (21) (1) (.slice (some ⟨bb, bo, none⟩) Rb.length c2) (Rb.length) (Rb.map (Value.int .i32)), .row (w.heap.size) (31) (2) (.slice A es.length c) (es.length) (entsV es), .blk (wk.heap.size) 26 #[.string (dstr D), .bool b], .row ((wk.alloc (.cells #[.string (dstr D1), .bool b1] 26)).heap.size) (31) (2) (.slice A4 E2.length c4) (E2.length) (entsV E2), .blk (wd.heap.size) 26 #[.string (dstr D2), .bool b2], .blk (gt) 26 #[.string (dstr D'), .bool b'], .row (bs) (31) (2) (.slice Al m cl) (m) (entsV es2)])
      case first =>
        go_region_held3 (fun w' => w'.cell? ⟨wk.heap.size, 0, none⟩ = some (.string (dstr D)) ∧ w'.cell? ⟨wk.heap.size, 1, none⟩ = some (.bool b) ∧ w'.cell? ⟨bb, bo + k, none⟩ = some (.int .i32 r)) (first | with_reducible exact ⟨c0, c1, c2⟩ | go_keep | fail) (first | (go_at_call 12; (with_reducible refine (hP2 (wr).drew).mono ?_); rintro e we ⟨Al, cl, rfl, hoe, hbe⟩; have c0 := (hbe.cell (p := ⟨wk.heap.size, 0, none⟩) pvlt).trans pv0; have c1 := (hbe.cell (p := ⟨wk.heap.size, 1, none⟩) pvlt).trans pv1; have c2 := (hbe.cell (p := ⟨bb, bo + k, none⟩) hblt).trans hck; have hO := outA we Al cl hbe hoe) | (go_at_call 12; (with_reducible refine (hP2 (wr.alloc (.cells #[.string ⟨#[]⟩, .bool false] 26)).drew).mono ?_); rintro e we ⟨Al, cl, rfl, hoe, hbe⟩; have hO := outB we Al cl hbe hoe; have c0 := (hO.blk 3 rfl).cell 0; have c1 := (hO.blk 3 rfl).cell 1; have c2 : we.cell? ⟨bb, bo + k, none⟩ = some (.int .i32 r) := (hbe.cell (p := ⟨bb, bo + k, none⟩) (by simp; omega)).trans (by go_simp); have y0 : we.cell? ⟨wr.heap.size, 0, none⟩ = some (.string ⟨#[]⟩) := (hO.blk 6 rfl).cell 0; have y1 : we.cell? ⟨wr.heap.size, 1, none⟩ = some (.bool false) := (hO.blk 6 rfl).cell 1; have yf0 : we.frozen? ⟨wr.heap.size, 0, none⟩ = false := (hO.blk 6 rfl).frozen 0; have yf1 : we.frozen? ⟨wr.heap.size, 1, none⟩ = false := (hO.blk 6 rfl).frozen 1; have ylt := hO.lt 6 rfl))
        all_goals
          go_wp2_with fail
          go_meet
          first
          | exact ⟨_, _, _, _, rfl, rfl, rfl, hO⟩
          | exact ⟨_, _, _, _, rfl, rfl, rfl, Mem.set 6 (Mem.set 6 hO rfl 0 (.string (dstr D'))) rfl 1 (.bool b')⟩
      case rest =>
        obtain ⟨gt, Al, cl, bs, rfl, rfl, rfl, HM⟩ := hcut
        clear H outA outB hP2 nn1 nn2 nn1' nn2'
        have H : Mem (w) [] (wc) [.row (w.heap.size) (21) (1) (.slice A1 Ra.length c1) (Ra.length) (Ra.map (Value.int .i32)), .row (wa.heap.size) (21) (1) (.slice (some ⟨bb, bo, none⟩) Rb.length c2) (Rb.length) (Rb.map (Value.int .i32)), .row (w.heap.size) (31) (2) (.slice A es.length c) (es.length) (entsV es), .blk (wk.heap.size) 26 #[.string (dstr D), .bool b], .row ((wk.alloc (.cells #[.string (dstr D1), .bool b1] 26)).heap.size) (31) (2) (.slice A4 E2.length c4) (E2.length) (entsV E2), .blk (wd.heap.size) 26 #[.string (dstr D2), .bool b2], .blk (gt) 26 #[.string (dstr D'), .bool b'], .row (bs) (31) (2) (.slice Al m cl) (m) (entsV es2)] := HM
        clear HM
        have hel2 : es.length + m ≤ 200 + (k + 1) := by omega

        go_wp2_with (at_builtin; refine wpList_pushNM el_ent rfl (.tmp 65) (.tmp 66) rfl 2 7 H rfl rfl rfl rfl (entsV_one _) (by omega) (by unfold maxLen; omega) H.keep.size ?_; intro A5 c5 w1 H1; have pv0 : (w1).cell? ⟨wk.heap.size, 0, none⟩ = some (.string (dstr D)) := (H1.blk 3 rfl).cell 0; have pvf0 : (w1).frozen? ⟨wk.heap.size, 0, none⟩ = false := (H1.blk 3 rfl).frozen 0; have pv1 : (w1).cell? ⟨wk.heap.size, 1, none⟩ = some (.bool b) := (H1.blk 3 rfl).cell 1; have pvf1 : (w1).frozen? ⟨wk.heap.size, 1, none⟩ = false := (H1.blk 3 rfl).frozen 1; have pvlt : wk.heap.size < (w1).heap.size := H1.lt 3 rfl; have nq0 : (w1).cell? ⟨gt, 0, none⟩ = some (.string (dstr D')) := (H1.blk 6 rfl).cell 0; have nqf0 : (w1).frozen? ⟨gt, 0, none⟩ = false := (H1.blk 6 rfl).frozen 0; have nq1 : (w1).cell? ⟨gt, 1, none⟩ = some (.bool b') := (H1.blk 6 rfl).cell 1; have nqf1 : (w1).frozen? ⟨gt, 1, none⟩ = false := (H1.blk 6 rfl).frozen 1; have nqlt : gt < (w1).heap.size := H1.lt 6 rfl; have ne_pv_nq : wk.heap.size ≠ gt := H1.ne 3 6 rfl rfl (by decide); have ne_nq_pv : gt ≠ wk.heap.size := H1.ne 6 3 rfl rfl (by decide))
        replace H : Mem (w) [] (w1) [.row (w.heap.size) (21) (1) (.slice A1 Ra.length c1) (Ra.length) (Ra.map (Value.int .i32)), .row (wa.heap.size) (21) (1) (.slice (some ⟨bb, bo, none⟩) Rb.length c2) (Rb.length) (Rb.map (Value.int .i32)), .row (w.heap.size) (31) (2) (.slice A5 (es.length + m) c5) (es.length + m) (entsV es ++ entsV es2), .blk (wk.heap.size) 26 #[.string (dstr D), .bool b], .row ((wk.alloc (.cells #[.string (dstr D1), .bool b1] 26)).heap.size) (31) (2) (.slice A4 E2.length c4) (E2.length) (entsV E2), .blk (wd.heap.size) 26 #[.string (dstr D2), .bool b2], .blk (gt) 26 #[.string (dstr D'), .bool b'], .row (bs) (31) (2) (.slice Al m cl) (m) (entsV es2)] := H1
        clear H1
        obtain ⟨wz, hwz⟩ : ∃ wz, ((w1).setCell ⟨wk.heap.size, 0, none⟩ (.string (dstr D'))).setCell ⟨wk.heap.size, 1, none⟩ (.bool b') = wz := ⟨_, rfl⟩
        replace H : Mem (w) [] _ [.row (w.heap.size) (21) (1) (.slice A1 Ra.length c1) (Ra.length) (Ra.map (Value.int .i32)), .row (wa.heap.size) (21) (1) (.slice (some ⟨bb, bo, none⟩) Rb.length c2) (Rb.length) (Rb.map (Value.int .i32)), .row (w.heap.size) (31) (2) (.slice A5 (es.length + m) c5) (es.length + m) (entsV es ++ entsV es2), .blk (wk.heap.size) 26 #[.string (dstr D'), .bool b], .row ((wk.alloc (.cells #[.string (dstr D1), .bool b1] 26)).heap.size) (31) (2) (.slice A4 E2.length c4) (E2.length) (entsV E2), .blk (wd.heap.size) 26 #[.string (dstr D2), .bool b2], .blk (gt) 26 #[.string (dstr D'), .bool b'], .row (bs) (31) (2) (.slice Al m cl) (m) (entsV es2)] := Mem.set 3 H rfl 0 (.string (dstr D'))
        replace H : Mem (w) [] _ [.row (w.heap.size) (21) (1) (.slice A1 Ra.length c1) (Ra.length) (Ra.map (Value.int .i32)), .row (wa.heap.size) (21) (1) (.slice (some ⟨bb, bo, none⟩) Rb.length c2) (Rb.length) (Rb.map (Value.int .i32)), .row (w.heap.size) (31) (2) (.slice A5 (es.length + m) c5) (es.length + m) (entsV es ++ entsV es2), .blk (wk.heap.size) 26 #[.string (dstr D'), .bool b'], .row ((wk.alloc (.cells #[.string (dstr D1), .bool b1] 26)).heap.size) (31) (2) (.slice A4 E2.length c4) (E2.length) (entsV E2), .blk (wd.heap.size) 26 #[.string (dstr D2), .bool b2], .blk (gt) 26 #[.string (dstr D'), .bool b'], .row (bs) (31) (2) (.slice Al m cl) (m) (entsV es2)] := Mem.set 3 H rfl 1 (.bool b')
        rw [hwz] at H ⊢
        clear hwz
        go_roundw
        case rel =>
          have hl3 : (es ++ es2).length = es.length + m := by rw [List.length_append, HMM.out]
          have he3 : entsV (es ++ es2) = entsV es ++ entsV es2 := by simp [entsV]
          exact ⟨k + 1, D', b', es ++ es2, A5, c5, by omega, by go_num, HTK, HPO.out, by rw [hl3]; exact hel2, by rw [hl3], by rw [hl3, he3]; exact Mem.drop_ 6 (Mem.drop_ 6 H)⟩
        case measure => simp [intOf]; omega
    · skip
      have hke : k = Rb.length := by omega
      have hX := hX12.out
      have hkk2 := hkk.out
      rw [hke, List.take_length] at hkk2
      rw [hkk2] at hX
      simp only [Prod.mk.injEq] at hX
      obtain ⟨⟨hD, hb⟩, hes⟩ := hX
      subst hD
      subst hb
      subst hes
      clear hkk2 hX12 hkk hke
      have H : Mem (w) [] (wr) [.row (w.heap.size) (21) (1) (.slice A1 Ra.length c1) (Ra.length) (Ra.map (Value.int .i32)), .row (wa.heap.size) (21) (1) (.slice A2 Rb.length c2) (Rb.length) (Rb.map (Value.int .i32)), .row (w.heap.size) (31) (2) (.slice A es.length c) (es.length) (entsV es), .blk (wk.heap.size) 26 #[.string (dstr D), .bool b], .row ((wk.alloc (.cells #[.string (dstr D1), .bool b1] 26)).heap.size) (31) (2) (.slice A4 es.length c4) (es.length) (entsV es), .blk (wd.heap.size) 26 #[.string (dstr D), .bool b]] := H
      have hs1 := own_runes (H.own_ 0 rfl)
      have hs2 := own_runes (H.own_ 1 rfl)
      rw [hT1] at hs1
      rw [hT2] at hs2
      go_wp2_with fail
      with_reducible refine (hK3 _).mono ?_
      intro e wf hx
      obtain ⟨A6, c6, rfl, ho6, hbf⟩ := retkeys_at hx
      replace H : Mem (w) [] (wf) [.row (w.heap.size) (21) (1) (.slice A1 Ra.length c1) (Ra.length) (Ra.map (Value.int .i32)), .row (wa.heap.size) (21) (1) (.slice A2 Rb.length c2) (Rb.length) (Rb.map (Value.int .i32)), .row (w.heap.size) (31) (2) (.slice A es.length c) (es.length) (entsV es), .blk (wk.heap.size) 26 #[.string (dstr D), .bool b], .row ((wk.alloc (.cells #[.string (dstr D1), .bool b1] 26)).heap.size) (31) (2) (.slice A4 es.length c4) (es.length) (entsV es), .blk (wd.heap.size) 26 #[.string (dstr D), .bool b]] := Mem.call H hbf
      have hS := fun (W : World) (h1 : Rd W W.heap.size 2 A es.length (entsV es)) (h2 : Rd W W.heap.size 2 A4 es.length (entsV es)) => same_ents es A A4 c c4 W (by omega) h1 h2
      clear hx hK3 hs1 hs2 hbf ho6
      have hE : ∀ W, (Op.equalIn 10000 26 (.agg #[.string (dstr []), .bool false]) (.agg #[.string ⟨#[]⟩, .bool false])).run Tryd.prog W = .ok true W := fun W => by
        have h := pad_eql (dstr []) (dstr []) false false W
        simp only [beq_self_eq_true, Bool.and_true] at h
        exact h
      have hE2 := fun W => pad_eql (dstr D) (dstr D) b b W
      simp only [beq_self_eq_true, Bool.and_true] at hE2
      have hlen : (es ++ [en]).length = es.length + 1 := by simp
      have hle3 : es.length ≤ 400 := by omega
      rw [hlen]
      replace H : Mem (w) [] _ [.row (w.heap.size) (21) (1) (.slice A1 Ra.length c1) (Ra.length) (Ra.map (Value.int .i32)), .row (wa.heap.size) (21) (1) (.slice A2 Rb.length c2) (Rb.length) (Rb.map (Value.int .i32)), .row (w.heap.size) (31) (2) (.slice A es.length c) (es.length) (entsV es), .blk (wk.heap.size) 26 #[.string (dstr D), .bool b], .row ((wk.alloc (.cells #[.string (dstr D1), .bool b1] 26)).heap.size) (31) (2) (.slice A4 es.length c4) (es.length) (entsV es), .blk (wd.heap.size) 26 #[.string (dstr D), .bool b], .blk (wf.heap.size) 26 #[.string (dstr []), .bool false]] := Mem.alloc H (wf.heap.size) (by first | (simp; done) | (simp; omega)) #[.string (dstr []), .bool false] 26
      have hS2 := hS _ (Rd.of_own (H.own_ 2 rfl)) (Rd.of_own (H.own_ 4 rfl))
      have pv0 : ((wf).alloc (.cells #[.string (dstr []), .bool false] 26)).cell? ⟨wk.heap.size, 0, none⟩ = some (.string (dstr D)) := (H.blk 3 rfl).cell 0
      have pvf0 : ((wf).alloc (.cells #[.string (dstr []), .bool false] 26)).frozen? ⟨wk.heap.size, 0, none⟩ = false := (H.blk 3 rfl).frozen 0
      have pv1 : ((wf).alloc (.cells #[.string (dstr []), .bool false] 26)).cell? ⟨wk.heap.size, 1, none⟩ = some (.bool b) := (H.blk 3 rfl).cell 1
      have pvf1 : ((wf).alloc (.cells #[.string (dstr []), .bool false] 26)).frozen? ⟨wk.heap.size, 1, none⟩ = false := (H.blk 3 rfl).frozen 1
      have pvlt : wk.heap.size < ((wf).alloc (.cells #[.string (dstr []), .bool false] 26)).heap.size := H.lt 3 rfl
      have qv0 : ((wf).alloc (.cells #[.string (dstr []), .bool false] 26)).cell? ⟨wd.heap.size, 0, none⟩ = some (.string (dstr D)) := (H.blk 5 rfl).cell 0
      have qvf0 : ((wf).alloc (.cells #[.string (dstr []), .bool false] 26)).frozen? ⟨wd.heap.size, 0, none⟩ = false := (H.blk 5 rfl).frozen 0
      have qv1 : ((wf).alloc (.cells #[.string (dstr []), .bool false] 26)).cell? ⟨wd.heap.size, 1, none⟩ = some (.bool b) := (H.blk 5 rfl).cell 1
      have qvf1 : ((wf).alloc (.cells #[.string (dstr []), .bool false] 26)).frozen? ⟨wd.heap.size, 1, none⟩ = false := (H.blk 5 rfl).frozen 1
      have qvlt : wd.heap.size < ((wf).alloc (.cells #[.string (dstr []), .bool false] 26)).heap.size := H.lt 5 rfl
      have rv0 : ((wf).alloc (.cells #[.string (dstr []), .bool false] 26)).cell? ⟨wf.heap.size, 0, none⟩ = some (.string (dstr [])) := (H.blk 6 rfl).cell 0
      have rvf0 : ((wf).alloc (.cells #[.string (dstr []), .bool false] 26)).frozen? ⟨wf.heap.size, 0, none⟩ = false := (H.blk 6 rfl).frozen 0
      have rv1 : ((wf).alloc (.cells #[.string (dstr []), .bool false] 26)).cell? ⟨wf.heap.size, 1, none⟩ = some (.bool false) := (H.blk 6 rfl).cell 1
      have rvf1 : ((wf).alloc (.cells #[.string (dstr []), .bool false] 26)).frozen? ⟨wf.heap.size, 1, none⟩ = false := (H.blk 6 rfl).frozen 1
      have rvlt : wf.heap.size < ((wf).alloc (.cells #[.string (dstr []), .bool false] 26)).heap.size := H.lt 6 rfl
      have ne_pv_qv : wk.heap.size ≠ wd.heap.size := H.ne 3 5 rfl rfl (by decide)
      have ne_pv_rv : wk.heap.size ≠ wf.heap.size := H.ne 3 6 rfl rfl (by decide)
      have ne_qv_pv : wd.heap.size ≠ wk.heap.size := H.ne 5 3 rfl rfl (by decide)
      have ne_qv_rv : wd.heap.size ≠ wf.heap.size := H.ne 5 6 rfl rfl (by decide)
      have ne_rv_pv : wf.heap.size ≠ wk.heap.size := H.ne 6 3 rfl rfl (by decide)
      have ne_rv_qv : wf.heap.size ≠ wd.heap.size := H.ne 6 5 rfl rfl (by decide)
      clear hS hE1 hlen
      go_wp2_with fail
      refine hS2.mono ?_
      rintro e wg ⟨rfl, hbg⟩
      replace H : Mem (w) [] (wg) [.row (w.heap.size) (21) (1) (.slice A1 Ra.length c1) (Ra.length) (Ra.map (Value.int .i32)), .row (wa.heap.size) (21) (1) (.slice A2 Rb.length c2) (Rb.length) (Rb.map (Value.int .i32)), .row (w.heap.size) (31) (2) (.slice A es.length c) (es.length) (entsV es), .blk (wk.heap.size) 26 #[.string (dstr D), .bool b], .row ((wk.alloc (.cells #[.string (dstr D1), .bool b1] 26)).heap.size) (31) (2) (.slice A4 es.length c4) (es.length) (entsV es), .blk (wd.heap.size) 26 #[.string (dstr D), .bool b], .blk (wf.heap.size) 26 #[.string (dstr []), .bool false]] := Mem.call H hbg
      go_wp2
      go_ret
      exact ⟨rfl, H.below⟩
end Go.Proofs.YthhbnmmhjfgpdaaDoor
