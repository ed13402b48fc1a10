/- oracle: known, May, for any oracle. -/
import Derived.Test.YtopnlkhepjbjkaaDoorG10
namespace Go.Proofs.YtopnlkhepjbjkaaDoor
open Go.RowKit Go.Maps Go.ChangeShapes Go.WideShapes
set_option linter.unusedVariables false
instance (k : Int × Int × Int) : Decidable (mayK k) := by unfold mayK; infer_instance
set_option maxHeartbeats 1000000 in
theorem mayk_any (a b c : Int) (w : World) : Calls Tryd.prog 49 #[.agg #[.int .i64 a, .int .i64 b, .int .i64 c]] w fun e w' => e = .returned (.bool (decide (mayK (a, b, c)))) ∧ Below w.heap.size w w' := by
  by_cases h : mayK (a, b, c)
  · rw [decide_eq_true h]; exact mayk_yes a b c w h
  · rw [decide_eq_false h]
    unfold mayK at h
    dsimp only at h
    have h6 : a < 0 ∨ (0 ≤ a ∧ 50 ≤ a) ∨ (0 ≤ a ∧ a < 50 ∧ b < 0) ∨ (0 ≤ a ∧ a < 50 ∧ 0 ≤ b ∧ 15 < b) ∨ (0 ≤ a ∧ a < 50 ∧ 0 ≤ b ∧ b ≤ 15 ∧ c < 0) ∨ (0 ≤ a ∧ a < 50 ∧ 0 ≤ b ∧ b ≤ 15 ∧ 0 ≤ c ∧ 8796093022207 < c) := by omega
    clear h
    rcases h6 with h | ⟨h, h2⟩ | ⟨h, h2, h3⟩ | ⟨h, h2, h3, h4⟩ | ⟨h, h2, h3, h4, h5⟩ | ⟨h, h2, h3, h4, h5, h6⟩
    all_goals
      go_enter Tryd.func49, Tryd.ntmps49
      go_wp2
      go_ret
      exact ⟨ret_bool (by simp <;> omega), below_a1 _ _⟩
/-- The answer of 'known' for any oracle. -/
def RetKnownA (l : List Pr) (w : World) (e : Ending) (w' : World) : Prop :=
  (OOk l ∧ RetKnown l w e w') ∨ (¬ OOk l ∧ e = .returned (.tuple #[.map none, .bool false]) ∧ Below w.heap.size w w')
set_option maxRecDepth 100000 in
set_option maxHeartbeats 2000000 in
theorem known_any (v : Value) (l : List Pr) (w : World) (hv : IsPs w v l) (h500 : l.length ≤ 500) :
    Calls Tryd.prog 48 #[.agg #[v]] w (RetKnownA l w) := by
  have hv0 := hv
  obtain ⟨A, c, rfl, hc1, hc2, hwf, _⟩ := hv
  have hmm := @run_makeMap Tryd.prog
  have hat := fun k hk => hv0.at_ (k := k) hk
  clear hv0 hc1 hc2
  go_enter Tryd.func48, Tryd.ntmps48
  go_wp2_with fail
  go_loopw [18] (fun i wr => ∃ (k : Nat) (D : DataW Unit), k ≤ l.length ∧ i = .int .i64 k ∧ wr.ownsMap Tryd.prog 112 (plainElem Tryd.prog 3) (w.heap.size + 1) k D ∧ MapIs D (l.take k) ∧ OOk (l.take k) ∧ Below w.heap.size w wr) (fun i _ => l.length - (intOf i).toNat)
  case atStart => exact ⟨0, .map [], by omega, rfl, by
    have h := World.ownsMap_made (H := Unit) (w.alloc (.cells #[.slice A l.length c] 33)) Tryd.prog 112 (plainElem Tryd.prog 3)
    simpa using h, mapIs_nil, ⟨by simp, by simp, by simp⟩, below_a2 _ _ _⟩
  case round =>
    obtain ⟨k, D, hk, rfl, hown, hD, hO, hb⟩ := hrel
    clear hmm
    by_cases hlt : k < l.length
    · obtain ⟨b, off, rfl, hB, p1, p2, p3, p4⟩ := hat k hlt
      have q1 := (hb.cell (p := ⟨b, off + k * 4, none⟩) hB).trans p1
      have q2 := (hb.cell (p := ⟨b, off + k * 4 + 1, none⟩) hB).trans p2
      have q3 := (hb.cell (p := ⟨b, off + k * 4 + 2, none⟩) hB).trans p3
      have q4 := (hb.cell (p := ⟨b, off + k * 4 + 3, none⟩) hB).trans p4
      have hwp := hwf _ (List.getElem_mem hlt)
      have hlen : (l.take k).length < 500 := by rw [List.length_take]; omega
      have hcase : (look (l.take k) (keyP l[k]) = none ∧ okP l[k]) ∨ ¬ OOk l ∧ ((look (l.take k) (keyP l[k])).isSome = true ∨ (look (l.take k) (keyP l[k]) = none ∧ ¬ okP l[k])) := by
        cases hlk : look (l.take k) (keyP l[k]) with
        | some t => exact .inr ⟨fun h => (by rw [ook_next h hlt] at hlk; cases hlk), .inl rfl⟩
        | none =>
          by_cases hq : okP l[k]
          · exact .inl ⟨rfl, hq⟩
          · exact .inr ⟨fun h => hq (h.2.1 _ (List.getElem_mem hlt)), .inr ⟨rfl, hq⟩⟩
      have hkey := what_key hwp.1
      have hhas := (hD.2 _ _ _ hwp.1).1
      rcases hcase with ⟨hnx, hmk, ht1, ht2⟩ | ⟨hno, hcase⟩
      · have HO2 := Lib.hid (ook_snoc hO ⟨hmk, ht1, ht2⟩ hlen hnx)
        rw [← List.take_succ_eq_append_getElem hlt] at HO2
        have HP := Lib.hid (mapIs_put hD hwp hnx)
        rw [← List.take_succ_eq_append_getElem hlt] at HP
        unfold keyP at hnx hmk
        rw [hnx] at hhas
        clear hat hwf p1 p2 p3 p4 hnx hO hlen
        generalize l[k] = p at *
        obtain ⟨x, y, z, t⟩ := p
        dsimp only at *
        have hbs := hb.size
        have hkz : (k : Int) < (l.length : Int) := by omega
        rw [show (none : Option Int).isSome = false from rfl] at hhas
        go_wp2_with fail
        refine (of_ok x y z t _).mono ?_
        rintro e wa ⟨rfl, hba⟩
        have hsa := hba.size
        simp at hsa
        have hP := (Blk.new wr 116 #[.int .i64 x, .int .i64 y, .int .i64 z, .int .i64 t]).below hba (by simp)
        have bA := (below_a1 _ _).step hba
        have hownA := (map_below hown (bA.alloc (by omega) (.cells #[.int .i64 x, .int .i64 y, .int .i64 z] 112)))
        have bA2 := (hb.trans (bA.mono hbs)).alloc (by omega) (.cells #[.int .i64 x, .int .i64 y, .int .i64 z] 112)
        clear hba
        go_wp2_with (at_lookup; refine wpList_lookup_own_ok_int _ rfl (.tmp 25) (.tmp 26) 108 rfl 112 3 .i64 what_law Tryd.underlying108 Tryd.underlying3 (zeroE _) (w.heap.size + 1) k D rfl hownA _ _ rfl hkey ?_; intro c0 hat0 hwc0)
        refine (mayk_yes x y z _ hmk).mono ?_
        rintro e wb ⟨rfl, hbb⟩
        have hsb := hbb.size
        simp at hsb
        have hP2 := (hP.alloc (.cells #[.int .i64 x, .int .i64 y, .int .i64 z] 112)).below hbb (by simp; omega)
        have hW2 := (Blk.new wa 112 #[.int .i64 x, .int .i64 y, .int .i64 z]).below hbb (by simp)
        have hownB := map_below hownA hbb
        have bB := bA2.trans (hbb.mono bA2.size)
        have n1 := hP2.lt
        have n2 := hW2.lt
        clear hbb hownA bA2 hP hown hhas hat0
        have r0 : wb.cell? ⟨wr.heap.size, 0, none⟩ = some (.int .i64 x) := hP2.cell 0
        have rf0 : wb.frozen? ⟨wr.heap.size, 0, none⟩ = false := hP2.frozen 0
        have r1 : wb.cell? ⟨wr.heap.size, 1, none⟩ = some (.int .i64 y) := hP2.cell 1
        have rf1 : wb.frozen? ⟨wr.heap.size, 1, none⟩ = false := hP2.frozen 1
        have r2 : wb.cell? ⟨wr.heap.size, 2, none⟩ = some (.int .i64 z) := hP2.cell 2
        have rf2 : wb.frozen? ⟨wr.heap.size, 2, none⟩ = false := hP2.frozen 2
        have r3 : wb.cell? ⟨wr.heap.size, 3, none⟩ = some (.int .i64 t) := hP2.cell 3
        have rf3 : wb.frozen? ⟨wr.heap.size, 3, none⟩ = false := hP2.frozen 3
        have s0 : wb.cell? ⟨wa.heap.size, 0, none⟩ = some (.int .i64 x) := hW2.cell 0
        have sf0 : wb.frozen? ⟨wa.heap.size, 0, none⟩ = false := hW2.frozen 0
        have s1 : wb.cell? ⟨wa.heap.size, 1, none⟩ = some (.int .i64 y) := hW2.cell 1
        have sf1 : wb.frozen? ⟨wa.heap.size, 1, none⟩ = false := hW2.frozen 1
        have s2 : wb.cell? ⟨wa.heap.size, 2, none⟩ = some (.int .i64 z) := hW2.cell 2
        have sf2 : wb.frozen? ⟨wa.heap.size, 2, none⟩ = false := hW2.frozen 2
        go_wp2_with (at_mapUpdate; refine wpList_mapUpdate_own _ rfl (.tmp 46) (.tmp 47) (.tmp 49) 108 rfl 112 3 what_law Tryd.underlying108 _ (w.heap.size + 1) k D rfl hownB (by unfold maxLen; omega) _ _ _ rfl rfl hkey _ [] (plainElem_int Tryd.underlying3 hwp.2) ?_; intro w1 hown1 hgrow1)
        go_roundw
        case rel => exact ⟨k + 1, _, by omega, by go_num, hown1, HP.out, HO2.out, bB.grown hgrow1 bB.size (fun j hj => by cases hj; omega)⟩
        case measure => simp [intOf]; omega
      · clear hat hwf p1 p2 p3 p4 hO hlen hD
        generalize hpp : l[k] = p at *
        have hor : (look (l.take k) (keyP p)).isSome = true ∨ ((look (l.take k) (keyP p)).isSome = false ∧ ¬ okP p) := by
          rcases hcase with h | ⟨h, h2⟩
          · exact .inl h
          · exact .inr ⟨by rw [h]; rfl, h2⟩
        clear hcase hpp
        obtain ⟨x, y, z, t⟩ := p
        have hbs := hb.size
        have hkz : (k : Int) < (l.length : Int) := by omega
        unfold keyP at hor
        dsimp only at *
        generalize look (List.take k l) (x, y, z) = LK at *
        have hM := fun W => mayk_any x y z W
        rcases hor with hor | ⟨hor, hnok⟩
        all_goals rw [hor] at hhas
        · clear hM
          go_wp2_with fail
          refine (of_ok x y z t _).mono ?_
          rintro e wa ⟨rfl, hba⟩
          have hsa := hba.size
          simp at hsa
          have hP := (Blk.new wr 116 #[.int .i64 x, .int .i64 y, .int .i64 z, .int .i64 t]).below hba (by simp)
          have bA := (below_a1 _ _).step hba
          have hownA := (map_below hown (bA.alloc (by omega) (.cells #[.int .i64 x, .int .i64 y, .int .i64 z] 112)))
          have bA2 := (hb.trans (bA.mono hbs)).alloc (by omega) (.cells #[.int .i64 x, .int .i64 y, .int .i64 z] 112)
          clear hba
          go_wp2_with (at_lookup; refine wpList_lookup_own_ok_int _ rfl (.tmp 25) (.tmp 26) 108 rfl 112 3 .i64 what_law Tryd.underlying108 Tryd.underlying3 (zeroE _) (w.heap.size + 1) k D rfl hownA _ _ rfl hkey ?_; intro c0 hat0 hwc0)
          go_ret2
          exact .inr ⟨hno, rfl, bA2⟩
        · have h3 : (decide (mayK (x, y, z)) = false) ∨ (decide (mayK (x, y, z)) = true ∧ (t < 0 ∨ (¬ t < 0 ∧ 65535 < t))) := by
            by_cases hm : mayK (x, y, z)
            · refine .inr ⟨by simp [hm], ?_⟩
              unfold okP at hnok
              by_cases h0 : t < 0
              · exact .inl h0
              · refine .inr ⟨h0, ?_⟩
                by_cases h1 : 65535 < t
                · exact h1
                · exact absurd ⟨hm, by dsimp only; omega, by dsimp only; omega⟩ hnok
            · exact .inl (by simp [hm])
          clear hnok
          generalize decide (mayK (x, y, z)) = MB at *
          rcases h3 with rfl | ⟨rfl, h3 | ⟨h3, h4⟩⟩
          all_goals
            go_wp2_with fail
            refine (of_ok x y z t _).mono ?_
            rintro e wa ⟨rfl, hba⟩
            have hsa := hba.size
            simp at hsa
            have hP := (Blk.new wr 116 #[.int .i64 x, .int .i64 y, .int .i64 z, .int .i64 t]).below hba (by simp)
            have bA := (below_a1 _ _).step hba
            have hownA := (map_below hown (bA.alloc (by omega) (.cells #[.int .i64 x, .int .i64 y, .int .i64 z] 112)))
            have bA2 := (hb.trans (bA.mono hbs)).alloc (by omega) (.cells #[.int .i64 x, .int .i64 y, .int .i64 z] 112)
            clear hba
            go_wp2_with (at_lookup; refine wpList_lookup_own_ok_int _ rfl (.tmp 25) (.tmp 26) 108 rfl 112 3 .i64 what_law Tryd.underlying108 Tryd.underlying3 (zeroE _) (w.heap.size + 1) k D rfl hownA _ _ rfl hkey ?_; intro c0 hat0 hwc0)
            refine (hM _).mono ?_
            rintro e wb ⟨rfl, hbb⟩
            have hP2 := (hP.alloc (.cells #[.int .i64 x, .int .i64 y, .int .i64 z] 112)).below hbb (by simp; omega)
            have bB := bA2.trans (hbb.mono bA2.size)
            have n1 := hP2.lt
            clear hbb hownA bA2 hP hown hhas hat0 hM
            have r0 : wb.cell? ⟨wr.heap.size, 0, none⟩ = some (.int .i64 x) := hP2.cell 0
            have rf0 : wb.frozen? ⟨wr.heap.size, 0, none⟩ = false := hP2.frozen 0
            have r1 : wb.cell? ⟨wr.heap.size, 1, none⟩ = some (.int .i64 y) := hP2.cell 1
            have rf1 : wb.frozen? ⟨wr.heap.size, 1, none⟩ = false := hP2.frozen 1
            have r2 : wb.cell? ⟨wr.heap.size, 2, none⟩ = some (.int .i64 z) := hP2.cell 2
            have rf2 : wb.frozen? ⟨wr.heap.size, 2, none⟩ = false := hP2.frozen 2
            have r3 : wb.cell? ⟨wr.heap.size, 3, none⟩ = some (.int .i64 t) := hP2.cell 3
            have rf3 : wb.frozen? ⟨wr.heap.size, 3, none⟩ = false := hP2.frozen 3
            go_wp2
            go_ret2
            exact .inr ⟨hno, rfl, bB⟩
    · obtain rfl : k = l.length := by omega
      rw [List.take_length] at hD hO
      go_wp2
      go_ret2
      exact .inl ⟨hO, _, D, rfl, by omega, hown.mono h500, hD, hb⟩
set_option maxHeartbeats 1000000 in
theorem known_long (v : Value) (l : List Pr) (w : World) (hv : IsPs w v l) (h500 : 500 < l.length) :
    Calls Tryd.prog 48 #[.agg #[v]] w fun e w' => e = .returned (.tuple #[.map none, .bool false]) ∧ Below w.heap.size w w' := by
  obtain ⟨A, c, rfl, hc1, hc2, hwf, _⟩ := hv
  have h5 : 500 < (l.length : Int) := by omega
  clear hwf hc1
  generalize l.length = n at *
  go_enter Tryd.func48, Tryd.ntmps48
  go_wp2
  go_ret2
  exact ⟨rfl, below_a1 _ _⟩
/-- 'May' tells just whether an oracle may be. -/
theorem omay_any (v : Value) (l : List Pr) (w : World) (hv : IsPs w v l) :
    Calls Tryd.prog 34 #[.agg #[v]] w fun e w' => ∃ b : Bool, e = .returned (.bool b) ∧ (b = true → OOk l) ∧ (b = false → ¬ OOk l) ∧ Below w.heap.size w w' := by
  rcases Nat.lt_or_ge 500 l.length with h | h
  · have hk := fun W h2 => known_long v l W h2 h
    go_enter Tryd.func34, Tryd.ntmps34
    go_wp2_with fail
    refine (hk _ (hv.below (below_a1 _ _))).mono ?_
    rintro e wa ⟨rfl, hba⟩
    go_wp2
    go_ret
    exact ⟨false, rfl, by simp, fun _ hO => by have := hO.1; omega, (below_a1 _ _).step hba⟩
  · have hk := fun W h2 => known_any v l W h2 h
    go_enter Tryd.func34, Tryd.ntmps34
    go_wp2_with fail
    refine (hk _ (hv.below (below_a1 _ _))).mono ?_
    rintro e wa (⟨hO, g, D, rfl, hg, hown, hD, hba⟩ | ⟨hO, rfl, hba⟩)
    · go_wp2
      go_ret
      exact ⟨true, rfl, fun _ => hO, by simp, (below_a1 _ _).step hba⟩
    · go_wp2
      go_ret
      exact ⟨false, rfl, by simp, fun _ => hO, (below_a1 _ _).step hba⟩
end Go.Proofs.YtopnlkhepjbjkaaDoor
