/- The walk of the law PadUndo. -/
import Derived.Test.YthhbnmmhjfgpdaaDoorPadU
import Derived.Deep.RegionHeld3
import Derived.Deep.DeepCutAuto
namespace Go.Proofs.YthhbnmmhjfgpdaaDoor
open Go.RowKit
set_option linter.unusedVariables false
theorem kpress_digit (D : List Nat) (b : Bool) (r : Int) (v : Nat) (h : kv r = (v : Int)) (hl : D.length < 30) : kpress (D, b) r = ((D ++ [v], b), none) := by
  have n1 : ¬ (r = 32 ∨ r = 45 ∨ r = 160) := by rintro (h2 | h2 | h2) <;> (subst h2; revert h; unfold kv; simp; try omega)
  have n2 : ¬ r = 42 := by intro h2; subst h2; revert h; unfold kv; simp; try omega
  have n3 : ¬ r = 35 := by intro h2; subst h2; revert h; unfold kv; simp; try omega
  have n4 : ¬ (kv r < 0 ∨ D.length = 30) := by omega
  simp [kpress, n1, n2, n3, n4]
  omega
theorem i32_in {x : Int} (h0 : 0 ≤ x) (h1 : x ≤ 2147483647) : IntKind.i32.wrap x = x := by
  simp [IntKind.wrap_i32]; omega
theorem kpress_back (D : List Nat) (b : Bool) : kpress (D, b) 42 = ((D.dropLast, b), none) := by simp [kpress]
def RetQuiet (q : PadS) (w : World) (e : Ending) (w' : World) : Prop := ∃ (A : Option Addr) (c : Nat), e = .returned (.tuple #[.agg #[.string (dstr q.1), .bool q.2], .slice A 0 c, .int .i64 0]) ∧ Below w.heap.size w w'
theorem press_quiet (D : List Nat) (b : Bool) (hp : PadOk (D, b)) (r : Int) (w : World) (h0 : 0 ≤ r) (h1 : r ≤ 2147483647) (q : PadS) (hk : kpress (D, b) r = (q, none)) :
    Calls Tryd.prog 12 #[.agg #[.string (dstr D), .bool b], .int .i32 r] w (RetQuiet q w) := by
  have h := pressE_ok D b hp r w h0 h1
  rw [hk] at h
  exact h.mono fun e w' ⟨A, c, he, _, hb⟩ => ⟨A, c, he, hb⟩
set_option maxRecDepth 100000 in
set_option maxHeartbeats 4000000 in
theorem walk_padUndo (w : World) (a0 : Value) (w0 : Fit Tryd.prog w 22 a0) (a1 : Bool) (a2 : Bool) (a3 : Int) (w3 : (Lit.int .i64 a3).wf = true) (a4 : Int) (w4 : (Lit.int .i64 a4).wf = true) :
    Calls Tryd.prog 5 #[a0, .bool a1, .bool a2, .int .i64 a3, .int .i64 a4] w fun e w' => e = .returned (.bool true) ∧ Below w.heap.size w w' := by
  obtain ⟨k, hk, hk6⟩ := pk_nat a4 6 (by omega)
  obtain ⟨d, hd0, hd10⟩ := pk_nat a3 10 (by omega)
  have hd : Hid (pk a3 10 = (d : Int)) := hd0
  clear hd0
  have hSc := fun W => script_is a4 k W hk hk6 w4
  obtain ⟨hkv, _, hz0, hz1, hz2, hz3⟩ := zero6_kv k d hk6 (by omega)
  obtain ⟨z, hz⟩ : ∃ z, zero6 k = z := ⟨_, rfl⟩
  rw [hz] at hSc hkv hz0 hz1 hz2 hz3
  clear hz hk hk6
  have i1 : IntKind.i32.wrap (d : Int) = (d : Int) := i32_in (by omega) (by omega)
  have i2 : IntKind.i32.wrap (z + (d : Int)) = z + (d : Int) := i32_in (by omega) (by omega)
  have H := Mem.init w
  go_enter Tryd.func5, Tryd.ntmps5
  go_wp2_with fail
  refine (numerals_fit w0 29 (by omega) (by omega)).mono ?_
  rintro e wa ⟨ds, hpos, hlen, hdD, rfl, hba⟩
  replace H : Mem (w) [] (wa) [] := Mem.call H hba
  clear hba w0

  cases a1 with
  | false =>
    clear hpos
    go_wp2_with fail
    obtain ⟨Wd, hWd⟩ : ∃ Wd, (wa).alloc (.cells #[.string (dstr ds), .bool a2] 26) = Wd := ⟨_, rfl⟩
    replace H : Mem (w) [] _ [.blk (wa.heap.size) 26 #[.string (dstr ds), .bool a2]] := Mem.alloc H (wa.heap.size) (by first | (simp; done) | (simp; omega)) #[.string (dstr ds), .bool a2] 26
    rw [hWd] at H ⊢
    clear hWd
    have pp0 : (Wd).cell? ⟨wa.heap.size, 0, none⟩ = some (.string (dstr ds)) := (H.blk 0 rfl).cell 0
    have ppf0 : (Wd).frozen? ⟨wa.heap.size, 0, none⟩ = false := (H.blk 0 rfl).frozen 0
    have pp1 : (Wd).cell? ⟨wa.heap.size, 1, none⟩ = some (.bool a2) := (H.blk 0 rfl).cell 1
    have ppf1 : (Wd).frozen? ⟨wa.heap.size, 1, none⟩ = false := (H.blk 0 rfl).frozen 1
    have pplt : wa.heap.size < (Wd).heap.size := H.lt 0 rfl
    have hpq : PadOk (ds, a2) := ⟨by dsimp only; omega, hdD⟩
    have hP := fun W => press_quiet (ds) a2 hpq (z + (d : Int)) W (by omega) (by omega) ((ds ++ [d]), a2) (kpress_digit _ _ _ d hkv (by omega))
    have hpq2 : PadOk (ds ++ [d], a2) := ⟨by simp <;> omega, fun x hx => by
      rcases List.mem_append.1 hx with h | h
      · exact hdD x h
      · simp at h; omega⟩
    have hQ := fun W => press_quiet (ds ++ [d]) a2 hpq2 42 W (by omega) (by omega) (ds, a2) (by rw [kpress_back, List.dropLast_concat])
    have hne : ((dstr (ds ++ [d])).toList == (dstr (ds)).toList) = false := by
      rw [str_beq]
      simp only [decide_eq_false_iff_not]
      intro h
      have := congrArg ByteArray.size h
      rw [dstr_size, dstr_size] at this
      simp at this
    have hE := fun W => pad_eql (dstr (ds ++ [d])) (dstr (ds)) a2 a2 W
    have hE2 := fun W => pad_eql (dstr (ds)) (dstr (ds)) a2 a2 W
    rw [hne] at hE
    simp only [beq_self_eq_true, Bool.and_true] at hE hE2
    obtain ⟨S0, hS0⟩ : ∃ s, dstr (ds) = s := ⟨_, rfl⟩
    obtain ⟨S1, hS1⟩ : ∃ s, dstr (ds ++ [d]) = s := ⟨_, rfl⟩
    unfold RetQuiet at hP hQ
    dsimp only at hP hQ
    simp only [hS0, hS1] at hP hQ hE hE2
    rw [hS0] at H pp0
    clear hne hpq hpq2 hS0 hS1
    have outA : ∀ we, Below Wd.drew.heap.size Wd.drew we → Mem w [] (we.alloc (.cells #[.string S1, .bool a2] 26)) [.blk wa.heap.size 26 #[.string S0, .bool a2], .blk we.heap.size 26 #[.string S1, .bool a2]] := fun we hb => Mem.alloc (Mem.call (Mem.drew H) hb) _ rfl _ _
    have outB : ∀ we, Below (Wd.alloc (.cells #[.string ⟨#[]⟩, .bool false] 26)).drew.heap.size (Wd.alloc (.cells #[.string ⟨#[]⟩, .bool false] 26)).drew we → Mem w [] we [.blk wa.heap.size 26 #[.string S0, .bool a2], .blk Wd.heap.size 26 #[.string ⟨#[]⟩, .bool false]] := fun we hb => Mem.call (Mem.drew (Mem.alloc H _ rfl _ _)) hb
    have q0 : (Wd.alloc (.cells #[.string ⟨#[]⟩, .bool false] 26)).drew.cell? ⟨wa.heap.size, 0, none⟩ = some (.string S0) := ((Mem.drew (Mem.alloc H _ rfl #[.string ⟨#[]⟩, .bool false] 26)).blk 0 rfl).cell 0
    have q1 : (Wd.alloc (.cells #[.string ⟨#[]⟩, .bool false] 26)).drew.cell? ⟨wa.heap.size, 1, none⟩ = some (.bool a2) := ((Mem.drew (Mem.alloc H _ rfl #[.string ⟨#[]⟩, .bool false] 26)).blk 0 rfl).cell 1
    have nn : wa.heap.size ≠ Wd.heap.size := Nat.ne_of_lt pplt
    have nn' : Wd.heap.size ≠ wa.heap.size := Ne.symm nn
    go_upto_region 4 with fail
    go_cut [12, 13, 14] (fun p A e wx => ∃ gt A' c', p = .pointer (some ⟨gt, 0, none⟩) ∧ A = .slice A' 0 c' ∧ e = .int .i64 0 ∧ Mem w [] wx [.blk wa.heap.size 26 #[.string S0, .bool a2], .blk gt 26 #[.string S1, .bool a2]])
    case first =>
      go_region_held3 (fun w' => w'.cell? ⟨wa.heap.size, 0, none⟩ = some (.string S0) ∧ w'.cell? ⟨wa.heap.size, 1, none⟩ = some (.bool a2)) (first | with_reducible exact ⟨c0, c1⟩ | go_keep | fail) (first | (go_at_call 11; (with_reducible refine (hSc _).mono ?_); rintro e w' ⟨rfl, rfl⟩) | (go_at_call 13; (with_reducible refine (picked_is _ hd w3 (by omega) (by omega)).mono ?_); rintro e w' ⟨rfl, rfl⟩) | (go_at_call 12; (with_reducible refine (hP (Wd).drew).mono ?_); rintro e we ⟨A', c', rfl, hbe⟩; have c0 := (hbe.cell (p := ⟨wa.heap.size, 0, none⟩) pplt).trans pp0; have c1 := (hbe.cell (p := ⟨wa.heap.size, 1, none⟩) pplt).trans pp1; have hO := outA we hbe) | (go_at_call 12; (with_reducible refine (hP (Wd.alloc (.cells #[.string ⟨#[]⟩, .bool false] 26)).drew).mono ?_); rintro e we ⟨A', c', rfl, hbe⟩; have hO := outB we hbe; have c0 := (hO.blk 0 rfl).cell 0; have c1 := (hO.blk 0 rfl).cell 1; have y0 : we.cell? ⟨Wd.heap.size, 0, none⟩ = some (.string ⟨#[]⟩) := (hO.blk 1 rfl).cell 0; have y1 : we.cell? ⟨Wd.heap.size, 1, none⟩ = some (.bool false) := (hO.blk 1 rfl).cell 1; have yf0 : we.frozen? ⟨Wd.heap.size, 0, none⟩ = false := (hO.blk 1 rfl).frozen 0; have yf1 : we.frozen? ⟨Wd.heap.size, 1, none⟩ = false := (hO.blk 1 rfl).frozen 1; have ylt := hO.lt 1 rfl))
      all_goals
        go_wp2_with fail
        go_meet
        first
        | exact ⟨_, _, _, rfl, rfl, rfl, hO⟩
        | exact ⟨_, _, _, rfl, rfl, rfl, Mem.set 1 (Mem.set 1 hO rfl 0 (.string S1)) rfl 1 (.bool a2)⟩
    case rest =>
      obtain ⟨gt, A', c', rfl, rfl, rfl, HM⟩ := hcut
      have H : Mem (w) [] (wc) [.blk (wa.heap.size) 26 #[.string S0, .bool a2], .blk (gt) 26 #[.string S1, .bool a2]] := HM
      clear HM outA outB q0 q1 hP
      clear pp0 ppf0 pp1 ppf1 pplt
      have pp0 : (wc).cell? ⟨wa.heap.size, 0, none⟩ = some (.string S0) := (H.blk 0 rfl).cell 0
      have ppf0 : (wc).frozen? ⟨wa.heap.size, 0, none⟩ = false := (H.blk 0 rfl).frozen 0
      have pp1 : (wc).cell? ⟨wa.heap.size, 1, none⟩ = some (.bool a2) := (H.blk 0 rfl).cell 1
      have ppf1 : (wc).frozen? ⟨wa.heap.size, 1, none⟩ = false := (H.blk 0 rfl).frozen 1
      have pplt : wa.heap.size < (wc).heap.size := H.lt 0 rfl
      have qq0 : (wc).cell? ⟨gt, 0, none⟩ = some (.string S1) := (H.blk 1 rfl).cell 0
      have qqf0 : (wc).frozen? ⟨gt, 0, none⟩ = false := (H.blk 1 rfl).frozen 0
      have qq1 : (wc).cell? ⟨gt, 1, none⟩ = some (.bool a2) := (H.blk 1 rfl).cell 1
      have qqf1 : (wc).frozen? ⟨gt, 1, none⟩ = false := (H.blk 1 rfl).frozen 1
      have qqlt : gt < (wc).heap.size := H.lt 1 rfl
      have ne_pp_qq : wa.heap.size ≠ gt := H.ne 0 1 rfl rfl (by decide)
      have ne_qq_pp : gt ≠ wa.heap.size := H.ne 1 0 rfl rfl (by decide)
      go_wp2_with fail
      refine (hQ _).mono ?_
      rintro e wf ⟨A2, c2, rfl, hbf⟩
      replace H : Mem (w) [] (wf) [.blk (wa.heap.size) 26 #[.string S0, .bool a2], .blk (gt) 26 #[.string S1, .bool a2]] := Mem.call H hbf
      clear hbf hQ
      replace H : Mem (w) [] _ [.blk (wa.heap.size) 26 #[.string S0, .bool a2], .blk (gt) 26 #[.string S1, .bool a2], .blk (wf.heap.size) 26 #[.string S0, .bool a2]] := Mem.alloc H (wf.heap.size) (by first | (simp; done) | (simp; omega)) #[.string S0, .bool a2] 26
      clear pp0 ppf0 pp1 ppf1 pplt qq0 qqf0 qq1 qqf1 qqlt ne_pp_qq ne_qq_pp
      have pp0 : ((wf).alloc (.cells #[.string S0, .bool a2] 26)).cell? ⟨wa.heap.size, 0, none⟩ = some (.string S0) := (H.blk 0 rfl).cell 0
      have ppf0 : ((wf).alloc (.cells #[.string S0, .bool a2] 26)).frozen? ⟨wa.heap.size, 0, none⟩ = false := (H.blk 0 rfl).frozen 0
      have pp1 : ((wf).alloc (.cells #[.string S0, .bool a2] 26)).cell? ⟨wa.heap.size, 1, none⟩ = some (.bool a2) := (H.blk 0 rfl).cell 1
      have ppf1 : ((wf).alloc (.cells #[.string S0, .bool a2] 26)).frozen? ⟨wa.heap.size, 1, none⟩ = false := (H.blk 0 rfl).frozen 1
      have pplt : wa.heap.size < ((wf).alloc (.cells #[.string S0, .bool a2] 26)).heap.size := H.lt 0 rfl
      have qq0 : ((wf).alloc (.cells #[.string S0, .bool a2] 26)).cell? ⟨gt, 0, none⟩ = some (.string S1) := (H.blk 1 rfl).cell 0
      have qqf0 : ((wf).alloc (.cells #[.string S0, .bool a2] 26)).frozen? ⟨gt, 0, none⟩ = false := (H.blk 1 rfl).frozen 0
      have qq1 : ((wf).alloc (.cells #[.string S0, .bool a2] 26)).cell? ⟨gt, 1, none⟩ = some (.bool a2) := (H.blk 1 rfl).cell 1
      have qqf1 : ((wf).alloc (.cells #[.string S0, .bool a2] 26)).frozen? ⟨gt, 1, none⟩ = false := (H.blk 1 rfl).frozen 1
      have qqlt : gt < ((wf).alloc (.cells #[.string S0, .bool a2] 26)).heap.size := H.lt 1 rfl
      have rr0 : ((wf).alloc (.cells #[.string S0, .bool a2] 26)).cell? ⟨wf.heap.size, 0, none⟩ = some (.string S0) := (H.blk 2 rfl).cell 0
      have rrf0 : ((wf).alloc (.cells #[.string S0, .bool a2] 26)).frozen? ⟨wf.heap.size, 0, none⟩ = false := (H.blk 2 rfl).frozen 0
      have rr1 : ((wf).alloc (.cells #[.string S0, .bool a2] 26)).cell? ⟨wf.heap.size, 1, none⟩ = some (.bool a2) := (H.blk 2 rfl).cell 1
      have rrf1 : ((wf).alloc (.cells #[.string S0, .bool a2] 26)).frozen? ⟨wf.heap.size, 1, none⟩ = false := (H.blk 2 rfl).frozen 1
      have rrlt : wf.heap.size < ((wf).alloc (.cells #[.string S0, .bool a2] 26)).heap.size := H.lt 2 rfl
      have ne_pp_qq : wa.heap.size ≠ gt := H.ne 0 1 rfl rfl (by decide)
      have ne_pp_rr : wa.heap.size ≠ wf.heap.size := H.ne 0 2 rfl rfl (by decide)
      have ne_qq_pp : gt ≠ wa.heap.size := H.ne 1 0 rfl rfl (by decide)
      have ne_qq_rr : gt ≠ wf.heap.size := H.ne 1 2 rfl rfl (by decide)
      have ne_rr_pp : wf.heap.size ≠ wa.heap.size := H.ne 2 0 rfl rfl (by decide)
      have ne_rr_qq : wf.heap.size ≠ gt := H.ne 2 1 rfl rfl (by decide)
      go_wp2
      go_ret
      exact ⟨rfl, H.below⟩
  | true =>
    skip
    clear hpos hlen hdD
    have hdD : ∀ x ∈ ([] : List Nat), x ≤ 9 := by simp
    have hlen : ([] : List Nat).length ≤ 29 := by simp
    go_wp2_with fail
    obtain ⟨Wd, hWd⟩ : ∃ Wd, (wa).alloc (.cells #[.string ⟨#[]⟩, .bool a2] 26) = Wd := ⟨_, rfl⟩
    replace H : Mem (w) [] _ [.blk (wa.heap.size) 26 #[.string ⟨#[]⟩, .bool a2]] := Mem.alloc H (wa.heap.size) (by first | (simp; done) | (simp; omega)) #[.string ⟨#[]⟩, .bool a2] 26
    rw [hWd] at H ⊢
    clear hWd
    have H : Mem (w) [] (Wd) [.blk (wa.heap.size) 26 #[.string (dstr []), .bool a2]] := H
    have pp0 : (Wd).cell? ⟨wa.heap.size, 0, none⟩ = some (.string (dstr [])) := (H.blk 0 rfl).cell 0
    have ppf0 : (Wd).frozen? ⟨wa.heap.size, 0, none⟩ = false := (H.blk 0 rfl).frozen 0
    have pp1 : (Wd).cell? ⟨wa.heap.size, 1, none⟩ = some (.bool a2) := (H.blk 0 rfl).cell 1
    have ppf1 : (Wd).frozen? ⟨wa.heap.size, 1, none⟩ = false := (H.blk 0 rfl).frozen 1
    have pplt : wa.heap.size < (Wd).heap.size := H.lt 0 rfl
    have hpq : PadOk ([], a2) := ⟨by dsimp only; omega, hdD⟩
    have hP := fun W => press_quiet ([]) a2 hpq (z + (d : Int)) W (by omega) (by omega) (([] ++ [d]), a2) (kpress_digit _ _ _ d hkv (by omega))
    have hpq2 : PadOk ([] ++ [d], a2) := ⟨by simp <;> omega, fun x hx => by
      rcases List.mem_append.1 hx with h | h
      · exact hdD x h
      · simp at h; omega⟩
    have hQ := fun W => press_quiet ([] ++ [d]) a2 hpq2 42 W (by omega) (by omega) ([], a2) (by rw [kpress_back, List.dropLast_concat])
    have hne : ((dstr ([] ++ [d])).toList == (dstr ([])).toList) = false := by
      rw [str_beq]
      simp only [decide_eq_false_iff_not]
      intro h
      have := congrArg ByteArray.size h
      rw [dstr_size, dstr_size] at this
      simp at this
    have hE := fun W => pad_eql (dstr ([] ++ [d])) (dstr ([])) a2 a2 W
    have hE2 := fun W => pad_eql (dstr ([])) (dstr ([])) a2 a2 W
    rw [hne] at hE
    simp only [beq_self_eq_true, Bool.and_true] at hE hE2
    obtain ⟨S0, hS0⟩ : ∃ s, dstr ([]) = s := ⟨_, rfl⟩
    obtain ⟨S1, hS1⟩ : ∃ s, dstr ([] ++ [d]) = s := ⟨_, rfl⟩
    unfold RetQuiet at hP hQ
    dsimp only at hP hQ
    simp only [hS0, hS1] at hP hQ hE hE2
    rw [hS0] at H pp0
    clear hne hpq hpq2 hS0 hS1
    have outA : ∀ we, Below Wd.drew.heap.size Wd.drew we → Mem w [] (we.alloc (.cells #[.string S1, .bool a2] 26)) [.blk wa.heap.size 26 #[.string S0, .bool a2], .blk we.heap.size 26 #[.string S1, .bool a2]] := fun we hb => Mem.alloc (Mem.call (Mem.drew H) hb) _ rfl _ _
    have outB : ∀ we, Below (Wd.alloc (.cells #[.string ⟨#[]⟩, .bool false] 26)).drew.heap.size (Wd.alloc (.cells #[.string ⟨#[]⟩, .bool false] 26)).drew we → Mem w [] we [.blk wa.heap.size 26 #[.string S0, .bool a2], .blk Wd.heap.size 26 #[.string ⟨#[]⟩, .bool false]] := fun we hb => Mem.call (Mem.drew (Mem.alloc H _ rfl _ _)) hb
    have q0 : (Wd.alloc (.cells #[.string ⟨#[]⟩, .bool false] 26)).drew.cell? ⟨wa.heap.size, 0, none⟩ = some (.string S0) := ((Mem.drew (Mem.alloc H _ rfl #[.string ⟨#[]⟩, .bool false] 26)).blk 0 rfl).cell 0
    have q1 : (Wd.alloc (.cells #[.string ⟨#[]⟩, .bool false] 26)).drew.cell? ⟨wa.heap.size, 1, none⟩ = some (.bool a2) := ((Mem.drew (Mem.alloc H _ rfl #[.string ⟨#[]⟩, .bool false] 26)).blk 0 rfl).cell 1
    have nn : wa.heap.size ≠ Wd.heap.size := Nat.ne_of_lt pplt
    have nn' : Wd.heap.size ≠ wa.heap.size := Ne.symm nn
    go_upto_region 4 with fail
    go_cut [12, 13, 14] (fun p A e wx => ∃ gt A' c', p = .pointer (some ⟨gt, 0, none⟩) ∧ A = .slice A' 0 c' ∧ e = .int .i64 0 ∧ Mem w [] wx [.blk wa.heap.size 26 #[.string S0, .bool a2], .blk gt 26 #[.string S1, .bool a2]])
    case first =>
      go_region_held3 (fun w' => w'.cell? ⟨wa.heap.size, 0, none⟩ = some (.string S0) ∧ w'.cell? ⟨wa.heap.size, 1, none⟩ = some (.bool a2)) (first | with_reducible exact ⟨c0, c1⟩ | go_keep | fail) (first | (go_at_call 11; (with_reducible refine (hSc _).mono ?_); rintro e w' ⟨rfl, rfl⟩) | (go_at_call 13; (with_reducible refine (picked_is _ hd w3 (by omega) (by omega)).mono ?_); rintro e w' ⟨rfl, rfl⟩) | (go_at_call 12; (with_reducible refine (hP (Wd).drew).mono ?_); rintro e we ⟨A', c', rfl, hbe⟩; have c0 := (hbe.cell (p := ⟨wa.heap.size, 0, none⟩) pplt).trans pp0; have c1 := (hbe.cell (p := ⟨wa.heap.size, 1, none⟩) pplt).trans pp1; have hO := outA we hbe) | (go_at_call 12; (with_reducible refine (hP (Wd.alloc (.cells #[.string ⟨#[]⟩, .bool false] 26)).drew).mono ?_); rintro e we ⟨A', c', rfl, hbe⟩; have hO := outB we hbe; have c0 := (hO.blk 0 rfl).cell 0; have c1 := (hO.blk 0 rfl).cell 1; have y0 : we.cell? ⟨Wd.heap.size, 0, none⟩ = some (.string ⟨#[]⟩) := (hO.blk 1 rfl).cell 0; have y1 : we.cell? ⟨Wd.heap.size, 1, none⟩ = some (.bool false) := (hO.blk 1 rfl).cell 1; have yf0 : we.frozen? ⟨Wd.heap.size, 0, none⟩ = false := (hO.blk 1 rfl).frozen 0; have yf1 : we.frozen? ⟨Wd.heap.size, 1, none⟩ = false := (hO.blk 1 rfl).frozen 1; have ylt := hO.lt 1 rfl))
      all_goals
        go_wp2_with fail
        go_meet
        first
        | exact ⟨_, _, _, rfl, rfl, rfl, hO⟩
        | exact ⟨_, _, _, rfl, rfl, rfl, Mem.set 1 (Mem.set 1 hO rfl 0 (.string S1)) rfl 1 (.bool a2)⟩
    case rest =>
      obtain ⟨gt, A', c', rfl, rfl, rfl, HM⟩ := hcut
      have H : Mem (w) [] (wc) [.blk (wa.heap.size) 26 #[.string S0, .bool a2], .blk (gt) 26 #[.string S1, .bool a2]] := HM
      clear HM outA outB q0 q1 hP
      clear pp0 ppf0 pp1 ppf1 pplt
      have pp0 : (wc).cell? ⟨wa.heap.size, 0, none⟩ = some (.string S0) := (H.blk 0 rfl).cell 0
      have ppf0 : (wc).frozen? ⟨wa.heap.size, 0, none⟩ = false := (H.blk 0 rfl).frozen 0
      have pp1 : (wc).cell? ⟨wa.heap.size, 1, none⟩ = some (.bool a2) := (H.blk 0 rfl).cell 1
      have ppf1 : (wc).frozen? ⟨wa.heap.size, 1, none⟩ = false := (H.blk 0 rfl).frozen 1
      have pplt : wa.heap.size < (wc).heap.size := H.lt 0 rfl
      have qq0 : (wc).cell? ⟨gt, 0, none⟩ = some (.string S1) := (H.blk 1 rfl).cell 0
      have qqf0 : (wc).frozen? ⟨gt, 0, none⟩ = false := (H.blk 1 rfl).frozen 0
      have qq1 : (wc).cell? ⟨gt, 1, none⟩ = some (.bool a2) := (H.blk 1 rfl).cell 1
      have qqf1 : (wc).frozen? ⟨gt, 1, none⟩ = false := (H.blk 1 rfl).frozen 1
      have qqlt : gt < (wc).heap.size := H.lt 1 rfl
      have ne_pp_qq : wa.heap.size ≠ gt := H.ne 0 1 rfl rfl (by decide)
      have ne_qq_pp : gt ≠ wa.heap.size := H.ne 1 0 rfl rfl (by decide)
      go_wp2_with fail
      refine (hQ _).mono ?_
      rintro e wf ⟨A2, c2, rfl, hbf⟩
      replace H : Mem (w) [] (wf) [.blk (wa.heap.size) 26 #[.string S0, .bool a2], .blk (gt) 26 #[.string S1, .bool a2]] := Mem.call H hbf
      clear hbf hQ
      replace H : Mem (w) [] _ [.blk (wa.heap.size) 26 #[.string S0, .bool a2], .blk (gt) 26 #[.string S1, .bool a2], .blk (wf.heap.size) 26 #[.string S0, .bool a2]] := Mem.alloc H (wf.heap.size) (by first | (simp; done) | (simp; omega)) #[.string S0, .bool a2] 26
      clear pp0 ppf0 pp1 ppf1 pplt qq0 qqf0 qq1 qqf1 qqlt ne_pp_qq ne_qq_pp
      have pp0 : ((wf).alloc (.cells #[.string S0, .bool a2] 26)).cell? ⟨wa.heap.size, 0, none⟩ = some (.string S0) := (H.blk 0 rfl).cell 0
      have ppf0 : ((wf).alloc (.cells #[.string S0, .bool a2] 26)).frozen? ⟨wa.heap.size, 0, none⟩ = false := (H.blk 0 rfl).frozen 0
      have pp1 : ((wf).alloc (.cells #[.string S0, .bool a2] 26)).cell? ⟨wa.heap.size, 1, none⟩ = some (.bool a2) := (H.blk 0 rfl).cell 1
      have ppf1 : ((wf).alloc (.cells #[.string S0, .bool a2] 26)).frozen? ⟨wa.heap.size, 1, none⟩ = false := (H.blk 0 rfl).frozen 1
      have pplt : wa.heap.size < ((wf).alloc (.cells #[.string S0, .bool a2] 26)).heap.size := H.lt 0 rfl
      have qq0 : ((wf).alloc (.cells #[.string S0, .bool a2] 26)).cell? ⟨gt, 0, none⟩ = some (.string S1) := (H.blk 1 rfl).cell 0
      have qqf0 : ((wf).alloc (.cells #[.string S0, .bool a2] 26)).frozen? ⟨gt, 0, none⟩ = false := (H.blk 1 rfl).frozen 0
      have qq1 : ((wf).alloc (.cells #[.string S0, .bool a2] 26)).cell? ⟨gt, 1, none⟩ = some (.bool a2) := (H.blk 1 rfl).cell 1
      have qqf1 : ((wf).alloc (.cells #[.string S0, .bool a2] 26)).frozen? ⟨gt, 1, none⟩ = false := (H.blk 1 rfl).frozen 1
      have qqlt : gt < ((wf).alloc (.cells #[.string S0, .bool a2] 26)).heap.size := H.lt 1 rfl
      have rr0 : ((wf).alloc (.cells #[.string S0, .bool a2] 26)).cell? ⟨wf.heap.size, 0, none⟩ = some (.string S0) := (H.blk 2 rfl).cell 0
      have rrf0 : ((wf).alloc (.cells #[.string S0, .bool a2] 26)).frozen? ⟨wf.heap.size, 0, none⟩ = false := (H.blk 2 rfl).frozen 0
      have rr1 : ((wf).alloc (.cells #[.string S0, .bool a2] 26)).cell? ⟨wf.heap.size, 1, none⟩ = some (.bool a2) := (H.blk 2 rfl).cell 1
      have rrf1 : ((wf).alloc (.cells #[.string S0, .bool a2] 26)).frozen? ⟨wf.heap.size, 1, none⟩ = false := (H.blk 2 rfl).frozen 1
      have rrlt : wf.heap.size < ((wf).alloc (.cells #[.string S0, .bool a2] 26)).heap.size := H.lt 2 rfl
      have ne_pp_qq : wa.heap.size ≠ gt := H.ne 0 1 rfl rfl (by decide)
      have ne_pp_rr : wa.heap.size ≠ wf.heap.size := H.ne 0 2 rfl rfl (by decide)
      have ne_qq_pp : gt ≠ wa.heap.size := H.ne 1 0 rfl rfl (by decide)
      have ne_qq_rr : gt ≠ wf.heap.size := H.ne 1 2 rfl rfl (by decide)
      have ne_rr_pp : wf.heap.size ≠ wa.heap.size := H.ne 2 0 rfl rfl (by decide)
      have ne_rr_qq : wf.heap.size ≠ gt := H.ne 2 1 rfl rfl (by decide)
      go_wp2
      go_ret
      exact ⟨rfl, H.below⟩
end Go.Proofs.YthhbnmmhjfgpdaaDoor
