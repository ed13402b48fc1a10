/- keypad.Keys, Press. -/
import Derived.Test.YthhbnmmhjfgpdaaDoorPad
namespace Go.Proofs.YthhbnmmhjfgpdaaDoor
open Go.RowKit
set_option linter.unusedVariables false
theorem el_ent : Elem Tryd.prog 24 31 2 24 := elem_of Tryd.underlying24 (show _ = some (some (.agg #[.string ⟨#[]⟩, .int .i64 0]), 2, 24) by kernel_rfl) rfl (by omega)
/-- Entries as cells. -/
def entsV (es : List EntS) : List Value := es.flatMap fun e => [.string (dstr e.1), .int .i64 (e.2 : Int)]
theorem entsV_snoc (es : List EntS) (e : EntS) : entsV es ++ [.string (dstr e.1), .int .i64 (e.2 : Int)] = entsV (es ++ [e]) := by simp [entsV]
theorem retpress_none {D : List Nat} {b : Bool} {w : World} {e : Ending} {w' : World} (h : RetPress (D, b) none w e w') : e = .returned (.tuple #[.agg #[.string (dstr D), .bool b], .pointer none]) ∧ Below w.heap.size w w' := h
theorem retpress_some {D T : List Nat} {b : Bool} {c : Nat} {w : World} {e : Ending} {w' : World} (h : RetPress (D, b) (some (T, c)) w e w') : ∃ g, e = .returned (.tuple #[.agg #[.string (dstr D), .bool b], .pointer (some ⟨g, 0, none⟩)]) ∧ Mem w [] w' [.blk g 31 #[.string (dstr T), .int .i64 (c : Int)]] := h
theorem press_at (D : List Nat) (b : Bool) (hp : PadOk (D, b)) (r : Int) (w : World) (h0 : 0 ≤ r) (h1 : r ≤ 2147483647) :
    Calls Tryd.prog 18 #[.agg #[.string (dstr D), .bool b], .int .i32 r] w (RetPress (kpress (D, b) r).1 (kpress (D, b) r).2 w) := press_ok (D, b) hp r w h0 h1
/-- The entries, the pad behind them. -/
def RetKeys (x : PadS × List EntS) (w : World) (e : Ending) (w' : World) : Prop :=
  ∃ (A : Option Addr) (c : Nat), e = .returned (.tuple #[.slice A x.2.length c, padv x.1, .int .i64 0]) ∧ w'.ownsRow w.heap.size 31 2 (.slice A x.2.length c) x.2.length (entsV x.2) ∧ Below w.heap.size w w'
set_option maxRecDepth 100000 in
set_option maxHeartbeats 1000000 in
theorem keys_told (s : ByteArray) (R : List Nat) (w : World) (hT : Told s 0 R) (hs : s.size ≤ 2000) :
    Calls Tryd.prog 10 #[.string s] w (RetKeys (kkeys (R.map fun (n : Nat) => (n : Int)) (([], false), [])) w) := by
  obtain ⟨X, hX⟩ : ∃ X, kkeys (R.map fun (n : Nat) => (n : Int)) (([], false), []) = X := ⟨_, rfl⟩
  have HX := Lib.hid hX
  rw [hX]
  clear hX
  have hsI : ¬ (2000 : Int) < (s.size : Int) := by omega
  have hnil : dstr [] = ⟨#[]⟩ := rfl
  have H := Mem.init w
  replace H : Mem (w) [] _ [.blk (w.heap.size) 26 #[.string (dstr []), .bool false]] := Mem.alloc H (w.heap.size) (by first | (simp; done) | (simp; omega)) #[.string (dstr []), .bool false] 26
  replace H : Mem (w) [] _ [.blk (w.heap.size) 26 #[.string (dstr []), .bool false], .blk (w.heap.size + 1) 26 #[.string (dstr []), .bool false]] := Mem.alloc H (w.heap.size + 1) (by first | (simp; done) | (simp; omega)) #[.string (dstr []), .bool false] 26
  replace H : Mem (w) [] _ [.blk (w.heap.size) 26 #[.string (dstr []), .bool false], .blk (w.heap.size + 1) 26 #[.string (dstr []), .bool false], .obj (w.heap.size + 1 + 1) (.stringIter (s) 0)] := Mem.iter H (w.heap.size + 1 + 1) (by first | (simp; done) | (simp; omega)) (s)
  go_enter Tryd.func10, Tryd.ntmps10
  go_wp2
  clear hsI
  go_loopw [6] (fun v wr => ∃ (j : Nat) (R2 : List Nat) (D : List Nat) (b : Bool) (es : List EntS) (A : Option Addr) (c : Nat), Told s j R2 ∧ Hid (kkeys (R2.map fun (n : Nat) => (n : Int)) ((D, b), es) = X) ∧ PadOk (D, b) ∧ es.length ≤ j ∧ v = .slice A es.length c ∧ Mem w [] wr [.blk w.heap.size 26 #[.string (dstr []), .bool false], .blk (w.heap.size + 1) 26 #[.string (dstr D), .bool b], .obj (w.heap.size + 1 + 1) (.stringIter s j), .row w.heap.size 31 2 (.slice A es.length c) es.length (entsV es)]) (fun _ wr => s.size - wr.iterPos (w.heap.size + 1 + 1))
  case atStart => exact ⟨0, R, [], false, [], none, 0, hT, HX, ⟨by simp, by simp⟩, by simp, rfl, H.nilrow _ _ _⟩
  case round =>
    obtain ⟨j, R2, D, b, es, A, c, hTj, hk, hp, hel, rfl, HM⟩ := hrel
    clear H hT HX
    obtain ⟨n, hn⟩ : ∃ n, es.length = n := ⟨_, rfl⟩
    rw [hn] at HM hel ⊢
    have HN := Lib.hid hn
    clear hn
    have H : Mem (w) [] (wr) [.blk (w.heap.size) 26 #[.string (dstr []), .bool false], .blk (w.heap.size + 1) 26 #[.string (dstr D), .bool b], .obj (w.heap.size + 1 + 1) (.stringIter s j), .row (w.heap.size) (31) (2) (.slice A n c) (n) (entsV es)] := HM
    clear HM
    have hit := H.obj_ 2 rfl

    cases R2 with
    | nil =>
      have hnx := fun ty => Lib.run_next_end_at (P := Tryd.prog) wr (w.heap.size + 1 + 1) s j ty hit (Nat.not_lt.2 hTj)
      have hk2 : ((D, b), es) = X := hk.out
      clear hit hk hTj
      have rs0 : (wr).cell? ⟨w.heap.size, 0, none⟩ = some (.string (dstr [])) := (H.blk 0 rfl).cell 0
      have rsf0 : (wr).frozen? ⟨w.heap.size, 0, none⟩ = false := (H.blk 0 rfl).frozen 0
      have rs1 : (wr).cell? ⟨w.heap.size, 1, none⟩ = some (.bool false) := (H.blk 0 rfl).cell 1
      have rsf1 : (wr).frozen? ⟨w.heap.size, 1, none⟩ = false := (H.blk 0 rfl).frozen 1
      have rslt : w.heap.size < (wr).heap.size := H.lt 0 rfl
      have pv0 : (wr).cell? ⟨w.heap.size + 1, 0, none⟩ = some (.string (dstr D)) := (H.blk 1 rfl).cell 0
      have pvf0 : (wr).frozen? ⟨w.heap.size + 1, 0, none⟩ = false := (H.blk 1 rfl).frozen 0
      have pv1 : (wr).cell? ⟨w.heap.size + 1, 1, none⟩ = some (.bool b) := (H.blk 1 rfl).cell 1
      have pvf1 : (wr).frozen? ⟨w.heap.size + 1, 1, none⟩ = false := (H.blk 1 rfl).frozen 1
      have pvlt : w.heap.size + 1 < (wr).heap.size := H.lt 1 rfl
      have ne_rs_pv : w.heap.size ≠ w.heap.size + 1 := H.ne 0 1 rfl rfl (by decide)
      have ne_pv_rs : w.heap.size + 1 ≠ w.heap.size := H.ne 1 0 rfl rfl (by decide)
      go_wp2
      go_region
      go_wp2
      obtain ⟨wz, hwz⟩ : ∃ wz, (((wr).setCell ⟨w.heap.size, 0, none⟩ (.string (dstr D))).setCell ⟨w.heap.size, 1, none⟩ (.bool b)).drew = wz := ⟨_, rfl⟩
      replace H : Mem (w) [] _ [.blk (w.heap.size) 26 #[.string (dstr D), .bool false], .blk (w.heap.size + 1) 26 #[.string (dstr D), .bool b], .obj (w.heap.size + 1 + 1) (.stringIter s j), .row (w.heap.size) (31) (2) (.slice A n c) (n) (entsV es)] := Mem.set 0 H rfl 0 (.string (dstr D))
      replace H : Mem (w) [] _ [.blk (w.heap.size) 26 #[.string (dstr D), .bool b], .blk (w.heap.size + 1) 26 #[.string (dstr D), .bool b], .obj (w.heap.size + 1 + 1) (.stringIter s j), .row (w.heap.size) (31) (2) (.slice A n c) (n) (entsV es)] := Mem.set 0 H rfl 1 (.bool b)
      replace H := H.drew
      rw [hwz] at H ⊢
      clear hwz
      clear rs0 rsf0 rs1 rsf1 rslt pv0 pvf0 pv1 pvf1 pvlt ne_rs_pv ne_pv_rs
      have rs0 : (wz).cell? ⟨w.heap.size, 0, none⟩ = some (.string (dstr D)) := (H.blk 0 rfl).cell 0
      have rsf0 : (wz).frozen? ⟨w.heap.size, 0, none⟩ = false := (H.blk 0 rfl).frozen 0
      have rs1 : (wz).cell? ⟨w.heap.size, 1, none⟩ = some (.bool b) := (H.blk 0 rfl).cell 1
      have rsf1 : (wz).frozen? ⟨w.heap.size, 1, none⟩ = false := (H.blk 0 rfl).frozen 1
      have rslt : w.heap.size < (wz).heap.size := H.lt 0 rfl
      refine bodyPost_ret (v := .tuple #[.slice A n c, padv (D, b), .int .i64 0]) (by simp [results, Tryd.results10, go_sem, rs0, rs1, padv]; done) rfl ?_
      subst hk2
      exact ⟨A, c, by simp only [HN.out], by simp only [HN.out]; exact H.ownb 3 rfl, H.below⟩
    | cons r R2 =>
      skip
      obtain ⟨hj, hr, hT2⟩ := hTj
      have hr2 := decode_le s j
      have hm := dec_pos s j hj
      have hnx := fun ty => Lib.run_next_any_at (P := Tryd.prog) wr (w.heap.size + 1 + 1) s j ty hit hj
      obtain ⟨m, hmm⟩ : ∃ m, (Utf8.decode s j).2 = m := ⟨_, rfl⟩
      rw [hr, hmm] at hnx
      rw [hr] at hr2
      rw [hmm] at hT2 hm
      have HIT := Lib.hid hit
      have HJ := Lib.hid hj
      have HM2 := Lib.hid hm
      have HT2 := Lib.hid hT2
      obtain ⟨⟨D', b'⟩, hq⟩ : ∃ q, (kpress (D, b) (r : Int)).1 = q := ⟨_, rfl⟩
      obtain ⟨o, ho⟩ : ∃ o, (kpress (D, b) (r : Int)).2 = o := ⟨_, rfl⟩
      have hP := fun W => press_at D b hp (r : Int) W (by omega) (by omega)
      have hp2 : PadOk (D', b') := by rw [← hq]; exact kpress_ok hp _
      have hk2 : Hid (kkeys (R2.map fun (n : Nat) => (n : Int)) ((D', b'), es ++ o.toList) = X) := by
        have h := hk.out
        rw [List.map_cons] at h
        rw [← hq, ← ho]
        exact h
      have HP2 := Lib.hid hp2
      rw [hq, ho] at hP
      clear hq ho hk hp hit hr hmm hj hm hT2 hp2
      replace H : Mem (w) [] _ [.blk (w.heap.size) 26 #[.string (dstr []), .bool false], .blk (w.heap.size + 1) 26 #[.string (dstr D), .bool b], .obj (w.heap.size + 1 + 1) (.stringIter (s) (j + m)), .row (w.heap.size) (31) (2) (.slice A n c) (n) (entsV es)] := Mem.next 2 H rfl (j + m)
      have rs0 : ((wr).iterAt (w.heap.size + 1 + 1) (s) (j + m)).cell? ⟨w.heap.size, 0, none⟩ = some (.string (dstr [])) := (H.blk 0 rfl).cell 0
      have rsf0 : ((wr).iterAt (w.heap.size + 1 + 1) (s) (j + m)).frozen? ⟨w.heap.size, 0, none⟩ = false := (H.blk 0 rfl).frozen 0
      have rs1 : ((wr).iterAt (w.heap.size + 1 + 1) (s) (j + m)).cell? ⟨w.heap.size, 1, none⟩ = some (.bool false) := (H.blk 0 rfl).cell 1
      have rsf1 : ((wr).iterAt (w.heap.size + 1 + 1) (s) (j + m)).frozen? ⟨w.heap.size, 1, none⟩ = false := (H.blk 0 rfl).frozen 1
      have rslt : w.heap.size < ((wr).iterAt (w.heap.size + 1 + 1) (s) (j + m)).heap.size := H.lt 0 rfl
      have pv0 : ((wr).iterAt (w.heap.size + 1 + 1) (s) (j + m)).cell? ⟨w.heap.size + 1, 0, none⟩ = some (.string (dstr D)) := (H.blk 1 rfl).cell 0
      have pvf0 : ((wr).iterAt (w.heap.size + 1 + 1) (s) (j + m)).frozen? ⟨w.heap.size + 1, 0, none⟩ = false := (H.blk 1 rfl).frozen 0
      have pv1 : ((wr).iterAt (w.heap.size + 1 + 1) (s) (j + m)).cell? ⟨w.heap.size + 1, 1, none⟩ = some (.bool b) := (H.blk 1 rfl).cell 1
      have pvf1 : ((wr).iterAt (w.heap.size + 1 + 1) (s) (j + m)).frozen? ⟨w.heap.size + 1, 1, none⟩ = false := (H.blk 1 rfl).frozen 1
      have pvlt : w.heap.size + 1 < ((wr).iterAt (w.heap.size + 1 + 1) (s) (j + m)).heap.size := H.lt 1 rfl
      have ne_rs_pv : w.heap.size ≠ w.heap.size + 1 := H.ne 0 1 rfl rfl (by decide)
      have ne_pv_rs : w.heap.size + 1 ≠ w.heap.size := H.ne 1 0 rfl rfl (by decide)

      cases o with
      | none =>
        go_wp2_with fail
        with_reducible refine (hP _).mono ?_
        intro e wa hx
        obtain ⟨rfl, hba⟩ := retpress_none hx
        clear hx
        replace H : Mem (w) [] (wa) [.blk (w.heap.size) 26 #[.string (dstr []), .bool false], .blk (w.heap.size + 1) 26 #[.string (dstr D), .bool b], .obj (w.heap.size + 1 + 1) (.stringIter (s) (j + m)), .row (w.heap.size) (31) (2) (.slice A n c) (n) (entsV es)] := Mem.call H hba
        clear rs0 rsf0 rs1 rsf1 rslt pv0 pvf0 pv1 pvf1 pvlt ne_rs_pv ne_pv_rs
        have rs0 : (wa).cell? ⟨w.heap.size, 0, none⟩ = some (.string (dstr [])) := (H.blk 0 rfl).cell 0
        have rsf0 : (wa).frozen? ⟨w.heap.size, 0, none⟩ = false := (H.blk 0 rfl).frozen 0
        have rs1 : (wa).cell? ⟨w.heap.size, 1, none⟩ = some (.bool false) := (H.blk 0 rfl).cell 1
        have rsf1 : (wa).frozen? ⟨w.heap.size, 1, none⟩ = false := (H.blk 0 rfl).frozen 1
        have rslt : w.heap.size < (wa).heap.size := H.lt 0 rfl
        have pv0 : (wa).cell? ⟨w.heap.size + 1, 0, none⟩ = some (.string (dstr D)) := (H.blk 1 rfl).cell 0
        have pvf0 : (wa).frozen? ⟨w.heap.size + 1, 0, none⟩ = false := (H.blk 1 rfl).frozen 0
        have pv1 : (wa).cell? ⟨w.heap.size + 1, 1, none⟩ = some (.bool b) := (H.blk 1 rfl).cell 1
        have pvf1 : (wa).frozen? ⟨w.heap.size + 1, 1, none⟩ = false := (H.blk 1 rfl).frozen 1
        have pvlt : w.heap.size + 1 < (wa).heap.size := H.lt 1 rfl
        have ne_rs_pv : w.heap.size ≠ w.heap.size + 1 := H.ne 0 1 rfl rfl (by decide)
        have ne_pv_rs : w.heap.size + 1 ≠ w.heap.size := H.ne 1 0 rfl rfl (by decide)
        clear hba hP
        go_wp2
        obtain ⟨wz, hwz⟩ : ∃ wz, (((wa).setCell ⟨w.heap.size + 1, 0, none⟩ (.string (dstr D'))).setCell ⟨w.heap.size + 1, 1, none⟩ (.bool b')).alloc (.cells #[.string (dstr D'), .bool b'] 26) = wz := ⟨_, rfl⟩
        replace H : Mem (w) [] _ [.blk (w.heap.size) 26 #[.string (dstr []), .bool false], .blk (w.heap.size + 1) 26 #[.string (dstr D'), .bool b], .obj (w.heap.size + 1 + 1) (.stringIter (s) (j + m)), .row (w.heap.size) (31) (2) (.slice A n c) (n) (entsV es)] := Mem.set 1 H rfl 0 (.string (dstr D'))
        replace H : Mem (w) [] _ [.blk (w.heap.size) 26 #[.string (dstr []), .bool false], .blk (w.heap.size + 1) 26 #[.string (dstr D'), .bool b'], .obj (w.heap.size + 1 + 1) (.stringIter (s) (j + m)), .row (w.heap.size) (31) (2) (.slice A n c) (n) (entsV es)] := Mem.set 1 H rfl 1 (.bool b')
        replace H : Mem (w) [] _ [.blk (w.heap.size) 26 #[.string (dstr []), .bool false], .blk (w.heap.size + 1) 26 #[.string (dstr D'), .bool b'], .obj (w.heap.size + 1 + 1) (.stringIter (s) (j + m)), .row (w.heap.size) (31) (2) (.slice A n c) (n) (entsV es), .blk (wa.heap.size) 26 #[.string (dstr D'), .bool b']] := Mem.alloc H (wa.heap.size) (by first | (simp; done) | (simp; omega)) #[.string (dstr D'), .bool b'] 26
        rw [hwz] at H ⊢
        clear hwz
        go_roundw
        case rel => exact ⟨j + m, R2, D', b', es, A, c, HT2.out, (by have h := hk2.out; simp at h; exact h), HP2.out, by rw [HN.out]; omega, by rw [HN.out], by rw [HN.out]; exact Mem.drop_ 4 H⟩
        case measure =>
          have h9 := iterPos_of (H.obj_ 2 rfl)
          have h8 := iterPos_of HIT.out
          have h7 := HJ.out
          have h6 := HM2.out
          omega
      | some en =>
        skip
        obtain ⟨T, cd⟩ := en
        go_wp2_with fail
        with_reducible refine (hP _).mono ?_
        intro e wa hx
        obtain ⟨g, rfl, hK⟩ := retpress_some hx
        clear hx
        replace H : Mem (w) [] (wa) [.blk (w.heap.size) 26 #[.string (dstr []), .bool false], .blk (w.heap.size + 1) 26 #[.string (dstr D), .bool b], .obj (w.heap.size + 1 + 1) (.stringIter (s) (j + m)), .row (w.heap.size) (31) (2) (.slice A n c) (n) (entsV es), .blk (g) 31 #[.string (dstr T), .int .i64 (cd : Int)]] := Mem.join H hK
        clear hK hP
        replace H : Mem (w) [] _ [.blk (w.heap.size) 26 #[.string (dstr []), .bool false], .blk (w.heap.size + 1) 26 #[.string (dstr D), .bool b], .obj (w.heap.size + 1 + 1) (.stringIter (s) (j + m)), .row (w.heap.size) (31) (2) (.slice A n c) (n) (entsV es), .blk (g) 31 #[.string (dstr T), .int .i64 (cd : Int)], .blk (wa.heap.size) 26 #[.string (dstr D'), .bool b']] := Mem.alloc H (wa.heap.size) (by first | (simp; done) | (simp; omega)) #[.string (dstr D'), .bool b'] 26
        clear rs0 rsf0 rs1 rsf1 rslt pv0 pvf0 pv1 pvf1 pvlt ne_rs_pv ne_pv_rs
        have rs0 : ((wa).alloc (.cells #[.string (dstr D'), .bool b'] 26)).cell? ⟨w.heap.size, 0, none⟩ = some (.string (dstr [])) := (H.blk 0 rfl).cell 0
        have rsf0 : ((wa).alloc (.cells #[.string (dstr D'), .bool b'] 26)).frozen? ⟨w.heap.size, 0, none⟩ = false := (H.blk 0 rfl).frozen 0
        have rs1 : ((wa).alloc (.cells #[.string (dstr D'), .bool b'] 26)).cell? ⟨w.heap.size, 1, none⟩ = some (.bool false) := (H.blk 0 rfl).cell 1
        have rsf1 : ((wa).alloc (.cells #[.string (dstr D'), .bool b'] 26)).frozen? ⟨w.heap.size, 1, none⟩ = false := (H.blk 0 rfl).frozen 1
        have rslt : w.heap.size < ((wa).alloc (.cells #[.string (dstr D'), .bool b'] 26)).heap.size := H.lt 0 rfl
        have pv0 : ((wa).alloc (.cells #[.string (dstr D'), .bool b'] 26)).cell? ⟨w.heap.size + 1, 0, none⟩ = some (.string (dstr D)) := (H.blk 1 rfl).cell 0
        have pvf0 : ((wa).alloc (.cells #[.string (dstr D'), .bool b'] 26)).frozen? ⟨w.heap.size + 1, 0, none⟩ = false := (H.blk 1 rfl).frozen 0
        have pv1 : ((wa).alloc (.cells #[.string (dstr D'), .bool b'] 26)).cell? ⟨w.heap.size + 1, 1, none⟩ = some (.bool b) := (H.blk 1 rfl).cell 1
        have pvf1 : ((wa).alloc (.cells #[.string (dstr D'), .bool b'] 26)).frozen? ⟨w.heap.size + 1, 1, none⟩ = false := (H.blk 1 rfl).frozen 1
        have pvlt : w.heap.size + 1 < ((wa).alloc (.cells #[.string (dstr D'), .bool b'] 26)).heap.size := H.lt 1 rfl
        have en0 : ((wa).alloc (.cells #[.string (dstr D'), .bool b'] 26)).cell? ⟨g, 0, none⟩ = some (.string (dstr T)) := (H.blk 4 rfl).cell 0
        have enf0 : ((wa).alloc (.cells #[.string (dstr D'), .bool b'] 26)).frozen? ⟨g, 0, none⟩ = false := (H.blk 4 rfl).frozen 0
        have en1 : ((wa).alloc (.cells #[.string (dstr D'), .bool b'] 26)).cell? ⟨g, 1, none⟩ = some (.int .i64 (cd : Int)) := (H.blk 4 rfl).cell 1
        have enf1 : ((wa).alloc (.cells #[.string (dstr D'), .bool b'] 26)).frozen? ⟨g, 1, none⟩ = false := (H.blk 4 rfl).frozen 1
        have enlt : g < ((wa).alloc (.cells #[.string (dstr D'), .bool b'] 26)).heap.size := H.lt 4 rfl
        have nq0 : ((wa).alloc (.cells #[.string (dstr D'), .bool b'] 26)).cell? ⟨wa.heap.size, 0, none⟩ = some (.string (dstr D')) := (H.blk 5 rfl).cell 0
        have nqf0 : ((wa).alloc (.cells #[.string (dstr D'), .bool b'] 26)).frozen? ⟨wa.heap.size, 0, none⟩ = false := (H.blk 5 rfl).frozen 0
        have nq1 : ((wa).alloc (.cells #[.string (dstr D'), .bool b'] 26)).cell? ⟨wa.heap.size, 1, none⟩ = some (.bool b') := (H.blk 5 rfl).cell 1
        have nqf1 : ((wa).alloc (.cells #[.string (dstr D'), .bool b'] 26)).frozen? ⟨wa.heap.size, 1, none⟩ = false := (H.blk 5 rfl).frozen 1
        have nqlt : wa.heap.size < ((wa).alloc (.cells #[.string (dstr D'), .bool b'] 26)).heap.size := H.lt 5 rfl
        have ne_rs_pv : w.heap.size ≠ w.heap.size + 1 := H.ne 0 1 rfl rfl (by decide)
        have ne_rs_en : w.heap.size ≠ g := H.ne 0 4 rfl rfl (by decide)
        have ne_rs_nq : w.heap.size ≠ wa.heap.size := H.ne 0 5 rfl rfl (by decide)
        have ne_pv_rs : w.heap.size + 1 ≠ w.heap.size := H.ne 1 0 rfl rfl (by decide)
        have ne_pv_en : w.heap.size + 1 ≠ g := H.ne 1 4 rfl rfl (by decide)
        have ne_pv_nq : w.heap.size + 1 ≠ wa.heap.size := H.ne 1 5 rfl rfl (by decide)
        have ne_en_rs : g ≠ w.heap.size := H.ne 4 0 rfl rfl (by decide)
        have ne_en_pv : g ≠ w.heap.size + 1 := H.ne 4 1 rfl rfl (by decide)
        have ne_en_nq : g ≠ wa.heap.size := H.ne 4 5 rfl rfl (by decide)
        have ne_nq_rs : wa.heap.size ≠ w.heap.size := H.ne 5 0 rfl rfl (by decide)
        have ne_nq_pv : wa.heap.size ≠ w.heap.size + 1 := H.ne 5 1 rfl rfl (by decide)
        have ne_nq_en : wa.heap.size ≠ g := H.ne 5 4 rfl rfl (by decide)
        have hnj : n ≤ 2000 := by have := HJ.out; omega

        go_wp2_with (at_builtin; refine wpList_pushM el_ent rfl (.tmp 28) (.tmp 32) rfl 3 H rfl rfl _ (World.size_alloc _ _) rfl (news := [.string (dstr T), .int .i64 (cd : Int)]) rfl (fun u hu => by simp at hu; rcases hu with rfl | rfl <;> rfl) (by omega) (by unfold maxLen; omega) H.keep.size ?_; intro A1 c1 w1 H1; have pv0 : (w1).cell? ⟨w.heap.size + 1, 0, none⟩ = some (.string (dstr D)) := (H1.blk 1 rfl).cell 0; have pvf0 : (w1).frozen? ⟨w.heap.size + 1, 0, none⟩ = false := (H1.blk 1 rfl).frozen 0; have pv1 : (w1).cell? ⟨w.heap.size + 1, 1, none⟩ = some (.bool b) := (H1.blk 1 rfl).cell 1; have pvf1 : (w1).frozen? ⟨w.heap.size + 1, 1, none⟩ = false := (H1.blk 1 rfl).frozen 1; have pvlt : w.heap.size + 1 < (w1).heap.size := H1.lt 1 rfl; have nq0 : (w1).cell? ⟨wa.heap.size, 0, none⟩ = some (.string (dstr D')) := (H1.blk 5 rfl).cell 0; have nqf0 : (w1).frozen? ⟨wa.heap.size, 0, none⟩ = false := (H1.blk 5 rfl).frozen 0; have nq1 : (w1).cell? ⟨wa.heap.size, 1, none⟩ = some (.bool b') := (H1.blk 5 rfl).cell 1; have nqf1 : (w1).frozen? ⟨wa.heap.size, 1, none⟩ = false := (H1.blk 5 rfl).frozen 1; have nqlt : wa.heap.size < (w1).heap.size := H1.lt 5 rfl; have ne_pv_nq : w.heap.size + 1 ≠ wa.heap.size := H1.ne 1 5 rfl rfl (by decide); have ne_nq_pv : wa.heap.size ≠ w.heap.size + 1 := H1.ne 5 1 rfl rfl (by decide))
        replace H : Mem (w) [] (w1) [.blk (w.heap.size) 26 #[.string (dstr []), .bool false], .blk (w.heap.size + 1) 26 #[.string (dstr D), .bool b], .obj (w.heap.size + 1 + 1) (.stringIter (s) (j + m)), .row (w.heap.size) (31) (2) (.slice A1 (n + 1) c1) (n + 1) (entsV es ++ [.string (dstr T), .int .i64 (cd : Int)]), .blk (g) 31 #[.string (dstr T), .int .i64 (cd : Int)], .blk (wa.heap.size) 26 #[.string (dstr D'), .bool b']] := H1
        clear H1
        obtain ⟨wz, hwz⟩ : ∃ wz, ((w1).setCell ⟨w.heap.size + 1, 0, none⟩ (.string (dstr D'))).setCell ⟨w.heap.size + 1, 1, none⟩ (.bool b') = wz := ⟨_, rfl⟩
        replace H : Mem (w) [] _ [.blk (w.heap.size) 26 #[.string (dstr []), .bool false], .blk (w.heap.size + 1) 26 #[.string (dstr D'), .bool b], .obj (w.heap.size + 1 + 1) (.stringIter (s) (j + m)), .row (w.heap.size) (31) (2) (.slice A1 (n + 1) c1) (n + 1) (entsV es ++ [.string (dstr T), .int .i64 (cd : Int)]), .blk (g) 31 #[.string (dstr T), .int .i64 (cd : Int)], .blk (wa.heap.size) 26 #[.string (dstr D'), .bool b']] := Mem.set 1 H rfl 0 (.string (dstr D'))
        replace H : Mem (w) [] _ [.blk (w.heap.size) 26 #[.string (dstr []), .bool false], .blk (w.heap.size + 1) 26 #[.string (dstr D'), .bool b'], .obj (w.heap.size + 1 + 1) (.stringIter (s) (j + m)), .row (w.heap.size) (31) (2) (.slice A1 (n + 1) c1) (n + 1) (entsV es ++ [.string (dstr T), .int .i64 (cd : Int)]), .blk (g) 31 #[.string (dstr T), .int .i64 (cd : Int)], .blk (wa.heap.size) 26 #[.string (dstr D'), .bool b']] := Mem.set 1 H rfl 1 (.bool b')
        rw [hwz] at H ⊢
        clear hwz
        go_roundw
        case rel =>
          have hk3 := hk2.out
          simp only [Option.toList] at hk3
          have hel2 : (es ++ [(T, cd)]).length = n + 1 := by simp [HN.out]
          exact ⟨j + m, R2, D', b', es ++ [(T, cd)], A1, c1, HT2.out, hk3, HP2.out, by rw [hel2]; have := HM2.out; omega, by rw [hel2], by rw [hel2, ← entsV_snoc]; exact Mem.drop_ 4 (Mem.drop_ 4 H)⟩
        case measure =>
          have h9 := iterPos_of (H.obj_ 2 rfl)
          have h8 := iterPos_of HIT.out
          have h7 := HJ.out
          have h6 := HM2.out
          omega
end Go.Proofs.YthhbnmmhjfgpdaaDoor
