/- cents.Read. -/
import Derived.Test.YthhbnmmhjfgpdaaDoorMoney
namespace Go.Proofs.YthhbnmmhjfgpdaaDoor
open Go.RowKit
set_option linter.unusedVariables false
def RetRead (n : Int) (E : Int) (w : World) (e : Ending) (w' : World) : Prop := e = .returned (.tuple #[.int .i64 n, .int .i64 E]) ∧ Below w.heap.size w w'
theorem cutp_is (s B : ByteArray) (neg : Bool) (h1 : Lib.hasPrefix s.data.toList [45] = neg) (h2 : (⟨(Lib.trimPrefix s.data.toList [45]).toArray⟩ : ByteArray) = B) (W : World) : Calls Tryd.prog 23 #[.string s, .string ⟨#[45]⟩] W fun e w' => e = .returned (.tuple #[.string B, .bool neg]) ∧ W = w' := by
  have h := Tryd.strings_CutPrefix s ⟨#[45]⟩ W
  refine h.mono ?_
  rintro e w' ⟨rfl, rfl⟩
  exact ⟨by rw [← h1, ← h2], rfl⟩
theorem slite_none (s : ByteArray) (h : Lib.indexByte s.data.toList 46 = -1) (W : World) : Calls Tryd.prog 29 #[.string s, .string ⟨#[46]⟩] W fun e w' => e = .returned (.tuple #[.string s, .string ⟨#[]⟩, .bool false]) ∧ W = w' := by
  have hi := Tryd.stringslite_Index_one s 46 W
  rw [h] at hi
  go_enter Tryd.func29, Tryd.ntmps29
  go_wp2_with fail
  refine hi.mono ?_
  rintro e w' ⟨rfl, rfl⟩
  go_wp2
  go_ret3
  exact ⟨rfl, rfl⟩
theorem slite_some (s wh la : ByteArray) (h : Lib.indexByte s.data.toList 46 = (wh.size : Int)) (h1 : s.extract 0 wh.size = wh) (h2 : s.extract (wh.size + 1) s.size = la) (h3 : s.size = wh.size + 1 + la.size) (hm : s.size ≤ 20) (W : World) : Calls Tryd.prog 29 #[.string s, .string ⟨#[46]⟩] W fun e w' => e = .returned (.tuple #[.string wh, .string la, .bool true]) ∧ ∃ n, w' = W.drewN n := by
  have hi := Tryd.stringslite_Index_one s 46 W
  rw [h] at hi
  have b1 : (0 : Int) ≤ (wh.size : Int) := by omega
  have b2 : (wh.size : Int) ≤ (s.size : Int) := by omega
  have b3 : (wh.size : Int) + 1 ≤ (s.size : Int) := by omega
  have b4 : wh.size + 1 ≤ s.size := by omega
  have b5 : wh.size ≤ s.size := by omega
  have b6 : IntKind.i64.wrap ((wh.size : Int) + 1) = (wh.size : Int) + 1 := IntWalk.i64_in _ (by omega)
  have HS := Lib.hid h3
  clear h h3
  go_enter Tryd.func29, Tryd.ntmps29
  go_wp2_with fail
  refine hi.mono ?_
  rintro e w' ⟨rfl, rfl⟩
  clear hi
  go_wp2_with fail
  go_quiet (fail)
  go_wp2
  go_ret3
  exact ⟨rfl, _, rfl⟩
theorem cut_none (s : ByteArray) (h : Lib.indexByte s.data.toList 46 = -1) (W : World) : Calls Tryd.prog 24 #[.string s, .string ⟨#[46]⟩] W fun e w' => e = .returned (.tuple #[.string s, .string ⟨#[]⟩, .bool false]) ∧ ∃ n, w' = W.drewN n := by
  have hi := slite_none s h W
  go_enter Tryd.func24, Tryd.ntmps24
  go_wp2_with fail
  refine hi.mono ?_
  rintro e w' ⟨rfl, rfl⟩
  go_wp2
  go_ret3
  exact ⟨rfl, 0, rfl⟩
theorem cut_some (s wh la : ByteArray) (h : Lib.indexByte s.data.toList 46 = (wh.size : Int)) (h1 : s.extract 0 wh.size = wh) (h2 : s.extract (wh.size + 1) s.size = la) (h3 : s.size = wh.size + 1 + la.size) (hm : s.size ≤ 20) (W : World) : Calls Tryd.prog 24 #[.string s, .string ⟨#[46]⟩] W fun e w' => e = .returned (.tuple #[.string wh, .string la, .bool true]) ∧ ∃ n, w' = W.drewN n := by
  have hi := slite_some s wh la h h1 h2 h3 hm W
  clear h h1 h2 h3
  go_enter Tryd.func24, Tryd.ntmps24
  go_wp2_with fail
  refine hi.mono ?_
  rintro e w' ⟨rfl, n, rfl⟩
  go_wp2
  go_ret3
  exact ⟨rfl, n, rfl⟩
theorem min2_is (x y : Int) : ∀ (P : Program) (ts : Array TypeId) (t : TypeId) (W : World), (Builtin.min_ ts t #[.int .i64 x, .int .i64 y]).run P W = .ok (.int .i64 (if y < x then y else x)) W := by
  intro P ts t W
  simp [Builtin.min_, Builtin.min2]
theorem read_long (s : ByteArray) (w : World) (hs : ¬ s.size ≤ 20) (hm : s.size ≤ 9223372036854775807) : Calls Tryd.prog 17 #[.string s] w (RetRead 0 1 w) := by
  have hsI : (20 : Int) < (s.size : Int) := by omega
  go_enter Tryd.func17, Tryd.ntmps17
  go_wp2
  go_ret2
  exact ⟨rfl, Below.refl _ _⟩
set_option maxRecDepth 100000 in
set_option maxHeartbeats 1000000 in
theorem read_nodot (s B wh la : ByteArray) (neg : Bool) (w : World) (hP : ∀ W, Calls Tryd.prog 23 #[.string s, .string ⟨#[45]⟩] W fun e w' => e = .returned (.tuple #[.string B, .bool neg]) ∧ W = w') (hC : ∀ W, Calls Tryd.prog 24 #[.string B, .string ⟨#[46]⟩] W fun e w' => e = .returned (.tuple #[.string wh, .string la, .bool false]) ∧ ∃ n, w' = W.drewN n) (hs : s.size ≤ 20)  :
    Calls Tryd.prog 17 #[.string s] w (RetRead 0 3 w) := by
  have hsI : ¬ (20 : Int) < (s.size : Int) := by omega
  have H := Mem.init w
  go_enter Tryd.func17, Tryd.ntmps17
  go_wp2_with fail
  refine (hP _).mono ?_
  rintro e w1 ⟨rfl, rfl⟩
  go_wp2_with fail
  refine (hC _).mono ?_
  rintro e wk ⟨rfl, n0, hwk⟩
  replace H : Mem w [] wk [] := hwk ▸ Mem.drewN H n0
  clear hP hC hwk hsI hs
  have H : Mem (w) [] (wk) [] := H
  go_wp2
  go_ret2
  exact ⟨rfl, H.below⟩
set_option maxRecDepth 100000 in
set_option maxHeartbeats 1000000 in
theorem read_empty (s B wh la : ByteArray) (neg : Bool) (w : World) (hP : ∀ W, Calls Tryd.prog 23 #[.string s, .string ⟨#[45]⟩] W fun e w' => e = .returned (.tuple #[.string B, .bool neg]) ∧ W = w') (hC : ∀ W, Calls Tryd.prog 24 #[.string B, .string ⟨#[46]⟩] W fun e w' => e = .returned (.tuple #[.string wh, .string la, .bool true]) ∧ ∃ n, w' = W.drewN n) (hs : s.size ≤ 20) (he : wh.toList.isEmpty = true) :
    Calls Tryd.prog 17 #[.string s] w (RetRead 0 3 w) := by
  have hsI : ¬ (20 : Int) < (s.size : Int) := by omega
  have H := Mem.init w
  go_enter Tryd.func17, Tryd.ntmps17
  go_wp2_with fail
  refine (hP _).mono ?_
  rintro e w1 ⟨rfl, rfl⟩
  go_wp2_with fail
  refine (hC _).mono ?_
  rintro e wk ⟨rfl, n0, hwk⟩
  replace H : Mem w [] wk [] := hwk ▸ Mem.drewN H n0
  clear hP hC hwk hsI hs
  have H : Mem (w) [] (wk) [] := H
  go_wp2
  go_ret2
  exact ⟨rfl, H.below⟩
set_option maxRecDepth 100000 in
set_option maxHeartbeats 1000000 in
theorem read_cents (s B wh la : ByteArray) (neg : Bool) (w : World) (hP : ∀ W, Calls Tryd.prog 23 #[.string s, .string ⟨#[45]⟩] W fun e w' => e = .returned (.tuple #[.string B, .bool neg]) ∧ W = w') (hC : ∀ W, Calls Tryd.prog 24 #[.string B, .string ⟨#[46]⟩] W fun e w' => e = .returned (.tuple #[.string wh, .string la, .bool true]) ∧ ∃ n, w' = W.drewN n) (hs : s.size ≤ 20) (he : wh.toList.isEmpty = false) (h2 : ¬ la.size = 2) (hla : la.size ≤ 20) :
    Calls Tryd.prog 17 #[.string s] w (RetRead 0 3 w) := by
  have hsI : ¬ (20 : Int) < (s.size : Int) := by omega
  have h2I : ((la.size : Int) != 2) = true := by simp; omega
  have H := Mem.init w
  go_enter Tryd.func17, Tryd.ntmps17
  go_wp2_with fail
  refine (hP _).mono ?_
  rintro e w1 ⟨rfl, rfl⟩
  go_wp2_with fail
  refine (hC _).mono ?_
  rintro e wk ⟨rfl, n0, hwk⟩
  replace H : Mem w [] wk [] := hwk ▸ Mem.drewN H n0
  clear hP hC hwk hsI hs
  have H : Mem (w) [] (wk) [] := H
  go_wp2
  go_ret2
  exact ⟨rfl, H.below⟩
set_option maxRecDepth 100000 in
set_option maxHeartbeats 1000000 in
theorem read_zero (s B wh la : ByteArray) (neg : Bool) (w : World) (hP : ∀ W, Calls Tryd.prog 23 #[.string s, .string ⟨#[45]⟩] W fun e w' => e = .returned (.tuple #[.string B, .bool neg]) ∧ W = w') (hC : ∀ W, Calls Tryd.prog 24 #[.string B, .string ⟨#[46]⟩] W fun e w' => e = .returned (.tuple #[.string wh, .string la, .bool true]) ∧ ∃ n, w' = W.drewN n) (hs : s.size ≤ 20) (he : wh.toList.isEmpty = false) (h2 : la.size = 2) (h1 : 1 < wh.size) (hm : wh.size ≤ 20) (hz : wh[0].toNat = 48) :
    Calls Tryd.prog 17 #[.string s] w (RetRead 0 3 w) := by
  have hsI : ¬ (20 : Int) < (s.size : Int) := by omega
  have h2I : ((la.size : Int) != 2) = false := by simp; omega
  have h1I : (1 : Int) < (wh.size : Int) := by omega
  have h0I : (0 : Int) < (wh.size : Int) := by omega
  have H := Mem.init w
  go_enter Tryd.func17, Tryd.ntmps17
  go_wp2_with fail
  refine (hP _).mono ?_
  rintro e w1 ⟨rfl, rfl⟩
  go_wp2_with fail
  refine (hC _).mono ?_
  rintro e wk ⟨rfl, n0, hwk⟩
  replace H : Mem w [] wk [] := hwk ▸ Mem.drewN H n0
  clear hP hC hwk hsI hs
  have H : Mem (w) [] (wk) [] := H
  go_wp2
  go_ret2
  exact ⟨rfl, H.below⟩
set_option maxRecDepth 100000 in
set_option maxHeartbeats 1000000 in
theorem read_sign (s B wh la : ByteArray) (neg : Bool) (w : World) (hP : ∀ W, Calls Tryd.prog 23 #[.string s, .string ⟨#[45]⟩] W fun e w' => e = .returned (.tuple #[.string B, .bool neg]) ∧ W = w') (hC : ∀ W, Calls Tryd.prog 24 #[.string B, .string ⟨#[46]⟩] W fun e w' => e = .returned (.tuple #[.string wh, .string la, .bool true]) ∧ ∃ n, w' = W.drewN n) (hs : s.size ≤ 20) (he : wh.toList.isEmpty = false) (h2 : la.size = 2) (hwm : wh.size ≤ 20) (h0 : 0 < wh.size) (c0 : Nat) (hc0 : wh[0].toNat = c0) (hz : decide ((1 : Int) < (wh.size : Int)) = false ∨ ((1 : Int) < (wh.size : Int) ∧ ((c0 : Int) == 48) = false)) (T : ByteArray) (hT : wh ++ la = T) (j : Nat) (hj : j < T.size) (hn : ¬ (48 ≤ T[j].toNat ∧ T[j].toNat ≤ 57)) (hd : ∀ (i : Nat) (hi : i < j), 48 ≤ (T[i]'(by omega)).toNat ∧ (T[i]'(by omega)).toNat ≤ 57) :
    Calls Tryd.prog 17 #[.string s] w (RetRead 0 3 w) := by
  have hsI : ¬ (20 : Int) < (s.size : Int) := by omega
  have h2I : ((la.size : Int) != 2) = false := by simp; omega
  have h0I : (0 : Int) < (wh.size : Int) := by omega
  have hcap : ¬ 9223372036854775807 < wh.size + la.size := by omega
  have hcap2 : ¬ 9223372036854775807 < wh.size + 2 := by omega
  have H := Mem.init w
  go_enter Tryd.func17, Tryd.ntmps17
  go_wp2_with fail
  refine (hP _).mono ?_
  rintro e w1 ⟨rfl, rfl⟩
  go_wp2_with fail
  refine (hC _).mono ?_
  rintro e wk ⟨rfl, n0, hwk⟩
  replace H : Mem w [] wk [] := hwk ▸ Mem.drewN H n0
  clear hP hC hwk hsI hs
  have H : Mem (w) [] (wk) [] := H
  have hTs : T.size = wh.size + 2 := by rw [← hT, ByteArray.size_append, h2]

  rcases hz with hz | ⟨hz1, hz⟩
  all_goals
    go_wp2_with fail
    replace H : Mem (w) [] _ [.obj (wk.heap.size) (.stringIter (T) 0)] := Mem.iter H (wk.heap.size) (by first | (simp; done) | (simp; omega)) (T)
    clear hT
    go_loopw [9] (fun v wr => ∃ (k : Nat) (x : Int), k ≤ j ∧ v = .int .i64 x ∧ 0 ≤ x ∧ x ≤ 1000000000001 ∧ Mem w [] wr [.obj wk.heap.size (.stringIter T k)]) (fun _ wr => T.size - wr.iterPos wk.heap.size)
    case atStart => exact ⟨0, 0, by omega, rfl, by omega, by omega, H⟩
    case round =>
      obtain ⟨k, x, hk, rfl, x0, x1, HM⟩ := hrel
      clear H
      have H : Mem (w) [] (wr) [.obj (wk.heap.size) (.stringIter T k)] := HM
      clear HM
      have hit := H.obj_ 0 rfl
      by_cases hlt : k < j
      · obtain ⟨g1, g2⟩ := hd k hlt
        have hnx := fun ty => Lib.run_next_ascii_at (P := Tryd.prog) wr wk.heap.size T k ty hit (by omega) (by omega)
        obtain ⟨b, hb⟩ : ∃ b, (T[k]'(by omega)).toNat = b := ⟨_, rfl⟩
        rw [hb] at hnx g1 g2
        have g3 : (48 : Int) ≤ (b : Int) := by omega
        have g4 : (b : Int) ≤ 57 := by omega
        have HIT := Lib.hid hit
        have hmin := min2_is (x * 10 + ((b : Int) - 48)) 1000000000001
        obtain ⟨y, hy⟩ : ∃ y, (if (1000000000001 : Int) < x * 10 + ((b : Int) - 48) then (1000000000001 : Int) else x * 10 + ((b : Int) - 48)) = y := ⟨_, rfl⟩
        have y0 : 0 ≤ y ∧ y ≤ 1000000000001 := by rw [← hy]; split <;> omega
        rw [hy] at hmin
        have hmx := fun W => hmin Tryd.prog #[3, 3] 3 W
        have HY := Lib.hid y0
        clear hb hit hd hn hmin hy y0
        replace H : Mem (w) [] _ [.obj (wk.heap.size) (.stringIter (T) (k + 1))] := Mem.next 0 H rfl (k + 1)
        go_wp2
        go_roundw
        case rel => exact ⟨k + 1, y, by omega, rfl, HY.out.1, HY.out.2, H⟩
        case measure =>
          have h9 := iterPos_of (H.obj_ 0 rfl)
          have h8 := iterPos_of HIT.out
          omega
      · obtain rfl : k = j := by omega
        have H : Mem (w) [] (wr) [.obj (wk.heap.size) (.stringIter T k)] := H
        have hr := sign_run hj hn
        have hr2 := decode_le T k
        have hnx := fun ty => Lib.run_next_any_at (P := Tryd.prog) wr wk.heap.size T k ty hit hj
        obtain ⟨r, hrr⟩ : ∃ r, (Utf8.decode T k).1 = r := ⟨_, rfl⟩
        obtain ⟨m, hnn⟩ : ∃ m, (Utf8.decode T k).2 = m := ⟨_, rfl⟩
        rw [hrr, hnn] at hnx
        rw [hrr] at hr hr2
        clear hrr hnn hit hd hn
        replace H : Mem (w) [] _ [.obj (wk.heap.size) (.stringIter (T) (k + m))] := Mem.next 0 H rfl (k + m)
        rcases hr with hr | hr
        · have g1 : (r : Int) < 48 := by omega
          go_wp2
          go_ret2
          exact ⟨rfl, H.below⟩
        · have g1 : (57 : Int) < (r : Int) := by omega
          have g2 : decide ((r : Int) < 48) = false := by simp; omega
          go_wp2
          go_ret2
          exact ⟨rfl, H.below⟩
set_option maxRecDepth 100000 in
set_option maxHeartbeats 1000000 in
theorem read_minus0 (s B wh la : ByteArray) (neg : Bool) (w : World) (hP : ∀ W, Calls Tryd.prog 23 #[.string s, .string ⟨#[45]⟩] W fun e w' => e = .returned (.tuple #[.string B, .bool neg]) ∧ W = w') (hC : ∀ W, Calls Tryd.prog 24 #[.string B, .string ⟨#[46]⟩] W fun e w' => e = .returned (.tuple #[.string wh, .string la, .bool true]) ∧ ∃ n, w' = W.drewN n) (hs : s.size ≤ 20) (he : wh.toList.isEmpty = false) (h2 : la.size = 2) (hwm : wh.size ≤ 20) (h0 : 0 < wh.size) (c0 : Nat) (hc0 : wh[0].toNat = c0) (hz : decide ((1 : Int) < (wh.size : Int)) = false ∨ ((1 : Int) < (wh.size : Int) ∧ ((c0 : Int) == 48) = false)) (ds : List Nat) (hds : ∀ d ∈ ds, d ≤ 9) (hT : wh ++ la = dstr ds) (hneg : neg = true) (hval : satv ds = 0) :
    Calls Tryd.prog 17 #[.string s] w (RetRead 0 3 w) := by
  have hsI : ¬ (20 : Int) < (s.size : Int) := by omega
  have h2I : ((la.size : Int) != 2) = false := by simp; omega
  have h0I : (0 : Int) < (wh.size : Int) := by omega
  have hcap : ¬ 9223372036854775807 < wh.size + la.size := by omega
  have hcap2 : ¬ 9223372036854775807 < wh.size + 2 := by omega
  subst hneg
  have H := Mem.init w
  go_enter Tryd.func17, Tryd.ntmps17
  go_wp2_with fail
  refine (hP _).mono ?_
  rintro e w1 ⟨rfl, rfl⟩
  go_wp2_with fail
  refine (hC _).mono ?_
  rintro e wk ⟨rfl, n0, hwk⟩
  replace H : Mem w [] wk [] := hwk ▸ Mem.drewN H n0
  clear hP hC hwk hsI hs
  have H : Mem (w) [] (wk) [] := H
  have hTs := dstr_size ds
  have hdl : ds.length = wh.size + 2 := by rw [← hTs, ← hT, ByteArray.size_append, h2]
  rcases hz with hz | ⟨hz1, hz⟩
  all_goals
    go_wp2_with fail
    replace H : Mem (w) [] _ [.obj (wk.heap.size) (.stringIter (dstr ds) 0)] := Mem.iter H (wk.heap.size) (by first | (simp; done) | (simp; omega)) (dstr ds)
    clear hT hdl
    go_loopw [9] (fun v wr => ∃ k : Nat, k ≤ ds.length ∧ v = .int .i64 (satv (ds.take k) : Int) ∧ Mem w [] wr [.obj wk.heap.size (.stringIter (dstr ds) k)]) (fun _ wr => ds.length - wr.iterPos wk.heap.size)
    case atStart => exact ⟨0, by omega, rfl, H⟩
    case round =>
      obtain ⟨k, hk, rfl, HM⟩ := hrel
      clear H
      have H : Mem (w) [] (wr) [.obj (wk.heap.size) (.stringIter (dstr ds) k)] := HM
      clear HM
      have hit := H.obj_ 0 rfl

      by_cases hlt : k < ds.length
      · have hb := dstr_byte hds k (by rw [hTs]; exact hlt)
        have h9 := hds _ (List.getElem_mem hlt)
        have hnx := fun ty => Lib.run_next_ascii_at (P := Tryd.prog) wr wk.heap.size (dstr ds) k ty hit (by rw [hTs]; exact hlt) (by rw [hb]; omega)
        rw [hb] at hnx
        have hts : satv (ds.take (k + 1)) = min (satv (ds.take k) * 10 + ds[k]) 1000000000001 := by rw [List.take_succ_eq_append_getElem hlt, satv_snoc]
        obtain ⟨d, hdd⟩ : ∃ d, ds[k] = d := ⟨_, rfl⟩
        rw [hdd] at hnx h9 hts
        have hsl := satv_le (ds.take k)
        obtain ⟨sv, hsv⟩ : ∃ v, satv (ds.take k) = v := ⟨_, rfl⟩
        rw [hsv] at hts hsl
        have HSV := Lib.hid hsv
        have g1 : (48 : Int) ≤ ((48 + d : Nat) : Int) := by omega
        have g2 : ((48 + d : Nat) : Int) ≤ 57 := by omega
        have s0 : 0 ≤ (sv : Int) := by omega
        have s1 : (sv : Int) ≤ 1000000000001 := by omega
        have hmin := min2_is ((sv : Int) * 10 + (d : Int)) 1000000000001
        have hmv : (if (1000000000001 : Int) < (sv : Int) * 10 + (d : Int) then (1000000000001 : Int) else (sv : Int) * 10 + (d : Int)) = (satv (ds.take (k + 1)) : Int) := by
          rw [hts]; split <;> omega
        rw [hmv] at hmin
        have hmx := fun W => hmin Tryd.prog #[3, 3] 3 W
        have e1 : (48 + (d : Int) - 48) = (d : Int) := by omega
        have HIT := Lib.hid hit
        clear hmin hb hdd hit hts hsl hmv h9
        rw [hsv]
        clear hsv
        replace H : Mem (w) [] _ [.obj (wk.heap.size) (.stringIter (dstr ds) (k + 1))] := Mem.next 0 H rfl (k + 1)
        go_wp2
        go_roundw
        case rel => exact ⟨k + 1, by omega, rfl, H⟩
        case measure =>
          have h9 := iterPos_of (H.obj_ 0 rfl)
          have h8 := iterPos_of HIT.out
          omega
      · skip
        have hnx := fun ty => Lib.run_next_end_at (P := Tryd.prog) wr wk.heap.size (dstr ds) k ty hit (by rw [hTs]; exact hlt)
        have hke : ds.take k = ds := List.take_of_length_le (by omega)
        rw [hke]
        clear hke hit
        obtain ⟨v, hv⟩ : ∃ v, satv ds = v := ⟨_, rfl⟩
        rw [hv]
        rw [hv] at hval
        have hvz : ((v : Int) == 0) = true := by simp; omega
        clear hval
        clear hv
        go_wp2
        go_ret2
        exact ⟨rfl, H.below⟩
set_option maxRecDepth 100000 in
set_option maxHeartbeats 1000000 in
theorem read_big_neg (s B wh la : ByteArray) (neg : Bool) (w : World) (hP : ∀ W, Calls Tryd.prog 23 #[.string s, .string ⟨#[45]⟩] W fun e w' => e = .returned (.tuple #[.string B, .bool neg]) ∧ W = w') (hC : ∀ W, Calls Tryd.prog 24 #[.string B, .string ⟨#[46]⟩] W fun e w' => e = .returned (.tuple #[.string wh, .string la, .bool true]) ∧ ∃ n, w' = W.drewN n) (hs : s.size ≤ 20) (he : wh.toList.isEmpty = false) (h2 : la.size = 2) (hwm : wh.size ≤ 20) (h0 : 0 < wh.size) (c0 : Nat) (hc0 : wh[0].toNat = c0) (hz : decide ((1 : Int) < (wh.size : Int)) = false ∨ ((1 : Int) < (wh.size : Int) ∧ ((c0 : Int) == 48) = false)) (ds : List Nat) (hds : ∀ d ∈ ds, d ≤ 9) (hT : wh ++ la = dstr ds) (hneg : neg = true) (hval : satv ds = 1000000000001) :
    Calls Tryd.prog 17 #[.string s] w (RetRead 0 2 w) := by
  have hsI : ¬ (20 : Int) < (s.size : Int) := by omega
  have h2I : ((la.size : Int) != 2) = false := by simp; omega
  have h0I : (0 : Int) < (wh.size : Int) := by omega
  have hcap : ¬ 9223372036854775807 < wh.size + la.size := by omega
  have hcap2 : ¬ 9223372036854775807 < wh.size + 2 := by omega
  subst hneg
  have H := Mem.init w
  go_enter Tryd.func17, Tryd.ntmps17
  go_wp2_with fail
  refine (hP _).mono ?_
  rintro e w1 ⟨rfl, rfl⟩
  go_wp2_with fail
  refine (hC _).mono ?_
  rintro e wk ⟨rfl, n0, hwk⟩
  replace H : Mem w [] wk [] := hwk ▸ Mem.drewN H n0
  clear hP hC hwk hsI hs
  have H : Mem (w) [] (wk) [] := H
  have hTs := dstr_size ds
  have hdl : ds.length = wh.size + 2 := by rw [← hTs, ← hT, ByteArray.size_append, h2]
  rcases hz with hz | ⟨hz1, hz⟩
  all_goals
    go_wp2_with fail
    replace H : Mem (w) [] _ [.obj (wk.heap.size) (.stringIter (dstr ds) 0)] := Mem.iter H (wk.heap.size) (by first | (simp; done) | (simp; omega)) (dstr ds)
    clear hT hdl
    go_loopw [9] (fun v wr => ∃ k : Nat, k ≤ ds.length ∧ v = .int .i64 (satv (ds.take k) : Int) ∧ Mem w [] wr [.obj wk.heap.size (.stringIter (dstr ds) k)]) (fun _ wr => ds.length - wr.iterPos wk.heap.size)
    case atStart => exact ⟨0, by omega, rfl, H⟩
    case round =>
      obtain ⟨k, hk, rfl, HM⟩ := hrel
      clear H
      have H : Mem (w) [] (wr) [.obj (wk.heap.size) (.stringIter (dstr ds) k)] := HM
      clear HM
      have hit := H.obj_ 0 rfl

      by_cases hlt : k < ds.length
      · have hb := dstr_byte hds k (by rw [hTs]; exact hlt)
        have h9 := hds _ (List.getElem_mem hlt)
        have hnx := fun ty => Lib.run_next_ascii_at (P := Tryd.prog) wr wk.heap.size (dstr ds) k ty hit (by rw [hTs]; exact hlt) (by rw [hb]; omega)
        rw [hb] at hnx
        have hts : satv (ds.take (k + 1)) = min (satv (ds.take k) * 10 + ds[k]) 1000000000001 := by rw [List.take_succ_eq_append_getElem hlt, satv_snoc]
        obtain ⟨d, hdd⟩ : ∃ d, ds[k] = d := ⟨_, rfl⟩
        rw [hdd] at hnx h9 hts
        have hsl := satv_le (ds.take k)
        obtain ⟨sv, hsv⟩ : ∃ v, satv (ds.take k) = v := ⟨_, rfl⟩
        rw [hsv] at hts hsl
        have HSV := Lib.hid hsv
        have g1 : (48 : Int) ≤ ((48 + d : Nat) : Int) := by omega
        have g2 : ((48 + d : Nat) : Int) ≤ 57 := by omega
        have s0 : 0 ≤ (sv : Int) := by omega
        have s1 : (sv : Int) ≤ 1000000000001 := by omega
        have hmin := min2_is ((sv : Int) * 10 + (d : Int)) 1000000000001
        have hmv : (if (1000000000001 : Int) < (sv : Int) * 10 + (d : Int) then (1000000000001 : Int) else (sv : Int) * 10 + (d : Int)) = (satv (ds.take (k + 1)) : Int) := by
          rw [hts]; split <;> omega
        rw [hmv] at hmin
        have hmx := fun W => hmin Tryd.prog #[3, 3] 3 W
        have e1 : (48 + (d : Int) - 48) = (d : Int) := by omega
        have HIT := Lib.hid hit
        clear hmin hb hdd hit hts hsl hmv h9
        rw [hsv]
        clear hsv
        replace H : Mem (w) [] _ [.obj (wk.heap.size) (.stringIter (dstr ds) (k + 1))] := Mem.next 0 H rfl (k + 1)
        go_wp2
        go_roundw
        case rel => exact ⟨k + 1, by omega, rfl, H⟩
        case measure =>
          have h9 := iterPos_of (H.obj_ 0 rfl)
          have h8 := iterPos_of HIT.out
          omega
      · skip
        have hnx := fun ty => Lib.run_next_end_at (P := Tryd.prog) wr wk.heap.size (dstr ds) k ty hit (by rw [hTs]; exact hlt)
        have hke : ds.take k = ds := List.take_of_length_le (by omega)
        rw [hke]
        clear hke hit
        obtain ⟨v, hv⟩ : ∃ v, satv ds = v := ⟨_, rfl⟩
        rw [hv]
        rw [hv] at hval
        have hvz : ((v : Int) == 0) = false := by simp; omega
        have hb3 : (1000000000000 : Int) < (v : Int) := by omega
        clear hval
        clear hv
        go_wp2
        go_ret2
        exact ⟨rfl, H.below⟩
set_option maxRecDepth 100000 in
set_option maxHeartbeats 1000000 in
theorem read_big_pos (s B wh la : ByteArray) (neg : Bool) (w : World) (hP : ∀ W, Calls Tryd.prog 23 #[.string s, .string ⟨#[45]⟩] W fun e w' => e = .returned (.tuple #[.string B, .bool neg]) ∧ W = w') (hC : ∀ W, Calls Tryd.prog 24 #[.string B, .string ⟨#[46]⟩] W fun e w' => e = .returned (.tuple #[.string wh, .string la, .bool true]) ∧ ∃ n, w' = W.drewN n) (hs : s.size ≤ 20) (he : wh.toList.isEmpty = false) (h2 : la.size = 2) (hwm : wh.size ≤ 20) (h0 : 0 < wh.size) (c0 : Nat) (hc0 : wh[0].toNat = c0) (hz : decide ((1 : Int) < (wh.size : Int)) = false ∨ ((1 : Int) < (wh.size : Int) ∧ ((c0 : Int) == 48) = false)) (ds : List Nat) (hds : ∀ d ∈ ds, d ≤ 9) (hT : wh ++ la = dstr ds) (hneg : neg = false) (hval : satv ds = 1000000000001) :
    Calls Tryd.prog 17 #[.string s] w (RetRead 0 2 w) := by
  have hsI : ¬ (20 : Int) < (s.size : Int) := by omega
  have h2I : ((la.size : Int) != 2) = false := by simp; omega
  have h0I : (0 : Int) < (wh.size : Int) := by omega
  have hcap : ¬ 9223372036854775807 < wh.size + la.size := by omega
  have hcap2 : ¬ 9223372036854775807 < wh.size + 2 := by omega
  subst hneg
  have H := Mem.init w
  go_enter Tryd.func17, Tryd.ntmps17
  go_wp2_with fail
  refine (hP _).mono ?_
  rintro e w1 ⟨rfl, rfl⟩
  go_wp2_with fail
  refine (hC _).mono ?_
  rintro e wk ⟨rfl, n0, hwk⟩
  replace H : Mem w [] wk [] := hwk ▸ Mem.drewN H n0
  clear hP hC hwk hsI hs
  have H : Mem (w) [] (wk) [] := H
  have hTs := dstr_size ds
  have hdl : ds.length = wh.size + 2 := by rw [← hTs, ← hT, ByteArray.size_append, h2]
  rcases hz with hz | ⟨hz1, hz⟩
  all_goals
    go_wp2_with fail
    replace H : Mem (w) [] _ [.obj (wk.heap.size) (.stringIter (dstr ds) 0)] := Mem.iter H (wk.heap.size) (by first | (simp; done) | (simp; omega)) (dstr ds)
    clear hT hdl
    go_loopw [9] (fun v wr => ∃ k : Nat, k ≤ ds.length ∧ v = .int .i64 (satv (ds.take k) : Int) ∧ Mem w [] wr [.obj wk.heap.size (.stringIter (dstr ds) k)]) (fun _ wr => ds.length - wr.iterPos wk.heap.size)
    case atStart => exact ⟨0, by omega, rfl, H⟩
    case round =>
      obtain ⟨k, hk, rfl, HM⟩ := hrel
      clear H
      have H : Mem (w) [] (wr) [.obj (wk.heap.size) (.stringIter (dstr ds) k)] := HM
      clear HM
      have hit := H.obj_ 0 rfl

      by_cases hlt : k < ds.length
      · have hb := dstr_byte hds k (by rw [hTs]; exact hlt)
        have h9 := hds _ (List.getElem_mem hlt)
        have hnx := fun ty => Lib.run_next_ascii_at (P := Tryd.prog) wr wk.heap.size (dstr ds) k ty hit (by rw [hTs]; exact hlt) (by rw [hb]; omega)
        rw [hb] at hnx
        have hts : satv (ds.take (k + 1)) = min (satv (ds.take k) * 10 + ds[k]) 1000000000001 := by rw [List.take_succ_eq_append_getElem hlt, satv_snoc]
        obtain ⟨d, hdd⟩ : ∃ d, ds[k] = d := ⟨_, rfl⟩
        rw [hdd] at hnx h9 hts
        have hsl := satv_le (ds.take k)
        obtain ⟨sv, hsv⟩ : ∃ v, satv (ds.take k) = v := ⟨_, rfl⟩
        rw [hsv] at hts hsl
        have HSV := Lib.hid hsv
        have g1 : (48 : Int) ≤ ((48 + d : Nat) : Int) := by omega
        have g2 : ((48 + d : Nat) : Int) ≤ 57 := by omega
        have s0 : 0 ≤ (sv : Int) := by omega
        have s1 : (sv : Int) ≤ 1000000000001 := by omega
        have hmin := min2_is ((sv : Int) * 10 + (d : Int)) 1000000000001
        have hmv : (if (1000000000001 : Int) < (sv : Int) * 10 + (d : Int) then (1000000000001 : Int) else (sv : Int) * 10 + (d : Int)) = (satv (ds.take (k + 1)) : Int) := by
          rw [hts]; split <;> omega
        rw [hmv] at hmin
        have hmx := fun W => hmin Tryd.prog #[3, 3] 3 W
        have e1 : (48 + (d : Int) - 48) = (d : Int) := by omega
        have HIT := Lib.hid hit
        clear hmin hb hdd hit hts hsl hmv h9
        rw [hsv]
        clear hsv
        replace H : Mem (w) [] _ [.obj (wk.heap.size) (.stringIter (dstr ds) (k + 1))] := Mem.next 0 H rfl (k + 1)
        go_wp2
        go_roundw
        case rel => exact ⟨k + 1, by omega, rfl, H⟩
        case measure =>
          have h9 := iterPos_of (H.obj_ 0 rfl)
          have h8 := iterPos_of HIT.out
          omega
      · skip
        have hnx := fun ty => Lib.run_next_end_at (P := Tryd.prog) wr wk.heap.size (dstr ds) k ty hit (by rw [hTs]; exact hlt)
        have hke : ds.take k = ds := List.take_of_length_le (by omega)
        rw [hke]
        clear hke hit
        obtain ⟨v, hv⟩ : ∃ v, satv ds = v := ⟨_, rfl⟩
        rw [hv]
        rw [hv] at hval
        have hb3 : (1000000000000 : Int) < (v : Int) := by omega
        clear hval
        clear hv
        go_wp2
        go_ret2
        exact ⟨rfl, H.below⟩
set_option maxRecDepth 100000 in
set_option maxHeartbeats 1000000 in
theorem read_neg (s B wh la : ByteArray) (neg : Bool) (w : World) (hP : ∀ W, Calls Tryd.prog 23 #[.string s, .string ⟨#[45]⟩] W fun e w' => e = .returned (.tuple #[.string B, .bool neg]) ∧ W = w') (hC : ∀ W, Calls Tryd.prog 24 #[.string B, .string ⟨#[46]⟩] W fun e w' => e = .returned (.tuple #[.string wh, .string la, .bool true]) ∧ ∃ n, w' = W.drewN n) (hs : s.size ≤ 20) (he : wh.toList.isEmpty = false) (h2 : la.size = 2) (hwm : wh.size ≤ 20) (h0 : 0 < wh.size) (c0 : Nat) (hc0 : wh[0].toNat = c0) (hz : decide ((1 : Int) < (wh.size : Int)) = false ∨ ((1 : Int) < (wh.size : Int) ∧ ((c0 : Int) == 48) = false)) (ds : List Nat) (hds : ∀ d ∈ ds, d ≤ 9) (hT : wh ++ la = dstr ds) (hneg : neg = true) (hv0 : 0 < satv ds) (hval : satv ds ≤ 1000000000000) :
    Calls Tryd.prog 17 #[.string s] w (RetRead (-(satv ds : Int)) 0 w) := by
  have hsI : ¬ (20 : Int) < (s.size : Int) := by omega
  have h2I : ((la.size : Int) != 2) = false := by simp; omega
  have h0I : (0 : Int) < (wh.size : Int) := by omega
  have hcap : ¬ 9223372036854775807 < wh.size + la.size := by omega
  have hcap2 : ¬ 9223372036854775807 < wh.size + 2 := by omega
  subst hneg
  have H := Mem.init w
  go_enter Tryd.func17, Tryd.ntmps17
  go_wp2_with fail
  refine (hP _).mono ?_
  rintro e w1 ⟨rfl, rfl⟩
  go_wp2_with fail
  refine (hC _).mono ?_
  rintro e wk ⟨rfl, n0, hwk⟩
  replace H : Mem w [] wk [] := hwk ▸ Mem.drewN H n0
  clear hP hC hwk hsI hs
  have H : Mem (w) [] (wk) [] := H
  have hTs := dstr_size ds
  have hdl : ds.length = wh.size + 2 := by rw [← hTs, ← hT, ByteArray.size_append, h2]
  rcases hz with hz | ⟨hz1, hz⟩
  all_goals
    go_wp2_with fail
    replace H : Mem (w) [] _ [.obj (wk.heap.size) (.stringIter (dstr ds) 0)] := Mem.iter H (wk.heap.size) (by first | (simp; done) | (simp; omega)) (dstr ds)
    clear hT hdl
    go_loopw [9] (fun v wr => ∃ k : Nat, k ≤ ds.length ∧ v = .int .i64 (satv (ds.take k) : Int) ∧ Mem w [] wr [.obj wk.heap.size (.stringIter (dstr ds) k)]) (fun _ wr => ds.length - wr.iterPos wk.heap.size)
    case atStart => exact ⟨0, by omega, rfl, H⟩
    case round =>
      obtain ⟨k, hk, rfl, HM⟩ := hrel
      clear H
      have H : Mem (w) [] (wr) [.obj (wk.heap.size) (.stringIter (dstr ds) k)] := HM
      clear HM
      have hit := H.obj_ 0 rfl

      by_cases hlt : k < ds.length
      · have hb := dstr_byte hds k (by rw [hTs]; exact hlt)
        have h9 := hds _ (List.getElem_mem hlt)
        have hnx := fun ty => Lib.run_next_ascii_at (P := Tryd.prog) wr wk.heap.size (dstr ds) k ty hit (by rw [hTs]; exact hlt) (by rw [hb]; omega)
        rw [hb] at hnx
        have hts : satv (ds.take (k + 1)) = min (satv (ds.take k) * 10 + ds[k]) 1000000000001 := by rw [List.take_succ_eq_append_getElem hlt, satv_snoc]
        obtain ⟨d, hdd⟩ : ∃ d, ds[k] = d := ⟨_, rfl⟩
        rw [hdd] at hnx h9 hts
        have hsl := satv_le (ds.take k)
        obtain ⟨sv, hsv⟩ : ∃ v, satv (ds.take k) = v := ⟨_, rfl⟩
        rw [hsv] at hts hsl
        have HSV := Lib.hid hsv
        have g1 : (48 : Int) ≤ ((48 + d : Nat) : Int) := by omega
        have g2 : ((48 + d : Nat) : Int) ≤ 57 := by omega
        have s0 : 0 ≤ (sv : Int) := by omega
        have s1 : (sv : Int) ≤ 1000000000001 := by omega
        have hmin := min2_is ((sv : Int) * 10 + (d : Int)) 1000000000001
        have hmv : (if (1000000000001 : Int) < (sv : Int) * 10 + (d : Int) then (1000000000001 : Int) else (sv : Int) * 10 + (d : Int)) = (satv (ds.take (k + 1)) : Int) := by
          rw [hts]; split <;> omega
        rw [hmv] at hmin
        have hmx := fun W => hmin Tryd.prog #[3, 3] 3 W
        have e1 : (48 + (d : Int) - 48) = (d : Int) := by omega
        have HIT := Lib.hid hit
        clear hmin hb hdd hit hts hsl hmv h9
        rw [hsv]
        clear hsv
        replace H : Mem (w) [] _ [.obj (wk.heap.size) (.stringIter (dstr ds) (k + 1))] := Mem.next 0 H rfl (k + 1)
        go_wp2
        go_roundw
        case rel => exact ⟨k + 1, by omega, rfl, H⟩
        case measure =>
          have h9 := iterPos_of (H.obj_ 0 rfl)
          have h8 := iterPos_of HIT.out
          omega
      · skip
        have hnx := fun ty => Lib.run_next_end_at (P := Tryd.prog) wr wk.heap.size (dstr ds) k ty hit (by rw [hTs]; exact hlt)
        have hke : ds.take k = ds := List.take_of_length_le (by omega)
        rw [hke]
        clear hke hit
        obtain ⟨v, hv⟩ : ∃ v, satv ds = v := ⟨_, rfl⟩
        rw [hv]
        rw [hv] at hval
        rw [hv] at hv0
        have hvz : ((v : Int) == 0) = false := by simp; omega
        have hb3 : ¬ (1000000000000 : Int) < (v : Int) := by omega
        clear hval hv0
        have HV := Lib.hid hv
        clear hv
        go_wp2
        go_ret2
        exact ⟨by rw [HV.out]; rfl, H.below⟩
set_option maxRecDepth 100000 in
set_option maxHeartbeats 1000000 in
theorem read_pos (s B wh la : ByteArray) (neg : Bool) (w : World) (hP : ∀ W, Calls Tryd.prog 23 #[.string s, .string ⟨#[45]⟩] W fun e w' => e = .returned (.tuple #[.string B, .bool neg]) ∧ W = w') (hC : ∀ W, Calls Tryd.prog 24 #[.string B, .string ⟨#[46]⟩] W fun e w' => e = .returned (.tuple #[.string wh, .string la, .bool true]) ∧ ∃ n, w' = W.drewN n) (hs : s.size ≤ 20) (he : wh.toList.isEmpty = false) (h2 : la.size = 2) (hwm : wh.size ≤ 20) (h0 : 0 < wh.size) (c0 : Nat) (hc0 : wh[0].toNat = c0) (hz : decide ((1 : Int) < (wh.size : Int)) = false ∨ ((1 : Int) < (wh.size : Int) ∧ ((c0 : Int) == 48) = false)) (ds : List Nat) (hds : ∀ d ∈ ds, d ≤ 9) (hT : wh ++ la = dstr ds) (hneg : neg = false) (hval : satv ds ≤ 1000000000000) :
    Calls Tryd.prog 17 #[.string s] w (RetRead (satv ds : Int) 0 w) := by
  have hsI : ¬ (20 : Int) < (s.size : Int) := by omega
  have h2I : ((la.size : Int) != 2) = false := by simp; omega
  have h0I : (0 : Int) < (wh.size : Int) := by omega
  have hcap : ¬ 9223372036854775807 < wh.size + la.size := by omega
  have hcap2 : ¬ 9223372036854775807 < wh.size + 2 := by omega
  subst hneg
  have H := Mem.init w
  go_enter Tryd.func17, Tryd.ntmps17
  go_wp2_with fail
  refine (hP _).mono ?_
  rintro e w1 ⟨rfl, rfl⟩
  go_wp2_with fail
  refine (hC _).mono ?_
  rintro e wk ⟨rfl, n0, hwk⟩
  replace H : Mem w [] wk [] := hwk ▸ Mem.drewN H n0
  clear hP hC hwk hsI hs
  have H : Mem (w) [] (wk) [] := H
  have hTs := dstr_size ds
  have hdl : ds.length = wh.size + 2 := by rw [← hTs, ← hT, ByteArray.size_append, h2]
  rcases hz with hz | ⟨hz1, hz⟩
  all_goals
    go_wp2_with fail
    replace H : Mem (w) [] _ [.obj (wk.heap.size) (.stringIter (dstr ds) 0)] := Mem.iter H (wk.heap.size) (by first | (simp; done) | (simp; omega)) (dstr ds)
    clear hT hdl
    go_loopw [9] (fun v wr => ∃ k : Nat, k ≤ ds.length ∧ v = .int .i64 (satv (ds.take k) : Int) ∧ Mem w [] wr [.obj wk.heap.size (.stringIter (dstr ds) k)]) (fun _ wr => ds.length - wr.iterPos wk.heap.size)
    case atStart => exact ⟨0, by omega, rfl, H⟩
    case round =>
      obtain ⟨k, hk, rfl, HM⟩ := hrel
      clear H
      have H : Mem (w) [] (wr) [.obj (wk.heap.size) (.stringIter (dstr ds) k)] := HM
      clear HM
      have hit := H.obj_ 0 rfl

      by_cases hlt : k < ds.length
      · have hb := dstr_byte hds k (by rw [hTs]; exact hlt)
        have h9 := hds _ (List.getElem_mem hlt)
        have hnx := fun ty => Lib.run_next_ascii_at (P := Tryd.prog) wr wk.heap.size (dstr ds) k ty hit (by rw [hTs]; exact hlt) (by rw [hb]; omega)
        rw [hb] at hnx
        have hts : satv (ds.take (k + 1)) = min (satv (ds.take k) * 10 + ds[k]) 1000000000001 := by rw [List.take_succ_eq_append_getElem hlt, satv_snoc]
        obtain ⟨d, hdd⟩ : ∃ d, ds[k] = d := ⟨_, rfl⟩
        rw [hdd] at hnx h9 hts
        have hsl := satv_le (ds.take k)
        obtain ⟨sv, hsv⟩ : ∃ v, satv (ds.take k) = v := ⟨_, rfl⟩
        rw [hsv] at hts hsl
        have HSV := Lib.hid hsv
        have g1 : (48 : Int) ≤ ((48 + d : Nat) : Int) := by omega
        have g2 : ((48 + d : Nat) : Int) ≤ 57 := by omega
        have s0 : 0 ≤ (sv : Int) := by omega
        have s1 : (sv : Int) ≤ 1000000000001 := by omega
        have hmin := min2_is ((sv : Int) * 10 + (d : Int)) 1000000000001
        have hmv : (if (1000000000001 : Int) < (sv : Int) * 10 + (d : Int) then (1000000000001 : Int) else (sv : Int) * 10 + (d : Int)) = (satv (ds.take (k + 1)) : Int) := by
          rw [hts]; split <;> omega
        rw [hmv] at hmin
        have hmx := fun W => hmin Tryd.prog #[3, 3] 3 W
        have e1 : (48 + (d : Int) - 48) = (d : Int) := by omega
        have HIT := Lib.hid hit
        clear hmin hb hdd hit hts hsl hmv h9
        rw [hsv]
        clear hsv
        replace H : Mem (w) [] _ [.obj (wk.heap.size) (.stringIter (dstr ds) (k + 1))] := Mem.next 0 H rfl (k + 1)
        go_wp2
        go_roundw
        case rel => exact ⟨k + 1, by omega, rfl, H⟩
        case measure =>
          have h9 := iterPos_of (H.obj_ 0 rfl)
          have h8 := iterPos_of HIT.out
          omega
      · skip
        have hnx := fun ty => Lib.run_next_end_at (P := Tryd.prog) wr wk.heap.size (dstr ds) k ty hit (by rw [hTs]; exact hlt)
        have hke : ds.take k = ds := List.take_of_length_le (by omega)
        rw [hke]
        clear hke hit
        obtain ⟨v, hv⟩ : ∃ v, satv ds = v := ⟨_, rfl⟩
        rw [hv]
        rw [hv] at hval
        have hb3 : ¬ (1000000000000 : Int) < (v : Int) := by omega
        clear hval
        have HV := Lib.hid hv
        clear hv
        go_wp2
        go_ret2
        exact ⟨by rw [HV.out]; rfl, H.below⟩
end Go.Proofs.YthhbnmmhjfgpdaaDoor
