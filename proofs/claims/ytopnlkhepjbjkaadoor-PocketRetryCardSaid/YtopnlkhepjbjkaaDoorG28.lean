/- token: field, Parse. -/
import Derived.Test.YtopnlkhepjbjkaaDoorG26
import Derived.Test.YtopnlkhepjbjkaaDoorG27
import Derived.Test.YtopnlkhepjbjkaaDoorG23
import Derived.Deep.RegionHeld3
namespace Go.Proofs.YtopnlkhepjbjkaaDoor
open Go.RowKit
set_option linter.unusedVariables false
theorem sign_rune {s : ByteArray} {j : Nat} (hj : j < s.size) (hn : ¬ (48 ≤ s[j].toNat ∧ s[j].toNat ≤ 57)) : (Utf8.decode s j).1 < 48 ∨ 57 < (Utf8.decode s j).1 := by
  by_cases h : s[j].toNat < 128
  · rw [decode_ascii s j hj h]; dsimp only; omega
  · have := (decode_high s j hj (by omega)).1; omega
/-- The answer of 'Parse'. -/
def RetTok (c i a t E : Nat) (w : World) (e : Ending) (w' : World) : Prop := e = .returned (.tuple #[.agg #[.int .i64 (c : Int), .int .i64 (i : Int), .int .i64 (a : Int), .int .i64 (t : Int)], .int .i64 (E : Int)]) ∧ Below w.heap.size w w'
set_option maxRecDepth 100000 in
set_option maxHeartbeats 1000000 in
/-- A sign that is no digit. -/
theorem parse_sign (s : ByteArray) (j : Nat) (hj : j < s.size) (w : World) (h20 : s.size = 20) (hn : ¬ (48 ≤ s[j].toNat ∧ s[j].toNat ≤ 57)) (hd : ∀ (i : Nat) (hi : i < j), 48 ≤ (s[i]'(by omega)).toNat ∧ (s[i]'(by omega)).toNat ≤ 57) :
    Calls Tryd.prog 20 #[.string s] w (RetTok 0 0 0 0 7 w) := by
  have H := Mem.init w
  replace H : Mem (w) [] _ [.blk (w.heap.size) 48 #[.int .i64 0, .int .i64 0, .int .i64 0, .int .i64 0]] := Mem.alloc H (w.heap.size) (by first | (simp; done) | (simp; omega)) #[.int .i64 0, .int .i64 0, .int .i64 0, .int .i64 0] 48
  replace H : Mem (w) [] _ [.blk (w.heap.size) 48 #[.int .i64 0, .int .i64 0, .int .i64 0, .int .i64 0], .obj (w.heap.size + 1) (.stringIter (s) 0)] := Mem.iter H (w.heap.size + 1) (by first | (simp; done) | (simp; omega)) (s)
  have hszI : ((s.size : Int) != 20) = false := by simp; omega
  go_enter Tryd.func20, Tryd.ntmps20
  go_wp2
  go_loopw [] (fun wr => ∃ k : Nat, k ≤ j ∧ Mem w [] wr [.blk w.heap.size 48 #[.int .i64 0, .int .i64 0, .int .i64 0, .int .i64 0], .obj (w.heap.size + 1) (.stringIter s k)]) (fun wr => s.size - wr.iterPos (w.heap.size + 1))
  case atStart => exact ⟨0, by omega, H⟩
  case round =>
    obtain ⟨k, hk, HM⟩ := hrel
    clear H
    have H : Mem (w) [] (wr) [.blk (w.heap.size) 48 #[.int .i64 0, .int .i64 0, .int .i64 0, .int .i64 0], .obj (w.heap.size + 1) (.stringIter s k)] := HM
    clear HM
    have hit := H.obj_ 1 rfl
    by_cases hlt : k < j
    · obtain ⟨g1, g2⟩ := hd k hlt
      have hnx := fun ty => Lib.run_next_ascii_at (P := Tryd.prog) wr (w.heap.size + 1) s k ty hit (by omega) (by omega)
      obtain ⟨b, hb⟩ : ∃ b, (s[k]'(by omega)).toNat = b := ⟨_, rfl⟩
      rw [hb] at hnx g1 g2
      have g3 : (48 : Int) ≤ (b : Int) := by omega
      have g4 : (b : Int) ≤ 57 := by omega
      have HIT := Lib.hid hit
      clear hb hit hd hn
      replace H : Mem (w) [] _ [.blk (w.heap.size) 48 #[.int .i64 0, .int .i64 0, .int .i64 0, .int .i64 0], .obj (w.heap.size + 1) (.stringIter (s) (k + 1))] := Mem.next 1 H rfl (k + 1)
      go_wp2
      go_roundw
      case rel => exact ⟨k + 1, by omega, H⟩
      case measure =>
        have h9 := iterPos_of (H.obj_ 1 rfl)
        have h8 := iterPos_of HIT.out
        omega
    · obtain rfl : k = j := by omega
      have H : Mem (w) [] (wr) [.blk (w.heap.size) 48 #[.int .i64 0, .int .i64 0, .int .i64 0, .int .i64 0], .obj (w.heap.size + 1) (.stringIter s k)] := H
      have hr := sign_rune hj hn
      have hr2 := decode_le s k
      have hnx := fun ty => Lib.run_next_any_at (P := Tryd.prog) wr (w.heap.size + 1) s k ty hit hj
      obtain ⟨r, hrr⟩ : ∃ r, (Utf8.decode s k).1 = r := ⟨_, rfl⟩
      obtain ⟨n, hnn⟩ : ∃ n, (Utf8.decode s k).2 = n := ⟨_, rfl⟩
      rw [hrr, hnn] at hnx
      rw [hrr] at hr hr2
      clear hrr hnn hit hd hn
      replace H : Mem (w) [] _ [.blk (w.heap.size) 48 #[.int .i64 0, .int .i64 0, .int .i64 0, .int .i64 0], .obj (w.heap.size + 1) (.stringIter (s) (k + n))] := Mem.next 1 H rfl (k + n)
      have rs0 : ((wr).iterAt (w.heap.size + 1) (s) (k + n)).cell? ⟨w.heap.size, 0, none⟩ = some (.int .i64 0) := (H.blk 0 rfl).cell 0
      have rsf0 : ((wr).iterAt (w.heap.size + 1) (s) (k + n)).frozen? ⟨w.heap.size, 0, none⟩ = false := (H.blk 0 rfl).frozen 0
      have rs1 : ((wr).iterAt (w.heap.size + 1) (s) (k + n)).cell? ⟨w.heap.size, 1, none⟩ = some (.int .i64 0) := (H.blk 0 rfl).cell 1
      have rsf1 : ((wr).iterAt (w.heap.size + 1) (s) (k + n)).frozen? ⟨w.heap.size, 1, none⟩ = false := (H.blk 0 rfl).frozen 1
      have rs2 : ((wr).iterAt (w.heap.size + 1) (s) (k + n)).cell? ⟨w.heap.size, 2, none⟩ = some (.int .i64 0) := (H.blk 0 rfl).cell 2
      have rsf2 : ((wr).iterAt (w.heap.size + 1) (s) (k + n)).frozen? ⟨w.heap.size, 2, none⟩ = false := (H.blk 0 rfl).frozen 2
      have rs3 : ((wr).iterAt (w.heap.size + 1) (s) (k + n)).cell? ⟨w.heap.size, 3, none⟩ = some (.int .i64 0) := (H.blk 0 rfl).cell 3
      have rsf3 : ((wr).iterAt (w.heap.size + 1) (s) (k + n)).frozen? ⟨w.heap.size, 3, none⟩ = false := (H.blk 0 rfl).frozen 3
      have rslt : w.heap.size < ((wr).iterAt (w.heap.size + 1) (s) (k + n)).heap.size := H.lt 0 rfl

      rcases hr with hr | hr
      · have g1 : (r : Int) < 48 := by omega
        go_wp2
        obtain ⟨wz, hwz⟩ : ∃ wz, (((((wr).iterAt (w.heap.size + 1) (s) (k + n)).setCell ⟨w.heap.size, 0, none⟩ (.int .i64 0)).setCell ⟨w.heap.size, 1, none⟩ (.int .i64 0)).setCell ⟨w.heap.size, 2, none⟩ (.int .i64 0)).setCell ⟨w.heap.size, 3, none⟩ (.int .i64 0) = wz := ⟨_, rfl⟩
        replace H : Mem (w) [] _ [.blk (w.heap.size) 48 #[.int .i64 0, .int .i64 0, .int .i64 0, .int .i64 0], .obj (w.heap.size + 1) (.stringIter (s) (k + n))] := Mem.set 0 H rfl 0 (.int .i64 0)
        replace H : Mem (w) [] _ [.blk (w.heap.size) 48 #[.int .i64 0, .int .i64 0, .int .i64 0, .int .i64 0], .obj (w.heap.size + 1) (.stringIter (s) (k + n))] := Mem.set 0 H rfl 1 (.int .i64 0)
        replace H : Mem (w) [] _ [.blk (w.heap.size) 48 #[.int .i64 0, .int .i64 0, .int .i64 0, .int .i64 0], .obj (w.heap.size + 1) (.stringIter (s) (k + n))] := Mem.set 0 H rfl 2 (.int .i64 0)
        replace H : Mem (w) [] _ [.blk (w.heap.size) 48 #[.int .i64 0, .int .i64 0, .int .i64 0, .int .i64 0], .obj (w.heap.size + 1) (.stringIter (s) (k + n))] := Mem.set 0 H rfl 3 (.int .i64 0)
        rw [hwz] at H ⊢
        clear hwz
        clear rs0 rsf0 rs1 rsf1 rs2 rsf2 rs3 rsf3 rslt
        have rs0 : (wz).cell? ⟨w.heap.size, 0, none⟩ = some (.int .i64 0) := (H.blk 0 rfl).cell 0
        have rsf0 : (wz).frozen? ⟨w.heap.size, 0, none⟩ = false := (H.blk 0 rfl).frozen 0
        have rs1 : (wz).cell? ⟨w.heap.size, 1, none⟩ = some (.int .i64 0) := (H.blk 0 rfl).cell 1
        have rsf1 : (wz).frozen? ⟨w.heap.size, 1, none⟩ = false := (H.blk 0 rfl).frozen 1
        have rs2 : (wz).cell? ⟨w.heap.size, 2, none⟩ = some (.int .i64 0) := (H.blk 0 rfl).cell 2
        have rsf2 : (wz).frozen? ⟨w.heap.size, 2, none⟩ = false := (H.blk 0 rfl).frozen 2
        have rs3 : (wz).cell? ⟨w.heap.size, 3, none⟩ = some (.int .i64 0) := (H.blk 0 rfl).cell 3
        have rsf3 : (wz).frozen? ⟨w.heap.size, 3, none⟩ = false := (H.blk 0 rfl).frozen 3
        have rslt : w.heap.size < (wz).heap.size := H.lt 0 rfl
        refine bodyPost_ret (v := .tuple #[.agg #[.int .i64 0, .int .i64 0, .int .i64 0, .int .i64 0], .int .i64 7]) (by simp [results, Tryd.results20, go_sem, rs0, rs1, rs2, rs3]; done) rfl ?_
        exact ⟨rfl, H.below⟩
      · skip
        have g1 : (57 : Int) < (r : Int) := by omega
        have g2 : decide ((r : Int) < 48) = false := by simp; omega
        go_wp2
        obtain ⟨wz, hwz⟩ : ∃ wz, (((((wr).iterAt (w.heap.size + 1) (s) (k + n)).setCell ⟨w.heap.size, 0, none⟩ (.int .i64 0)).setCell ⟨w.heap.size, 1, none⟩ (.int .i64 0)).setCell ⟨w.heap.size, 2, none⟩ (.int .i64 0)).setCell ⟨w.heap.size, 3, none⟩ (.int .i64 0) = wz := ⟨_, rfl⟩
        replace H : Mem (w) [] _ [.blk (w.heap.size) 48 #[.int .i64 0, .int .i64 0, .int .i64 0, .int .i64 0], .obj (w.heap.size + 1) (.stringIter (s) (k + n))] := Mem.set 0 H rfl 0 (.int .i64 0)
        replace H : Mem (w) [] _ [.blk (w.heap.size) 48 #[.int .i64 0, .int .i64 0, .int .i64 0, .int .i64 0], .obj (w.heap.size + 1) (.stringIter (s) (k + n))] := Mem.set 0 H rfl 1 (.int .i64 0)
        replace H : Mem (w) [] _ [.blk (w.heap.size) 48 #[.int .i64 0, .int .i64 0, .int .i64 0, .int .i64 0], .obj (w.heap.size + 1) (.stringIter (s) (k + n))] := Mem.set 0 H rfl 2 (.int .i64 0)
        replace H : Mem (w) [] _ [.blk (w.heap.size) 48 #[.int .i64 0, .int .i64 0, .int .i64 0, .int .i64 0], .obj (w.heap.size + 1) (.stringIter (s) (k + n))] := Mem.set 0 H rfl 3 (.int .i64 0)
        rw [hwz] at H ⊢
        clear hwz
        clear rs0 rsf0 rs1 rsf1 rs2 rsf2 rs3 rsf3 rslt
        have rs0 : (wz).cell? ⟨w.heap.size, 0, none⟩ = some (.int .i64 0) := (H.blk 0 rfl).cell 0
        have rsf0 : (wz).frozen? ⟨w.heap.size, 0, none⟩ = false := (H.blk 0 rfl).frozen 0
        have rs1 : (wz).cell? ⟨w.heap.size, 1, none⟩ = some (.int .i64 0) := (H.blk 0 rfl).cell 1
        have rsf1 : (wz).frozen? ⟨w.heap.size, 1, none⟩ = false := (H.blk 0 rfl).frozen 1
        have rs2 : (wz).cell? ⟨w.heap.size, 2, none⟩ = some (.int .i64 0) := (H.blk 0 rfl).cell 2
        have rsf2 : (wz).frozen? ⟨w.heap.size, 2, none⟩ = false := (H.blk 0 rfl).frozen 2
        have rs3 : (wz).cell? ⟨w.heap.size, 3, none⟩ = some (.int .i64 0) := (H.blk 0 rfl).cell 3
        have rsf3 : (wz).frozen? ⟨w.heap.size, 3, none⟩ = false := (H.blk 0 rfl).frozen 3
        have rslt : w.heap.size < (wz).heap.size := H.lt 0 rfl
        refine bodyPost_ret (v := .tuple #[.agg #[.int .i64 0, .int .i64 0, .int .i64 0, .int .i64 0], .int .i64 7]) (by simp [results, Tryd.results20, go_sem, rs0, rs1, rs2, rs3]; done) rfl ?_
        exact ⟨rfl, H.below⟩
set_option maxRecDepth 100000 in
set_option maxHeartbeats 1000000 in
/-- Not twenty signs. -/
theorem parse_len (s : ByteArray) (w : World) (h20 : ¬ s.size = 20) :
    Calls Tryd.prog 20 #[.string s] w (RetTok 0 0 0 0 6 w) := by
  have H := Mem.init w
  obtain ⟨W0, hW0⟩ : ∃ W0, (w).alloc (.cells #[.int .i64 0, .int .i64 0, .int .i64 0, .int .i64 0] 48) = W0 := ⟨_, rfl⟩
  replace H : Mem (w) [] _ [.blk (w.heap.size) 48 #[.int .i64 0, .int .i64 0, .int .i64 0, .int .i64 0]] := Mem.alloc H (w.heap.size) (by first | (simp; done) | (simp; omega)) #[.int .i64 0, .int .i64 0, .int .i64 0, .int .i64 0] 48
  rw [hW0] at H
  have rs0 : (W0).cell? ⟨w.heap.size, 0, none⟩ = some (.int .i64 0) := (H.blk 0 rfl).cell 0
  have rsf0 : (W0).frozen? ⟨w.heap.size, 0, none⟩ = false := (H.blk 0 rfl).frozen 0
  have rs1 : (W0).cell? ⟨w.heap.size, 1, none⟩ = some (.int .i64 0) := (H.blk 0 rfl).cell 1
  have rsf1 : (W0).frozen? ⟨w.heap.size, 1, none⟩ = false := (H.blk 0 rfl).frozen 1
  have rs2 : (W0).cell? ⟨w.heap.size, 2, none⟩ = some (.int .i64 0) := (H.blk 0 rfl).cell 2
  have rsf2 : (W0).frozen? ⟨w.heap.size, 2, none⟩ = false := (H.blk 0 rfl).frozen 2
  have rs3 : (W0).cell? ⟨w.heap.size, 3, none⟩ = some (.int .i64 0) := (H.blk 0 rfl).cell 3
  have rsf3 : (W0).frozen? ⟨w.heap.size, 3, none⟩ = false := (H.blk 0 rfl).frozen 3
  have rslt : w.heap.size < (W0).heap.size := H.lt 0 rfl
  have hszI : ((s.size : Int) != 20) = true := by simp; omega
  go_enter Tryd.func20, Tryd.ntmps20
  go_wp2
  obtain ⟨wz, hwz⟩ : ∃ wz, ((((W0).setCell ⟨w.heap.size, 0, none⟩ (.int .i64 0)).setCell ⟨w.heap.size, 1, none⟩ (.int .i64 0)).setCell ⟨w.heap.size, 2, none⟩ (.int .i64 0)).setCell ⟨w.heap.size, 3, none⟩ (.int .i64 0) = wz := ⟨_, rfl⟩
  replace H : Mem (w) [] _ [.blk (w.heap.size) 48 #[.int .i64 0, .int .i64 0, .int .i64 0, .int .i64 0]] := Mem.set 0 H rfl 0 (.int .i64 0)
  replace H : Mem (w) [] _ [.blk (w.heap.size) 48 #[.int .i64 0, .int .i64 0, .int .i64 0, .int .i64 0]] := Mem.set 0 H rfl 1 (.int .i64 0)
  replace H : Mem (w) [] _ [.blk (w.heap.size) 48 #[.int .i64 0, .int .i64 0, .int .i64 0, .int .i64 0]] := Mem.set 0 H rfl 2 (.int .i64 0)
  replace H : Mem (w) [] _ [.blk (w.heap.size) 48 #[.int .i64 0, .int .i64 0, .int .i64 0, .int .i64 0]] := Mem.set 0 H rfl 3 (.int .i64 0)
  rw [hwz] at H ⊢
  clear hwz
  clear rs0 rsf0 rs1 rsf1 rs2 rsf2 rs3 rsf3 rslt
  have rs0 : (wz).cell? ⟨w.heap.size, 0, none⟩ = some (.int .i64 0) := (H.blk 0 rfl).cell 0
  have rsf0 : (wz).frozen? ⟨w.heap.size, 0, none⟩ = false := (H.blk 0 rfl).frozen 0
  have rs1 : (wz).cell? ⟨w.heap.size, 1, none⟩ = some (.int .i64 0) := (H.blk 0 rfl).cell 1
  have rsf1 : (wz).frozen? ⟨w.heap.size, 1, none⟩ = false := (H.blk 0 rfl).frozen 1
  have rs2 : (wz).cell? ⟨w.heap.size, 2, none⟩ = some (.int .i64 0) := (H.blk 0 rfl).cell 2
  have rsf2 : (wz).frozen? ⟨w.heap.size, 2, none⟩ = false := (H.blk 0 rfl).frozen 2
  have rs3 : (wz).cell? ⟨w.heap.size, 3, none⟩ = some (.int .i64 0) := (H.blk 0 rfl).cell 3
  have rsf3 : (wz).frozen? ⟨w.heap.size, 3, none⟩ = false := (H.blk 0 rfl).frozen 3
  have rslt : w.heap.size < (wz).heap.size := H.lt 0 rfl
  refine bodyPost_ret (v := .tuple #[.agg #[.int .i64 0, .int .i64 0, .int .i64 0, .int .i64 0], .int .i64 6]) (by simp [results, Tryd.results20, go_sem, rs0, rs1, rs2, rs3]; done) rfl ?_
  exact ⟨rfl, H.below⟩
set_option maxRecDepth 100000 in
set_option maxHeartbeats 1000000 in
theorem tfield_ok (x0 x1 x2 lo m lo2 V g : Nat) (w : World) (a0 : x0 < 4294967296) (a1 : x1 < 4294967296) (a2 : x2 < 4294967296) (h1 : 1 ≤ m) (h2 : m ≤ 32) (h3 : lo + m ≤ 96) (hl : lo + m = lo2) (hV : bitsN (val3 x0 x1 x2) lo m = V) (hg : Blk w g 3 #[.int .i64 (lo : Int)]) :
    Calls Tryd.prog 41 #[.agg #[.int .u32 (x0 : Int), .int .u32 (x1 : Int), .int .u32 (x2 : Int)], .pointer (some ⟨g, 0, none⟩), .int .i64 (m : Int)] w fun e w' => e = .returned (.int .i64 (V : Int)) ∧ Mem w [g] w' [.blk g 3 #[.int .i64 (lo2 : Int)]] := by
  have hB := fun W => bits_ok x0 x1 x2 lo m W a0 a1 a2 h1 (by omega) h3
  have hlt := bitsN_lt (val3 x0 x1 x2) lo m
  rw [hV] at hB hlt
  have hV9 : (V : Int) ≤ 4294967295 := by
    have : (2 : Nat) ^ m ≤ 2 ^ 32 := Nat.pow_le_pow_right (by omega) h2
    omega
  have hlI : (lo : Int) + (m : Int) = (lo2 : Int) := by omega
  have hl2 : (lo2 : Int) ≤ 96 := by omega
  clear hV hlt a0 a1 a2 h1 h2 h3 hl
  have H : Mem (w) [g] (w) [.blk (g) 3 #[.int .i64 (lo : Int)]] := Mem.init1 hg
  obtain ⟨W0, hW0⟩ : ∃ W0, (w).alloc (.cells #[.int .u32 (x0 : Int), .int .u32 (x1 : Int), .int .u32 (x2 : Int)] 78) = W0 := ⟨_, rfl⟩
  replace H : Mem (w) [g] _ [.blk (g) 3 #[.int .i64 (lo : Int)], .blk (w.heap.size) 78 #[.int .u32 (x0 : Int), .int .u32 (x1 : Int), .int .u32 (x2 : Int)]] := Mem.alloc H (w.heap.size) (by first | (simp; done) | (simp; omega)) #[.int .u32 (x0 : Int), .int .u32 (x1 : Int), .int .u32 (x2 : Int)] 78
  rw [hW0] at H
  have at0 : (W0).cell? ⟨g, 0, none⟩ = some (.int .i64 (lo : Int)) := (H.blk 0 rfl).cell 0
  have atf0 : (W0).frozen? ⟨g, 0, none⟩ = false := (H.blk 0 rfl).frozen 0
  have atlt : g < (W0).heap.size := H.lt 0 rfl
  have bx0 : (W0).cell? ⟨w.heap.size, 0, none⟩ = some (.int .u32 (x0 : Int)) := (H.blk 1 rfl).cell 0
  have bxf0 : (W0).frozen? ⟨w.heap.size, 0, none⟩ = false := (H.blk 1 rfl).frozen 0
  have bx1 : (W0).cell? ⟨w.heap.size, 1, none⟩ = some (.int .u32 (x1 : Int)) := (H.blk 1 rfl).cell 1
  have bxf1 : (W0).frozen? ⟨w.heap.size, 1, none⟩ = false := (H.blk 1 rfl).frozen 1
  have bx2 : (W0).cell? ⟨w.heap.size, 2, none⟩ = some (.int .u32 (x2 : Int)) := (H.blk 1 rfl).cell 2
  have bxf2 : (W0).frozen? ⟨w.heap.size, 2, none⟩ = false := (H.blk 1 rfl).frozen 2
  have bxlt : w.heap.size < (W0).heap.size := H.lt 1 rfl
  have ne_at_bx : g ≠ w.heap.size := H.ne 0 1 rfl rfl (by decide)
  have ne_bx_at : w.heap.size ≠ g := H.ne 1 0 rfl rfl (by decide)
  clear hg
  go_enter Tryd.func41, Tryd.ntmps41
  go_wp2
  clear hW0
  go_region_held3 (fun w' => w'.cell? ⟨w.heap.size, 0, none⟩ = some (.int .u32 (x0 : Int)) ∧ w'.cell? ⟨w.heap.size, 1, none⟩ = some (.int .u32 (x1 : Int)) ∧ w'.cell? ⟨w.heap.size, 2, none⟩ = some (.int .u32 (x2 : Int)) ∧ w'.cell? ⟨g, 0, none⟩ = some (.int .i64 (lo : Int))) (first | go_keep | fail) ((go_at_call 42; (with_reducible refine (hB _).mono ?_); rintro e wa ⟨rfl, hba⟩; have c0 := (hba.cell (p := ⟨w.heap.size, 0, none⟩) bxlt).trans bx0; have c1 := (hba.cell (p := ⟨w.heap.size, 1, none⟩) bxlt).trans bx1; have c2 := (hba.cell (p := ⟨w.heap.size, 2, none⟩) bxlt).trans bx2; have c3 := (hba.cell (p := ⟨g, 0, none⟩) atlt).trans at0))
  replace H : Mem (w) [g] (wa) [.blk (g) 3 #[.int .i64 (lo : Int)], .blk (w.heap.size) 78 #[.int .u32 (x0 : Int), .int .u32 (x1 : Int), .int .u32 (x2 : Int)]] := Mem.call (Mem.drew H) hba
  clear at0 atf0 atlt bx0 bxf0 bx1 bxf1 bx2 bxf2 bxlt ne_at_bx ne_bx_at
  have at0 : (wa).cell? ⟨g, 0, none⟩ = some (.int .i64 (lo : Int)) := (H.blk 0 rfl).cell 0
  have atf0 : (wa).frozen? ⟨g, 0, none⟩ = false := (H.blk 0 rfl).frozen 0
  have atlt : g < (wa).heap.size := H.lt 0 rfl
  have bx0 : (wa).cell? ⟨w.heap.size, 0, none⟩ = some (.int .u32 (x0 : Int)) := (H.blk 1 rfl).cell 0
  have bxf0 : (wa).frozen? ⟨w.heap.size, 0, none⟩ = false := (H.blk 1 rfl).frozen 0
  have bx1 : (wa).cell? ⟨w.heap.size, 1, none⟩ = some (.int .u32 (x1 : Int)) := (H.blk 1 rfl).cell 1
  have bxf1 : (wa).frozen? ⟨w.heap.size, 1, none⟩ = false := (H.blk 1 rfl).frozen 1
  have bx2 : (wa).cell? ⟨w.heap.size, 2, none⟩ = some (.int .u32 (x2 : Int)) := (H.blk 1 rfl).cell 2
  have bxf2 : (wa).frozen? ⟨w.heap.size, 2, none⟩ = false := (H.blk 1 rfl).frozen 2
  have bxlt : w.heap.size < (wa).heap.size := H.lt 1 rfl
  have ne_at_bx : g ≠ w.heap.size := H.ne 0 1 rfl rfl (by decide)
  have ne_bx_at : w.heap.size ≠ g := H.ne 1 0 rfl rfl (by decide)
  clear hba c0 c1 c2 c3 hB
  go_wp2
  obtain ⟨wb, hwb⟩ : ∃ wb, (wa).setCell ⟨g, 0, none⟩ (.int .i64 (lo2 : Int)) = wb := ⟨_, rfl⟩
  replace H : Mem (w) [g] _ [.blk (g) 3 #[.int .i64 (lo2 : Int)], .blk (w.heap.size) 78 #[.int .u32 (x0 : Int), .int .u32 (x1 : Int), .int .u32 (x2 : Int)]] := Mem.set 0 H rfl 0 (.int .i64 (lo2 : Int))
  rw [hwb] at H ⊢
  clear hwb
  go_ret
  exact ⟨rfl, Mem.drop_ 1 H⟩
theorem big_y {y0 y1 y2 D : Nat} (k0 : y0 < 4294967296) (k1 : y1 < 4294967296) (h : val3 y0 y1 y2 = D) (hb : 73786976294838206464 ≤ D) : 4 ≤ y2 := by unfold val3 at h; omega
theorem small_y {y0 y1 y2 D : Nat} (h : val3 y0 y1 y2 = D) (hb : D < 73786976294838206464) : y2 < 4 := by unfold val3 at h; omega
theorem over_div {x r D : Nat} (h : x * 97 + r = D) (hr : r < 97) : x = D / 97 ∧ D % 97 = r := by omega
theorem lt_of20 {l : List Nat} (hl : ∀ d ∈ l, d ≤ 9) (h20 : l.length = 20) : val10 l < 79228162514264337593543950336 := by
  have h := val10_lt hl
  rw [h20] at h
  have e : (10 : Nat) ^ 20 = 100000000000000000000 := by decide
  rw [e] at h
  omega
set_option maxRecDepth 100000 in
set_option maxHeartbeats 4000000 in
theorem parse_ok (l : List Nat) (w : World) (hl : ∀ d ∈ l, d ≤ 9) (h20 : l.length = 20) (c i a t E : Nat) (hR : Hid (parseS (val10 l) = (c, i, a, t, E))) :
    Calls Tryd.prog 20 #[.string (dstr l)] w (RetTok c i a t E w) := by
  have hsz := dstr_size l
  rw [h20] at hsz
  obtain ⟨Z, hZ⟩ : ∃ Z, (l.take 19).dropWhile (· == 0) = Z := ⟨_, rfl⟩
  have hZl : Z.length ≤ 19 := by
    rw [← hZ]
    have h2 := (List.dropWhile_sublist (· == 0) (l := l.take 19)).length_le
    simp [h20] at h2; omega
  have hTr : ∀ W, Calls Tryd.prog 38 #[.string ((dstr l).extract 0 19), .string ⟨#[48]⟩] W fun e w' => e = .returned (.string (dstr Z)) ∧ w' = W := fun W => by
    have h := Tryd.strings_TrimLeft_one ((dstr l).extract 0 19) 48 (by decide) W
    rw [dstr_extract, dstr_toList, trim_dig _ (fun d hd => hl d (List.mem_of_mem_take (by simpa using hd))), show (List.drop 0 l).take (19 - 0) = l.take 19 by simp, hZ] at h
    rw [dstr_extract, show (List.drop 0 l).take (19 - 0) = l.take 19 by simp]
    exact h
  have hcat : dstr Z ++ (dstr l).extract 19 20 = dstr (bareD l) := by
    rw [dstr_extract, ← dstr_append]
    unfold bareD
    rw [hZ]
    congr 2
    exact List.take_of_length_le (by simp [h20])
  have HC := Lib.hid hcat
  obtain ⟨b1, b2⟩ := bare_len h20
  have hRd := fun W => wread_ok (bareD l) W (bare_mem hl) b1 (by omega) (bare_head h20) (by rw [bare_val]; exact lt_of20 hl h20)
  rw [bare_val] at hRd
  obtain ⟨D, hD⟩ : ∃ D, val10 l = D := ⟨_, rfl⟩
  rw [hD] at hRd hR
  have hS := @ByteArray.size_append
  have hzs := dstr_size Z
  have hzI : (Z.length : Int) ≤ 19 := by omega
  have hxs : ((dstr l).extract 19 20).size = 1 := by simp [hsz]
  clear hZ hcat hD b1 b2 hZl
  have H := Mem.init w
  replace H : Mem (w) [] _ [.blk (w.heap.size) 48 #[.int .i64 0, .int .i64 0, .int .i64 0, .int .i64 0]] := Mem.alloc H (w.heap.size) (by first | (simp; done) | (simp; omega)) #[.int .i64 0, .int .i64 0, .int .i64 0, .int .i64 0] 48
  replace H : Mem (w) [] _ [.blk (w.heap.size) 48 #[.int .i64 0, .int .i64 0, .int .i64 0, .int .i64 0], .obj (w.heap.size + 1) (.stringIter (dstr l) 0)] := Mem.iter H (w.heap.size + 1) (by first | (simp; done) | (simp; omega)) (dstr l)
  have H20 := Lib.hid h20
  clear h20
  go_enter Tryd.func20, Tryd.ntmps20
  go_wp2
  go_loopw [] (fun wr => ∃ k : Nat, k ≤ 20 ∧ Mem w [] wr [.blk w.heap.size 48 #[.int .i64 0, .int .i64 0, .int .i64 0, .int .i64 0], .obj (w.heap.size + 1) (.stringIter (dstr l) k)]) (fun wr => 20 - wr.iterPos (w.heap.size + 1))
  case atStart => exact ⟨0, by omega, H⟩
  case round =>
    obtain ⟨k, hk, HM⟩ := hrel
    clear H
    have H : Mem (w) [] (wr) [.blk (w.heap.size) 48 #[.int .i64 0, .int .i64 0, .int .i64 0, .int .i64 0], .obj (w.heap.size + 1) (.stringIter (dstr l) k)] := HM
    clear HM
    have hit := H.obj_ 1 rfl

    by_cases hlt : k < 20
    · have hb := dstr_byte hl k (by omega)
      have hd := hl (l[k]'(by rw [H20.out]; exact hlt)) (List.getElem_mem _)
      have hnx := fun ty => Lib.run_next_ascii_at (P := Tryd.prog) wr (w.heap.size + 1) (dstr l) k ty hit (by omega) (by omega)
      rw [hb] at hnx
      obtain ⟨d, hdd⟩ : ∃ d, l[k]'(by rw [H20.out]; exact hlt) = d := ⟨_, rfl⟩
      rw [hdd] at hnx hd
      have g3 : (48 : Int) ≤ ((48 + d : Nat) : Int) := by omega
      have g4 : ((48 + d : Nat) : Int) ≤ 57 := by omega
      have HIT := Lib.hid hit
      clear hb hit hdd
      replace H : Mem (w) [] _ [.blk (w.heap.size) 48 #[.int .i64 0, .int .i64 0, .int .i64 0, .int .i64 0], .obj (w.heap.size + 1) (.stringIter (dstr l) (k + 1))] := Mem.next 1 H rfl (k + 1)
      go_wp2
      go_roundw
      case rel => exact ⟨k + 1, by omega, H⟩
      case measure =>
        have h9 := iterPos_of (H.obj_ 1 rfl)
        have h8 := iterPos_of HIT.out
        omega
    · skip
      have hnx := fun ty => Lib.run_next_end_at (P := Tryd.prog) wr (w.heap.size + 1) (dstr l) k ty hit (by omega)
      clear hit hlt hk hl
      go_wp2
      go_quiet ((go_at_call 38; exact Calls.quiet_of_same (hTr _)))
      rw [HC.out]
      obtain ⟨wq, hwq⟩ : ∃ wq, (wr).drewN nq = wq := ⟨_, rfl⟩
      replace H := H.drewN nq
      rw [hwq] at H ⊢
      clear hwq
      clear hS hzs hzI hxs hTr hsz hnx
      go_wp2_with fail
      refine (hRd _).mono ?_
      rintro e wa ⟨y0, y1, y2, k0, k1, k2, hy, rfl, hba⟩
      replace H : Mem (w) [] (wa) [.blk (w.heap.size) 48 #[.int .i64 0, .int .i64 0, .int .i64 0, .int .i64 0], .obj (w.heap.size + 1) (.stringIter (dstr l) k)] := Mem.call H hba
      have rs0 : (wa).cell? ⟨w.heap.size, 0, none⟩ = some (.int .i64 0) := (H.blk 0 rfl).cell 0
      have rsf0 : (wa).frozen? ⟨w.heap.size, 0, none⟩ = false := (H.blk 0 rfl).frozen 0
      have rs1 : (wa).cell? ⟨w.heap.size, 1, none⟩ = some (.int .i64 0) := (H.blk 0 rfl).cell 1
      have rsf1 : (wa).frozen? ⟨w.heap.size, 1, none⟩ = false := (H.blk 0 rfl).frozen 1
      have rs2 : (wa).cell? ⟨w.heap.size, 2, none⟩ = some (.int .i64 0) := (H.blk 0 rfl).cell 2
      have rsf2 : (wa).frozen? ⟨w.heap.size, 2, none⟩ = false := (H.blk 0 rfl).frozen 2
      have rs3 : (wa).cell? ⟨w.heap.size, 3, none⟩ = some (.int .i64 0) := (H.blk 0 rfl).cell 3
      have rsf3 : (wa).frozen? ⟨w.heap.size, 3, none⟩ = false := (H.blk 0 rfl).frozen 3
      have rslt : w.heap.size < (wa).heap.size := H.lt 0 rfl
      clear hba hRd HC
      have hR1 := hR.out
      unfold parseS at hR1

      by_cases hbig : 73786976294838206464 ≤ D
      · rw [if_pos hbig] at hR1
        simp only [Prod.mk.injEq] at hR1
        obtain ⟨rfl, rfl, rfl, rfl, rfl⟩ := hR1
        have h4 : (4 : Int) ≤ (y2 : Int) := by have := big_y k0 k1 hy.out hbig; omega
        clear hR hy k0 k1 k2 hbig
        go_wp2
        obtain ⟨wb, hwb⟩ : ∃ wb, (((((wa).setCell ⟨w.heap.size, 0, none⟩ (.int .i64 0)).setCell ⟨w.heap.size, 1, none⟩ (.int .i64 0)).setCell ⟨w.heap.size, 2, none⟩ (.int .i64 0)).setCell ⟨w.heap.size, 3, none⟩ (.int .i64 0)).alloc (.cells #[.int .u32 (y0 : Int), .int .u32 (y1 : Int), .int .u32 (y2 : Int)] 78) = wb := ⟨_, rfl⟩
        replace H : Mem (w) [] _ [.blk (w.heap.size) 48 #[.int .i64 0, .int .i64 0, .int .i64 0, .int .i64 0], .obj (w.heap.size + 1) (.stringIter (dstr l) k)] := Mem.set 0 H rfl 0 (.int .i64 0)
        replace H : Mem (w) [] _ [.blk (w.heap.size) 48 #[.int .i64 0, .int .i64 0, .int .i64 0, .int .i64 0], .obj (w.heap.size + 1) (.stringIter (dstr l) k)] := Mem.set 0 H rfl 1 (.int .i64 0)
        replace H : Mem (w) [] _ [.blk (w.heap.size) 48 #[.int .i64 0, .int .i64 0, .int .i64 0, .int .i64 0], .obj (w.heap.size + 1) (.stringIter (dstr l) k)] := Mem.set 0 H rfl 2 (.int .i64 0)
        replace H : Mem (w) [] _ [.blk (w.heap.size) 48 #[.int .i64 0, .int .i64 0, .int .i64 0, .int .i64 0], .obj (w.heap.size + 1) (.stringIter (dstr l) k)] := Mem.set 0 H rfl 3 (.int .i64 0)
        replace H : Mem (w) [] _ [.blk (w.heap.size) 48 #[.int .i64 0, .int .i64 0, .int .i64 0, .int .i64 0], .obj (w.heap.size + 1) (.stringIter (dstr l) k), .blk (wa.heap.size) 78 #[.int .u32 (y0 : Int), .int .u32 (y1 : Int), .int .u32 (y2 : Int)]] := Mem.alloc H (wa.heap.size) (by first | (simp; done) | (simp; omega)) #[.int .u32 (y0 : Int), .int .u32 (y1 : Int), .int .u32 (y2 : Int)] 78
        rw [hwb] at H ⊢
        clear hwb
        clear rs0 rsf0 rs1 rsf1 rs2 rsf2 rs3 rsf3 rslt
        have rs0 : (wb).cell? ⟨w.heap.size, 0, none⟩ = some (.int .i64 0) := (H.blk 0 rfl).cell 0
        have rsf0 : (wb).frozen? ⟨w.heap.size, 0, none⟩ = false := (H.blk 0 rfl).frozen 0
        have rs1 : (wb).cell? ⟨w.heap.size, 1, none⟩ = some (.int .i64 0) := (H.blk 0 rfl).cell 1
        have rsf1 : (wb).frozen? ⟨w.heap.size, 1, none⟩ = false := (H.blk 0 rfl).frozen 1
        have rs2 : (wb).cell? ⟨w.heap.size, 2, none⟩ = some (.int .i64 0) := (H.blk 0 rfl).cell 2
        have rsf2 : (wb).frozen? ⟨w.heap.size, 2, none⟩ = false := (H.blk 0 rfl).frozen 2
        have rs3 : (wb).cell? ⟨w.heap.size, 3, none⟩ = some (.int .i64 0) := (H.blk 0 rfl).cell 3
        have rsf3 : (wb).frozen? ⟨w.heap.size, 3, none⟩ = false := (H.blk 0 rfl).frozen 3
        have rslt : w.heap.size < (wb).heap.size := H.lt 0 rfl
        refine bodyPost_ret (v := .tuple #[.agg #[.int .i64 0, .int .i64 0, .int .i64 0, .int .i64 0], .int .i64 2]) (by simp [results, Tryd.results20, go_sem, rs0, rs1, rs2, rs3]; done) rfl ?_
        exact ⟨rfl, H.below⟩
      · skip
        rw [if_neg hbig] at hR1
        have h4 : decide ((4 : Int) ≤ (y2 : Int)) = false := by have := small_y hy.out (by omega); simp; omega
        have hOv := fun W => over_is y0 y1 y2 97 W k0 k1 k2 (by omega) (by omega)
        rw [hy.out] at hOv
        clear hy k0 k1 k2 hbig
        go_wp2_with fail
        obtain ⟨wb, hwb⟩ : ∃ wb, (wa).alloc (.cells #[.int .u32 (y0 : Int), .int .u32 (y1 : Int), .int .u32 (y2 : Int)] 78) = wb := ⟨_, rfl⟩
        replace H : Mem (w) [] _ [.blk (w.heap.size) 48 #[.int .i64 0, .int .i64 0, .int .i64 0, .int .i64 0], .obj (w.heap.size + 1) (.stringIter (dstr l) k), .blk (wa.heap.size) 78 #[.int .u32 (y0 : Int), .int .u32 (y1 : Int), .int .u32 (y2 : Int)]] := Mem.alloc H (wa.heap.size) (by first | (simp; done) | (simp; omega)) #[.int .u32 (y0 : Int), .int .u32 (y1 : Int), .int .u32 (y2 : Int)] 78
        rw [hwb] at H ⊢
        clear hwb
        refine (hOv _).mono ?_
        rintro e wc ⟨q0, q1, q2, r, l0, l1, l2, hr97, hq, rfl, hbc⟩
        replace H : Mem (w) [] (wc) [.blk (w.heap.size) 48 #[.int .i64 0, .int .i64 0, .int .i64 0, .int .i64 0], .obj (w.heap.size + 1) (.stringIter (dstr l) k), .blk (wa.heap.size) 78 #[.int .u32 (y0 : Int), .int .u32 (y1 : Int), .int .u32 (y2 : Int)]] := Mem.call H hbc
        clear rs0 rsf0 rs1 rsf1 rs2 rsf2 rs3 rsf3 rslt
        have rs0 : (wc).cell? ⟨w.heap.size, 0, none⟩ = some (.int .i64 0) := (H.blk 0 rfl).cell 0
        have rsf0 : (wc).frozen? ⟨w.heap.size, 0, none⟩ = false := (H.blk 0 rfl).frozen 0
        have rs1 : (wc).cell? ⟨w.heap.size, 1, none⟩ = some (.int .i64 0) := (H.blk 0 rfl).cell 1
        have rsf1 : (wc).frozen? ⟨w.heap.size, 1, none⟩ = false := (H.blk 0 rfl).frozen 1
        have rs2 : (wc).cell? ⟨w.heap.size, 2, none⟩ = some (.int .i64 0) := (H.blk 0 rfl).cell 2
        have rsf2 : (wc).frozen? ⟨w.heap.size, 2, none⟩ = false := (H.blk 0 rfl).frozen 2
        have rs3 : (wc).cell? ⟨w.heap.size, 3, none⟩ = some (.int .i64 0) := (H.blk 0 rfl).cell 3
        have rsf3 : (wc).frozen? ⟨w.heap.size, 3, none⟩ = false := (H.blk 0 rfl).frozen 3
        have rslt : w.heap.size < (wc).heap.size := H.lt 0 rfl
        have w70 : (wc).cell? ⟨wa.heap.size, 0, none⟩ = some (.int .u32 (y0 : Int)) := (H.blk 2 rfl).cell 0
        have w7f0 : (wc).frozen? ⟨wa.heap.size, 0, none⟩ = false := (H.blk 2 rfl).frozen 0
        have w71 : (wc).cell? ⟨wa.heap.size, 1, none⟩ = some (.int .u32 (y1 : Int)) := (H.blk 2 rfl).cell 1
        have w7f1 : (wc).frozen? ⟨wa.heap.size, 1, none⟩ = false := (H.blk 2 rfl).frozen 1
        have w72 : (wc).cell? ⟨wa.heap.size, 2, none⟩ = some (.int .u32 (y2 : Int)) := (H.blk 2 rfl).cell 2
        have w7f2 : (wc).frozen? ⟨wa.heap.size, 2, none⟩ = false := (H.blk 2 rfl).frozen 2
        have w7lt : wa.heap.size < (wc).heap.size := H.lt 2 rfl
        have ne_rs_w7 : w.heap.size ≠ wa.heap.size := H.ne 0 2 rfl rfl (by decide)
        have ne_w7_rs : wa.heap.size ≠ w.heap.size := H.ne 2 0 rfl rfl (by decide)
        obtain ⟨hqd, hqr⟩ := over_div hq.out hr97
        rw [hqr] at hR1
        clear hbc hOv h4 hR hq hr97

        by_cases hr0 : r = 0
        · subst hr0
          obtain ⟨Q, hQ⟩ : ∃ Q, D / 97 = Q := ⟨_, rfl⟩
          rw [hQ] at hR1 hqd
          obtain ⟨vt, hvt⟩ : ∃ v, bitsN Q 0 16 = v := ⟨_, rfl⟩
          obtain ⟨va, hva⟩ : ∃ v, bitsN Q 16 21 = v := ⟨_, rfl⟩
          obtain ⟨vi, hvi⟩ : ∃ v, bitsN Q 37 20 = v := ⟨_, rfl⟩
          obtain ⟨vc, hvc⟩ : ∃ v, bitsN Q 57 2 = v := ⟨_, rfl⟩
          obtain ⟨vx, hvx⟩ : ∃ v, bitsN Q 59 32 = v := ⟨_, rfl⟩
          have hf0 := fun g W h => tfield_ok q0 q1 q2 0 16 16 vt g W l0 l1 l2 (by omega) (by omega) (by omega) (by omega) (by rw [hqd]; exact hvt) h
          have hf1 := fun g W h => tfield_ok q0 q1 q2 16 21 37 va g W l0 l1 l2 (by omega) (by omega) (by omega) (by omega) (by rw [hqd]; exact hva) h
          have hf2 := fun g W h => tfield_ok q0 q1 q2 37 20 57 vi g W l0 l1 l2 (by omega) (by omega) (by omega) (by omega) (by rw [hqd]; exact hvi) h
          have hf3 := fun g W h => tfield_ok q0 q1 q2 57 2 59 vc g W l0 l1 l2 (by omega) (by omega) (by omega) (by omega) (by rw [hqd]; exact hvc) h
          have hBt := fun W => bits_ok q0 q1 q2 59 32 W l0 l1 l2 (by omega) (by omega) (by omega)
          rw [hqd, hvx] at hBt
          obtain ⟨f, hf⟩ : ∃ f, tfault (vc : Int) (vi : Int) (va : Int) (vt : Int) = f := ⟨_, rfl⟩
          rw [hvt, hva, hvi, hvc, hvx, hf, if_neg (by omega)] at hR1
          have hFl := fun W => fault_is (Lib.hid hf) W
          clear hvt hva hvi hvc hvx hqd hQ l0 l1 l2 hqr hf
          have HR1 := Lib.hid hR1
          clear hR1
          simp only [Int.natCast_zero] at *
          go_wp2_with fail
          obtain ⟨wd, hwd⟩ : ∃ wd, (((wc).alloc (.cells #[.int .u32 (q0 : Int), .int .u32 (q1 : Int), .int .u32 (q2 : Int)] 78)).alloc (.cells #[.int .i64 0, .int .i64 0, .int .i64 0, .int .i64 0] 48)).alloc (.cells #[.int .i64 0] 3) = wd := ⟨_, rfl⟩
          replace H : Mem (w) [] _ [.blk (w.heap.size) 48 #[.int .i64 0, .int .i64 0, .int .i64 0, .int .i64 0], .obj (w.heap.size + 1) (.stringIter (dstr l) k), .blk (wa.heap.size) 78 #[.int .u32 (y0 : Int), .int .u32 (y1 : Int), .int .u32 (y2 : Int)], .blk (wc.heap.size) 78 #[.int .u32 (q0 : Int), .int .u32 (q1 : Int), .int .u32 (q2 : Int)]] := Mem.alloc H (wc.heap.size) (by first | (simp; done) | (simp; omega)) #[.int .u32 (q0 : Int), .int .u32 (q1 : Int), .int .u32 (q2 : Int)] 78
          replace H : Mem (w) [] _ [.blk (w.heap.size) 48 #[.int .i64 0, .int .i64 0, .int .i64 0, .int .i64 0], .obj (w.heap.size + 1) (.stringIter (dstr l) k), .blk (wa.heap.size) 78 #[.int .u32 (y0 : Int), .int .u32 (y1 : Int), .int .u32 (y2 : Int)], .blk (wc.heap.size) 78 #[.int .u32 (q0 : Int), .int .u32 (q1 : Int), .int .u32 (q2 : Int)], .blk (wc.heap.size + 1) 48 #[.int .i64 0, .int .i64 0, .int .i64 0, .int .i64 0]] := Mem.alloc H (wc.heap.size + 1) (by first | (simp; done) | (simp; omega)) #[.int .i64 0, .int .i64 0, .int .i64 0, .int .i64 0] 48
          replace H : Mem (w) [] _ [.blk (w.heap.size) 48 #[.int .i64 0, .int .i64 0, .int .i64 0, .int .i64 0], .obj (w.heap.size + 1) (.stringIter (dstr l) k), .blk (wa.heap.size) 78 #[.int .u32 (y0 : Int), .int .u32 (y1 : Int), .int .u32 (y2 : Int)], .blk (wc.heap.size) 78 #[.int .u32 (q0 : Int), .int .u32 (q1 : Int), .int .u32 (q2 : Int)], .blk (wc.heap.size + 1) 48 #[.int .i64 0, .int .i64 0, .int .i64 0, .int .i64 0], .blk (wc.heap.size + 1 + 1) 3 #[.int .i64 0]] := Mem.alloc H (wc.heap.size + 1 + 1) (by first | (simp; done) | (simp; omega)) #[.int .i64 0] 3
          rw [hwd] at H ⊢
          clear hwd
          refine (hf0 _ _ (H.blk 5 rfl)).mono ?_
          rintro e d0 ⟨rfl, hK⟩
          replace H : Mem (w) [] (d0) [.blk (w.heap.size) 48 #[.int .i64 0, .int .i64 0, .int .i64 0, .int .i64 0], .obj (w.heap.size + 1) (.stringIter (dstr l) k), .blk (wa.heap.size) 78 #[.int .u32 (y0 : Int), .int .u32 (y1 : Int), .int .u32 (y2 : Int)], .blk (wc.heap.size) 78 #[.int .u32 (q0 : Int), .int .u32 (q1 : Int), .int .u32 (q2 : Int)], .blk (wc.heap.size + 1) 48 #[.int .i64 0, .int .i64 0, .int .i64 0, .int .i64 0], .blk (wc.heap.size + 1 + 1) 3 #[.int .i64 (16 : Int)]] := Mem.joinAt 5 H rfl hK
          clear rs0 rsf0 rs1 rsf1 rs2 rsf2 rs3 rsf3 rslt w70 w7f0 w71 w7f1 w72 w7f2 w7lt ne_rs_w7 ne_w7_rs
          have rs0 : (d0).cell? ⟨w.heap.size, 0, none⟩ = some (.int .i64 0) := (H.blk 0 rfl).cell 0
          have rsf0 : (d0).frozen? ⟨w.heap.size, 0, none⟩ = false := (H.blk 0 rfl).frozen 0
          have rs1 : (d0).cell? ⟨w.heap.size, 1, none⟩ = some (.int .i64 0) := (H.blk 0 rfl).cell 1
          have rsf1 : (d0).frozen? ⟨w.heap.size, 1, none⟩ = false := (H.blk 0 rfl).frozen 1
          have rs2 : (d0).cell? ⟨w.heap.size, 2, none⟩ = some (.int .i64 0) := (H.blk 0 rfl).cell 2
          have rsf2 : (d0).frozen? ⟨w.heap.size, 2, none⟩ = false := (H.blk 0 rfl).frozen 2
          have rs3 : (d0).cell? ⟨w.heap.size, 3, none⟩ = some (.int .i64 0) := (H.blk 0 rfl).cell 3
          have rsf3 : (d0).frozen? ⟨w.heap.size, 3, none⟩ = false := (H.blk 0 rfl).frozen 3
          have rslt : w.heap.size < (d0).heap.size := H.lt 0 rfl
          have q90 : (d0).cell? ⟨wc.heap.size, 0, none⟩ = some (.int .u32 (q0 : Int)) := (H.blk 3 rfl).cell 0
          have q9f0 : (d0).frozen? ⟨wc.heap.size, 0, none⟩ = false := (H.blk 3 rfl).frozen 0
          have q91 : (d0).cell? ⟨wc.heap.size, 1, none⟩ = some (.int .u32 (q1 : Int)) := (H.blk 3 rfl).cell 1
          have q9f1 : (d0).frozen? ⟨wc.heap.size, 1, none⟩ = false := (H.blk 3 rfl).frozen 1
          have q92 : (d0).cell? ⟨wc.heap.size, 2, none⟩ = some (.int .u32 (q2 : Int)) := (H.blk 3 rfl).cell 2
          have q9f2 : (d0).frozen? ⟨wc.heap.size, 2, none⟩ = false := (H.blk 3 rfl).frozen 2
          have q9lt : wc.heap.size < (d0).heap.size := H.lt 3 rfl
          have t120 : (d0).cell? ⟨wc.heap.size + 1, 0, none⟩ = some (.int .i64 0) := (H.blk 4 rfl).cell 0
          have t12f0 : (d0).frozen? ⟨wc.heap.size + 1, 0, none⟩ = false := (H.blk 4 rfl).frozen 0
          have t121 : (d0).cell? ⟨wc.heap.size + 1, 1, none⟩ = some (.int .i64 0) := (H.blk 4 rfl).cell 1
          have t12f1 : (d0).frozen? ⟨wc.heap.size + 1, 1, none⟩ = false := (H.blk 4 rfl).frozen 1
          have t122 : (d0).cell? ⟨wc.heap.size + 1, 2, none⟩ = some (.int .i64 0) := (H.blk 4 rfl).cell 2
          have t12f2 : (d0).frozen? ⟨wc.heap.size + 1, 2, none⟩ = false := (H.blk 4 rfl).frozen 2
          have t123 : (d0).cell? ⟨wc.heap.size + 1, 3, none⟩ = some (.int .i64 0) := (H.blk 4 rfl).cell 3
          have t12f3 : (d0).frozen? ⟨wc.heap.size + 1, 3, none⟩ = false := (H.blk 4 rfl).frozen 3
          have t12lt : wc.heap.size + 1 < (d0).heap.size := H.lt 4 rfl
          have a130 : (d0).cell? ⟨wc.heap.size + 1 + 1, 0, none⟩ = some (.int .i64 (16 : Int)) := (H.blk 5 rfl).cell 0
          have a13f0 : (d0).frozen? ⟨wc.heap.size + 1 + 1, 0, none⟩ = false := (H.blk 5 rfl).frozen 0
          have a13lt : wc.heap.size + 1 + 1 < (d0).heap.size := H.lt 5 rfl
          have ne_rs_q9 : w.heap.size ≠ wc.heap.size := H.ne 0 3 rfl rfl (by decide)
          have ne_rs_t12 : w.heap.size ≠ wc.heap.size + 1 := H.ne 0 4 rfl rfl (by decide)
          have ne_rs_a13 : w.heap.size ≠ wc.heap.size + 1 + 1 := H.ne 0 5 rfl rfl (by decide)
          have ne_q9_rs : wc.heap.size ≠ w.heap.size := H.ne 3 0 rfl rfl (by decide)
          have ne_q9_t12 : wc.heap.size ≠ wc.heap.size + 1 := H.ne 3 4 rfl rfl (by decide)
          have ne_q9_a13 : wc.heap.size ≠ wc.heap.size + 1 + 1 := H.ne 3 5 rfl rfl (by decide)
          have ne_t12_rs : wc.heap.size + 1 ≠ w.heap.size := H.ne 4 0 rfl rfl (by decide)
          have ne_t12_q9 : wc.heap.size + 1 ≠ wc.heap.size := H.ne 4 3 rfl rfl (by decide)
          have ne_t12_a13 : wc.heap.size + 1 ≠ wc.heap.size + 1 + 1 := H.ne 4 5 rfl rfl (by decide)
          have ne_a13_rs : wc.heap.size + 1 + 1 ≠ w.heap.size := H.ne 5 0 rfl rfl (by decide)
          have ne_a13_q9 : wc.heap.size + 1 + 1 ≠ wc.heap.size := H.ne 5 3 rfl rfl (by decide)
          have ne_a13_t12 : wc.heap.size + 1 + 1 ≠ wc.heap.size + 1 := H.ne 5 4 rfl rfl (by decide)
          clear hK hf0
          go_wp2_with fail
          obtain ⟨w0, hw0⟩ : ∃ w0, (d0).setCell ⟨wc.heap.size + 1, 3, none⟩ (.int .i64 (vt : Int)) = w0 := ⟨_, rfl⟩
          replace H : Mem (w) [] _ [.blk (w.heap.size) 48 #[.int .i64 0, .int .i64 0, .int .i64 0, .int .i64 0], .obj (w.heap.size + 1) (.stringIter (dstr l) k), .blk (wa.heap.size) 78 #[.int .u32 (y0 : Int), .int .u32 (y1 : Int), .int .u32 (y2 : Int)], .blk (wc.heap.size) 78 #[.int .u32 (q0 : Int), .int .u32 (q1 : Int), .int .u32 (q2 : Int)], .blk (wc.heap.size + 1) 48 #[.int .i64 0, .int .i64 0, .int .i64 0, .int .i64 (vt : Int)], .blk (wc.heap.size + 1 + 1) 3 #[.int .i64 (16 : Int)]] := Mem.set 4 H rfl 3 (.int .i64 (vt : Int))
          rw [hw0] at H ⊢
          clear hw0
          refine (hf1 _ _ (H.blk 5 rfl)).mono ?_
          rintro e d1 ⟨rfl, hK⟩
          replace H : Mem (w) [] (d1) [.blk (w.heap.size) 48 #[.int .i64 0, .int .i64 0, .int .i64 0, .int .i64 0], .obj (w.heap.size + 1) (.stringIter (dstr l) k), .blk (wa.heap.size) 78 #[.int .u32 (y0 : Int), .int .u32 (y1 : Int), .int .u32 (y2 : Int)], .blk (wc.heap.size) 78 #[.int .u32 (q0 : Int), .int .u32 (q1 : Int), .int .u32 (q2 : Int)], .blk (wc.heap.size + 1) 48 #[.int .i64 0, .int .i64 0, .int .i64 0, .int .i64 (vt : Int)], .blk (wc.heap.size + 1 + 1) 3 #[.int .i64 (37 : Int)]] := Mem.joinAt 5 H rfl hK
          clear rs0 rsf0 rs1 rsf1 rs2 rsf2 rs3 rsf3 rslt q90 q9f0 q91 q9f1 q92 q9f2 q9lt t120 t12f0 t121 t12f1 t122 t12f2 t123 t12f3 t12lt a130 a13f0 a13lt ne_rs_q9 ne_rs_t12 ne_rs_a13 ne_q9_rs ne_q9_t12 ne_q9_a13 ne_t12_rs ne_t12_q9 ne_t12_a13 ne_a13_rs ne_a13_q9 ne_a13_t12
          have rs0 : (d1).cell? ⟨w.heap.size, 0, none⟩ = some (.int .i64 0) := (H.blk 0 rfl).cell 0
          have rsf0 : (d1).frozen? ⟨w.heap.size, 0, none⟩ = false := (H.blk 0 rfl).frozen 0
          have rs1 : (d1).cell? ⟨w.heap.size, 1, none⟩ = some (.int .i64 0) := (H.blk 0 rfl).cell 1
          have rsf1 : (d1).frozen? ⟨w.heap.size, 1, none⟩ = false := (H.blk 0 rfl).frozen 1
          have rs2 : (d1).cell? ⟨w.heap.size, 2, none⟩ = some (.int .i64 0) := (H.blk 0 rfl).cell 2
          have rsf2 : (d1).frozen? ⟨w.heap.size, 2, none⟩ = false := (H.blk 0 rfl).frozen 2
          have rs3 : (d1).cell? ⟨w.heap.size, 3, none⟩ = some (.int .i64 0) := (H.blk 0 rfl).cell 3
          have rsf3 : (d1).frozen? ⟨w.heap.size, 3, none⟩ = false := (H.blk 0 rfl).frozen 3
          have rslt : w.heap.size < (d1).heap.size := H.lt 0 rfl
          have q90 : (d1).cell? ⟨wc.heap.size, 0, none⟩ = some (.int .u32 (q0 : Int)) := (H.blk 3 rfl).cell 0
          have q9f0 : (d1).frozen? ⟨wc.heap.size, 0, none⟩ = false := (H.blk 3 rfl).frozen 0
          have q91 : (d1).cell? ⟨wc.heap.size, 1, none⟩ = some (.int .u32 (q1 : Int)) := (H.blk 3 rfl).cell 1
          have q9f1 : (d1).frozen? ⟨wc.heap.size, 1, none⟩ = false := (H.blk 3 rfl).frozen 1
          have q92 : (d1).cell? ⟨wc.heap.size, 2, none⟩ = some (.int .u32 (q2 : Int)) := (H.blk 3 rfl).cell 2
          have q9f2 : (d1).frozen? ⟨wc.heap.size, 2, none⟩ = false := (H.blk 3 rfl).frozen 2
          have q9lt : wc.heap.size < (d1).heap.size := H.lt 3 rfl
          have t120 : (d1).cell? ⟨wc.heap.size + 1, 0, none⟩ = some (.int .i64 0) := (H.blk 4 rfl).cell 0
          have t12f0 : (d1).frozen? ⟨wc.heap.size + 1, 0, none⟩ = false := (H.blk 4 rfl).frozen 0
          have t121 : (d1).cell? ⟨wc.heap.size + 1, 1, none⟩ = some (.int .i64 0) := (H.blk 4 rfl).cell 1
          have t12f1 : (d1).frozen? ⟨wc.heap.size + 1, 1, none⟩ = false := (H.blk 4 rfl).frozen 1
          have t122 : (d1).cell? ⟨wc.heap.size + 1, 2, none⟩ = some (.int .i64 0) := (H.blk 4 rfl).cell 2
          have t12f2 : (d1).frozen? ⟨wc.heap.size + 1, 2, none⟩ = false := (H.blk 4 rfl).frozen 2
          have t123 : (d1).cell? ⟨wc.heap.size + 1, 3, none⟩ = some (.int .i64 (vt : Int)) := (H.blk 4 rfl).cell 3
          have t12f3 : (d1).frozen? ⟨wc.heap.size + 1, 3, none⟩ = false := (H.blk 4 rfl).frozen 3
          have t12lt : wc.heap.size + 1 < (d1).heap.size := H.lt 4 rfl
          have a130 : (d1).cell? ⟨wc.heap.size + 1 + 1, 0, none⟩ = some (.int .i64 (37 : Int)) := (H.blk 5 rfl).cell 0
          have a13f0 : (d1).frozen? ⟨wc.heap.size + 1 + 1, 0, none⟩ = false := (H.blk 5 rfl).frozen 0
          have a13lt : wc.heap.size + 1 + 1 < (d1).heap.size := H.lt 5 rfl
          have ne_rs_q9 : w.heap.size ≠ wc.heap.size := H.ne 0 3 rfl rfl (by decide)
          have ne_rs_t12 : w.heap.size ≠ wc.heap.size + 1 := H.ne 0 4 rfl rfl (by decide)
          have ne_rs_a13 : w.heap.size ≠ wc.heap.size + 1 + 1 := H.ne 0 5 rfl rfl (by decide)
          have ne_q9_rs : wc.heap.size ≠ w.heap.size := H.ne 3 0 rfl rfl (by decide)
          have ne_q9_t12 : wc.heap.size ≠ wc.heap.size + 1 := H.ne 3 4 rfl rfl (by decide)
          have ne_q9_a13 : wc.heap.size ≠ wc.heap.size + 1 + 1 := H.ne 3 5 rfl rfl (by decide)
          have ne_t12_rs : wc.heap.size + 1 ≠ w.heap.size := H.ne 4 0 rfl rfl (by decide)
          have ne_t12_q9 : wc.heap.size + 1 ≠ wc.heap.size := H.ne 4 3 rfl rfl (by decide)
          have ne_t12_a13 : wc.heap.size + 1 ≠ wc.heap.size + 1 + 1 := H.ne 4 5 rfl rfl (by decide)
          have ne_a13_rs : wc.heap.size + 1 + 1 ≠ w.heap.size := H.ne 5 0 rfl rfl (by decide)
          have ne_a13_q9 : wc.heap.size + 1 + 1 ≠ wc.heap.size := H.ne 5 3 rfl rfl (by decide)
          have ne_a13_t12 : wc.heap.size + 1 + 1 ≠ wc.heap.size + 1 := H.ne 5 4 rfl rfl (by decide)
          clear hK hf1
          go_wp2_with fail
          obtain ⟨w1, hw1⟩ : ∃ w1, (d1).setCell ⟨wc.heap.size + 1, 2, none⟩ (.int .i64 (va : Int)) = w1 := ⟨_, rfl⟩
          replace H : Mem (w) [] _ [.blk (w.heap.size) 48 #[.int .i64 0, .int .i64 0, .int .i64 0, .int .i64 0], .obj (w.heap.size + 1) (.stringIter (dstr l) k), .blk (wa.heap.size) 78 #[.int .u32 (y0 : Int), .int .u32 (y1 : Int), .int .u32 (y2 : Int)], .blk (wc.heap.size) 78 #[.int .u32 (q0 : Int), .int .u32 (q1 : Int), .int .u32 (q2 : Int)], .blk (wc.heap.size + 1) 48 #[.int .i64 0, .int .i64 0, .int .i64 (va : Int), .int .i64 (vt : Int)], .blk (wc.heap.size + 1 + 1) 3 #[.int .i64 (37 : Int)]] := Mem.set 4 H rfl 2 (.int .i64 (va : Int))
          rw [hw1] at H ⊢
          clear hw1
          refine (hf2 _ _ (H.blk 5 rfl)).mono ?_
          rintro e d2 ⟨rfl, hK⟩
          replace H : Mem (w) [] (d2) [.blk (w.heap.size) 48 #[.int .i64 0, .int .i64 0, .int .i64 0, .int .i64 0], .obj (w.heap.size + 1) (.stringIter (dstr l) k), .blk (wa.heap.size) 78 #[.int .u32 (y0 : Int), .int .u32 (y1 : Int), .int .u32 (y2 : Int)], .blk (wc.heap.size) 78 #[.int .u32 (q0 : Int), .int .u32 (q1 : Int), .int .u32 (q2 : Int)], .blk (wc.heap.size + 1) 48 #[.int .i64 0, .int .i64 0, .int .i64 (va : Int), .int .i64 (vt : Int)], .blk (wc.heap.size + 1 + 1) 3 #[.int .i64 (57 : Int)]] := Mem.joinAt 5 H rfl hK
          clear rs0 rsf0 rs1 rsf1 rs2 rsf2 rs3 rsf3 rslt q90 q9f0 q91 q9f1 q92 q9f2 q9lt t120 t12f0 t121 t12f1 t122 t12f2 t123 t12f3 t12lt a130 a13f0 a13lt ne_rs_q9 ne_rs_t12 ne_rs_a13 ne_q9_rs ne_q9_t12 ne_q9_a13 ne_t12_rs ne_t12_q9 ne_t12_a13 ne_a13_rs ne_a13_q9 ne_a13_t12
          have rs0 : (d2).cell? ⟨w.heap.size, 0, none⟩ = some (.int .i64 0) := (H.blk 0 rfl).cell 0
          have rsf0 : (d2).frozen? ⟨w.heap.size, 0, none⟩ = false := (H.blk 0 rfl).frozen 0
          have rs1 : (d2).cell? ⟨w.heap.size, 1, none⟩ = some (.int .i64 0) := (H.blk 0 rfl).cell 1
          have rsf1 : (d2).frozen? ⟨w.heap.size, 1, none⟩ = false := (H.blk 0 rfl).frozen 1
          have rs2 : (d2).cell? ⟨w.heap.size, 2, none⟩ = some (.int .i64 0) := (H.blk 0 rfl).cell 2
          have rsf2 : (d2).frozen? ⟨w.heap.size, 2, none⟩ = false := (H.blk 0 rfl).frozen 2
          have rs3 : (d2).cell? ⟨w.heap.size, 3, none⟩ = some (.int .i64 0) := (H.blk 0 rfl).cell 3
          have rsf3 : (d2).frozen? ⟨w.heap.size, 3, none⟩ = false := (H.blk 0 rfl).frozen 3
          have rslt : w.heap.size < (d2).heap.size := H.lt 0 rfl
          have q90 : (d2).cell? ⟨wc.heap.size, 0, none⟩ = some (.int .u32 (q0 : Int)) := (H.blk 3 rfl).cell 0
          have q9f0 : (d2).frozen? ⟨wc.heap.size, 0, none⟩ = false := (H.blk 3 rfl).frozen 0
          have q91 : (d2).cell? ⟨wc.heap.size, 1, none⟩ = some (.int .u32 (q1 : Int)) := (H.blk 3 rfl).cell 1
          have q9f1 : (d2).frozen? ⟨wc.heap.size, 1, none⟩ = false := (H.blk 3 rfl).frozen 1
          have q92 : (d2).cell? ⟨wc.heap.size, 2, none⟩ = some (.int .u32 (q2 : Int)) := (H.blk 3 rfl).cell 2
          have q9f2 : (d2).frozen? ⟨wc.heap.size, 2, none⟩ = false := (H.blk 3 rfl).frozen 2
          have q9lt : wc.heap.size < (d2).heap.size := H.lt 3 rfl
          have t120 : (d2).cell? ⟨wc.heap.size + 1, 0, none⟩ = some (.int .i64 0) := (H.blk 4 rfl).cell 0
          have t12f0 : (d2).frozen? ⟨wc.heap.size + 1, 0, none⟩ = false := (H.blk 4 rfl).frozen 0
          have t121 : (d2).cell? ⟨wc.heap.size + 1, 1, none⟩ = some (.int .i64 0) := (H.blk 4 rfl).cell 1
          have t12f1 : (d2).frozen? ⟨wc.heap.size + 1, 1, none⟩ = false := (H.blk 4 rfl).frozen 1
          have t122 : (d2).cell? ⟨wc.heap.size + 1, 2, none⟩ = some (.int .i64 (va : Int)) := (H.blk 4 rfl).cell 2
          have t12f2 : (d2).frozen? ⟨wc.heap.size + 1, 2, none⟩ = false := (H.blk 4 rfl).frozen 2
          have t123 : (d2).cell? ⟨wc.heap.size + 1, 3, none⟩ = some (.int .i64 (vt : Int)) := (H.blk 4 rfl).cell 3
          have t12f3 : (d2).frozen? ⟨wc.heap.size + 1, 3, none⟩ = false := (H.blk 4 rfl).frozen 3
          have t12lt : wc.heap.size + 1 < (d2).heap.size := H.lt 4 rfl
          have a130 : (d2).cell? ⟨wc.heap.size + 1 + 1, 0, none⟩ = some (.int .i64 (57 : Int)) := (H.blk 5 rfl).cell 0
          have a13f0 : (d2).frozen? ⟨wc.heap.size + 1 + 1, 0, none⟩ = false := (H.blk 5 rfl).frozen 0
          have a13lt : wc.heap.size + 1 + 1 < (d2).heap.size := H.lt 5 rfl
          have ne_rs_q9 : w.heap.size ≠ wc.heap.size := H.ne 0 3 rfl rfl (by decide)
          have ne_rs_t12 : w.heap.size ≠ wc.heap.size + 1 := H.ne 0 4 rfl rfl (by decide)
          have ne_rs_a13 : w.heap.size ≠ wc.heap.size + 1 + 1 := H.ne 0 5 rfl rfl (by decide)
          have ne_q9_rs : wc.heap.size ≠ w.heap.size := H.ne 3 0 rfl rfl (by decide)
          have ne_q9_t12 : wc.heap.size ≠ wc.heap.size + 1 := H.ne 3 4 rfl rfl (by decide)
          have ne_q9_a13 : wc.heap.size ≠ wc.heap.size + 1 + 1 := H.ne 3 5 rfl rfl (by decide)
          have ne_t12_rs : wc.heap.size + 1 ≠ w.heap.size := H.ne 4 0 rfl rfl (by decide)
          have ne_t12_q9 : wc.heap.size + 1 ≠ wc.heap.size := H.ne 4 3 rfl rfl (by decide)
          have ne_t12_a13 : wc.heap.size + 1 ≠ wc.heap.size + 1 + 1 := H.ne 4 5 rfl rfl (by decide)
          have ne_a13_rs : wc.heap.size + 1 + 1 ≠ w.heap.size := H.ne 5 0 rfl rfl (by decide)
          have ne_a13_q9 : wc.heap.size + 1 + 1 ≠ wc.heap.size := H.ne 5 3 rfl rfl (by decide)
          have ne_a13_t12 : wc.heap.size + 1 + 1 ≠ wc.heap.size + 1 := H.ne 5 4 rfl rfl (by decide)
          clear hK hf2
          go_wp2_with fail
          obtain ⟨w2, hw2⟩ : ∃ w2, (d2).setCell ⟨wc.heap.size + 1, 1, none⟩ (.int .i64 (vi : Int)) = w2 := ⟨_, rfl⟩
          replace H : Mem (w) [] _ [.blk (w.heap.size) 48 #[.int .i64 0, .int .i64 0, .int .i64 0, .int .i64 0], .obj (w.heap.size + 1) (.stringIter (dstr l) k), .blk (wa.heap.size) 78 #[.int .u32 (y0 : Int), .int .u32 (y1 : Int), .int .u32 (y2 : Int)], .blk (wc.heap.size) 78 #[.int .u32 (q0 : Int), .int .u32 (q1 : Int), .int .u32 (q2 : Int)], .blk (wc.heap.size + 1) 48 #[.int .i64 0, .int .i64 (vi : Int), .int .i64 (va : Int), .int .i64 (vt : Int)], .blk (wc.heap.size + 1 + 1) 3 #[.int .i64 (57 : Int)]] := Mem.set 4 H rfl 1 (.int .i64 (vi : Int))
          rw [hw2] at H ⊢
          clear hw2
          refine (hf3 _ _ (H.blk 5 rfl)).mono ?_
          rintro e d3 ⟨rfl, hK⟩
          replace H : Mem (w) [] (d3) [.blk (w.heap.size) 48 #[.int .i64 0, .int .i64 0, .int .i64 0, .int .i64 0], .obj (w.heap.size + 1) (.stringIter (dstr l) k), .blk (wa.heap.size) 78 #[.int .u32 (y0 : Int), .int .u32 (y1 : Int), .int .u32 (y2 : Int)], .blk (wc.heap.size) 78 #[.int .u32 (q0 : Int), .int .u32 (q1 : Int), .int .u32 (q2 : Int)], .blk (wc.heap.size + 1) 48 #[.int .i64 0, .int .i64 (vi : Int), .int .i64 (va : Int), .int .i64 (vt : Int)], .blk (wc.heap.size + 1 + 1) 3 #[.int .i64 (59 : Int)]] := Mem.joinAt 5 H rfl hK
          clear rs0 rsf0 rs1 rsf1 rs2 rsf2 rs3 rsf3 rslt q90 q9f0 q91 q9f1 q92 q9f2 q9lt t120 t12f0 t121 t12f1 t122 t12f2 t123 t12f3 t12lt a130 a13f0 a13lt ne_rs_q9 ne_rs_t12 ne_rs_a13 ne_q9_rs ne_q9_t12 ne_q9_a13 ne_t12_rs ne_t12_q9 ne_t12_a13 ne_a13_rs ne_a13_q9 ne_a13_t12
          have rs0 : (d3).cell? ⟨w.heap.size, 0, none⟩ = some (.int .i64 0) := (H.blk 0 rfl).cell 0
          have rsf0 : (d3).frozen? ⟨w.heap.size, 0, none⟩ = false := (H.blk 0 rfl).frozen 0
          have rs1 : (d3).cell? ⟨w.heap.size, 1, none⟩ = some (.int .i64 0) := (H.blk 0 rfl).cell 1
          have rsf1 : (d3).frozen? ⟨w.heap.size, 1, none⟩ = false := (H.blk 0 rfl).frozen 1
          have rs2 : (d3).cell? ⟨w.heap.size, 2, none⟩ = some (.int .i64 0) := (H.blk 0 rfl).cell 2
          have rsf2 : (d3).frozen? ⟨w.heap.size, 2, none⟩ = false := (H.blk 0 rfl).frozen 2
          have rs3 : (d3).cell? ⟨w.heap.size, 3, none⟩ = some (.int .i64 0) := (H.blk 0 rfl).cell 3
          have rsf3 : (d3).frozen? ⟨w.heap.size, 3, none⟩ = false := (H.blk 0 rfl).frozen 3
          have rslt : w.heap.size < (d3).heap.size := H.lt 0 rfl
          have q90 : (d3).cell? ⟨wc.heap.size, 0, none⟩ = some (.int .u32 (q0 : Int)) := (H.blk 3 rfl).cell 0
          have q9f0 : (d3).frozen? ⟨wc.heap.size, 0, none⟩ = false := (H.blk 3 rfl).frozen 0
          have q91 : (d3).cell? ⟨wc.heap.size, 1, none⟩ = some (.int .u32 (q1 : Int)) := (H.blk 3 rfl).cell 1
          have q9f1 : (d3).frozen? ⟨wc.heap.size, 1, none⟩ = false := (H.blk 3 rfl).frozen 1
          have q92 : (d3).cell? ⟨wc.heap.size, 2, none⟩ = some (.int .u32 (q2 : Int)) := (H.blk 3 rfl).cell 2
          have q9f2 : (d3).frozen? ⟨wc.heap.size, 2, none⟩ = false := (H.blk 3 rfl).frozen 2
          have q9lt : wc.heap.size < (d3).heap.size := H.lt 3 rfl
          have t120 : (d3).cell? ⟨wc.heap.size + 1, 0, none⟩ = some (.int .i64 0) := (H.blk 4 rfl).cell 0
          have t12f0 : (d3).frozen? ⟨wc.heap.size + 1, 0, none⟩ = false := (H.blk 4 rfl).frozen 0
          have t121 : (d3).cell? ⟨wc.heap.size + 1, 1, none⟩ = some (.int .i64 (vi : Int)) := (H.blk 4 rfl).cell 1
          have t12f1 : (d3).frozen? ⟨wc.heap.size + 1, 1, none⟩ = false := (H.blk 4 rfl).frozen 1
          have t122 : (d3).cell? ⟨wc.heap.size + 1, 2, none⟩ = some (.int .i64 (va : Int)) := (H.blk 4 rfl).cell 2
          have t12f2 : (d3).frozen? ⟨wc.heap.size + 1, 2, none⟩ = false := (H.blk 4 rfl).frozen 2
          have t123 : (d3).cell? ⟨wc.heap.size + 1, 3, none⟩ = some (.int .i64 (vt : Int)) := (H.blk 4 rfl).cell 3
          have t12f3 : (d3).frozen? ⟨wc.heap.size + 1, 3, none⟩ = false := (H.blk 4 rfl).frozen 3
          have t12lt : wc.heap.size + 1 < (d3).heap.size := H.lt 4 rfl
          have a130 : (d3).cell? ⟨wc.heap.size + 1 + 1, 0, none⟩ = some (.int .i64 (59 : Int)) := (H.blk 5 rfl).cell 0
          have a13f0 : (d3).frozen? ⟨wc.heap.size + 1 + 1, 0, none⟩ = false := (H.blk 5 rfl).frozen 0
          have a13lt : wc.heap.size + 1 + 1 < (d3).heap.size := H.lt 5 rfl
          have ne_rs_q9 : w.heap.size ≠ wc.heap.size := H.ne 0 3 rfl rfl (by decide)
          have ne_rs_t12 : w.heap.size ≠ wc.heap.size + 1 := H.ne 0 4 rfl rfl (by decide)
          have ne_rs_a13 : w.heap.size ≠ wc.heap.size + 1 + 1 := H.ne 0 5 rfl rfl (by decide)
          have ne_q9_rs : wc.heap.size ≠ w.heap.size := H.ne 3 0 rfl rfl (by decide)
          have ne_q9_t12 : wc.heap.size ≠ wc.heap.size + 1 := H.ne 3 4 rfl rfl (by decide)
          have ne_q9_a13 : wc.heap.size ≠ wc.heap.size + 1 + 1 := H.ne 3 5 rfl rfl (by decide)
          have ne_t12_rs : wc.heap.size + 1 ≠ w.heap.size := H.ne 4 0 rfl rfl (by decide)
          have ne_t12_q9 : wc.heap.size + 1 ≠ wc.heap.size := H.ne 4 3 rfl rfl (by decide)
          have ne_t12_a13 : wc.heap.size + 1 ≠ wc.heap.size + 1 + 1 := H.ne 4 5 rfl rfl (by decide)
          have ne_a13_rs : wc.heap.size + 1 + 1 ≠ w.heap.size := H.ne 5 0 rfl rfl (by decide)
          have ne_a13_q9 : wc.heap.size + 1 + 1 ≠ wc.heap.size := H.ne 5 3 rfl rfl (by decide)
          have ne_a13_t12 : wc.heap.size + 1 + 1 ≠ wc.heap.size + 1 := H.ne 5 4 rfl rfl (by decide)
          clear hK hf3
          go_wp2_with fail
          obtain ⟨w3, hw3⟩ : ∃ w3, (d3).setCell ⟨wc.heap.size + 1, 0, none⟩ (.int .i64 (vc : Int)) = w3 := ⟨_, rfl⟩
          replace H : Mem (w) [] _ [.blk (w.heap.size) 48 #[.int .i64 0, .int .i64 0, .int .i64 0, .int .i64 0], .obj (w.heap.size + 1) (.stringIter (dstr l) k), .blk (wa.heap.size) 78 #[.int .u32 (y0 : Int), .int .u32 (y1 : Int), .int .u32 (y2 : Int)], .blk (wc.heap.size) 78 #[.int .u32 (q0 : Int), .int .u32 (q1 : Int), .int .u32 (q2 : Int)], .blk (wc.heap.size + 1) 48 #[.int .i64 (vc : Int), .int .i64 (vi : Int), .int .i64 (va : Int), .int .i64 (vt : Int)], .blk (wc.heap.size + 1 + 1) 3 #[.int .i64 (59 : Int)]] := Mem.set 4 H rfl 0 (.int .i64 (vc : Int))
          rw [hw3] at H ⊢
          clear hw3
          refine (hBt _).mono ?_
          rintro e we ⟨rfl, hbe⟩
          replace H : Mem (w) [] (we) [.blk (w.heap.size) 48 #[.int .i64 0, .int .i64 0, .int .i64 0, .int .i64 0], .obj (w.heap.size + 1) (.stringIter (dstr l) k), .blk (wa.heap.size) 78 #[.int .u32 (y0 : Int), .int .u32 (y1 : Int), .int .u32 (y2 : Int)], .blk (wc.heap.size) 78 #[.int .u32 (q0 : Int), .int .u32 (q1 : Int), .int .u32 (q2 : Int)], .blk (wc.heap.size + 1) 48 #[.int .i64 (vc : Int), .int .i64 (vi : Int), .int .i64 (va : Int), .int .i64 (vt : Int)], .blk (wc.heap.size + 1 + 1) 3 #[.int .i64 (59 : Int)]] := Mem.call H hbe
          clear rs0 rsf0 rs1 rsf1 rs2 rsf2 rs3 rsf3 rslt q90 q9f0 q91 q9f1 q92 q9f2 q9lt t120 t12f0 t121 t12f1 t122 t12f2 t123 t12f3 t12lt a130 a13f0 a13lt ne_rs_q9 ne_rs_t12 ne_rs_a13 ne_q9_rs ne_q9_t12 ne_q9_a13 ne_t12_rs ne_t12_q9 ne_t12_a13 ne_a13_rs ne_a13_q9 ne_a13_t12
          have rs0 : (we).cell? ⟨w.heap.size, 0, none⟩ = some (.int .i64 0) := (H.blk 0 rfl).cell 0
          have rsf0 : (we).frozen? ⟨w.heap.size, 0, none⟩ = false := (H.blk 0 rfl).frozen 0
          have rs1 : (we).cell? ⟨w.heap.size, 1, none⟩ = some (.int .i64 0) := (H.blk 0 rfl).cell 1
          have rsf1 : (we).frozen? ⟨w.heap.size, 1, none⟩ = false := (H.blk 0 rfl).frozen 1
          have rs2 : (we).cell? ⟨w.heap.size, 2, none⟩ = some (.int .i64 0) := (H.blk 0 rfl).cell 2
          have rsf2 : (we).frozen? ⟨w.heap.size, 2, none⟩ = false := (H.blk 0 rfl).frozen 2
          have rs3 : (we).cell? ⟨w.heap.size, 3, none⟩ = some (.int .i64 0) := (H.blk 0 rfl).cell 3
          have rsf3 : (we).frozen? ⟨w.heap.size, 3, none⟩ = false := (H.blk 0 rfl).frozen 3
          have rslt : w.heap.size < (we).heap.size := H.lt 0 rfl
          have q90 : (we).cell? ⟨wc.heap.size, 0, none⟩ = some (.int .u32 (q0 : Int)) := (H.blk 3 rfl).cell 0
          have q9f0 : (we).frozen? ⟨wc.heap.size, 0, none⟩ = false := (H.blk 3 rfl).frozen 0
          have q91 : (we).cell? ⟨wc.heap.size, 1, none⟩ = some (.int .u32 (q1 : Int)) := (H.blk 3 rfl).cell 1
          have q9f1 : (we).frozen? ⟨wc.heap.size, 1, none⟩ = false := (H.blk 3 rfl).frozen 1
          have q92 : (we).cell? ⟨wc.heap.size, 2, none⟩ = some (.int .u32 (q2 : Int)) := (H.blk 3 rfl).cell 2
          have q9f2 : (we).frozen? ⟨wc.heap.size, 2, none⟩ = false := (H.blk 3 rfl).frozen 2
          have q9lt : wc.heap.size < (we).heap.size := H.lt 3 rfl
          have t120 : (we).cell? ⟨wc.heap.size + 1, 0, none⟩ = some (.int .i64 (vc : Int)) := (H.blk 4 rfl).cell 0
          have t12f0 : (we).frozen? ⟨wc.heap.size + 1, 0, none⟩ = false := (H.blk 4 rfl).frozen 0
          have t121 : (we).cell? ⟨wc.heap.size + 1, 1, none⟩ = some (.int .i64 (vi : Int)) := (H.blk 4 rfl).cell 1
          have t12f1 : (we).frozen? ⟨wc.heap.size + 1, 1, none⟩ = false := (H.blk 4 rfl).frozen 1
          have t122 : (we).cell? ⟨wc.heap.size + 1, 2, none⟩ = some (.int .i64 (va : Int)) := (H.blk 4 rfl).cell 2
          have t12f2 : (we).frozen? ⟨wc.heap.size + 1, 2, none⟩ = false := (H.blk 4 rfl).frozen 2
          have t123 : (we).cell? ⟨wc.heap.size + 1, 3, none⟩ = some (.int .i64 (vt : Int)) := (H.blk 4 rfl).cell 3
          have t12f3 : (we).frozen? ⟨wc.heap.size + 1, 3, none⟩ = false := (H.blk 4 rfl).frozen 3
          have t12lt : wc.heap.size + 1 < (we).heap.size := H.lt 4 rfl
          have ne_rs_q9 : w.heap.size ≠ wc.heap.size := H.ne 0 3 rfl rfl (by decide)
          have ne_rs_t12 : w.heap.size ≠ wc.heap.size + 1 := H.ne 0 4 rfl rfl (by decide)
          have ne_q9_rs : wc.heap.size ≠ w.heap.size := H.ne 3 0 rfl rfl (by decide)
          have ne_q9_t12 : wc.heap.size ≠ wc.heap.size + 1 := H.ne 3 4 rfl rfl (by decide)
          have ne_t12_rs : wc.heap.size + 1 ≠ w.heap.size := H.ne 4 0 rfl rfl (by decide)
          have ne_t12_q9 : wc.heap.size + 1 ≠ wc.heap.size := H.ne 4 3 rfl rfl (by decide)
          clear hbe hBt

          by_cases hx0 : vx = 0
          · subst hx0
            by_cases hf0 : f = 0
            · subst hf0
              have hR2 := HR1.out
              rw [if_neg (by simp)] at hR2
              simp only [Prod.mk.injEq] at hR2
              obtain ⟨rfl, rfl, rfl, rfl, rfl⟩ := hR2
              clear HR1
              go_wp2_with fail
              refine (hFl _).mono ?_
              rintro e wf ⟨rfl, hbf⟩
              replace H : Mem (w) [] (wf) [.blk (w.heap.size) 48 #[.int .i64 0, .int .i64 0, .int .i64 0, .int .i64 0], .obj (w.heap.size + 1) (.stringIter (dstr l) k), .blk (wa.heap.size) 78 #[.int .u32 (y0 : Int), .int .u32 (y1 : Int), .int .u32 (y2 : Int)], .blk (wc.heap.size) 78 #[.int .u32 (q0 : Int), .int .u32 (q1 : Int), .int .u32 (q2 : Int)], .blk (wc.heap.size + 1) 48 #[.int .i64 (vc : Int), .int .i64 (vi : Int), .int .i64 (va : Int), .int .i64 (vt : Int)], .blk (wc.heap.size + 1 + 1) 3 #[.int .i64 (59 : Int)]] := Mem.call H hbf
              clear rs0 rsf0 rs1 rsf1 rs2 rsf2 rs3 rsf3 rslt q90 q9f0 q91 q9f1 q92 q9f2 q9lt t120 t12f0 t121 t12f1 t122 t12f2 t123 t12f3 t12lt ne_rs_q9 ne_rs_t12 ne_q9_rs ne_q9_t12 ne_t12_rs ne_t12_q9
              have rs0 : (wf).cell? ⟨w.heap.size, 0, none⟩ = some (.int .i64 0) := (H.blk 0 rfl).cell 0
              have rsf0 : (wf).frozen? ⟨w.heap.size, 0, none⟩ = false := (H.blk 0 rfl).frozen 0
              have rs1 : (wf).cell? ⟨w.heap.size, 1, none⟩ = some (.int .i64 0) := (H.blk 0 rfl).cell 1
              have rsf1 : (wf).frozen? ⟨w.heap.size, 1, none⟩ = false := (H.blk 0 rfl).frozen 1
              have rs2 : (wf).cell? ⟨w.heap.size, 2, none⟩ = some (.int .i64 0) := (H.blk 0 rfl).cell 2
              have rsf2 : (wf).frozen? ⟨w.heap.size, 2, none⟩ = false := (H.blk 0 rfl).frozen 2
              have rs3 : (wf).cell? ⟨w.heap.size, 3, none⟩ = some (.int .i64 0) := (H.blk 0 rfl).cell 3
              have rsf3 : (wf).frozen? ⟨w.heap.size, 3, none⟩ = false := (H.blk 0 rfl).frozen 3
              have rslt : w.heap.size < (wf).heap.size := H.lt 0 rfl
              have t120 : (wf).cell? ⟨wc.heap.size + 1, 0, none⟩ = some (.int .i64 (vc : Int)) := (H.blk 4 rfl).cell 0
              have t12f0 : (wf).frozen? ⟨wc.heap.size + 1, 0, none⟩ = false := (H.blk 4 rfl).frozen 0
              have t121 : (wf).cell? ⟨wc.heap.size + 1, 1, none⟩ = some (.int .i64 (vi : Int)) := (H.blk 4 rfl).cell 1
              have t12f1 : (wf).frozen? ⟨wc.heap.size + 1, 1, none⟩ = false := (H.blk 4 rfl).frozen 1
              have t122 : (wf).cell? ⟨wc.heap.size + 1, 2, none⟩ = some (.int .i64 (va : Int)) := (H.blk 4 rfl).cell 2
              have t12f2 : (wf).frozen? ⟨wc.heap.size + 1, 2, none⟩ = false := (H.blk 4 rfl).frozen 2
              have t123 : (wf).cell? ⟨wc.heap.size + 1, 3, none⟩ = some (.int .i64 (vt : Int)) := (H.blk 4 rfl).cell 3
              have t12f3 : (wf).frozen? ⟨wc.heap.size + 1, 3, none⟩ = false := (H.blk 4 rfl).frozen 3
              have t12lt : wc.heap.size + 1 < (wf).heap.size := H.lt 4 rfl
              have ne_rs_t12 : w.heap.size ≠ wc.heap.size + 1 := H.ne 0 4 rfl rfl (by decide)
              have ne_t12_rs : wc.heap.size + 1 ≠ w.heap.size := H.ne 4 0 rfl rfl (by decide)
              clear hbf hFl
              go_wp2
              obtain ⟨wg, hwg⟩ : ∃ wg, ((((wf).setCell ⟨w.heap.size, 0, none⟩ (.int .i64 (vc : Int))).setCell ⟨w.heap.size, 1, none⟩ (.int .i64 (vi : Int))).setCell ⟨w.heap.size, 2, none⟩ (.int .i64 (va : Int))).setCell ⟨w.heap.size, 3, none⟩ (.int .i64 (vt : Int)) = wg := ⟨_, rfl⟩
              replace H : Mem (w) [] _ [.blk (w.heap.size) 48 #[.int .i64 (vc : Int), .int .i64 0, .int .i64 0, .int .i64 0], .obj (w.heap.size + 1) (.stringIter (dstr l) k), .blk (wa.heap.size) 78 #[.int .u32 (y0 : Int), .int .u32 (y1 : Int), .int .u32 (y2 : Int)], .blk (wc.heap.size) 78 #[.int .u32 (q0 : Int), .int .u32 (q1 : Int), .int .u32 (q2 : Int)], .blk (wc.heap.size + 1) 48 #[.int .i64 (vc : Int), .int .i64 (vi : Int), .int .i64 (va : Int), .int .i64 (vt : Int)], .blk (wc.heap.size + 1 + 1) 3 #[.int .i64 (59 : Int)]] := Mem.set 0 H rfl 0 (.int .i64 (vc : Int))
              replace H : Mem (w) [] _ [.blk (w.heap.size) 48 #[.int .i64 (vc : Int), .int .i64 (vi : Int), .int .i64 0, .int .i64 0], .obj (w.heap.size + 1) (.stringIter (dstr l) k), .blk (wa.heap.size) 78 #[.int .u32 (y0 : Int), .int .u32 (y1 : Int), .int .u32 (y2 : Int)], .blk (wc.heap.size) 78 #[.int .u32 (q0 : Int), .int .u32 (q1 : Int), .int .u32 (q2 : Int)], .blk (wc.heap.size + 1) 48 #[.int .i64 (vc : Int), .int .i64 (vi : Int), .int .i64 (va : Int), .int .i64 (vt : Int)], .blk (wc.heap.size + 1 + 1) 3 #[.int .i64 (59 : Int)]] := Mem.set 0 H rfl 1 (.int .i64 (vi : Int))
              replace H : Mem (w) [] _ [.blk (w.heap.size) 48 #[.int .i64 (vc : Int), .int .i64 (vi : Int), .int .i64 (va : Int), .int .i64 0], .obj (w.heap.size + 1) (.stringIter (dstr l) k), .blk (wa.heap.size) 78 #[.int .u32 (y0 : Int), .int .u32 (y1 : Int), .int .u32 (y2 : Int)], .blk (wc.heap.size) 78 #[.int .u32 (q0 : Int), .int .u32 (q1 : Int), .int .u32 (q2 : Int)], .blk (wc.heap.size + 1) 48 #[.int .i64 (vc : Int), .int .i64 (vi : Int), .int .i64 (va : Int), .int .i64 (vt : Int)], .blk (wc.heap.size + 1 + 1) 3 #[.int .i64 (59 : Int)]] := Mem.set 0 H rfl 2 (.int .i64 (va : Int))
              replace H : Mem (w) [] _ [.blk (w.heap.size) 48 #[.int .i64 (vc : Int), .int .i64 (vi : Int), .int .i64 (va : Int), .int .i64 (vt : Int)], .obj (w.heap.size + 1) (.stringIter (dstr l) k), .blk (wa.heap.size) 78 #[.int .u32 (y0 : Int), .int .u32 (y1 : Int), .int .u32 (y2 : Int)], .blk (wc.heap.size) 78 #[.int .u32 (q0 : Int), .int .u32 (q1 : Int), .int .u32 (q2 : Int)], .blk (wc.heap.size + 1) 48 #[.int .i64 (vc : Int), .int .i64 (vi : Int), .int .i64 (va : Int), .int .i64 (vt : Int)], .blk (wc.heap.size + 1 + 1) 3 #[.int .i64 (59 : Int)]] := Mem.set 0 H rfl 3 (.int .i64 (vt : Int))
              rw [hwg] at H ⊢
              clear hwg
              clear rs0 rsf0 rs1 rsf1 rs2 rsf2 rs3 rsf3 rslt t120 t12f0 t121 t12f1 t122 t12f2 t123 t12f3 t12lt ne_rs_t12 ne_t12_rs
              have rs0 : (wg).cell? ⟨w.heap.size, 0, none⟩ = some (.int .i64 (vc : Int)) := (H.blk 0 rfl).cell 0
              have rsf0 : (wg).frozen? ⟨w.heap.size, 0, none⟩ = false := (H.blk 0 rfl).frozen 0
              have rs1 : (wg).cell? ⟨w.heap.size, 1, none⟩ = some (.int .i64 (vi : Int)) := (H.blk 0 rfl).cell 1
              have rsf1 : (wg).frozen? ⟨w.heap.size, 1, none⟩ = false := (H.blk 0 rfl).frozen 1
              have rs2 : (wg).cell? ⟨w.heap.size, 2, none⟩ = some (.int .i64 (va : Int)) := (H.blk 0 rfl).cell 2
              have rsf2 : (wg).frozen? ⟨w.heap.size, 2, none⟩ = false := (H.blk 0 rfl).frozen 2
              have rs3 : (wg).cell? ⟨w.heap.size, 3, none⟩ = some (.int .i64 (vt : Int)) := (H.blk 0 rfl).cell 3
              have rsf3 : (wg).frozen? ⟨w.heap.size, 3, none⟩ = false := (H.blk 0 rfl).frozen 3
              have rslt : w.heap.size < (wg).heap.size := H.lt 0 rfl
              refine bodyPost_ret (v := .tuple #[.agg #[.int .i64 (vc : Int), .int .i64 (vi : Int), .int .i64 (va : Int), .int .i64 (vt : Int)], .int .i64 0]) (by simp [results, Tryd.results20, go_sem, rs0, rs1, rs2, rs3]; done) rfl ?_
              exact ⟨rfl, H.below⟩
            · skip
              have hR2 := HR1.out
              rw [if_pos (.inr hf0)] at hR2
              simp only [Prod.mk.injEq] at hR2
              obtain ⟨rfl, rfl, rfl, rfl, rfl⟩ := hR2
              have hfb : (f != 0) = true := by simp; exact hf0
              have hfc : (f == 0) = false := by simp; exact hf0
              clear HR1 hf0
              go_wp2_with fail
              refine (hFl _).mono ?_
              rintro e wf ⟨rfl, hbf⟩
              replace H : Mem (w) [] (wf) [.blk (w.heap.size) 48 #[.int .i64 0, .int .i64 0, .int .i64 0, .int .i64 0], .obj (w.heap.size + 1) (.stringIter (dstr l) k), .blk (wa.heap.size) 78 #[.int .u32 (y0 : Int), .int .u32 (y1 : Int), .int .u32 (y2 : Int)], .blk (wc.heap.size) 78 #[.int .u32 (q0 : Int), .int .u32 (q1 : Int), .int .u32 (q2 : Int)], .blk (wc.heap.size + 1) 48 #[.int .i64 (vc : Int), .int .i64 (vi : Int), .int .i64 (va : Int), .int .i64 (vt : Int)], .blk (wc.heap.size + 1 + 1) 3 #[.int .i64 (59 : Int)]] := Mem.call H hbf
              clear rs0 rsf0 rs1 rsf1 rs2 rsf2 rs3 rsf3 rslt q90 q9f0 q91 q9f1 q92 q9f2 q9lt t120 t12f0 t121 t12f1 t122 t12f2 t123 t12f3 t12lt ne_rs_q9 ne_rs_t12 ne_q9_rs ne_q9_t12 ne_t12_rs ne_t12_q9
              have rs0 : (wf).cell? ⟨w.heap.size, 0, none⟩ = some (.int .i64 0) := (H.blk 0 rfl).cell 0
              have rsf0 : (wf).frozen? ⟨w.heap.size, 0, none⟩ = false := (H.blk 0 rfl).frozen 0
              have rs1 : (wf).cell? ⟨w.heap.size, 1, none⟩ = some (.int .i64 0) := (H.blk 0 rfl).cell 1
              have rsf1 : (wf).frozen? ⟨w.heap.size, 1, none⟩ = false := (H.blk 0 rfl).frozen 1
              have rs2 : (wf).cell? ⟨w.heap.size, 2, none⟩ = some (.int .i64 0) := (H.blk 0 rfl).cell 2
              have rsf2 : (wf).frozen? ⟨w.heap.size, 2, none⟩ = false := (H.blk 0 rfl).frozen 2
              have rs3 : (wf).cell? ⟨w.heap.size, 3, none⟩ = some (.int .i64 0) := (H.blk 0 rfl).cell 3
              have rsf3 : (wf).frozen? ⟨w.heap.size, 3, none⟩ = false := (H.blk 0 rfl).frozen 3
              have rslt : w.heap.size < (wf).heap.size := H.lt 0 rfl
              have t120 : (wf).cell? ⟨wc.heap.size + 1, 0, none⟩ = some (.int .i64 (vc : Int)) := (H.blk 4 rfl).cell 0
              have t12f0 : (wf).frozen? ⟨wc.heap.size + 1, 0, none⟩ = false := (H.blk 4 rfl).frozen 0
              have t121 : (wf).cell? ⟨wc.heap.size + 1, 1, none⟩ = some (.int .i64 (vi : Int)) := (H.blk 4 rfl).cell 1
              have t12f1 : (wf).frozen? ⟨wc.heap.size + 1, 1, none⟩ = false := (H.blk 4 rfl).frozen 1
              have t122 : (wf).cell? ⟨wc.heap.size + 1, 2, none⟩ = some (.int .i64 (va : Int)) := (H.blk 4 rfl).cell 2
              have t12f2 : (wf).frozen? ⟨wc.heap.size + 1, 2, none⟩ = false := (H.blk 4 rfl).frozen 2
              have t123 : (wf).cell? ⟨wc.heap.size + 1, 3, none⟩ = some (.int .i64 (vt : Int)) := (H.blk 4 rfl).cell 3
              have t12f3 : (wf).frozen? ⟨wc.heap.size + 1, 3, none⟩ = false := (H.blk 4 rfl).frozen 3
              have t12lt : wc.heap.size + 1 < (wf).heap.size := H.lt 4 rfl
              have ne_rs_t12 : w.heap.size ≠ wc.heap.size + 1 := H.ne 0 4 rfl rfl (by decide)
              have ne_t12_rs : wc.heap.size + 1 ≠ w.heap.size := H.ne 4 0 rfl rfl (by decide)
              clear hbf hFl
              go_wp2
              obtain ⟨wg, hwg⟩ : ∃ wg, ((((wf).setCell ⟨w.heap.size, 0, none⟩ (.int .i64 0)).setCell ⟨w.heap.size, 1, none⟩ (.int .i64 0)).setCell ⟨w.heap.size, 2, none⟩ (.int .i64 0)).setCell ⟨w.heap.size, 3, none⟩ (.int .i64 0) = wg := ⟨_, rfl⟩
              replace H : Mem (w) [] _ [.blk (w.heap.size) 48 #[.int .i64 0, .int .i64 0, .int .i64 0, .int .i64 0], .obj (w.heap.size + 1) (.stringIter (dstr l) k), .blk (wa.heap.size) 78 #[.int .u32 (y0 : Int), .int .u32 (y1 : Int), .int .u32 (y2 : Int)], .blk (wc.heap.size) 78 #[.int .u32 (q0 : Int), .int .u32 (q1 : Int), .int .u32 (q2 : Int)], .blk (wc.heap.size + 1) 48 #[.int .i64 (vc : Int), .int .i64 (vi : Int), .int .i64 (va : Int), .int .i64 (vt : Int)], .blk (wc.heap.size + 1 + 1) 3 #[.int .i64 (59 : Int)]] := Mem.set 0 H rfl 0 (.int .i64 0)
              replace H : Mem (w) [] _ [.blk (w.heap.size) 48 #[.int .i64 0, .int .i64 0, .int .i64 0, .int .i64 0], .obj (w.heap.size + 1) (.stringIter (dstr l) k), .blk (wa.heap.size) 78 #[.int .u32 (y0 : Int), .int .u32 (y1 : Int), .int .u32 (y2 : Int)], .blk (wc.heap.size) 78 #[.int .u32 (q0 : Int), .int .u32 (q1 : Int), .int .u32 (q2 : Int)], .blk (wc.heap.size + 1) 48 #[.int .i64 (vc : Int), .int .i64 (vi : Int), .int .i64 (va : Int), .int .i64 (vt : Int)], .blk (wc.heap.size + 1 + 1) 3 #[.int .i64 (59 : Int)]] := Mem.set 0 H rfl 1 (.int .i64 0)
              replace H : Mem (w) [] _ [.blk (w.heap.size) 48 #[.int .i64 0, .int .i64 0, .int .i64 0, .int .i64 0], .obj (w.heap.size + 1) (.stringIter (dstr l) k), .blk (wa.heap.size) 78 #[.int .u32 (y0 : Int), .int .u32 (y1 : Int), .int .u32 (y2 : Int)], .blk (wc.heap.size) 78 #[.int .u32 (q0 : Int), .int .u32 (q1 : Int), .int .u32 (q2 : Int)], .blk (wc.heap.size + 1) 48 #[.int .i64 (vc : Int), .int .i64 (vi : Int), .int .i64 (va : Int), .int .i64 (vt : Int)], .blk (wc.heap.size + 1 + 1) 3 #[.int .i64 (59 : Int)]] := Mem.set 0 H rfl 2 (.int .i64 0)
              replace H : Mem (w) [] _ [.blk (w.heap.size) 48 #[.int .i64 0, .int .i64 0, .int .i64 0, .int .i64 0], .obj (w.heap.size + 1) (.stringIter (dstr l) k), .blk (wa.heap.size) 78 #[.int .u32 (y0 : Int), .int .u32 (y1 : Int), .int .u32 (y2 : Int)], .blk (wc.heap.size) 78 #[.int .u32 (q0 : Int), .int .u32 (q1 : Int), .int .u32 (q2 : Int)], .blk (wc.heap.size + 1) 48 #[.int .i64 (vc : Int), .int .i64 (vi : Int), .int .i64 (va : Int), .int .i64 (vt : Int)], .blk (wc.heap.size + 1 + 1) 3 #[.int .i64 (59 : Int)]] := Mem.set 0 H rfl 3 (.int .i64 0)
              rw [hwg] at H ⊢
              clear hwg
              clear rs0 rsf0 rs1 rsf1 rs2 rsf2 rs3 rsf3 rslt t120 t12f0 t121 t12f1 t122 t12f2 t123 t12f3 t12lt ne_rs_t12 ne_t12_rs
              have rs0 : (wg).cell? ⟨w.heap.size, 0, none⟩ = some (.int .i64 0) := (H.blk 0 rfl).cell 0
              have rsf0 : (wg).frozen? ⟨w.heap.size, 0, none⟩ = false := (H.blk 0 rfl).frozen 0
              have rs1 : (wg).cell? ⟨w.heap.size, 1, none⟩ = some (.int .i64 0) := (H.blk 0 rfl).cell 1
              have rsf1 : (wg).frozen? ⟨w.heap.size, 1, none⟩ = false := (H.blk 0 rfl).frozen 1
              have rs2 : (wg).cell? ⟨w.heap.size, 2, none⟩ = some (.int .i64 0) := (H.blk 0 rfl).cell 2
              have rsf2 : (wg).frozen? ⟨w.heap.size, 2, none⟩ = false := (H.blk 0 rfl).frozen 2
              have rs3 : (wg).cell? ⟨w.heap.size, 3, none⟩ = some (.int .i64 0) := (H.blk 0 rfl).cell 3
              have rsf3 : (wg).frozen? ⟨w.heap.size, 3, none⟩ = false := (H.blk 0 rfl).frozen 3
              have rslt : w.heap.size < (wg).heap.size := H.lt 0 rfl
              refine bodyPost_ret (v := .tuple #[.agg #[.int .i64 0, .int .i64 0, .int .i64 0, .int .i64 0], .int .i64 2]) (by simp [results, Tryd.results20, go_sem, rs0, rs1, rs2, rs3]; done) rfl ?_
              exact ⟨rfl, H.below⟩
          · skip
            have hR2 := HR1.out
            rw [if_pos (.inl hx0)] at hR2
            simp only [Prod.mk.injEq] at hR2
            obtain ⟨rfl, rfl, rfl, rfl, rfl⟩ := hR2
            have hxb : ((vx : Int) != 0) = true := by simp; exact hx0
            have hxc : ((vx : Int) == 0) = false := by simp; exact hx0
            clear HR1 hx0 hFl
            go_wp2
            obtain ⟨wg, hwg⟩ : ∃ wg, ((((we).setCell ⟨w.heap.size, 0, none⟩ (.int .i64 0)).setCell ⟨w.heap.size, 1, none⟩ (.int .i64 0)).setCell ⟨w.heap.size, 2, none⟩ (.int .i64 0)).setCell ⟨w.heap.size, 3, none⟩ (.int .i64 0) = wg := ⟨_, rfl⟩
            replace H : Mem (w) [] _ [.blk (w.heap.size) 48 #[.int .i64 0, .int .i64 0, .int .i64 0, .int .i64 0], .obj (w.heap.size + 1) (.stringIter (dstr l) k), .blk (wa.heap.size) 78 #[.int .u32 (y0 : Int), .int .u32 (y1 : Int), .int .u32 (y2 : Int)], .blk (wc.heap.size) 78 #[.int .u32 (q0 : Int), .int .u32 (q1 : Int), .int .u32 (q2 : Int)], .blk (wc.heap.size + 1) 48 #[.int .i64 (vc : Int), .int .i64 (vi : Int), .int .i64 (va : Int), .int .i64 (vt : Int)], .blk (wc.heap.size + 1 + 1) 3 #[.int .i64 (59 : Int)]] := Mem.set 0 H rfl 0 (.int .i64 0)
            replace H : Mem (w) [] _ [.blk (w.heap.size) 48 #[.int .i64 0, .int .i64 0, .int .i64 0, .int .i64 0], .obj (w.heap.size + 1) (.stringIter (dstr l) k), .blk (wa.heap.size) 78 #[.int .u32 (y0 : Int), .int .u32 (y1 : Int), .int .u32 (y2 : Int)], .blk (wc.heap.size) 78 #[.int .u32 (q0 : Int), .int .u32 (q1 : Int), .int .u32 (q2 : Int)], .blk (wc.heap.size + 1) 48 #[.int .i64 (vc : Int), .int .i64 (vi : Int), .int .i64 (va : Int), .int .i64 (vt : Int)], .blk (wc.heap.size + 1 + 1) 3 #[.int .i64 (59 : Int)]] := Mem.set 0 H rfl 1 (.int .i64 0)
            replace H : Mem (w) [] _ [.blk (w.heap.size) 48 #[.int .i64 0, .int .i64 0, .int .i64 0, .int .i64 0], .obj (w.heap.size + 1) (.stringIter (dstr l) k), .blk (wa.heap.size) 78 #[.int .u32 (y0 : Int), .int .u32 (y1 : Int), .int .u32 (y2 : Int)], .blk (wc.heap.size) 78 #[.int .u32 (q0 : Int), .int .u32 (q1 : Int), .int .u32 (q2 : Int)], .blk (wc.heap.size + 1) 48 #[.int .i64 (vc : Int), .int .i64 (vi : Int), .int .i64 (va : Int), .int .i64 (vt : Int)], .blk (wc.heap.size + 1 + 1) 3 #[.int .i64 (59 : Int)]] := Mem.set 0 H rfl 2 (.int .i64 0)
            replace H : Mem (w) [] _ [.blk (w.heap.size) 48 #[.int .i64 0, .int .i64 0, .int .i64 0, .int .i64 0], .obj (w.heap.size + 1) (.stringIter (dstr l) k), .blk (wa.heap.size) 78 #[.int .u32 (y0 : Int), .int .u32 (y1 : Int), .int .u32 (y2 : Int)], .blk (wc.heap.size) 78 #[.int .u32 (q0 : Int), .int .u32 (q1 : Int), .int .u32 (q2 : Int)], .blk (wc.heap.size + 1) 48 #[.int .i64 (vc : Int), .int .i64 (vi : Int), .int .i64 (va : Int), .int .i64 (vt : Int)], .blk (wc.heap.size + 1 + 1) 3 #[.int .i64 (59 : Int)]] := Mem.set 0 H rfl 3 (.int .i64 0)
            rw [hwg] at H ⊢
            clear hwg
            clear rs0 rsf0 rs1 rsf1 rs2 rsf2 rs3 rsf3 rslt q90 q9f0 q91 q9f1 q92 q9f2 q9lt t120 t12f0 t121 t12f1 t122 t12f2 t123 t12f3 t12lt ne_rs_q9 ne_rs_t12 ne_q9_rs ne_q9_t12 ne_t12_rs ne_t12_q9
            have rs0 : (wg).cell? ⟨w.heap.size, 0, none⟩ = some (.int .i64 0) := (H.blk 0 rfl).cell 0
            have rsf0 : (wg).frozen? ⟨w.heap.size, 0, none⟩ = false := (H.blk 0 rfl).frozen 0
            have rs1 : (wg).cell? ⟨w.heap.size, 1, none⟩ = some (.int .i64 0) := (H.blk 0 rfl).cell 1
            have rsf1 : (wg).frozen? ⟨w.heap.size, 1, none⟩ = false := (H.blk 0 rfl).frozen 1
            have rs2 : (wg).cell? ⟨w.heap.size, 2, none⟩ = some (.int .i64 0) := (H.blk 0 rfl).cell 2
            have rsf2 : (wg).frozen? ⟨w.heap.size, 2, none⟩ = false := (H.blk 0 rfl).frozen 2
            have rs3 : (wg).cell? ⟨w.heap.size, 3, none⟩ = some (.int .i64 0) := (H.blk 0 rfl).cell 3
            have rsf3 : (wg).frozen? ⟨w.heap.size, 3, none⟩ = false := (H.blk 0 rfl).frozen 3
            have rslt : w.heap.size < (wg).heap.size := H.lt 0 rfl
            refine bodyPost_ret (v := .tuple #[.agg #[.int .i64 0, .int .i64 0, .int .i64 0, .int .i64 0], .int .i64 2]) (by simp [results, Tryd.results20, go_sem, rs0, rs1, rs2, rs3]; done) rfl ?_
            exact ⟨rfl, H.below⟩
        · skip
          rw [if_pos hr0] at hR1
          simp only [Prod.mk.injEq] at hR1
          obtain ⟨rfl, rfl, rfl, rfl, rfl⟩ := hR1
          have hrb : ((r : Int) != 0) = true := by simp; exact hr0
          have hrc : ((r : Int) == 0) = false := by simp; exact hr0
          clear hr0 hqr hqd l0 l1 l2
          go_wp2
          obtain ⟨wd, hwd⟩ : ∃ wd, (((((wc).setCell ⟨w.heap.size, 0, none⟩ (.int .i64 0)).setCell ⟨w.heap.size, 1, none⟩ (.int .i64 0)).setCell ⟨w.heap.size, 2, none⟩ (.int .i64 0)).setCell ⟨w.heap.size, 3, none⟩ (.int .i64 0)).alloc (.cells #[.int .u32 (q0 : Int), .int .u32 (q1 : Int), .int .u32 (q2 : Int)] 78) = wd := ⟨_, rfl⟩
          replace H : Mem (w) [] _ [.blk (w.heap.size) 48 #[.int .i64 0, .int .i64 0, .int .i64 0, .int .i64 0], .obj (w.heap.size + 1) (.stringIter (dstr l) k), .blk (wa.heap.size) 78 #[.int .u32 (y0 : Int), .int .u32 (y1 : Int), .int .u32 (y2 : Int)]] := Mem.set 0 H rfl 0 (.int .i64 0)
          replace H : Mem (w) [] _ [.blk (w.heap.size) 48 #[.int .i64 0, .int .i64 0, .int .i64 0, .int .i64 0], .obj (w.heap.size + 1) (.stringIter (dstr l) k), .blk (wa.heap.size) 78 #[.int .u32 (y0 : Int), .int .u32 (y1 : Int), .int .u32 (y2 : Int)]] := Mem.set 0 H rfl 1 (.int .i64 0)
          replace H : Mem (w) [] _ [.blk (w.heap.size) 48 #[.int .i64 0, .int .i64 0, .int .i64 0, .int .i64 0], .obj (w.heap.size + 1) (.stringIter (dstr l) k), .blk (wa.heap.size) 78 #[.int .u32 (y0 : Int), .int .u32 (y1 : Int), .int .u32 (y2 : Int)]] := Mem.set 0 H rfl 2 (.int .i64 0)
          replace H : Mem (w) [] _ [.blk (w.heap.size) 48 #[.int .i64 0, .int .i64 0, .int .i64 0, .int .i64 0], .obj (w.heap.size + 1) (.stringIter (dstr l) k), .blk (wa.heap.size) 78 #[.int .u32 (y0 : Int), .int .u32 (y1 : Int), .int .u32 (y2 : Int)]] := Mem.set 0 H rfl 3 (.int .i64 0)
          replace H : Mem (w) [] _ [.blk (w.heap.size) 48 #[.int .i64 0, .int .i64 0, .int .i64 0, .int .i64 0], .obj (w.heap.size + 1) (.stringIter (dstr l) k), .blk (wa.heap.size) 78 #[.int .u32 (y0 : Int), .int .u32 (y1 : Int), .int .u32 (y2 : Int)], .blk (wc.heap.size) 78 #[.int .u32 (q0 : Int), .int .u32 (q1 : Int), .int .u32 (q2 : Int)]] := Mem.alloc H (wc.heap.size) (by first | (simp; done) | (simp; omega)) #[.int .u32 (q0 : Int), .int .u32 (q1 : Int), .int .u32 (q2 : Int)] 78
          rw [hwd] at H ⊢
          clear hwd
          clear rs0 rsf0 rs1 rsf1 rs2 rsf2 rs3 rsf3 rslt w70 w7f0 w71 w7f1 w72 w7f2 w7lt ne_rs_w7 ne_w7_rs
          have rs0 : (wd).cell? ⟨w.heap.size, 0, none⟩ = some (.int .i64 0) := (H.blk 0 rfl).cell 0
          have rsf0 : (wd).frozen? ⟨w.heap.size, 0, none⟩ = false := (H.blk 0 rfl).frozen 0
          have rs1 : (wd).cell? ⟨w.heap.size, 1, none⟩ = some (.int .i64 0) := (H.blk 0 rfl).cell 1
          have rsf1 : (wd).frozen? ⟨w.heap.size, 1, none⟩ = false := (H.blk 0 rfl).frozen 1
          have rs2 : (wd).cell? ⟨w.heap.size, 2, none⟩ = some (.int .i64 0) := (H.blk 0 rfl).cell 2
          have rsf2 : (wd).frozen? ⟨w.heap.size, 2, none⟩ = false := (H.blk 0 rfl).frozen 2
          have rs3 : (wd).cell? ⟨w.heap.size, 3, none⟩ = some (.int .i64 0) := (H.blk 0 rfl).cell 3
          have rsf3 : (wd).frozen? ⟨w.heap.size, 3, none⟩ = false := (H.blk 0 rfl).frozen 3
          have rslt : w.heap.size < (wd).heap.size := H.lt 0 rfl
          refine bodyPost_ret (v := .tuple #[.agg #[.int .i64 0, .int .i64 0, .int .i64 0, .int .i64 0], .int .i64 8]) (by simp [results, Tryd.results20, go_sem, rs0, rs1, rs2, rs3]; done) rfl ?_
          exact ⟨rfl, H.below⟩
end Go.Proofs.YtopnlkhepjbjkaaDoor
