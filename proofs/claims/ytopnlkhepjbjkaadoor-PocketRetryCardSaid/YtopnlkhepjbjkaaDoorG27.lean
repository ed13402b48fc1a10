/- words.Read: the wide number that decimal digits tell. -/
import Derived.Test.YtopnlkhepjbjkaaDoorG9
import Derived.Test.YtopnlkhepjbjkaaDoorG2
namespace Go.Proofs.YtopnlkhepjbjkaaDoor
open Go.RowKit
set_option linter.unusedVariables false
theorem val10_take_le {l : List Nat} (k : Nat) : val10 (l.take k) ≤ val10 l := by
  have h : val10 l = val10 (l.take k ++ l.drop k) := by rw [List.take_append_drop]
  rw [h, val10_append]
  have : val10 (l.take k) * 1 ≤ val10 (l.take k) * 10 ^ (l.drop k).length := Nat.mul_le_mul_left _ (Nat.pos_of_ne_zero (by simp))
  omega
theorem rd_c {x c V d T N : Nat} (h : x + c * 79228162514264337593543950336 = V * 10) (h1 : T = V * 10 + d) (h2 : T ≤ N) (h3 : N < 79228162514264337593543950336) : c = 0 := by omega
theorem rd_p {x n : Nat} (h : x + 0 * 79228162514264337593543950336 = n) : x = n := by omega
theorem rd_f {x f U V d T N : Nat} (h : x + f * 79228162514264337593543950336 = U + d) (h0 : U = V * 10) (h1 : T = V * 10 + d) (h2 : T ≤ N) (h3 : N < 79228162514264337593543950336) : f = 0 := by omega
theorem rd_q {x U V d T : Nat} (h : x + 0 * 79228162514264337593543950336 = U + d) (h0 : U = V * 10) (h1 : T = V * 10 + d) : x = T := by omega
/-- Three words that are together the number n; no error. -/
def IsRead (n : Nat) (w : World) (e : Ending) (w' : World) : Prop :=
  ∃ y0 y1 y2 : Nat, y0 < 4294967296 ∧ y1 < 4294967296 ∧ y2 < 4294967296 ∧ Hid (val3 y0 y1 y2 = n) ∧ e = .returned (.tuple #[.agg #[.int .u32 y0, .int .u32 y1, .int .u32 y2], .int .i64 0]) ∧ Below w.heap.size w w'
set_option maxRecDepth 100000 in
set_option maxHeartbeats 1000000 in
theorem wread_ok (l : List Nat) (w : World) (hl : ∀ d ∈ l, d ≤ 9) (h0 : 0 < l.length) (h1 : l.length ≤ 40) (hh : l.length = 1 ∨ l[0]? ≠ some 0) (hv : val10 l < 79228162514264337593543950336) :
    Calls Tryd.prog 39 #[.string (dstr l)] w (IsRead (val10 l) w) := by
  have hsz := dstr_size l
  have hne := dstr_empty h0
  obtain ⟨N, hN⟩ : ∃ N, val10 l = N := ⟨_, rfl⟩
  have HN := Lib.hid hN
  have hb0 := dstr_byte hl 0 (by rw [hsz]; exact h0)
  obtain ⟨d0, hd0⟩ : ∃ d, l[0] = d := ⟨_, rfl⟩
  rw [hd0] at hb0
  have hfirst : (decide ((1 : Int) < (l.length : Int)) = false ∧ (48 + (d0 : Int) == 48) = true) ∨ ((48 + (d0 : Int) == 48) = false ∧ 1 ≤ d0) := by
    by_cases h : d0 = 0
    · rcases hh with h2 | h2
      · exact .inl ⟨by simp; omega, by simp; omega⟩
      · exact absurd (by rw [List.getElem?_eq_getElem h0, hd0, h]) h2
    · exact .inr ⟨by simp; omega, by omega⟩
  clear hd0
  rw [hN] at hv ⊢
  have HV := Lib.hid hv
  clear hN hv hh
  have H := Mem.init w
  replace H : Mem (w) [] _ [.blk (w.heap.size) 78 #[.int .u32 0, .int .u32 0, .int .u32 0]] := Mem.alloc H (w.heap.size) (by first | (simp; done) | (simp; omega)) #[.int .u32 0, .int .u32 0, .int .u32 0] 78
  replace H : Mem (w) [] _ [.blk (w.heap.size) 78 #[.int .u32 0, .int .u32 0, .int .u32 0], .blk (w.heap.size + 1) 78 #[.int .u32 0, .int .u32 0, .int .u32 0]] := Mem.alloc H (w.heap.size + 1) (by first | (simp; done) | (simp; omega)) #[.int .u32 0, .int .u32 0, .int .u32 0] 78
  replace H : Mem (w) [] _ [.blk (w.heap.size) 78 #[.int .u32 0, .int .u32 0, .int .u32 0], .blk (w.heap.size + 1) 78 #[.int .u32 0, .int .u32 0, .int .u32 0], .obj (w.heap.size + 1 + 1) (.stringIter (dstr l) 0)] := Mem.iter H (w.heap.size + 1 + 1) (by first | (simp; done) | (simp; omega)) (dstr l)
  have hlenI : (l.length : Int) ≤ 40 := by omega
  rcases hfirst with ⟨hf, hd1⟩ | ⟨hf, hd1⟩
  all_goals
    go_enter Tryd.func39, Tryd.ntmps39
    go_wp2
    clear hb0 hne hlenI hf hd1
    go_loopw [5] (fun v wr => ∃ (k y0 y1 y2 : Nat), k ≤ l.length ∧ y0 < 4294967296 ∧ y1 < 4294967296 ∧ y2 < 4294967296 ∧ Hid (val3 y0 y1 y2 = val10 (l.take k)) ∧ v = .bool false ∧ Mem w [] wr [.blk w.heap.size 78 #[.int .u32 0, .int .u32 0, .int .u32 0], .blk (w.heap.size + 1) 78 #[.int .u32 (y0 : Int), .int .u32 (y1 : Int), .int .u32 (y2 : Int)], .obj (w.heap.size + 1 + 1) (.stringIter (dstr l) k)]) (fun _ wr => l.length - wr.iterPos (w.heap.size + 1 + 1))
    case atStart => exact ⟨0, 0, 0, 0, by omega, by omega, by omega, by omega, rfl, rfl, H⟩
    case round =>
      obtain ⟨k, y0, y1, y2, hk, k0, k1, k2, hy, rfl, HM⟩ := hrel
      clear H
      have H : Mem (w) [] (wr) [.blk (w.heap.size) 78 #[.int .u32 0, .int .u32 0, .int .u32 0], .blk (w.heap.size + 1) 78 #[.int .u32 (y0 : Int), .int .u32 (y1 : Int), .int .u32 (y2 : Int)], .obj (w.heap.size + 1 + 1) (.stringIter (dstr l) k)] := HM
      clear HM
      have hit := H.obj_ 2 rfl

      by_cases hlt : k < l.length
      · have hb := dstr_byte hl k (by rw [hsz]; exact hlt)
        have hd := hl l[k] (List.getElem_mem _)
        have hnx := fun ty => Lib.run_next_ascii_at (P := Tryd.prog) wr (w.heap.size + 1 + 1) (dstr l) k ty hit (by rw [hsz]; exact hlt) (by rw [hb]; omega)
        rw [hb] at hnx
        have hts : val10 (l.take (k + 1)) = val10 (l.take k) * 10 + l[k] := by rw [List.take_succ_eq_append_getElem hlt, val10_snoc]
        have hle := val10_take_le (l := l) (k + 1)
        obtain ⟨d, hdd⟩ : ∃ d, l[k] = d := ⟨_, rfl⟩
        rw [hdd] at hnx hd hts
        obtain ⟨T, hT⟩ : ∃ T, val10 (l.take (k + 1)) = T := ⟨_, rfl⟩
        rw [HN.out, hT] at hle
        rw [hT] at hts
        rw [← hy.out] at hts
        have HT := Lib.hid hT
        have HS := Lib.hid hts
        have HL := Lib.hid hle
        have hdI : (d : Int) ≤ 9 := by omega
        have hti := fun W => times_is y0 y1 y2 10 W k0 k1 k2 (by omega)
        obtain ⟨V, hV⟩ : ∃ V, val3 y0 y1 y2 = V := ⟨_, rfl⟩
        rw [hV] at hti
        rw [hV] at HS
        have hg1 : (48 : Int) ≤ ((48 + d : Nat) : Int) := by omega
        have hg2 : ((48 + d : Nat) : Int) ≤ 57 := by omega
        clear hb hdd hT hts hle hV hy k0 k1 k2
        have HIT := Lib.hid hit
        clear hit
        replace H : Mem (w) [] _ [.blk (w.heap.size) 78 #[.int .u32 0, .int .u32 0, .int .u32 0], .blk (w.heap.size + 1) 78 #[.int .u32 (y0 : Int), .int .u32 (y1 : Int), .int .u32 (y2 : Int)], .obj (w.heap.size + 1 + 1) (.stringIter (dstr l) (k + 1))] := Mem.next 2 H rfl (k + 1)
        have rs0 : ((wr).iterAt (w.heap.size + 1 + 1) (dstr l) (k + 1)).cell? ⟨w.heap.size, 0, none⟩ = some (.int .u32 0) := (H.blk 0 rfl).cell 0
        have rsf0 : ((wr).iterAt (w.heap.size + 1 + 1) (dstr l) (k + 1)).frozen? ⟨w.heap.size, 0, none⟩ = false := (H.blk 0 rfl).frozen 0
        have rs1 : ((wr).iterAt (w.heap.size + 1 + 1) (dstr l) (k + 1)).cell? ⟨w.heap.size, 1, none⟩ = some (.int .u32 0) := (H.blk 0 rfl).cell 1
        have rsf1 : ((wr).iterAt (w.heap.size + 1 + 1) (dstr l) (k + 1)).frozen? ⟨w.heap.size, 1, none⟩ = false := (H.blk 0 rfl).frozen 1
        have rs2 : ((wr).iterAt (w.heap.size + 1 + 1) (dstr l) (k + 1)).cell? ⟨w.heap.size, 2, none⟩ = some (.int .u32 0) := (H.blk 0 rfl).cell 2
        have rsf2 : ((wr).iterAt (w.heap.size + 1 + 1) (dstr l) (k + 1)).frozen? ⟨w.heap.size, 2, none⟩ = false := (H.blk 0 rfl).frozen 2
        have rslt : w.heap.size < ((wr).iterAt (w.heap.size + 1 + 1) (dstr l) (k + 1)).heap.size := H.lt 0 rfl
        have wd0 : ((wr).iterAt (w.heap.size + 1 + 1) (dstr l) (k + 1)).cell? ⟨w.heap.size + 1, 0, none⟩ = some (.int .u32 (y0 : Int)) := (H.blk 1 rfl).cell 0
        have wdf0 : ((wr).iterAt (w.heap.size + 1 + 1) (dstr l) (k + 1)).frozen? ⟨w.heap.size + 1, 0, none⟩ = false := (H.blk 1 rfl).frozen 0
        have wd1 : ((wr).iterAt (w.heap.size + 1 + 1) (dstr l) (k + 1)).cell? ⟨w.heap.size + 1, 1, none⟩ = some (.int .u32 (y1 : Int)) := (H.blk 1 rfl).cell 1
        have wdf1 : ((wr).iterAt (w.heap.size + 1 + 1) (dstr l) (k + 1)).frozen? ⟨w.heap.size + 1, 1, none⟩ = false := (H.blk 1 rfl).frozen 1
        have wd2 : ((wr).iterAt (w.heap.size + 1 + 1) (dstr l) (k + 1)).cell? ⟨w.heap.size + 1, 2, none⟩ = some (.int .u32 (y2 : Int)) := (H.blk 1 rfl).cell 2
        have wdf2 : ((wr).iterAt (w.heap.size + 1 + 1) (dstr l) (k + 1)).frozen? ⟨w.heap.size + 1, 2, none⟩ = false := (H.blk 1 rfl).frozen 2
        have wdlt : w.heap.size + 1 < ((wr).iterAt (w.heap.size + 1 + 1) (dstr l) (k + 1)).heap.size := H.lt 1 rfl
        have ne_rs_wd : w.heap.size ≠ w.heap.size + 1 := H.ne 0 1 rfl rfl (by decide)
        have ne_wd_rs : w.heap.size + 1 ≠ w.heap.size := H.ne 1 0 rfl rfl (by decide)
        go_wp2_with fail
        refine (hti _).mono ?_
        rintro e wa ⟨p0, p1, p2, c, l0, l1, l2, lc, hp, rfl, hba⟩
        have hc0 : c = 0 := rd_c hp.out HS.out HL.out HV.out
        subst hc0
        have HP := Lib.hid (rd_p hp.out)
        have hpi := fun W => plus_is p0 p1 p2 d W l0 l1 l2 (by omega)
        obtain ⟨U, hU⟩ : ∃ U, val3 p0 p1 p2 = U := ⟨_, rfl⟩
        rw [hU] at hpi HP
        replace H : Mem (w) [] (wa) [.blk (w.heap.size) 78 #[.int .u32 0, .int .u32 0, .int .u32 0], .blk (w.heap.size + 1) 78 #[.int .u32 (y0 : Int), .int .u32 (y1 : Int), .int .u32 (y2 : Int)], .obj (w.heap.size + 1 + 1) (.stringIter (dstr l) (k + 1))] := Mem.call H hba
        clear rs0 rsf0 rs1 rsf1 rs2 rsf2 rslt wd0 wdf0 wd1 wdf1 wd2 wdf2 wdlt ne_rs_wd ne_wd_rs
        have rs0 : (wa).cell? ⟨w.heap.size, 0, none⟩ = some (.int .u32 0) := (H.blk 0 rfl).cell 0
        have rsf0 : (wa).frozen? ⟨w.heap.size, 0, none⟩ = false := (H.blk 0 rfl).frozen 0
        have rs1 : (wa).cell? ⟨w.heap.size, 1, none⟩ = some (.int .u32 0) := (H.blk 0 rfl).cell 1
        have rsf1 : (wa).frozen? ⟨w.heap.size, 1, none⟩ = false := (H.blk 0 rfl).frozen 1
        have rs2 : (wa).cell? ⟨w.heap.size, 2, none⟩ = some (.int .u32 0) := (H.blk 0 rfl).cell 2
        have rsf2 : (wa).frozen? ⟨w.heap.size, 2, none⟩ = false := (H.blk 0 rfl).frozen 2
        have rslt : w.heap.size < (wa).heap.size := H.lt 0 rfl
        have wd0 : (wa).cell? ⟨w.heap.size + 1, 0, none⟩ = some (.int .u32 (y0 : Int)) := (H.blk 1 rfl).cell 0
        have wdf0 : (wa).frozen? ⟨w.heap.size + 1, 0, none⟩ = false := (H.blk 1 rfl).frozen 0
        have wd1 : (wa).cell? ⟨w.heap.size + 1, 1, none⟩ = some (.int .u32 (y1 : Int)) := (H.blk 1 rfl).cell 1
        have wdf1 : (wa).frozen? ⟨w.heap.size + 1, 1, none⟩ = false := (H.blk 1 rfl).frozen 1
        have wd2 : (wa).cell? ⟨w.heap.size + 1, 2, none⟩ = some (.int .u32 (y2 : Int)) := (H.blk 1 rfl).cell 2
        have wdf2 : (wa).frozen? ⟨w.heap.size + 1, 2, none⟩ = false := (H.blk 1 rfl).frozen 2
        have wdlt : w.heap.size + 1 < (wa).heap.size := H.lt 1 rfl
        have ne_rs_wd : w.heap.size ≠ w.heap.size + 1 := H.ne 0 1 rfl rfl (by decide)
        have ne_wd_rs : w.heap.size + 1 ≠ w.heap.size := H.ne 1 0 rfl rfl (by decide)
        clear hba hti hp l0 l1 l2 lc hU
        go_wp2_with fail
        obtain ⟨wb, hwb⟩ : ∃ wb, (wa).alloc (.cells #[.int .u32 (p0 : Int), .int .u32 (p1 : Int), .int .u32 (p2 : Int)] 78) = wb := ⟨_, rfl⟩
        replace H : Mem (w) [] _ [.blk (w.heap.size) 78 #[.int .u32 0, .int .u32 0, .int .u32 0], .blk (w.heap.size + 1) 78 #[.int .u32 (y0 : Int), .int .u32 (y1 : Int), .int .u32 (y2 : Int)], .obj (w.heap.size + 1 + 1) (.stringIter (dstr l) (k + 1)), .blk (wa.heap.size) 78 #[.int .u32 (p0 : Int), .int .u32 (p1 : Int), .int .u32 (p2 : Int)]] := Mem.alloc H (wa.heap.size) (by first | (simp; done) | (simp; omega)) #[.int .u32 (p0 : Int), .int .u32 (p1 : Int), .int .u32 (p2 : Int)] 78
        rw [hwb] at H ⊢
        clear hwb
        rw [show (48 + (d : Int) - 48) = (d : Int) by omega]
        with_reducible refine (hpi _).mono ?_
        rintro e wc ⟨q0, q1, q2, f, l0, l1, l2, lf, hq, rfl, hbc⟩
        have hf0 : f = 0 := rd_f hq.out HP.out HS.out HL.out HV.out
        subst hf0
        have HQ := Lib.hid (rd_q hq.out HP.out HS.out)
        replace H : Mem (w) [] (wc) [.blk (w.heap.size) 78 #[.int .u32 0, .int .u32 0, .int .u32 0], .blk (w.heap.size + 1) 78 #[.int .u32 (y0 : Int), .int .u32 (y1 : Int), .int .u32 (y2 : Int)], .obj (w.heap.size + 1 + 1) (.stringIter (dstr l) (k + 1)), .blk (wa.heap.size) 78 #[.int .u32 (p0 : Int), .int .u32 (p1 : Int), .int .u32 (p2 : Int)]] := Mem.call H hbc
        clear rs0 rsf0 rs1 rsf1 rs2 rsf2 rslt wd0 wdf0 wd1 wdf1 wd2 wdf2 wdlt ne_rs_wd ne_wd_rs
        have rs0 : (wc).cell? ⟨w.heap.size, 0, none⟩ = some (.int .u32 0) := (H.blk 0 rfl).cell 0
        have rsf0 : (wc).frozen? ⟨w.heap.size, 0, none⟩ = false := (H.blk 0 rfl).frozen 0
        have rs1 : (wc).cell? ⟨w.heap.size, 1, none⟩ = some (.int .u32 0) := (H.blk 0 rfl).cell 1
        have rsf1 : (wc).frozen? ⟨w.heap.size, 1, none⟩ = false := (H.blk 0 rfl).frozen 1
        have rs2 : (wc).cell? ⟨w.heap.size, 2, none⟩ = some (.int .u32 0) := (H.blk 0 rfl).cell 2
        have rsf2 : (wc).frozen? ⟨w.heap.size, 2, none⟩ = false := (H.blk 0 rfl).frozen 2
        have rslt : w.heap.size < (wc).heap.size := H.lt 0 rfl
        have wd0 : (wc).cell? ⟨w.heap.size + 1, 0, none⟩ = some (.int .u32 (y0 : Int)) := (H.blk 1 rfl).cell 0
        have wdf0 : (wc).frozen? ⟨w.heap.size + 1, 0, none⟩ = false := (H.blk 1 rfl).frozen 0
        have wd1 : (wc).cell? ⟨w.heap.size + 1, 1, none⟩ = some (.int .u32 (y1 : Int)) := (H.blk 1 rfl).cell 1
        have wdf1 : (wc).frozen? ⟨w.heap.size + 1, 1, none⟩ = false := (H.blk 1 rfl).frozen 1
        have wd2 : (wc).cell? ⟨w.heap.size + 1, 2, none⟩ = some (.int .u32 (y2 : Int)) := (H.blk 1 rfl).cell 2
        have wdf2 : (wc).frozen? ⟨w.heap.size + 1, 2, none⟩ = false := (H.blk 1 rfl).frozen 2
        have wdlt : w.heap.size + 1 < (wc).heap.size := H.lt 1 rfl
        have nx0 : (wc).cell? ⟨wa.heap.size, 0, none⟩ = some (.int .u32 (p0 : Int)) := (H.blk 3 rfl).cell 0
        have nxf0 : (wc).frozen? ⟨wa.heap.size, 0, none⟩ = false := (H.blk 3 rfl).frozen 0
        have nx1 : (wc).cell? ⟨wa.heap.size, 1, none⟩ = some (.int .u32 (p1 : Int)) := (H.blk 3 rfl).cell 1
        have nxf1 : (wc).frozen? ⟨wa.heap.size, 1, none⟩ = false := (H.blk 3 rfl).frozen 1
        have nx2 : (wc).cell? ⟨wa.heap.size, 2, none⟩ = some (.int .u32 (p2 : Int)) := (H.blk 3 rfl).cell 2
        have nxf2 : (wc).frozen? ⟨wa.heap.size, 2, none⟩ = false := (H.blk 3 rfl).frozen 2
        have nxlt : wa.heap.size < (wc).heap.size := H.lt 3 rfl
        have ne_rs_wd : w.heap.size ≠ w.heap.size + 1 := H.ne 0 1 rfl rfl (by decide)
        have ne_rs_nx : w.heap.size ≠ wa.heap.size := H.ne 0 3 rfl rfl (by decide)
        have ne_wd_rs : w.heap.size + 1 ≠ w.heap.size := H.ne 1 0 rfl rfl (by decide)
        have ne_wd_nx : w.heap.size + 1 ≠ wa.heap.size := H.ne 1 3 rfl rfl (by decide)
        have ne_nx_rs : wa.heap.size ≠ w.heap.size := H.ne 3 0 rfl rfl (by decide)
        have ne_nx_wd : wa.heap.size ≠ w.heap.size + 1 := H.ne 3 1 rfl rfl (by decide)
        clear hbc hpi hq lf
        go_wp2
        obtain ⟨wd, hwd⟩ : ∃ wd, ((((((wc).setCell ⟨wa.heap.size, 0, none⟩ (.int .u32 (q0 : Int))).setCell ⟨wa.heap.size, 1, none⟩ (.int .u32 (q1 : Int))).setCell ⟨wa.heap.size, 2, none⟩ (.int .u32 (q2 : Int))).setCell ⟨w.heap.size + 1, 0, none⟩ (.int .u32 (q0 : Int))).setCell ⟨w.heap.size + 1, 1, none⟩ (.int .u32 (q1 : Int))).setCell ⟨w.heap.size + 1, 2, none⟩ (.int .u32 (q2 : Int)) = wd := ⟨_, rfl⟩
        replace H : Mem (w) [] _ [.blk (w.heap.size) 78 #[.int .u32 0, .int .u32 0, .int .u32 0], .blk (w.heap.size + 1) 78 #[.int .u32 (y0 : Int), .int .u32 (y1 : Int), .int .u32 (y2 : Int)], .obj (w.heap.size + 1 + 1) (.stringIter (dstr l) (k + 1)), .blk (wa.heap.size) 78 #[.int .u32 (q0 : Int), .int .u32 (p1 : Int), .int .u32 (p2 : Int)]] := Mem.set 3 H rfl 0 (.int .u32 (q0 : Int))
        replace H : Mem (w) [] _ [.blk (w.heap.size) 78 #[.int .u32 0, .int .u32 0, .int .u32 0], .blk (w.heap.size + 1) 78 #[.int .u32 (y0 : Int), .int .u32 (y1 : Int), .int .u32 (y2 : Int)], .obj (w.heap.size + 1 + 1) (.stringIter (dstr l) (k + 1)), .blk (wa.heap.size) 78 #[.int .u32 (q0 : Int), .int .u32 (q1 : Int), .int .u32 (p2 : Int)]] := Mem.set 3 H rfl 1 (.int .u32 (q1 : Int))
        replace H : Mem (w) [] _ [.blk (w.heap.size) 78 #[.int .u32 0, .int .u32 0, .int .u32 0], .blk (w.heap.size + 1) 78 #[.int .u32 (y0 : Int), .int .u32 (y1 : Int), .int .u32 (y2 : Int)], .obj (w.heap.size + 1 + 1) (.stringIter (dstr l) (k + 1)), .blk (wa.heap.size) 78 #[.int .u32 (q0 : Int), .int .u32 (q1 : Int), .int .u32 (q2 : Int)]] := Mem.set 3 H rfl 2 (.int .u32 (q2 : Int))
        replace H : Mem (w) [] _ [.blk (w.heap.size) 78 #[.int .u32 0, .int .u32 0, .int .u32 0], .blk (w.heap.size + 1) 78 #[.int .u32 (q0 : Int), .int .u32 (y1 : Int), .int .u32 (y2 : Int)], .obj (w.heap.size + 1 + 1) (.stringIter (dstr l) (k + 1)), .blk (wa.heap.size) 78 #[.int .u32 (q0 : Int), .int .u32 (q1 : Int), .int .u32 (q2 : Int)]] := Mem.set 1 H rfl 0 (.int .u32 (q0 : Int))
        replace H : Mem (w) [] _ [.blk (w.heap.size) 78 #[.int .u32 0, .int .u32 0, .int .u32 0], .blk (w.heap.size + 1) 78 #[.int .u32 (q0 : Int), .int .u32 (q1 : Int), .int .u32 (y2 : Int)], .obj (w.heap.size + 1 + 1) (.stringIter (dstr l) (k + 1)), .blk (wa.heap.size) 78 #[.int .u32 (q0 : Int), .int .u32 (q1 : Int), .int .u32 (q2 : Int)]] := Mem.set 1 H rfl 1 (.int .u32 (q1 : Int))
        replace H : Mem (w) [] _ [.blk (w.heap.size) 78 #[.int .u32 0, .int .u32 0, .int .u32 0], .blk (w.heap.size + 1) 78 #[.int .u32 (q0 : Int), .int .u32 (q1 : Int), .int .u32 (q2 : Int)], .obj (w.heap.size + 1 + 1) (.stringIter (dstr l) (k + 1)), .blk (wa.heap.size) 78 #[.int .u32 (q0 : Int), .int .u32 (q1 : Int), .int .u32 (q2 : Int)]] := Mem.set 1 H rfl 2 (.int .u32 (q2 : Int))
        rw [hwd] at H ⊢
        clear hwd
        go_roundw
        case rel => exact ⟨k + 1, q0, q1, q2, by omega, l0, l1, l2, by rw [HT.out]; exact HQ, rfl, Mem.drop_ 3 H⟩
        case measure =>
          have h9 := iterPos_of (H.obj_ 2 rfl)
          have h8 := iterPos_of HIT.out
          omega
      · have hnx := fun ty => Lib.run_next_end_at (P := Tryd.prog) wr (w.heap.size + 1 + 1) (dstr l) k ty hit (by rw [hsz]; exact hlt)
        have hkl : k = l.length := by omega
        rw [hkl, List.take_length, HN.out] at hy
        clear hkl
        skip
        have rs0 : (wr).cell? ⟨w.heap.size, 0, none⟩ = some (.int .u32 0) := (H.blk 0 rfl).cell 0
        have rsf0 : (wr).frozen? ⟨w.heap.size, 0, none⟩ = false := (H.blk 0 rfl).frozen 0
        have rs1 : (wr).cell? ⟨w.heap.size, 1, none⟩ = some (.int .u32 0) := (H.blk 0 rfl).cell 1
        have rsf1 : (wr).frozen? ⟨w.heap.size, 1, none⟩ = false := (H.blk 0 rfl).frozen 1
        have rs2 : (wr).cell? ⟨w.heap.size, 2, none⟩ = some (.int .u32 0) := (H.blk 0 rfl).cell 2
        have rsf2 : (wr).frozen? ⟨w.heap.size, 2, none⟩ = false := (H.blk 0 rfl).frozen 2
        have rslt : w.heap.size < (wr).heap.size := H.lt 0 rfl
        have wd0 : (wr).cell? ⟨w.heap.size + 1, 0, none⟩ = some (.int .u32 (y0 : Int)) := (H.blk 1 rfl).cell 0
        have wdf0 : (wr).frozen? ⟨w.heap.size + 1, 0, none⟩ = false := (H.blk 1 rfl).frozen 0
        have wd1 : (wr).cell? ⟨w.heap.size + 1, 1, none⟩ = some (.int .u32 (y1 : Int)) := (H.blk 1 rfl).cell 1
        have wdf1 : (wr).frozen? ⟨w.heap.size + 1, 1, none⟩ = false := (H.blk 1 rfl).frozen 1
        have wd2 : (wr).cell? ⟨w.heap.size + 1, 2, none⟩ = some (.int .u32 (y2 : Int)) := (H.blk 1 rfl).cell 2
        have wdf2 : (wr).frozen? ⟨w.heap.size + 1, 2, none⟩ = false := (H.blk 1 rfl).frozen 2
        have wdlt : w.heap.size + 1 < (wr).heap.size := H.lt 1 rfl
        have ne_rs_wd : w.heap.size ≠ w.heap.size + 1 := H.ne 0 1 rfl rfl (by decide)
        have ne_wd_rs : w.heap.size + 1 ≠ w.heap.size := H.ne 1 0 rfl rfl (by decide)
        clear hit
        go_wp2
        obtain ⟨we, hwe⟩ : ∃ we, (((wr).setCell ⟨w.heap.size, 0, none⟩ (.int .u32 (y0 : Int))).setCell ⟨w.heap.size, 1, none⟩ (.int .u32 (y1 : Int))).setCell ⟨w.heap.size, 2, none⟩ (.int .u32 (y2 : Int)) = we := ⟨_, rfl⟩
        replace H : Mem (w) [] _ [.blk (w.heap.size) 78 #[.int .u32 (y0 : Int), .int .u32 0, .int .u32 0], .blk (w.heap.size + 1) 78 #[.int .u32 (y0 : Int), .int .u32 (y1 : Int), .int .u32 (y2 : Int)], .obj (w.heap.size + 1 + 1) (.stringIter (dstr l) k)] := Mem.set 0 H rfl 0 (.int .u32 (y0 : Int))
        replace H : Mem (w) [] _ [.blk (w.heap.size) 78 #[.int .u32 (y0 : Int), .int .u32 (y1 : Int), .int .u32 0], .blk (w.heap.size + 1) 78 #[.int .u32 (y0 : Int), .int .u32 (y1 : Int), .int .u32 (y2 : Int)], .obj (w.heap.size + 1 + 1) (.stringIter (dstr l) k)] := Mem.set 0 H rfl 1 (.int .u32 (y1 : Int))
        replace H : Mem (w) [] _ [.blk (w.heap.size) 78 #[.int .u32 (y0 : Int), .int .u32 (y1 : Int), .int .u32 (y2 : Int)], .blk (w.heap.size + 1) 78 #[.int .u32 (y0 : Int), .int .u32 (y1 : Int), .int .u32 (y2 : Int)], .obj (w.heap.size + 1 + 1) (.stringIter (dstr l) k)] := Mem.set 0 H rfl 2 (.int .u32 (y2 : Int))
        rw [hwe] at H ⊢
        clear hwe
        clear rs0 rsf0 rs1 rsf1 rs2 rsf2 rslt wd0 wdf0 wd1 wdf1 wd2 wdf2 wdlt ne_rs_wd ne_wd_rs
        have rs0 : (we).cell? ⟨w.heap.size, 0, none⟩ = some (.int .u32 (y0 : Int)) := (H.blk 0 rfl).cell 0
        have rsf0 : (we).frozen? ⟨w.heap.size, 0, none⟩ = false := (H.blk 0 rfl).frozen 0
        have rs1 : (we).cell? ⟨w.heap.size, 1, none⟩ = some (.int .u32 (y1 : Int)) := (H.blk 0 rfl).cell 1
        have rsf1 : (we).frozen? ⟨w.heap.size, 1, none⟩ = false := (H.blk 0 rfl).frozen 1
        have rs2 : (we).cell? ⟨w.heap.size, 2, none⟩ = some (.int .u32 (y2 : Int)) := (H.blk 0 rfl).cell 2
        have rsf2 : (we).frozen? ⟨w.heap.size, 2, none⟩ = false := (H.blk 0 rfl).frozen 2
        have rslt : w.heap.size < (we).heap.size := H.lt 0 rfl
        refine bodyPost_ret (v := .tuple #[.agg #[.int .u32 (y0 : Int), .int .u32 (y1 : Int), .int .u32 (y2 : Int)], .int .i64 0]) (by simp [results, Tryd.results39, go_sem, rs0, rs1, rs2]; done) rfl ?_
        exact ⟨y0, y1, y2, k0, k1, k2, hy, rfl, H.below⟩
end Go.Proofs.YtopnlkhepjbjkaaDoor
