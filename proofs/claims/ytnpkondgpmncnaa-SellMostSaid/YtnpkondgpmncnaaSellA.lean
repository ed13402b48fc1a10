/- account.Sell. -/
import Derived.Test.YtnpkondgpmncnaaSell
import Derived.Test.YtnpkondgpmncnaaSellNo
import Derived.Test.YtnpkondgpmncnaaHeap
namespace Go.Proofs.Ytnpkondgpmncnaa
open Go.RowKit
set_option linter.unusedVariables false
theorem ck_mem {W0 w3 : World} {g me rev next month bought : Nat} {free : Int} {l : List (Nat × Nat)} {At : Option Addr} {nt ct fx fb db al : Nat} (hk : Ck W0.heap.size w3 g me rev next month bought free l At nt ct fx fb db al) (hb : Below W0.heap.size W0 w3) :
    ∃ (A : Option Addr) (c : Nat), Mem W0 [] w3 [.blk g 120 #[.int .i64 (me : Int), .int .i64 (rev : Int), .int .i64 (next : Int), .int .i64 (month : Int), .int .i64 (bought : Int), .int .i64 free, .slice A l.length c, .slice At nt ct, .int .i64 (fx : Int), .int .i64 (fb : Int), .int .i64 (db : Int), .int .i64 (al : Int)], .row W0.heap.size 25 2 (.slice A l.length c) l.length (drs l)] := by
  obtain ⟨hBg, A, c, hblk, hown⟩ := hk
  refine ⟨A, c, ⟨hb.os, hb.tape, hb.output, hb.size, fun k hk _ => hb.block k hk⟩, fun d hd => ?_, ?_, fun d hd k hk => .inl ?_⟩
  · rcases List.mem_cons.1 hd with rfl | hd
    · exact hblk
    · obtain rfl := List.mem_singleton.1 hd
      exact hown
  · have hn := blk_not_row hblk (by decide) hown
    refine List.pairwise_cons.2 ⟨fun d hd k hk hk' => ?_, List.pairwise_singleton _ _⟩
    obtain rfl := List.mem_singleton.1 hd
    obtain rfl : g = k := by simpa [Chunk.num] using hk
    exact hn hk'.symm
  · rcases List.mem_cons.1 hd with rfl | hd
    · obtain rfl : g = k := by simpa [Chunk.num] using hk
      exact hBg
    · obtain rfl := List.mem_singleton.1 hd
      exact (World.ownsRow.lt hown k hk).1
/-- The answer of 'Sell'. -/
def RetSell (me rev next next1 m2 bought2 : Nat) (free : Int) (t paid F P ch U : Nat) (out : List (Nat × Nat)) (w : World) (e : Ending) (w' : World) : Prop :=
  ∃ (A2 : Option Addr) (c2 : Nat), e = .returned (.tuple #[.agg #[.int .i64 (me : Int), .int .i64 (rev : Int), .int .i64 (next1 : Int), .int .i64 (m2 : Int), .int .i64 (bought2 : Int), .int .i64 free, .slice A2 out.length c2], .agg #[.int .i64 (next : Int), .int .i64 (t : Int), .int .i64 (paid : Int), .int .i64 (F : Int), .int .i64 (P : Int), .int .i64 (ch : Int), .int .i64 (U : Int)], .int .i64 0]) ∧ w'.ownsRow w.heap.size 25 2 (.slice A2 out.length c2) out.length (drs out) ∧ Below w.heap.size w w'
set_option maxRecDepth 100000 in
set_option maxHeartbeats 4000000 in
theorem sellX_yes (me rev next month bought : Nat) (free : Int) (A : Option Addr) (n c : Nat) (l : List (Nat × Nat)) (At : Option Addr) (nt ct fx fb db al : Nat) (tl : List (Nat × Nat)) (m2 b2 : Nat) (l2 : List (Nat × Nat)) (t S paid f0 F left U P : Nat) (out : List (Nat × Nat)) (next1 bought2 ch : Nat) (w : World)
    (hv : IsDs w (.slice A n c) l) (hl : DOk l) (ha : AOk me rev next month bought free) (hv2 : IsDs w (.slice At nt ct) tl) (hl2 : TOk tl) (ht : TmOk fx fb db al) (hr : Rolled month bought l m2 b2 l2) (hm : m2 ≤ 2399)
    (hS : Sale l2 tl b2 fx fb db t S paid f0 F left U P out) (hU : 1 ≤ U) (hnx : next ≤ 1048575) (hn1 : Hid (next1 = next + 1)) (hb2 : Hid (bought2 = b2 + U)) (hch : Hid (P + ch = left)) :
    Calls Try.prog 23 #[.agg #[.int .i64 (me : Int), .int .i64 (rev : Int), .int .i64 (next : Int), .int .i64 (month : Int), .int .i64 (bought : Int), .int .i64 free, .slice A n c], .agg #[.slice At nt ct, .int .i64 (fx : Int), .int .i64 (fb : Int), .int .i64 (db : Int), .int .i64 (al : Int)], .int .i64 (t : Int), .int .i64 (m2 : Int)] w (RetSell me rev next next1 m2 bought2 free t paid F P ch U out w) := by
  have hO := fun W h h2 => open_ok me rev next month bought free A n c l At nt ct fx fb db al tl W h hl ha h2 hl2 ht
  have hR := fun B g W hk hB => roll_ok B g me rev next month bought free l At nt ct fx fb db al m2 b2 l2 W hk hl hB hr hm
  have hb2' : b2 ≤ 10000000 := by have := ha.h6; rcases hr with ⟨_, rfl, _⟩ | ⟨_, rfl, _⟩ <;> omega
  have hX := fun g W0 W hk h1 h2 => sell_yes g me rev next m2 b2 free l2 At nt ct fx fb db al tl t S paid f0 F left U P out next1 bought2 ch W0 W hk (hr.ok hl) h1 h2 hl2 ht hb2' hS hU hnx hn1 hb2 hch
  have H := Mem.init w
  obtain ⟨W0, hW0⟩ : ∃ W0, ((((w).alloc (.cells #[.int .i64 (me : Int), .int .i64 (rev : Int), .int .i64 (next : Int), .int .i64 (month : Int), .int .i64 (bought : Int), .int .i64 free, .slice A n c] 59)).alloc (.cells #[.slice At nt ct, .int .i64 (fx : Int), .int .i64 (fb : Int), .int .i64 (db : Int), .int .i64 (al : Int)] 63)).alloc (.cells #[.int .i64 0, .int .i64 0, .int .i64 0, .int .i64 0, .int .i64 0, .int .i64 0, .slice none 0 0] 59)).alloc (.cells #[.int .i64 0, .int .i64 0, .int .i64 0, .int .i64 0, .int .i64 0, .int .i64 0, .int .i64 0] 23) = W0 := ⟨_, rfl⟩
  replace H : Mem (w) [] _ [.blk (w.heap.size) 59 #[.int .i64 (me : Int), .int .i64 (rev : Int), .int .i64 (next : Int), .int .i64 (month : Int), .int .i64 (bought : Int), .int .i64 free, .slice A n c]] := Mem.alloc H (w.heap.size) (by first | (simp; done) | (simp; omega)) #[.int .i64 (me : Int), .int .i64 (rev : Int), .int .i64 (next : Int), .int .i64 (month : Int), .int .i64 (bought : Int), .int .i64 free, .slice A n c] 59
  replace H : Mem (w) [] _ [.blk (w.heap.size) 59 #[.int .i64 (me : Int), .int .i64 (rev : Int), .int .i64 (next : Int), .int .i64 (month : Int), .int .i64 (bought : Int), .int .i64 free, .slice A n c], .blk (w.heap.size + 1) 63 #[.slice At nt ct, .int .i64 (fx : Int), .int .i64 (fb : Int), .int .i64 (db : Int), .int .i64 (al : Int)]] := Mem.alloc H (w.heap.size + 1) (by first | (simp; done) | (simp; omega)) #[.slice At nt ct, .int .i64 (fx : Int), .int .i64 (fb : Int), .int .i64 (db : Int), .int .i64 (al : Int)] 63
  replace H : Mem (w) [] _ [.blk (w.heap.size) 59 #[.int .i64 (me : Int), .int .i64 (rev : Int), .int .i64 (next : Int), .int .i64 (month : Int), .int .i64 (bought : Int), .int .i64 free, .slice A n c], .blk (w.heap.size + 1) 63 #[.slice At nt ct, .int .i64 (fx : Int), .int .i64 (fb : Int), .int .i64 (db : Int), .int .i64 (al : Int)], .blk (w.heap.size + 1 + 1) 59 #[.int .i64 0, .int .i64 0, .int .i64 0, .int .i64 0, .int .i64 0, .int .i64 0, .slice none 0 0]] := Mem.alloc H (w.heap.size + 1 + 1) (by first | (simp; done) | (simp; omega)) #[.int .i64 0, .int .i64 0, .int .i64 0, .int .i64 0, .int .i64 0, .int .i64 0, .slice none 0 0] 59
  replace H : Mem (w) [] _ [.blk (w.heap.size) 59 #[.int .i64 (me : Int), .int .i64 (rev : Int), .int .i64 (next : Int), .int .i64 (month : Int), .int .i64 (bought : Int), .int .i64 free, .slice A n c], .blk (w.heap.size + 1) 63 #[.slice At nt ct, .int .i64 (fx : Int), .int .i64 (fb : Int), .int .i64 (db : Int), .int .i64 (al : Int)], .blk (w.heap.size + 1 + 1) 59 #[.int .i64 0, .int .i64 0, .int .i64 0, .int .i64 0, .int .i64 0, .int .i64 0, .slice none 0 0], .blk (w.heap.size + 1 + 1 + 1) 23 #[.int .i64 0, .int .i64 0, .int .i64 0, .int .i64 0, .int .i64 0, .int .i64 0, .int .i64 0]] := Mem.alloc H (w.heap.size + 1 + 1 + 1) (by first | (simp; done) | (simp; omega)) #[.int .i64 0, .int .i64 0, .int .i64 0, .int .i64 0, .int .i64 0, .int .i64 0, .int .i64 0] 23
  rw [hW0] at H
  have hv0 := hv.below H.below
  have hv20 := hv2.below H.below
  clear hr ha ht hl2 hv hv2 hS
  have a0 : (W0).cell? ⟨w.heap.size, 0, none⟩ = some (.int .i64 (me : Int)) := (H.blk 0 rfl).cell 0
  have af0 : (W0).frozen? ⟨w.heap.size, 0, none⟩ = false := (H.blk 0 rfl).frozen 0
  have a1 : (W0).cell? ⟨w.heap.size, 1, none⟩ = some (.int .i64 (rev : Int)) := (H.blk 0 rfl).cell 1
  have af1 : (W0).frozen? ⟨w.heap.size, 1, none⟩ = false := (H.blk 0 rfl).frozen 1
  have a2 : (W0).cell? ⟨w.heap.size, 2, none⟩ = some (.int .i64 (next : Int)) := (H.blk 0 rfl).cell 2
  have af2 : (W0).frozen? ⟨w.heap.size, 2, none⟩ = false := (H.blk 0 rfl).frozen 2
  have a3 : (W0).cell? ⟨w.heap.size, 3, none⟩ = some (.int .i64 (month : Int)) := (H.blk 0 rfl).cell 3
  have af3 : (W0).frozen? ⟨w.heap.size, 3, none⟩ = false := (H.blk 0 rfl).frozen 3
  have a4 : (W0).cell? ⟨w.heap.size, 4, none⟩ = some (.int .i64 (bought : Int)) := (H.blk 0 rfl).cell 4
  have af4 : (W0).frozen? ⟨w.heap.size, 4, none⟩ = false := (H.blk 0 rfl).frozen 4
  have a5 : (W0).cell? ⟨w.heap.size, 5, none⟩ = some (.int .i64 free) := (H.blk 0 rfl).cell 5
  have af5 : (W0).frozen? ⟨w.heap.size, 5, none⟩ = false := (H.blk 0 rfl).frozen 5
  have a6 : (W0).cell? ⟨w.heap.size, 6, none⟩ = some (.slice A n c) := (H.blk 0 rfl).cell 6
  have af6 : (W0).frozen? ⟨w.heap.size, 6, none⟩ = false := (H.blk 0 rfl).frozen 6
  have alt : w.heap.size < (W0).heap.size := H.lt 0 rfl
  have t0 : (W0).cell? ⟨w.heap.size + 1, 0, none⟩ = some (.slice At nt ct) := (H.blk 1 rfl).cell 0
  have tf0 : (W0).frozen? ⟨w.heap.size + 1, 0, none⟩ = false := (H.blk 1 rfl).frozen 0
  have t1 : (W0).cell? ⟨w.heap.size + 1, 1, none⟩ = some (.int .i64 (fx : Int)) := (H.blk 1 rfl).cell 1
  have tf1 : (W0).frozen? ⟨w.heap.size + 1, 1, none⟩ = false := (H.blk 1 rfl).frozen 1
  have t2 : (W0).cell? ⟨w.heap.size + 1, 2, none⟩ = some (.int .i64 (fb : Int)) := (H.blk 1 rfl).cell 2
  have tf2 : (W0).frozen? ⟨w.heap.size + 1, 2, none⟩ = false := (H.blk 1 rfl).frozen 2
  have t3 : (W0).cell? ⟨w.heap.size + 1, 3, none⟩ = some (.int .i64 (db : Int)) := (H.blk 1 rfl).cell 3
  have tf3 : (W0).frozen? ⟨w.heap.size + 1, 3, none⟩ = false := (H.blk 1 rfl).frozen 3
  have t4 : (W0).cell? ⟨w.heap.size + 1, 4, none⟩ = some (.int .i64 (al : Int)) := (H.blk 1 rfl).cell 4
  have tf4 : (W0).frozen? ⟨w.heap.size + 1, 4, none⟩ = false := (H.blk 1 rfl).frozen 4
  have tlt : w.heap.size + 1 < (W0).heap.size := H.lt 1 rfl
  have ne_a_t : w.heap.size ≠ w.heap.size + 1 := H.ne 0 1 rfl rfl (by decide)
  have ne_t_a : w.heap.size + 1 ≠ w.heap.size := H.ne 1 0 rfl rfl (by decide)
  go_enter Try.func23, Try.ntmps23
  go_wp2_with fail
  refine (hO _ hv0 hv20).mono ?_
  rintro e w1 ⟨g, rfl, hk, hb1⟩
  clear a0 af0 a1 af1 a2 af2 a3 af3 a4 af4 a5 af5 a6 af6 alt t0 tf0 t1 tf1 t2 tf2 t3 tf3 t4 tf4 tlt ne_a_t ne_t_a
  go_wp2_with fail
  refine (hR _ g _ hk hb1.size).mono ?_
  rintro e w2 ⟨rfl, hk2, hb2⟩
  have hB2 := hb1.trans hb2
  clear hO hR hk hb1 hb2
  go_wp2_with fail
  refine (hX g W0 w2 hk2 hB2 hv20).mono ?_
  rintro e w3 ⟨rfl, hk3, hb3⟩
  obtain ⟨A2, c2, hK⟩ := ck_mem hk3 hb3
  clear hX hk2 hB2 hk3 hb3 hW0 hv0 hv20
  replace H : Mem (w) [] (w3) [.blk (w.heap.size) 59 #[.int .i64 (me : Int), .int .i64 (rev : Int), .int .i64 (next : Int), .int .i64 (month : Int), .int .i64 (bought : Int), .int .i64 free, .slice A n c], .blk (w.heap.size + 1) 63 #[.slice At nt ct, .int .i64 (fx : Int), .int .i64 (fb : Int), .int .i64 (db : Int), .int .i64 (al : Int)], .blk (w.heap.size + 1 + 1) 59 #[.int .i64 0, .int .i64 0, .int .i64 0, .int .i64 0, .int .i64 0, .int .i64 0, .slice none 0 0], .blk (w.heap.size + 1 + 1 + 1) 23 #[.int .i64 0, .int .i64 0, .int .i64 0, .int .i64 0, .int .i64 0, .int .i64 0, .int .i64 0], .blk (g) 120 #[.int .i64 (me : Int), .int .i64 (rev : Int), .int .i64 (next1 : Int), .int .i64 (m2 : Int), .int .i64 (bought2 : Int), .int .i64 free, .slice A2 out.length c2, .slice At nt ct, .int .i64 (fx : Int), .int .i64 (fb : Int), .int .i64 (db : Int), .int .i64 (al : Int)], .row (W0.heap.size) (25) (2) (.slice A2 out.length c2) (out.length) (drs out)] := Mem.join H hK
  clear hK
  go_wp2_with fail
  obtain ⟨W4, hW4⟩ : ∃ W4, (w3).alloc (.cells #[.int .i64 (next : Int), .int .i64 (t : Int), .int .i64 (paid : Int), .int .i64 (F : Int), .int .i64 (P : Int), .int .i64 (ch : Int), .int .i64 (U : Int)] 23) = W4 := ⟨_, rfl⟩
  replace H : Mem (w) [] _ [.blk (w.heap.size) 59 #[.int .i64 (me : Int), .int .i64 (rev : Int), .int .i64 (next : Int), .int .i64 (month : Int), .int .i64 (bought : Int), .int .i64 free, .slice A n c], .blk (w.heap.size + 1) 63 #[.slice At nt ct, .int .i64 (fx : Int), .int .i64 (fb : Int), .int .i64 (db : Int), .int .i64 (al : Int)], .blk (w.heap.size + 1 + 1) 59 #[.int .i64 0, .int .i64 0, .int .i64 0, .int .i64 0, .int .i64 0, .int .i64 0, .slice none 0 0], .blk (w.heap.size + 1 + 1 + 1) 23 #[.int .i64 0, .int .i64 0, .int .i64 0, .int .i64 0, .int .i64 0, .int .i64 0, .int .i64 0], .blk (g) 120 #[.int .i64 (me : Int), .int .i64 (rev : Int), .int .i64 (next1 : Int), .int .i64 (m2 : Int), .int .i64 (bought2 : Int), .int .i64 free, .slice A2 out.length c2, .slice At nt ct, .int .i64 (fx : Int), .int .i64 (fb : Int), .int .i64 (db : Int), .int .i64 (al : Int)], .row (W0.heap.size) (25) (2) (.slice A2 out.length c2) (out.length) (drs out), .blk (w3.heap.size) 23 #[.int .i64 (next : Int), .int .i64 (t : Int), .int .i64 (paid : Int), .int .i64 (F : Int), .int .i64 (P : Int), .int .i64 (ch : Int), .int .i64 (U : Int)]] := Mem.alloc H (w3.heap.size) (by first | (simp; done) | (simp; omega)) #[.int .i64 (next : Int), .int .i64 (t : Int), .int .i64 (paid : Int), .int .i64 (F : Int), .int .i64 (P : Int), .int .i64 (ch : Int), .int .i64 (U : Int)] 23
  rw [hW4] at H ⊢
  clear hW4
  have k0 : (W4).cell? ⟨g, 0, none⟩ = some (.int .i64 (me : Int)) := (H.blk 4 rfl).cell 0
  have kf0 : (W4).frozen? ⟨g, 0, none⟩ = false := (H.blk 4 rfl).frozen 0
  have k1 : (W4).cell? ⟨g, 1, none⟩ = some (.int .i64 (rev : Int)) := (H.blk 4 rfl).cell 1
  have kf1 : (W4).frozen? ⟨g, 1, none⟩ = false := (H.blk 4 rfl).frozen 1
  have k2 : (W4).cell? ⟨g, 2, none⟩ = some (.int .i64 (next1 : Int)) := (H.blk 4 rfl).cell 2
  have kf2 : (W4).frozen? ⟨g, 2, none⟩ = false := (H.blk 4 rfl).frozen 2
  have k3 : (W4).cell? ⟨g, 3, none⟩ = some (.int .i64 (m2 : Int)) := (H.blk 4 rfl).cell 3
  have kf3 : (W4).frozen? ⟨g, 3, none⟩ = false := (H.blk 4 rfl).frozen 3
  have k4 : (W4).cell? ⟨g, 4, none⟩ = some (.int .i64 (bought2 : Int)) := (H.blk 4 rfl).cell 4
  have kf4 : (W4).frozen? ⟨g, 4, none⟩ = false := (H.blk 4 rfl).frozen 4
  have k5 : (W4).cell? ⟨g, 5, none⟩ = some (.int .i64 free) := (H.blk 4 rfl).cell 5
  have kf5 : (W4).frozen? ⟨g, 5, none⟩ = false := (H.blk 4 rfl).frozen 5
  have k6 : (W4).cell? ⟨g, 6, none⟩ = some (.slice A2 out.length c2) := (H.blk 4 rfl).cell 6
  have kf6 : (W4).frozen? ⟨g, 6, none⟩ = false := (H.blk 4 rfl).frozen 6
  have k7 : (W4).cell? ⟨g, 7, none⟩ = some (.slice At nt ct) := (H.blk 4 rfl).cell 7
  have kf7 : (W4).frozen? ⟨g, 7, none⟩ = false := (H.blk 4 rfl).frozen 7
  have k8 : (W4).cell? ⟨g, 8, none⟩ = some (.int .i64 (fx : Int)) := (H.blk 4 rfl).cell 8
  have kf8 : (W4).frozen? ⟨g, 8, none⟩ = false := (H.blk 4 rfl).frozen 8
  have k9 : (W4).cell? ⟨g, 9, none⟩ = some (.int .i64 (fb : Int)) := (H.blk 4 rfl).cell 9
  have kf9 : (W4).frozen? ⟨g, 9, none⟩ = false := (H.blk 4 rfl).frozen 9
  have k10 : (W4).cell? ⟨g, 10, none⟩ = some (.int .i64 (db : Int)) := (H.blk 4 rfl).cell 10
  have kf10 : (W4).frozen? ⟨g, 10, none⟩ = false := (H.blk 4 rfl).frozen 10
  have k11 : (W4).cell? ⟨g, 11, none⟩ = some (.int .i64 (al : Int)) := (H.blk 4 rfl).cell 11
  have kf11 : (W4).frozen? ⟨g, 11, none⟩ = false := (H.blk 4 rfl).frozen 11
  have klt : g < (W4).heap.size := H.lt 4 rfl
  have b0 : (W4).cell? ⟨w3.heap.size, 0, none⟩ = some (.int .i64 (next : Int)) := (H.blk 6 rfl).cell 0
  have bf0 : (W4).frozen? ⟨w3.heap.size, 0, none⟩ = false := (H.blk 6 rfl).frozen 0
  have b1 : (W4).cell? ⟨w3.heap.size, 1, none⟩ = some (.int .i64 (t : Int)) := (H.blk 6 rfl).cell 1
  have bf1 : (W4).frozen? ⟨w3.heap.size, 1, none⟩ = false := (H.blk 6 rfl).frozen 1
  have b2 : (W4).cell? ⟨w3.heap.size, 2, none⟩ = some (.int .i64 (paid : Int)) := (H.blk 6 rfl).cell 2
  have bf2 : (W4).frozen? ⟨w3.heap.size, 2, none⟩ = false := (H.blk 6 rfl).frozen 2
  have b3 : (W4).cell? ⟨w3.heap.size, 3, none⟩ = some (.int .i64 (F : Int)) := (H.blk 6 rfl).cell 3
  have bf3 : (W4).frozen? ⟨w3.heap.size, 3, none⟩ = false := (H.blk 6 rfl).frozen 3
  have b4 : (W4).cell? ⟨w3.heap.size, 4, none⟩ = some (.int .i64 (P : Int)) := (H.blk 6 rfl).cell 4
  have bf4 : (W4).frozen? ⟨w3.heap.size, 4, none⟩ = false := (H.blk 6 rfl).frozen 4
  have b5 : (W4).cell? ⟨w3.heap.size, 5, none⟩ = some (.int .i64 (ch : Int)) := (H.blk 6 rfl).cell 5
  have bf5 : (W4).frozen? ⟨w3.heap.size, 5, none⟩ = false := (H.blk 6 rfl).frozen 5
  have b6 : (W4).cell? ⟨w3.heap.size, 6, none⟩ = some (.int .i64 (U : Int)) := (H.blk 6 rfl).cell 6
  have bf6 : (W4).frozen? ⟨w3.heap.size, 6, none⟩ = false := (H.blk 6 rfl).frozen 6
  have blt : w3.heap.size < (W4).heap.size := H.lt 6 rfl
  have x0 : (W4).cell? ⟨w.heap.size + 1 + 1, 0, none⟩ = some (.int .i64 0) := (H.blk 2 rfl).cell 0
  have xf0 : (W4).frozen? ⟨w.heap.size + 1 + 1, 0, none⟩ = false := (H.blk 2 rfl).frozen 0
  have x1 : (W4).cell? ⟨w.heap.size + 1 + 1, 1, none⟩ = some (.int .i64 0) := (H.blk 2 rfl).cell 1
  have xf1 : (W4).frozen? ⟨w.heap.size + 1 + 1, 1, none⟩ = false := (H.blk 2 rfl).frozen 1
  have x2 : (W4).cell? ⟨w.heap.size + 1 + 1, 2, none⟩ = some (.int .i64 0) := (H.blk 2 rfl).cell 2
  have xf2 : (W4).frozen? ⟨w.heap.size + 1 + 1, 2, none⟩ = false := (H.blk 2 rfl).frozen 2
  have x3 : (W4).cell? ⟨w.heap.size + 1 + 1, 3, none⟩ = some (.int .i64 0) := (H.blk 2 rfl).cell 3
  have xf3 : (W4).frozen? ⟨w.heap.size + 1 + 1, 3, none⟩ = false := (H.blk 2 rfl).frozen 3
  have x4 : (W4).cell? ⟨w.heap.size + 1 + 1, 4, none⟩ = some (.int .i64 0) := (H.blk 2 rfl).cell 4
  have xf4 : (W4).frozen? ⟨w.heap.size + 1 + 1, 4, none⟩ = false := (H.blk 2 rfl).frozen 4
  have x5 : (W4).cell? ⟨w.heap.size + 1 + 1, 5, none⟩ = some (.int .i64 0) := (H.blk 2 rfl).cell 5
  have xf5 : (W4).frozen? ⟨w.heap.size + 1 + 1, 5, none⟩ = false := (H.blk 2 rfl).frozen 5
  have x6 : (W4).cell? ⟨w.heap.size + 1 + 1, 6, none⟩ = some (.slice none 0 0) := (H.blk 2 rfl).cell 6
  have xf6 : (W4).frozen? ⟨w.heap.size + 1 + 1, 6, none⟩ = false := (H.blk 2 rfl).frozen 6
  have xlt : w.heap.size + 1 + 1 < (W4).heap.size := H.lt 2 rfl
  have y0 : (W4).cell? ⟨w.heap.size + 1 + 1 + 1, 0, none⟩ = some (.int .i64 0) := (H.blk 3 rfl).cell 0
  have yf0 : (W4).frozen? ⟨w.heap.size + 1 + 1 + 1, 0, none⟩ = false := (H.blk 3 rfl).frozen 0
  have y1 : (W4).cell? ⟨w.heap.size + 1 + 1 + 1, 1, none⟩ = some (.int .i64 0) := (H.blk 3 rfl).cell 1
  have yf1 : (W4).frozen? ⟨w.heap.size + 1 + 1 + 1, 1, none⟩ = false := (H.blk 3 rfl).frozen 1
  have y2 : (W4).cell? ⟨w.heap.size + 1 + 1 + 1, 2, none⟩ = some (.int .i64 0) := (H.blk 3 rfl).cell 2
  have yf2 : (W4).frozen? ⟨w.heap.size + 1 + 1 + 1, 2, none⟩ = false := (H.blk 3 rfl).frozen 2
  have y3 : (W4).cell? ⟨w.heap.size + 1 + 1 + 1, 3, none⟩ = some (.int .i64 0) := (H.blk 3 rfl).cell 3
  have yf3 : (W4).frozen? ⟨w.heap.size + 1 + 1 + 1, 3, none⟩ = false := (H.blk 3 rfl).frozen 3
  have y4 : (W4).cell? ⟨w.heap.size + 1 + 1 + 1, 4, none⟩ = some (.int .i64 0) := (H.blk 3 rfl).cell 4
  have yf4 : (W4).frozen? ⟨w.heap.size + 1 + 1 + 1, 4, none⟩ = false := (H.blk 3 rfl).frozen 4
  have y5 : (W4).cell? ⟨w.heap.size + 1 + 1 + 1, 5, none⟩ = some (.int .i64 0) := (H.blk 3 rfl).cell 5
  have yf5 : (W4).frozen? ⟨w.heap.size + 1 + 1 + 1, 5, none⟩ = false := (H.blk 3 rfl).frozen 5
  have y6 : (W4).cell? ⟨w.heap.size + 1 + 1 + 1, 6, none⟩ = some (.int .i64 0) := (H.blk 3 rfl).cell 6
  have yf6 : (W4).frozen? ⟨w.heap.size + 1 + 1 + 1, 6, none⟩ = false := (H.blk 3 rfl).frozen 6
  have ylt : w.heap.size + 1 + 1 + 1 < (W4).heap.size := H.lt 3 rfl
  have ne_k_b : g ≠ w3.heap.size := H.ne 4 6 rfl rfl (by decide)
  have ne_k_x : g ≠ w.heap.size + 1 + 1 := H.ne 4 2 rfl rfl (by decide)
  have ne_k_y : g ≠ w.heap.size + 1 + 1 + 1 := H.ne 4 3 rfl rfl (by decide)
  have ne_b_k : w3.heap.size ≠ g := H.ne 6 4 rfl rfl (by decide)
  have ne_b_x : w3.heap.size ≠ w.heap.size + 1 + 1 := H.ne 6 2 rfl rfl (by decide)
  have ne_b_y : w3.heap.size ≠ w.heap.size + 1 + 1 + 1 := H.ne 6 3 rfl rfl (by decide)
  have ne_x_k : w.heap.size + 1 + 1 ≠ g := H.ne 2 4 rfl rfl (by decide)
  have ne_x_b : w.heap.size + 1 + 1 ≠ w3.heap.size := H.ne 2 6 rfl rfl (by decide)
  have ne_x_y : w.heap.size + 1 + 1 ≠ w.heap.size + 1 + 1 + 1 := H.ne 2 3 rfl rfl (by decide)
  have ne_y_k : w.heap.size + 1 + 1 + 1 ≠ g := H.ne 3 4 rfl rfl (by decide)
  have ne_y_b : w.heap.size + 1 + 1 + 1 ≠ w3.heap.size := H.ne 3 6 rfl rfl (by decide)
  have ne_y_x : w.heap.size + 1 + 1 + 1 ≠ w.heap.size + 1 + 1 := H.ne 3 2 rfl rfl (by decide)
  go_region
  obtain ⟨W5, hW5⟩ : ∃ W5, (((((((((((((((W4).setCell ⟨w.heap.size + 1 + 1, 0, none⟩ (.int .i64 (me : Int))).setCell ⟨w.heap.size + 1 + 1, 1, none⟩ (.int .i64 (rev : Int))).setCell ⟨w.heap.size + 1 + 1, 2, none⟩ (.int .i64 (next1 : Int))).setCell ⟨w.heap.size + 1 + 1, 3, none⟩ (.int .i64 (m2 : Int))).setCell ⟨w.heap.size + 1 + 1, 4, none⟩ (.int .i64 (bought2 : Int))).setCell ⟨w.heap.size + 1 + 1, 5, none⟩ (.int .i64 free)).setCell ⟨w.heap.size + 1 + 1, 6, none⟩ (.slice A2 out.length c2)).setCell ⟨w.heap.size + 1 + 1 + 1, 0, none⟩ (.int .i64 (next : Int))).setCell ⟨w.heap.size + 1 + 1 + 1, 1, none⟩ (.int .i64 (t : Int))).setCell ⟨w.heap.size + 1 + 1 + 1, 2, none⟩ (.int .i64 (paid : Int))).setCell ⟨w.heap.size + 1 + 1 + 1, 3, none⟩ (.int .i64 (F : Int))).setCell ⟨w.heap.size + 1 + 1 + 1, 4, none⟩ (.int .i64 (P : Int))).setCell ⟨w.heap.size + 1 + 1 + 1, 5, none⟩ (.int .i64 (ch : Int))).setCell ⟨w.heap.size + 1 + 1 + 1, 6, none⟩ (.int .i64 (U : Int))).drew = W5 := ⟨_, rfl⟩
  replace H : Mem (w) [] _ [.blk (w.heap.size) 59 #[.int .i64 (me : Int), .int .i64 (rev : Int), .int .i64 (next : Int), .int .i64 (month : Int), .int .i64 (bought : Int), .int .i64 free, .slice A n c], .blk (w.heap.size + 1) 63 #[.slice At nt ct, .int .i64 (fx : Int), .int .i64 (fb : Int), .int .i64 (db : Int), .int .i64 (al : Int)], .blk (w.heap.size + 1 + 1) 59 #[.int .i64 (me : Int), .int .i64 0, .int .i64 0, .int .i64 0, .int .i64 0, .int .i64 0, .slice none 0 0], .blk (w.heap.size + 1 + 1 + 1) 23 #[.int .i64 0, .int .i64 0, .int .i64 0, .int .i64 0, .int .i64 0, .int .i64 0, .int .i64 0], .blk (g) 120 #[.int .i64 (me : Int), .int .i64 (rev : Int), .int .i64 (next1 : Int), .int .i64 (m2 : Int), .int .i64 (bought2 : Int), .int .i64 free, .slice A2 out.length c2, .slice At nt ct, .int .i64 (fx : Int), .int .i64 (fb : Int), .int .i64 (db : Int), .int .i64 (al : Int)], .row (W0.heap.size) (25) (2) (.slice A2 out.length c2) (out.length) (drs out), .blk (w3.heap.size) 23 #[.int .i64 (next : Int), .int .i64 (t : Int), .int .i64 (paid : Int), .int .i64 (F : Int), .int .i64 (P : Int), .int .i64 (ch : Int), .int .i64 (U : Int)]] := Mem.set 2 H rfl 0 (.int .i64 (me : Int))
  replace H : Mem (w) [] _ [.blk (w.heap.size) 59 #[.int .i64 (me : Int), .int .i64 (rev : Int), .int .i64 (next : Int), .int .i64 (month : Int), .int .i64 (bought : Int), .int .i64 free, .slice A n c], .blk (w.heap.size + 1) 63 #[.slice At nt ct, .int .i64 (fx : Int), .int .i64 (fb : Int), .int .i64 (db : Int), .int .i64 (al : Int)], .blk (w.heap.size + 1 + 1) 59 #[.int .i64 (me : Int), .int .i64 (rev : Int), .int .i64 0, .int .i64 0, .int .i64 0, .int .i64 0, .slice none 0 0], .blk (w.heap.size + 1 + 1 + 1) 23 #[.int .i64 0, .int .i64 0, .int .i64 0, .int .i64 0, .int .i64 0, .int .i64 0, .int .i64 0], .blk (g) 120 #[.int .i64 (me : Int), .int .i64 (rev : Int), .int .i64 (next1 : Int), .int .i64 (m2 : Int), .int .i64 (bought2 : Int), .int .i64 free, .slice A2 out.length c2, .slice At nt ct, .int .i64 (fx : Int), .int .i64 (fb : Int), .int .i64 (db : Int), .int .i64 (al : Int)], .row (W0.heap.size) (25) (2) (.slice A2 out.length c2) (out.length) (drs out), .blk (w3.heap.size) 23 #[.int .i64 (next : Int), .int .i64 (t : Int), .int .i64 (paid : Int), .int .i64 (F : Int), .int .i64 (P : Int), .int .i64 (ch : Int), .int .i64 (U : Int)]] := Mem.set 2 H rfl 1 (.int .i64 (rev : Int))
  replace H : Mem (w) [] _ [.blk (w.heap.size) 59 #[.int .i64 (me : Int), .int .i64 (rev : Int), .int .i64 (next : Int), .int .i64 (month : Int), .int .i64 (bought : Int), .int .i64 free, .slice A n c], .blk (w.heap.size + 1) 63 #[.slice At nt ct, .int .i64 (fx : Int), .int .i64 (fb : Int), .int .i64 (db : Int), .int .i64 (al : Int)], .blk (w.heap.size + 1 + 1) 59 #[.int .i64 (me : Int), .int .i64 (rev : Int), .int .i64 (next1 : Int), .int .i64 0, .int .i64 0, .int .i64 0, .slice none 0 0], .blk (w.heap.size + 1 + 1 + 1) 23 #[.int .i64 0, .int .i64 0, .int .i64 0, .int .i64 0, .int .i64 0, .int .i64 0, .int .i64 0], .blk (g) 120 #[.int .i64 (me : Int), .int .i64 (rev : Int), .int .i64 (next1 : Int), .int .i64 (m2 : Int), .int .i64 (bought2 : Int), .int .i64 free, .slice A2 out.length c2, .slice At nt ct, .int .i64 (fx : Int), .int .i64 (fb : Int), .int .i64 (db : Int), .int .i64 (al : Int)], .row (W0.heap.size) (25) (2) (.slice A2 out.length c2) (out.length) (drs out), .blk (w3.heap.size) 23 #[.int .i64 (next : Int), .int .i64 (t : Int), .int .i64 (paid : Int), .int .i64 (F : Int), .int .i64 (P : Int), .int .i64 (ch : Int), .int .i64 (U : Int)]] := Mem.set 2 H rfl 2 (.int .i64 (next1 : Int))
  replace H : Mem (w) [] _ [.blk (w.heap.size) 59 #[.int .i64 (me : Int), .int .i64 (rev : Int), .int .i64 (next : Int), .int .i64 (month : Int), .int .i64 (bought : Int), .int .i64 free, .slice A n c], .blk (w.heap.size + 1) 63 #[.slice At nt ct, .int .i64 (fx : Int), .int .i64 (fb : Int), .int .i64 (db : Int), .int .i64 (al : Int)], .blk (w.heap.size + 1 + 1) 59 #[.int .i64 (me : Int), .int .i64 (rev : Int), .int .i64 (next1 : Int), .int .i64 (m2 : Int), .int .i64 0, .int .i64 0, .slice none 0 0], .blk (w.heap.size + 1 + 1 + 1) 23 #[.int .i64 0, .int .i64 0, .int .i64 0, .int .i64 0, .int .i64 0, .int .i64 0, .int .i64 0], .blk (g) 120 #[.int .i64 (me : Int), .int .i64 (rev : Int), .int .i64 (next1 : Int), .int .i64 (m2 : Int), .int .i64 (bought2 : Int), .int .i64 free, .slice A2 out.length c2, .slice At nt ct, .int .i64 (fx : Int), .int .i64 (fb : Int), .int .i64 (db : Int), .int .i64 (al : Int)], .row (W0.heap.size) (25) (2) (.slice A2 out.length c2) (out.length) (drs out), .blk (w3.heap.size) 23 #[.int .i64 (next : Int), .int .i64 (t : Int), .int .i64 (paid : Int), .int .i64 (F : Int), .int .i64 (P : Int), .int .i64 (ch : Int), .int .i64 (U : Int)]] := Mem.set 2 H rfl 3 (.int .i64 (m2 : Int))
  replace H : Mem (w) [] _ [.blk (w.heap.size) 59 #[.int .i64 (me : Int), .int .i64 (rev : Int), .int .i64 (next : Int), .int .i64 (month : Int), .int .i64 (bought : Int), .int .i64 free, .slice A n c], .blk (w.heap.size + 1) 63 #[.slice At nt ct, .int .i64 (fx : Int), .int .i64 (fb : Int), .int .i64 (db : Int), .int .i64 (al : Int)], .blk (w.heap.size + 1 + 1) 59 #[.int .i64 (me : Int), .int .i64 (rev : Int), .int .i64 (next1 : Int), .int .i64 (m2 : Int), .int .i64 (bought2 : Int), .int .i64 0, .slice none 0 0], .blk (w.heap.size + 1 + 1 + 1) 23 #[.int .i64 0, .int .i64 0, .int .i64 0, .int .i64 0, .int .i64 0, .int .i64 0, .int .i64 0], .blk (g) 120 #[.int .i64 (me : Int), .int .i64 (rev : Int), .int .i64 (next1 : Int), .int .i64 (m2 : Int), .int .i64 (bought2 : Int), .int .i64 free, .slice A2 out.length c2, .slice At nt ct, .int .i64 (fx : Int), .int .i64 (fb : Int), .int .i64 (db : Int), .int .i64 (al : Int)], .row (W0.heap.size) (25) (2) (.slice A2 out.length c2) (out.length) (drs out), .blk (w3.heap.size) 23 #[.int .i64 (next : Int), .int .i64 (t : Int), .int .i64 (paid : Int), .int .i64 (F : Int), .int .i64 (P : Int), .int .i64 (ch : Int), .int .i64 (U : Int)]] := Mem.set 2 H rfl 4 (.int .i64 (bought2 : Int))
  replace H : Mem (w) [] _ [.blk (w.heap.size) 59 #[.int .i64 (me : Int), .int .i64 (rev : Int), .int .i64 (next : Int), .int .i64 (month : Int), .int .i64 (bought : Int), .int .i64 free, .slice A n c], .blk (w.heap.size + 1) 63 #[.slice At nt ct, .int .i64 (fx : Int), .int .i64 (fb : Int), .int .i64 (db : Int), .int .i64 (al : Int)], .blk (w.heap.size + 1 + 1) 59 #[.int .i64 (me : Int), .int .i64 (rev : Int), .int .i64 (next1 : Int), .int .i64 (m2 : Int), .int .i64 (bought2 : Int), .int .i64 free, .slice none 0 0], .blk (w.heap.size + 1 + 1 + 1) 23 #[.int .i64 0, .int .i64 0, .int .i64 0, .int .i64 0, .int .i64 0, .int .i64 0, .int .i64 0], .blk (g) 120 #[.int .i64 (me : Int), .int .i64 (rev : Int), .int .i64 (next1 : Int), .int .i64 (m2 : Int), .int .i64 (bought2 : Int), .int .i64 free, .slice A2 out.length c2, .slice At nt ct, .int .i64 (fx : Int), .int .i64 (fb : Int), .int .i64 (db : Int), .int .i64 (al : Int)], .row (W0.heap.size) (25) (2) (.slice A2 out.length c2) (out.length) (drs out), .blk (w3.heap.size) 23 #[.int .i64 (next : Int), .int .i64 (t : Int), .int .i64 (paid : Int), .int .i64 (F : Int), .int .i64 (P : Int), .int .i64 (ch : Int), .int .i64 (U : Int)]] := Mem.set 2 H rfl 5 (.int .i64 free)
  replace H : Mem (w) [] _ [.blk (w.heap.size) 59 #[.int .i64 (me : Int), .int .i64 (rev : Int), .int .i64 (next : Int), .int .i64 (month : Int), .int .i64 (bought : Int), .int .i64 free, .slice A n c], .blk (w.heap.size + 1) 63 #[.slice At nt ct, .int .i64 (fx : Int), .int .i64 (fb : Int), .int .i64 (db : Int), .int .i64 (al : Int)], .blk (w.heap.size + 1 + 1) 59 #[.int .i64 (me : Int), .int .i64 (rev : Int), .int .i64 (next1 : Int), .int .i64 (m2 : Int), .int .i64 (bought2 : Int), .int .i64 free, .slice A2 out.length c2], .blk (w.heap.size + 1 + 1 + 1) 23 #[.int .i64 0, .int .i64 0, .int .i64 0, .int .i64 0, .int .i64 0, .int .i64 0, .int .i64 0], .blk (g) 120 #[.int .i64 (me : Int), .int .i64 (rev : Int), .int .i64 (next1 : Int), .int .i64 (m2 : Int), .int .i64 (bought2 : Int), .int .i64 free, .slice A2 out.length c2, .slice At nt ct, .int .i64 (fx : Int), .int .i64 (fb : Int), .int .i64 (db : Int), .int .i64 (al : Int)], .row (W0.heap.size) (25) (2) (.slice A2 out.length c2) (out.length) (drs out), .blk (w3.heap.size) 23 #[.int .i64 (next : Int), .int .i64 (t : Int), .int .i64 (paid : Int), .int .i64 (F : Int), .int .i64 (P : Int), .int .i64 (ch : Int), .int .i64 (U : Int)]] := Mem.set 2 H rfl 6 (.slice A2 out.length c2)
  replace H : Mem (w) [] _ [.blk (w.heap.size) 59 #[.int .i64 (me : Int), .int .i64 (rev : Int), .int .i64 (next : Int), .int .i64 (month : Int), .int .i64 (bought : Int), .int .i64 free, .slice A n c], .blk (w.heap.size + 1) 63 #[.slice At nt ct, .int .i64 (fx : Int), .int .i64 (fb : Int), .int .i64 (db : Int), .int .i64 (al : Int)], .blk (w.heap.size + 1 + 1) 59 #[.int .i64 (me : Int), .int .i64 (rev : Int), .int .i64 (next1 : Int), .int .i64 (m2 : Int), .int .i64 (bought2 : Int), .int .i64 free, .slice A2 out.length c2], .blk (w.heap.size + 1 + 1 + 1) 23 #[.int .i64 (next : Int), .int .i64 0, .int .i64 0, .int .i64 0, .int .i64 0, .int .i64 0, .int .i64 0], .blk (g) 120 #[.int .i64 (me : Int), .int .i64 (rev : Int), .int .i64 (next1 : Int), .int .i64 (m2 : Int), .int .i64 (bought2 : Int), .int .i64 free, .slice A2 out.length c2, .slice At nt ct, .int .i64 (fx : Int), .int .i64 (fb : Int), .int .i64 (db : Int), .int .i64 (al : Int)], .row (W0.heap.size) (25) (2) (.slice A2 out.length c2) (out.length) (drs out), .blk (w3.heap.size) 23 #[.int .i64 (next : Int), .int .i64 (t : Int), .int .i64 (paid : Int), .int .i64 (F : Int), .int .i64 (P : Int), .int .i64 (ch : Int), .int .i64 (U : Int)]] := Mem.set 3 H rfl 0 (.int .i64 (next : Int))
  replace H : Mem (w) [] _ [.blk (w.heap.size) 59 #[.int .i64 (me : Int), .int .i64 (rev : Int), .int .i64 (next : Int), .int .i64 (month : Int), .int .i64 (bought : Int), .int .i64 free, .slice A n c], .blk (w.heap.size + 1) 63 #[.slice At nt ct, .int .i64 (fx : Int), .int .i64 (fb : Int), .int .i64 (db : Int), .int .i64 (al : Int)], .blk (w.heap.size + 1 + 1) 59 #[.int .i64 (me : Int), .int .i64 (rev : Int), .int .i64 (next1 : Int), .int .i64 (m2 : Int), .int .i64 (bought2 : Int), .int .i64 free, .slice A2 out.length c2], .blk (w.heap.size + 1 + 1 + 1) 23 #[.int .i64 (next : Int), .int .i64 (t : Int), .int .i64 0, .int .i64 0, .int .i64 0, .int .i64 0, .int .i64 0], .blk (g) 120 #[.int .i64 (me : Int), .int .i64 (rev : Int), .int .i64 (next1 : Int), .int .i64 (m2 : Int), .int .i64 (bought2 : Int), .int .i64 free, .slice A2 out.length c2, .slice At nt ct, .int .i64 (fx : Int), .int .i64 (fb : Int), .int .i64 (db : Int), .int .i64 (al : Int)], .row (W0.heap.size) (25) (2) (.slice A2 out.length c2) (out.length) (drs out), .blk (w3.heap.size) 23 #[.int .i64 (next : Int), .int .i64 (t : Int), .int .i64 (paid : Int), .int .i64 (F : Int), .int .i64 (P : Int), .int .i64 (ch : Int), .int .i64 (U : Int)]] := Mem.set 3 H rfl 1 (.int .i64 (t : Int))
  replace H : Mem (w) [] _ [.blk (w.heap.size) 59 #[.int .i64 (me : Int), .int .i64 (rev : Int), .int .i64 (next : Int), .int .i64 (month : Int), .int .i64 (bought : Int), .int .i64 free, .slice A n c], .blk (w.heap.size + 1) 63 #[.slice At nt ct, .int .i64 (fx : Int), .int .i64 (fb : Int), .int .i64 (db : Int), .int .i64 (al : Int)], .blk (w.heap.size + 1 + 1) 59 #[.int .i64 (me : Int), .int .i64 (rev : Int), .int .i64 (next1 : Int), .int .i64 (m2 : Int), .int .i64 (bought2 : Int), .int .i64 free, .slice A2 out.length c2], .blk (w.heap.size + 1 + 1 + 1) 23 #[.int .i64 (next : Int), .int .i64 (t : Int), .int .i64 (paid : Int), .int .i64 0, .int .i64 0, .int .i64 0, .int .i64 0], .blk (g) 120 #[.int .i64 (me : Int), .int .i64 (rev : Int), .int .i64 (next1 : Int), .int .i64 (m2 : Int), .int .i64 (bought2 : Int), .int .i64 free, .slice A2 out.length c2, .slice At nt ct, .int .i64 (fx : Int), .int .i64 (fb : Int), .int .i64 (db : Int), .int .i64 (al : Int)], .row (W0.heap.size) (25) (2) (.slice A2 out.length c2) (out.length) (drs out), .blk (w3.heap.size) 23 #[.int .i64 (next : Int), .int .i64 (t : Int), .int .i64 (paid : Int), .int .i64 (F : Int), .int .i64 (P : Int), .int .i64 (ch : Int), .int .i64 (U : Int)]] := Mem.set 3 H rfl 2 (.int .i64 (paid : Int))
  replace H : Mem (w) [] _ [.blk (w.heap.size) 59 #[.int .i64 (me : Int), .int .i64 (rev : Int), .int .i64 (next : Int), .int .i64 (month : Int), .int .i64 (bought : Int), .int .i64 free, .slice A n c], .blk (w.heap.size + 1) 63 #[.slice At nt ct, .int .i64 (fx : Int), .int .i64 (fb : Int), .int .i64 (db : Int), .int .i64 (al : Int)], .blk (w.heap.size + 1 + 1) 59 #[.int .i64 (me : Int), .int .i64 (rev : Int), .int .i64 (next1 : Int), .int .i64 (m2 : Int), .int .i64 (bought2 : Int), .int .i64 free, .slice A2 out.length c2], .blk (w.heap.size + 1 + 1 + 1) 23 #[.int .i64 (next : Int), .int .i64 (t : Int), .int .i64 (paid : Int), .int .i64 (F : Int), .int .i64 0, .int .i64 0, .int .i64 0], .blk (g) 120 #[.int .i64 (me : Int), .int .i64 (rev : Int), .int .i64 (next1 : Int), .int .i64 (m2 : Int), .int .i64 (bought2 : Int), .int .i64 free, .slice A2 out.length c2, .slice At nt ct, .int .i64 (fx : Int), .int .i64 (fb : Int), .int .i64 (db : Int), .int .i64 (al : Int)], .row (W0.heap.size) (25) (2) (.slice A2 out.length c2) (out.length) (drs out), .blk (w3.heap.size) 23 #[.int .i64 (next : Int), .int .i64 (t : Int), .int .i64 (paid : Int), .int .i64 (F : Int), .int .i64 (P : Int), .int .i64 (ch : Int), .int .i64 (U : Int)]] := Mem.set 3 H rfl 3 (.int .i64 (F : Int))
  replace H : Mem (w) [] _ [.blk (w.heap.size) 59 #[.int .i64 (me : Int), .int .i64 (rev : Int), .int .i64 (next : Int), .int .i64 (month : Int), .int .i64 (bought : Int), .int .i64 free, .slice A n c], .blk (w.heap.size + 1) 63 #[.slice At nt ct, .int .i64 (fx : Int), .int .i64 (fb : Int), .int .i64 (db : Int), .int .i64 (al : Int)], .blk (w.heap.size + 1 + 1) 59 #[.int .i64 (me : Int), .int .i64 (rev : Int), .int .i64 (next1 : Int), .int .i64 (m2 : Int), .int .i64 (bought2 : Int), .int .i64 free, .slice A2 out.length c2], .blk (w.heap.size + 1 + 1 + 1) 23 #[.int .i64 (next : Int), .int .i64 (t : Int), .int .i64 (paid : Int), .int .i64 (F : Int), .int .i64 (P : Int), .int .i64 0, .int .i64 0], .blk (g) 120 #[.int .i64 (me : Int), .int .i64 (rev : Int), .int .i64 (next1 : Int), .int .i64 (m2 : Int), .int .i64 (bought2 : Int), .int .i64 free, .slice A2 out.length c2, .slice At nt ct, .int .i64 (fx : Int), .int .i64 (fb : Int), .int .i64 (db : Int), .int .i64 (al : Int)], .row (W0.heap.size) (25) (2) (.slice A2 out.length c2) (out.length) (drs out), .blk (w3.heap.size) 23 #[.int .i64 (next : Int), .int .i64 (t : Int), .int .i64 (paid : Int), .int .i64 (F : Int), .int .i64 (P : Int), .int .i64 (ch : Int), .int .i64 (U : Int)]] := Mem.set 3 H rfl 4 (.int .i64 (P : Int))
  replace H : Mem (w) [] _ [.blk (w.heap.size) 59 #[.int .i64 (me : Int), .int .i64 (rev : Int), .int .i64 (next : Int), .int .i64 (month : Int), .int .i64 (bought : Int), .int .i64 free, .slice A n c], .blk (w.heap.size + 1) 63 #[.slice At nt ct, .int .i64 (fx : Int), .int .i64 (fb : Int), .int .i64 (db : Int), .int .i64 (al : Int)], .blk (w.heap.size + 1 + 1) 59 #[.int .i64 (me : Int), .int .i64 (rev : Int), .int .i64 (next1 : Int), .int .i64 (m2 : Int), .int .i64 (bought2 : Int), .int .i64 free, .slice A2 out.length c2], .blk (w.heap.size + 1 + 1 + 1) 23 #[.int .i64 (next : Int), .int .i64 (t : Int), .int .i64 (paid : Int), .int .i64 (F : Int), .int .i64 (P : Int), .int .i64 (ch : Int), .int .i64 0], .blk (g) 120 #[.int .i64 (me : Int), .int .i64 (rev : Int), .int .i64 (next1 : Int), .int .i64 (m2 : Int), .int .i64 (bought2 : Int), .int .i64 free, .slice A2 out.length c2, .slice At nt ct, .int .i64 (fx : Int), .int .i64 (fb : Int), .int .i64 (db : Int), .int .i64 (al : Int)], .row (W0.heap.size) (25) (2) (.slice A2 out.length c2) (out.length) (drs out), .blk (w3.heap.size) 23 #[.int .i64 (next : Int), .int .i64 (t : Int), .int .i64 (paid : Int), .int .i64 (F : Int), .int .i64 (P : Int), .int .i64 (ch : Int), .int .i64 (U : Int)]] := Mem.set 3 H rfl 5 (.int .i64 (ch : Int))
  replace H : Mem (w) [] _ [.blk (w.heap.size) 59 #[.int .i64 (me : Int), .int .i64 (rev : Int), .int .i64 (next : Int), .int .i64 (month : Int), .int .i64 (bought : Int), .int .i64 free, .slice A n c], .blk (w.heap.size + 1) 63 #[.slice At nt ct, .int .i64 (fx : Int), .int .i64 (fb : Int), .int .i64 (db : Int), .int .i64 (al : Int)], .blk (w.heap.size + 1 + 1) 59 #[.int .i64 (me : Int), .int .i64 (rev : Int), .int .i64 (next1 : Int), .int .i64 (m2 : Int), .int .i64 (bought2 : Int), .int .i64 free, .slice A2 out.length c2], .blk (w.heap.size + 1 + 1 + 1) 23 #[.int .i64 (next : Int), .int .i64 (t : Int), .int .i64 (paid : Int), .int .i64 (F : Int), .int .i64 (P : Int), .int .i64 (ch : Int), .int .i64 (U : Int)], .blk (g) 120 #[.int .i64 (me : Int), .int .i64 (rev : Int), .int .i64 (next1 : Int), .int .i64 (m2 : Int), .int .i64 (bought2 : Int), .int .i64 free, .slice A2 out.length c2, .slice At nt ct, .int .i64 (fx : Int), .int .i64 (fb : Int), .int .i64 (db : Int), .int .i64 (al : Int)], .row (W0.heap.size) (25) (2) (.slice A2 out.length c2) (out.length) (drs out), .blk (w3.heap.size) 23 #[.int .i64 (next : Int), .int .i64 (t : Int), .int .i64 (paid : Int), .int .i64 (F : Int), .int .i64 (P : Int), .int .i64 (ch : Int), .int .i64 (U : Int)]] := Mem.set 3 H rfl 6 (.int .i64 (U : Int))
  replace H := H.drew
  rw [hW5] at H ⊢
  clear hW5
  clear k0 kf0 k1 kf1 k2 kf2 k3 kf3 k4 kf4 k5 kf5 k6 kf6 k7 kf7 k8 kf8 k9 kf9 k10 kf10 k11 kf11 klt b0 bf0 b1 bf1 b2 bf2 b3 bf3 b4 bf4 b5 bf5 b6 bf6 blt x0 xf0 x1 xf1 x2 xf2 x3 xf3 x4 xf4 x5 xf5 x6 xf6 xlt y0 yf0 y1 yf1 y2 yf2 y3 yf3 y4 yf4 y5 yf5 y6 yf6 ylt ne_k_b ne_k_x ne_k_y ne_b_k ne_b_x ne_b_y ne_x_k ne_x_b ne_x_y ne_y_k ne_y_b ne_y_x
  have x0 : (W5).cell? ⟨w.heap.size + 1 + 1, 0, none⟩ = some (.int .i64 (me : Int)) := (H.blk 2 rfl).cell 0
  have xf0 : (W5).frozen? ⟨w.heap.size + 1 + 1, 0, none⟩ = false := (H.blk 2 rfl).frozen 0
  have x1 : (W5).cell? ⟨w.heap.size + 1 + 1, 1, none⟩ = some (.int .i64 (rev : Int)) := (H.blk 2 rfl).cell 1
  have xf1 : (W5).frozen? ⟨w.heap.size + 1 + 1, 1, none⟩ = false := (H.blk 2 rfl).frozen 1
  have x2 : (W5).cell? ⟨w.heap.size + 1 + 1, 2, none⟩ = some (.int .i64 (next1 : Int)) := (H.blk 2 rfl).cell 2
  have xf2 : (W5).frozen? ⟨w.heap.size + 1 + 1, 2, none⟩ = false := (H.blk 2 rfl).frozen 2
  have x3 : (W5).cell? ⟨w.heap.size + 1 + 1, 3, none⟩ = some (.int .i64 (m2 : Int)) := (H.blk 2 rfl).cell 3
  have xf3 : (W5).frozen? ⟨w.heap.size + 1 + 1, 3, none⟩ = false := (H.blk 2 rfl).frozen 3
  have x4 : (W5).cell? ⟨w.heap.size + 1 + 1, 4, none⟩ = some (.int .i64 (bought2 : Int)) := (H.blk 2 rfl).cell 4
  have xf4 : (W5).frozen? ⟨w.heap.size + 1 + 1, 4, none⟩ = false := (H.blk 2 rfl).frozen 4
  have x5 : (W5).cell? ⟨w.heap.size + 1 + 1, 5, none⟩ = some (.int .i64 free) := (H.blk 2 rfl).cell 5
  have xf5 : (W5).frozen? ⟨w.heap.size + 1 + 1, 5, none⟩ = false := (H.blk 2 rfl).frozen 5
  have x6 : (W5).cell? ⟨w.heap.size + 1 + 1, 6, none⟩ = some (.slice A2 out.length c2) := (H.blk 2 rfl).cell 6
  have xf6 : (W5).frozen? ⟨w.heap.size + 1 + 1, 6, none⟩ = false := (H.blk 2 rfl).frozen 6
  have xlt : w.heap.size + 1 + 1 < (W5).heap.size := H.lt 2 rfl
  have y0 : (W5).cell? ⟨w.heap.size + 1 + 1 + 1, 0, none⟩ = some (.int .i64 (next : Int)) := (H.blk 3 rfl).cell 0
  have yf0 : (W5).frozen? ⟨w.heap.size + 1 + 1 + 1, 0, none⟩ = false := (H.blk 3 rfl).frozen 0
  have y1 : (W5).cell? ⟨w.heap.size + 1 + 1 + 1, 1, none⟩ = some (.int .i64 (t : Int)) := (H.blk 3 rfl).cell 1
  have yf1 : (W5).frozen? ⟨w.heap.size + 1 + 1 + 1, 1, none⟩ = false := (H.blk 3 rfl).frozen 1
  have y2 : (W5).cell? ⟨w.heap.size + 1 + 1 + 1, 2, none⟩ = some (.int .i64 (paid : Int)) := (H.blk 3 rfl).cell 2
  have yf2 : (W5).frozen? ⟨w.heap.size + 1 + 1 + 1, 2, none⟩ = false := (H.blk 3 rfl).frozen 2
  have y3 : (W5).cell? ⟨w.heap.size + 1 + 1 + 1, 3, none⟩ = some (.int .i64 (F : Int)) := (H.blk 3 rfl).cell 3
  have yf3 : (W5).frozen? ⟨w.heap.size + 1 + 1 + 1, 3, none⟩ = false := (H.blk 3 rfl).frozen 3
  have y4 : (W5).cell? ⟨w.heap.size + 1 + 1 + 1, 4, none⟩ = some (.int .i64 (P : Int)) := (H.blk 3 rfl).cell 4
  have yf4 : (W5).frozen? ⟨w.heap.size + 1 + 1 + 1, 4, none⟩ = false := (H.blk 3 rfl).frozen 4
  have y5 : (W5).cell? ⟨w.heap.size + 1 + 1 + 1, 5, none⟩ = some (.int .i64 (ch : Int)) := (H.blk 3 rfl).cell 5
  have yf5 : (W5).frozen? ⟨w.heap.size + 1 + 1 + 1, 5, none⟩ = false := (H.blk 3 rfl).frozen 5
  have y6 : (W5).cell? ⟨w.heap.size + 1 + 1 + 1, 6, none⟩ = some (.int .i64 (U : Int)) := (H.blk 3 rfl).cell 6
  have yf6 : (W5).frozen? ⟨w.heap.size + 1 + 1 + 1, 6, none⟩ = false := (H.blk 3 rfl).frozen 6
  have ylt : w.heap.size + 1 + 1 + 1 < (W5).heap.size := H.lt 3 rfl
  have ne_x_y : w.heap.size + 1 + 1 ≠ w.heap.size + 1 + 1 + 1 := H.ne 2 3 rfl rfl (by decide)
  have ne_y_x : w.heap.size + 1 + 1 + 1 ≠ w.heap.size + 1 + 1 := H.ne 3 2 rfl rfl (by decide)
  go_wp2
  refine bodyPost_ret (v := .tuple #[.agg #[.int .i64 (me : Int), .int .i64 (rev : Int), .int .i64 (next1 : Int), .int .i64 (m2 : Int), .int .i64 (bought2 : Int), .int .i64 free, .slice A2 out.length c2], .agg #[.int .i64 (next : Int), .int .i64 (t : Int), .int .i64 (paid : Int), .int .i64 (F : Int), .int .i64 (P : Int), .int .i64 (ch : Int), .int .i64 (U : Int)], .int .i64 0]) (by simp [results, Try.results23, go_sem, x0, x1, x2, x3, x4, x5, x6, y0, y1, y2, y3, y4, y5, y6]; done) rfl ?_
  exact ⟨A2, c2, rfl, H.ownb 5 rfl, H.below⟩
set_option maxRecDepth 100000 in
set_option maxHeartbeats 4000000 in
theorem sellX_no (me rev next month bought : Nat) (free : Int) (A : Option Addr) (n c : Nat) (l : List (Nat × Nat)) (At : Option Addr) (nt ct fx fb db al : Nat) (tl : List (Nat × Nat)) (m2 b2 : Nat) (l2 : List (Nat × Nat)) (t S paid f0 F : Nat) (li : Int) (out : List (Nat × Nat)) (w : World)
    (hv : IsDs w (.slice A n c) l) (hl : DOk l) (ha : AOk me rev next month bought free) (hv2 : IsDs w (.slice At nt ct) tl) (hl2 : TOk tl) (ht : TmOk fx fb db al) (hr : Rolled month bought l m2 b2 l2) (hm : m2 ≤ 2399)
    (hS : SaleN l2 tl b2 fx fb db t S paid f0 F li out) :
    Calls Try.prog 23 #[.agg #[.int .i64 (me : Int), .int .i64 (rev : Int), .int .i64 (next : Int), .int .i64 (month : Int), .int .i64 (bought : Int), .int .i64 free, .slice A n c], .agg #[.slice At nt ct, .int .i64 (fx : Int), .int .i64 (fb : Int), .int .i64 (db : Int), .int .i64 (al : Int)], .int .i64 (t : Int), .int .i64 (m2 : Int)] w fun e w' =>
      e = .returned (.tuple #[.agg #[.int .i64 0, .int .i64 0, .int .i64 0, .int .i64 0, .int .i64 0, .int .i64 0, .slice none 0 0], .agg #[.int .i64 0, .int .i64 0, .int .i64 0, .int .i64 0, .int .i64 0, .int .i64 0, .int .i64 0], .int .i64 19]) ∧ Below w.heap.size w w' := by
  have hO := fun W h h2 => open_ok me rev next month bought free A n c l At nt ct fx fb db al tl W h hl ha h2 hl2 ht
  have hR := fun B g W hk hB => roll_ok B g me rev next month bought free l At nt ct fx fb db al m2 b2 l2 W hk hl hB hr hm
  have hb2' : b2 ≤ 10000000 := by have := ha.h6; rcases hr with ⟨_, rfl, _⟩ | ⟨_, rfl, _⟩ <;> omega
  have hX := fun g W0 W hk h1 h2 => sell_no g me rev next m2 b2 free l2 At nt ct fx fb db al tl t S paid f0 F li out W0 W hk (hr.ok hl) h1 h2 hl2 ht hb2' hS
  have H := Mem.init w
  obtain ⟨W0, hW0⟩ : ∃ W0, ((((w).alloc (.cells #[.int .i64 (me : Int), .int .i64 (rev : Int), .int .i64 (next : Int), .int .i64 (month : Int), .int .i64 (bought : Int), .int .i64 free, .slice A n c] 59)).alloc (.cells #[.slice At nt ct, .int .i64 (fx : Int), .int .i64 (fb : Int), .int .i64 (db : Int), .int .i64 (al : Int)] 63)).alloc (.cells #[.int .i64 0, .int .i64 0, .int .i64 0, .int .i64 0, .int .i64 0, .int .i64 0, .slice none 0 0] 59)).alloc (.cells #[.int .i64 0, .int .i64 0, .int .i64 0, .int .i64 0, .int .i64 0, .int .i64 0, .int .i64 0] 23) = W0 := ⟨_, rfl⟩
  replace H : Mem (w) [] _ [.blk (w.heap.size) 59 #[.int .i64 (me : Int), .int .i64 (rev : Int), .int .i64 (next : Int), .int .i64 (month : Int), .int .i64 (bought : Int), .int .i64 free, .slice A n c]] := Mem.alloc H (w.heap.size) (by first | (simp; done) | (simp; omega)) #[.int .i64 (me : Int), .int .i64 (rev : Int), .int .i64 (next : Int), .int .i64 (month : Int), .int .i64 (bought : Int), .int .i64 free, .slice A n c] 59
  replace H : Mem (w) [] _ [.blk (w.heap.size) 59 #[.int .i64 (me : Int), .int .i64 (rev : Int), .int .i64 (next : Int), .int .i64 (month : Int), .int .i64 (bought : Int), .int .i64 free, .slice A n c], .blk (w.heap.size + 1) 63 #[.slice At nt ct, .int .i64 (fx : Int), .int .i64 (fb : Int), .int .i64 (db : Int), .int .i64 (al : Int)]] := Mem.alloc H (w.heap.size + 1) (by first | (simp; done) | (simp; omega)) #[.slice At nt ct, .int .i64 (fx : Int), .int .i64 (fb : Int), .int .i64 (db : Int), .int .i64 (al : Int)] 63
  replace H : Mem (w) [] _ [.blk (w.heap.size) 59 #[.int .i64 (me : Int), .int .i64 (rev : Int), .int .i64 (next : Int), .int .i64 (month : Int), .int .i64 (bought : Int), .int .i64 free, .slice A n c], .blk (w.heap.size + 1) 63 #[.slice At nt ct, .int .i64 (fx : Int), .int .i64 (fb : Int), .int .i64 (db : Int), .int .i64 (al : Int)], .blk (w.heap.size + 1 + 1) 59 #[.int .i64 0, .int .i64 0, .int .i64 0, .int .i64 0, .int .i64 0, .int .i64 0, .slice none 0 0]] := Mem.alloc H (w.heap.size + 1 + 1) (by first | (simp; done) | (simp; omega)) #[.int .i64 0, .int .i64 0, .int .i64 0, .int .i64 0, .int .i64 0, .int .i64 0, .slice none 0 0] 59
  replace H : Mem (w) [] _ [.blk (w.heap.size) 59 #[.int .i64 (me : Int), .int .i64 (rev : Int), .int .i64 (next : Int), .int .i64 (month : Int), .int .i64 (bought : Int), .int .i64 free, .slice A n c], .blk (w.heap.size + 1) 63 #[.slice At nt ct, .int .i64 (fx : Int), .int .i64 (fb : Int), .int .i64 (db : Int), .int .i64 (al : Int)], .blk (w.heap.size + 1 + 1) 59 #[.int .i64 0, .int .i64 0, .int .i64 0, .int .i64 0, .int .i64 0, .int .i64 0, .slice none 0 0], .blk (w.heap.size + 1 + 1 + 1) 23 #[.int .i64 0, .int .i64 0, .int .i64 0, .int .i64 0, .int .i64 0, .int .i64 0, .int .i64 0]] := Mem.alloc H (w.heap.size + 1 + 1 + 1) (by first | (simp; done) | (simp; omega)) #[.int .i64 0, .int .i64 0, .int .i64 0, .int .i64 0, .int .i64 0, .int .i64 0, .int .i64 0] 23
  rw [hW0] at H
  have hv0 := hv.below H.below
  have hv20 := hv2.below H.below
  clear hr ha ht hl2 hv hv2 hS
  have a0 : (W0).cell? ⟨w.heap.size, 0, none⟩ = some (.int .i64 (me : Int)) := (H.blk 0 rfl).cell 0
  have af0 : (W0).frozen? ⟨w.heap.size, 0, none⟩ = false := (H.blk 0 rfl).frozen 0
  have a1 : (W0).cell? ⟨w.heap.size, 1, none⟩ = some (.int .i64 (rev : Int)) := (H.blk 0 rfl).cell 1
  have af1 : (W0).frozen? ⟨w.heap.size, 1, none⟩ = false := (H.blk 0 rfl).frozen 1
  have a2 : (W0).cell? ⟨w.heap.size, 2, none⟩ = some (.int .i64 (next : Int)) := (H.blk 0 rfl).cell 2
  have af2 : (W0).frozen? ⟨w.heap.size, 2, none⟩ = false := (H.blk 0 rfl).frozen 2
  have a3 : (W0).cell? ⟨w.heap.size, 3, none⟩ = some (.int .i64 (month : Int)) := (H.blk 0 rfl).cell 3
  have af3 : (W0).frozen? ⟨w.heap.size, 3, none⟩ = false := (H.blk 0 rfl).frozen 3
  have a4 : (W0).cell? ⟨w.heap.size, 4, none⟩ = some (.int .i64 (bought : Int)) := (H.blk 0 rfl).cell 4
  have af4 : (W0).frozen? ⟨w.heap.size, 4, none⟩ = false := (H.blk 0 rfl).frozen 4
  have a5 : (W0).cell? ⟨w.heap.size, 5, none⟩ = some (.int .i64 free) := (H.blk 0 rfl).cell 5
  have af5 : (W0).frozen? ⟨w.heap.size, 5, none⟩ = false := (H.blk 0 rfl).frozen 5
  have a6 : (W0).cell? ⟨w.heap.size, 6, none⟩ = some (.slice A n c) := (H.blk 0 rfl).cell 6
  have af6 : (W0).frozen? ⟨w.heap.size, 6, none⟩ = false := (H.blk 0 rfl).frozen 6
  have alt : w.heap.size < (W0).heap.size := H.lt 0 rfl
  have t0 : (W0).cell? ⟨w.heap.size + 1, 0, none⟩ = some (.slice At nt ct) := (H.blk 1 rfl).cell 0
  have tf0 : (W0).frozen? ⟨w.heap.size + 1, 0, none⟩ = false := (H.blk 1 rfl).frozen 0
  have t1 : (W0).cell? ⟨w.heap.size + 1, 1, none⟩ = some (.int .i64 (fx : Int)) := (H.blk 1 rfl).cell 1
  have tf1 : (W0).frozen? ⟨w.heap.size + 1, 1, none⟩ = false := (H.blk 1 rfl).frozen 1
  have t2 : (W0).cell? ⟨w.heap.size + 1, 2, none⟩ = some (.int .i64 (fb : Int)) := (H.blk 1 rfl).cell 2
  have tf2 : (W0).frozen? ⟨w.heap.size + 1, 2, none⟩ = false := (H.blk 1 rfl).frozen 2
  have t3 : (W0).cell? ⟨w.heap.size + 1, 3, none⟩ = some (.int .i64 (db : Int)) := (H.blk 1 rfl).cell 3
  have tf3 : (W0).frozen? ⟨w.heap.size + 1, 3, none⟩ = false := (H.blk 1 rfl).frozen 3
  have t4 : (W0).cell? ⟨w.heap.size + 1, 4, none⟩ = some (.int .i64 (al : Int)) := (H.blk 1 rfl).cell 4
  have tf4 : (W0).frozen? ⟨w.heap.size + 1, 4, none⟩ = false := (H.blk 1 rfl).frozen 4
  have tlt : w.heap.size + 1 < (W0).heap.size := H.lt 1 rfl
  have ne_a_t : w.heap.size ≠ w.heap.size + 1 := H.ne 0 1 rfl rfl (by decide)
  have ne_t_a : w.heap.size + 1 ≠ w.heap.size := H.ne 1 0 rfl rfl (by decide)
  go_enter Try.func23, Try.ntmps23
  go_wp2_with fail
  refine (hO _ hv0 hv20).mono ?_
  rintro e w1 ⟨g, rfl, hk, hb1⟩
  clear a0 af0 a1 af1 a2 af2 a3 af3 a4 af4 a5 af5 a6 af6 alt t0 tf0 t1 tf1 t2 tf2 t3 tf3 t4 tf4 tlt ne_a_t ne_t_a
  go_wp2_with fail
  refine (hR _ g _ hk hb1.size).mono ?_
  rintro e w2 ⟨rfl, hk2, hb2⟩
  have hB2 := hb1.trans hb2
  clear hO hR hk hb1 hb2
  go_wp2_with fail
  refine (hX g W0 w2 hk2 hB2 hv20).mono ?_
  rintro e w3 ⟨rfl, hb3⟩
  have hK : Mem W0 [] w3 [] := (Mem.init W0).call hb3
  clear hX hk2 hB2 hb3 hW0 hv0 hv20
  replace H := H.join hK
  clear hK
  have H : Mem (w) [] (w3) [.blk (w.heap.size) 59 #[.int .i64 (me : Int), .int .i64 (rev : Int), .int .i64 (next : Int), .int .i64 (month : Int), .int .i64 (bought : Int), .int .i64 free, .slice A n c], .blk (w.heap.size + 1) 63 #[.slice At nt ct, .int .i64 (fx : Int), .int .i64 (fb : Int), .int .i64 (db : Int), .int .i64 (al : Int)], .blk (w.heap.size + 1 + 1) 59 #[.int .i64 0, .int .i64 0, .int .i64 0, .int .i64 0, .int .i64 0, .int .i64 0, .slice none 0 0], .blk (w.heap.size + 1 + 1 + 1) 23 #[.int .i64 0, .int .i64 0, .int .i64 0, .int .i64 0, .int .i64 0, .int .i64 0, .int .i64 0]] := H
  have x0 : (w3).cell? ⟨w.heap.size + 1 + 1, 0, none⟩ = some (.int .i64 0) := (H.blk 2 rfl).cell 0
  have xf0 : (w3).frozen? ⟨w.heap.size + 1 + 1, 0, none⟩ = false := (H.blk 2 rfl).frozen 0
  have x1 : (w3).cell? ⟨w.heap.size + 1 + 1, 1, none⟩ = some (.int .i64 0) := (H.blk 2 rfl).cell 1
  have xf1 : (w3).frozen? ⟨w.heap.size + 1 + 1, 1, none⟩ = false := (H.blk 2 rfl).frozen 1
  have x2 : (w3).cell? ⟨w.heap.size + 1 + 1, 2, none⟩ = some (.int .i64 0) := (H.blk 2 rfl).cell 2
  have xf2 : (w3).frozen? ⟨w.heap.size + 1 + 1, 2, none⟩ = false := (H.blk 2 rfl).frozen 2
  have x3 : (w3).cell? ⟨w.heap.size + 1 + 1, 3, none⟩ = some (.int .i64 0) := (H.blk 2 rfl).cell 3
  have xf3 : (w3).frozen? ⟨w.heap.size + 1 + 1, 3, none⟩ = false := (H.blk 2 rfl).frozen 3
  have x4 : (w3).cell? ⟨w.heap.size + 1 + 1, 4, none⟩ = some (.int .i64 0) := (H.blk 2 rfl).cell 4
  have xf4 : (w3).frozen? ⟨w.heap.size + 1 + 1, 4, none⟩ = false := (H.blk 2 rfl).frozen 4
  have x5 : (w3).cell? ⟨w.heap.size + 1 + 1, 5, none⟩ = some (.int .i64 0) := (H.blk 2 rfl).cell 5
  have xf5 : (w3).frozen? ⟨w.heap.size + 1 + 1, 5, none⟩ = false := (H.blk 2 rfl).frozen 5
  have x6 : (w3).cell? ⟨w.heap.size + 1 + 1, 6, none⟩ = some (.slice none 0 0) := (H.blk 2 rfl).cell 6
  have xf6 : (w3).frozen? ⟨w.heap.size + 1 + 1, 6, none⟩ = false := (H.blk 2 rfl).frozen 6
  have xlt : w.heap.size + 1 + 1 < (w3).heap.size := H.lt 2 rfl
  have y0 : (w3).cell? ⟨w.heap.size + 1 + 1 + 1, 0, none⟩ = some (.int .i64 0) := (H.blk 3 rfl).cell 0
  have yf0 : (w3).frozen? ⟨w.heap.size + 1 + 1 + 1, 0, none⟩ = false := (H.blk 3 rfl).frozen 0
  have y1 : (w3).cell? ⟨w.heap.size + 1 + 1 + 1, 1, none⟩ = some (.int .i64 0) := (H.blk 3 rfl).cell 1
  have yf1 : (w3).frozen? ⟨w.heap.size + 1 + 1 + 1, 1, none⟩ = false := (H.blk 3 rfl).frozen 1
  have y2 : (w3).cell? ⟨w.heap.size + 1 + 1 + 1, 2, none⟩ = some (.int .i64 0) := (H.blk 3 rfl).cell 2
  have yf2 : (w3).frozen? ⟨w.heap.size + 1 + 1 + 1, 2, none⟩ = false := (H.blk 3 rfl).frozen 2
  have y3 : (w3).cell? ⟨w.heap.size + 1 + 1 + 1, 3, none⟩ = some (.int .i64 0) := (H.blk 3 rfl).cell 3
  have yf3 : (w3).frozen? ⟨w.heap.size + 1 + 1 + 1, 3, none⟩ = false := (H.blk 3 rfl).frozen 3
  have y4 : (w3).cell? ⟨w.heap.size + 1 + 1 + 1, 4, none⟩ = some (.int .i64 0) := (H.blk 3 rfl).cell 4
  have yf4 : (w3).frozen? ⟨w.heap.size + 1 + 1 + 1, 4, none⟩ = false := (H.blk 3 rfl).frozen 4
  have y5 : (w3).cell? ⟨w.heap.size + 1 + 1 + 1, 5, none⟩ = some (.int .i64 0) := (H.blk 3 rfl).cell 5
  have yf5 : (w3).frozen? ⟨w.heap.size + 1 + 1 + 1, 5, none⟩ = false := (H.blk 3 rfl).frozen 5
  have y6 : (w3).cell? ⟨w.heap.size + 1 + 1 + 1, 6, none⟩ = some (.int .i64 0) := (H.blk 3 rfl).cell 6
  have yf6 : (w3).frozen? ⟨w.heap.size + 1 + 1 + 1, 6, none⟩ = false := (H.blk 3 rfl).frozen 6
  have ylt : w.heap.size + 1 + 1 + 1 < (w3).heap.size := H.lt 3 rfl
  have ne_x_y : w.heap.size + 1 + 1 ≠ w.heap.size + 1 + 1 + 1 := H.ne 2 3 rfl rfl (by decide)
  have ne_y_x : w.heap.size + 1 + 1 + 1 ≠ w.heap.size + 1 + 1 := H.ne 3 2 rfl rfl (by decide)
  go_wp2_with fail
  obtain ⟨W5, hW5⟩ : ∃ W5, (((((((((((((((w3).setCell ⟨w.heap.size + 1 + 1, 0, none⟩ (.int .i64 0)).setCell ⟨w.heap.size + 1 + 1, 1, none⟩ (.int .i64 0)).setCell ⟨w.heap.size + 1 + 1, 2, none⟩ (.int .i64 0)).setCell ⟨w.heap.size + 1 + 1, 3, none⟩ (.int .i64 0)).setCell ⟨w.heap.size + 1 + 1, 4, none⟩ (.int .i64 0)).setCell ⟨w.heap.size + 1 + 1, 5, none⟩ (.int .i64 0)).setCell ⟨w.heap.size + 1 + 1, 6, none⟩ (.slice none 0 0)).setCell ⟨w.heap.size + 1 + 1 + 1, 0, none⟩ (.int .i64 0)).setCell ⟨w.heap.size + 1 + 1 + 1, 1, none⟩ (.int .i64 0)).setCell ⟨w.heap.size + 1 + 1 + 1, 2, none⟩ (.int .i64 0)).setCell ⟨w.heap.size + 1 + 1 + 1, 3, none⟩ (.int .i64 0)).setCell ⟨w.heap.size + 1 + 1 + 1, 4, none⟩ (.int .i64 0)).setCell ⟨w.heap.size + 1 + 1 + 1, 5, none⟩ (.int .i64 0)).setCell ⟨w.heap.size + 1 + 1 + 1, 6, none⟩ (.int .i64 0)).alloc (.cells #[.int .i64 0, .int .i64 0, .int .i64 0, .int .i64 0, .int .i64 0, .int .i64 0, .int .i64 0] 23) = W5 := ⟨_, rfl⟩
  replace H : Mem (w) [] _ [.blk (w.heap.size) 59 #[.int .i64 (me : Int), .int .i64 (rev : Int), .int .i64 (next : Int), .int .i64 (month : Int), .int .i64 (bought : Int), .int .i64 free, .slice A n c], .blk (w.heap.size + 1) 63 #[.slice At nt ct, .int .i64 (fx : Int), .int .i64 (fb : Int), .int .i64 (db : Int), .int .i64 (al : Int)], .blk (w.heap.size + 1 + 1) 59 #[.int .i64 0, .int .i64 0, .int .i64 0, .int .i64 0, .int .i64 0, .int .i64 0, .slice none 0 0], .blk (w.heap.size + 1 + 1 + 1) 23 #[.int .i64 0, .int .i64 0, .int .i64 0, .int .i64 0, .int .i64 0, .int .i64 0, .int .i64 0]] := Mem.set 2 H rfl 0 (.int .i64 0)
  replace H : Mem (w) [] _ [.blk (w.heap.size) 59 #[.int .i64 (me : Int), .int .i64 (rev : Int), .int .i64 (next : Int), .int .i64 (month : Int), .int .i64 (bought : Int), .int .i64 free, .slice A n c], .blk (w.heap.size + 1) 63 #[.slice At nt ct, .int .i64 (fx : Int), .int .i64 (fb : Int), .int .i64 (db : Int), .int .i64 (al : Int)], .blk (w.heap.size + 1 + 1) 59 #[.int .i64 0, .int .i64 0, .int .i64 0, .int .i64 0, .int .i64 0, .int .i64 0, .slice none 0 0], .blk (w.heap.size + 1 + 1 + 1) 23 #[.int .i64 0, .int .i64 0, .int .i64 0, .int .i64 0, .int .i64 0, .int .i64 0, .int .i64 0]] := Mem.set 2 H rfl 1 (.int .i64 0)
  replace H : Mem (w) [] _ [.blk (w.heap.size) 59 #[.int .i64 (me : Int), .int .i64 (rev : Int), .int .i64 (next : Int), .int .i64 (month : Int), .int .i64 (bought : Int), .int .i64 free, .slice A n c], .blk (w.heap.size + 1) 63 #[.slice At nt ct, .int .i64 (fx : Int), .int .i64 (fb : Int), .int .i64 (db : Int), .int .i64 (al : Int)], .blk (w.heap.size + 1 + 1) 59 #[.int .i64 0, .int .i64 0, .int .i64 0, .int .i64 0, .int .i64 0, .int .i64 0, .slice none 0 0], .blk (w.heap.size + 1 + 1 + 1) 23 #[.int .i64 0, .int .i64 0, .int .i64 0, .int .i64 0, .int .i64 0, .int .i64 0, .int .i64 0]] := Mem.set 2 H rfl 2 (.int .i64 0)
  replace H : Mem (w) [] _ [.blk (w.heap.size) 59 #[.int .i64 (me : Int), .int .i64 (rev : Int), .int .i64 (next : Int), .int .i64 (month : Int), .int .i64 (bought : Int), .int .i64 free, .slice A n c], .blk (w.heap.size + 1) 63 #[.slice At nt ct, .int .i64 (fx : Int), .int .i64 (fb : Int), .int .i64 (db : Int), .int .i64 (al : Int)], .blk (w.heap.size + 1 + 1) 59 #[.int .i64 0, .int .i64 0, .int .i64 0, .int .i64 0, .int .i64 0, .int .i64 0, .slice none 0 0], .blk (w.heap.size + 1 + 1 + 1) 23 #[.int .i64 0, .int .i64 0, .int .i64 0, .int .i64 0, .int .i64 0, .int .i64 0, .int .i64 0]] := Mem.set 2 H rfl 3 (.int .i64 0)
  replace H : Mem (w) [] _ [.blk (w.heap.size) 59 #[.int .i64 (me : Int), .int .i64 (rev : Int), .int .i64 (next : Int), .int .i64 (month : Int), .int .i64 (bought : Int), .int .i64 free, .slice A n c], .blk (w.heap.size + 1) 63 #[.slice At nt ct, .int .i64 (fx : Int), .int .i64 (fb : Int), .int .i64 (db : Int), .int .i64 (al : Int)], .blk (w.heap.size + 1 + 1) 59 #[.int .i64 0, .int .i64 0, .int .i64 0, .int .i64 0, .int .i64 0, .int .i64 0, .slice none 0 0], .blk (w.heap.size + 1 + 1 + 1) 23 #[.int .i64 0, .int .i64 0, .int .i64 0, .int .i64 0, .int .i64 0, .int .i64 0, .int .i64 0]] := Mem.set 2 H rfl 4 (.int .i64 0)
  replace H : Mem (w) [] _ [.blk (w.heap.size) 59 #[.int .i64 (me : Int), .int .i64 (rev : Int), .int .i64 (next : Int), .int .i64 (month : Int), .int .i64 (bought : Int), .int .i64 free, .slice A n c], .blk (w.heap.size + 1) 63 #[.slice At nt ct, .int .i64 (fx : Int), .int .i64 (fb : Int), .int .i64 (db : Int), .int .i64 (al : Int)], .blk (w.heap.size + 1 + 1) 59 #[.int .i64 0, .int .i64 0, .int .i64 0, .int .i64 0, .int .i64 0, .int .i64 0, .slice none 0 0], .blk (w.heap.size + 1 + 1 + 1) 23 #[.int .i64 0, .int .i64 0, .int .i64 0, .int .i64 0, .int .i64 0, .int .i64 0, .int .i64 0]] := Mem.set 2 H rfl 5 (.int .i64 0)
  replace H : Mem (w) [] _ [.blk (w.heap.size) 59 #[.int .i64 (me : Int), .int .i64 (rev : Int), .int .i64 (next : Int), .int .i64 (month : Int), .int .i64 (bought : Int), .int .i64 free, .slice A n c], .blk (w.heap.size + 1) 63 #[.slice At nt ct, .int .i64 (fx : Int), .int .i64 (fb : Int), .int .i64 (db : Int), .int .i64 (al : Int)], .blk (w.heap.size + 1 + 1) 59 #[.int .i64 0, .int .i64 0, .int .i64 0, .int .i64 0, .int .i64 0, .int .i64 0, .slice none 0 0], .blk (w.heap.size + 1 + 1 + 1) 23 #[.int .i64 0, .int .i64 0, .int .i64 0, .int .i64 0, .int .i64 0, .int .i64 0, .int .i64 0]] := Mem.set 2 H rfl 6 (.slice none 0 0)
  replace H : Mem (w) [] _ [.blk (w.heap.size) 59 #[.int .i64 (me : Int), .int .i64 (rev : Int), .int .i64 (next : Int), .int .i64 (month : Int), .int .i64 (bought : Int), .int .i64 free, .slice A n c], .blk (w.heap.size + 1) 63 #[.slice At nt ct, .int .i64 (fx : Int), .int .i64 (fb : Int), .int .i64 (db : Int), .int .i64 (al : Int)], .blk (w.heap.size + 1 + 1) 59 #[.int .i64 0, .int .i64 0, .int .i64 0, .int .i64 0, .int .i64 0, .int .i64 0, .slice none 0 0], .blk (w.heap.size + 1 + 1 + 1) 23 #[.int .i64 0, .int .i64 0, .int .i64 0, .int .i64 0, .int .i64 0, .int .i64 0, .int .i64 0]] := Mem.set 3 H rfl 0 (.int .i64 0)
  replace H : Mem (w) [] _ [.blk (w.heap.size) 59 #[.int .i64 (me : Int), .int .i64 (rev : Int), .int .i64 (next : Int), .int .i64 (month : Int), .int .i64 (bought : Int), .int .i64 free, .slice A n c], .blk (w.heap.size + 1) 63 #[.slice At nt ct, .int .i64 (fx : Int), .int .i64 (fb : Int), .int .i64 (db : Int), .int .i64 (al : Int)], .blk (w.heap.size + 1 + 1) 59 #[.int .i64 0, .int .i64 0, .int .i64 0, .int .i64 0, .int .i64 0, .int .i64 0, .slice none 0 0], .blk (w.heap.size + 1 + 1 + 1) 23 #[.int .i64 0, .int .i64 0, .int .i64 0, .int .i64 0, .int .i64 0, .int .i64 0, .int .i64 0]] := Mem.set 3 H rfl 1 (.int .i64 0)
  replace H : Mem (w) [] _ [.blk (w.heap.size) 59 #[.int .i64 (me : Int), .int .i64 (rev : Int), .int .i64 (next : Int), .int .i64 (month : Int), .int .i64 (bought : Int), .int .i64 free, .slice A n c], .blk (w.heap.size + 1) 63 #[.slice At nt ct, .int .i64 (fx : Int), .int .i64 (fb : Int), .int .i64 (db : Int), .int .i64 (al : Int)], .blk (w.heap.size + 1 + 1) 59 #[.int .i64 0, .int .i64 0, .int .i64 0, .int .i64 0, .int .i64 0, .int .i64 0, .slice none 0 0], .blk (w.heap.size + 1 + 1 + 1) 23 #[.int .i64 0, .int .i64 0, .int .i64 0, .int .i64 0, .int .i64 0, .int .i64 0, .int .i64 0]] := Mem.set 3 H rfl 2 (.int .i64 0)
  replace H : Mem (w) [] _ [.blk (w.heap.size) 59 #[.int .i64 (me : Int), .int .i64 (rev : Int), .int .i64 (next : Int), .int .i64 (month : Int), .int .i64 (bought : Int), .int .i64 free, .slice A n c], .blk (w.heap.size + 1) 63 #[.slice At nt ct, .int .i64 (fx : Int), .int .i64 (fb : Int), .int .i64 (db : Int), .int .i64 (al : Int)], .blk (w.heap.size + 1 + 1) 59 #[.int .i64 0, .int .i64 0, .int .i64 0, .int .i64 0, .int .i64 0, .int .i64 0, .slice none 0 0], .blk (w.heap.size + 1 + 1 + 1) 23 #[.int .i64 0, .int .i64 0, .int .i64 0, .int .i64 0, .int .i64 0, .int .i64 0, .int .i64 0]] := Mem.set 3 H rfl 3 (.int .i64 0)
  replace H : Mem (w) [] _ [.blk (w.heap.size) 59 #[.int .i64 (me : Int), .int .i64 (rev : Int), .int .i64 (next : Int), .int .i64 (month : Int), .int .i64 (bought : Int), .int .i64 free, .slice A n c], .blk (w.heap.size + 1) 63 #[.slice At nt ct, .int .i64 (fx : Int), .int .i64 (fb : Int), .int .i64 (db : Int), .int .i64 (al : Int)], .blk (w.heap.size + 1 + 1) 59 #[.int .i64 0, .int .i64 0, .int .i64 0, .int .i64 0, .int .i64 0, .int .i64 0, .slice none 0 0], .blk (w.heap.size + 1 + 1 + 1) 23 #[.int .i64 0, .int .i64 0, .int .i64 0, .int .i64 0, .int .i64 0, .int .i64 0, .int .i64 0]] := Mem.set 3 H rfl 4 (.int .i64 0)
  replace H : Mem (w) [] _ [.blk (w.heap.size) 59 #[.int .i64 (me : Int), .int .i64 (rev : Int), .int .i64 (next : Int), .int .i64 (month : Int), .int .i64 (bought : Int), .int .i64 free, .slice A n c], .blk (w.heap.size + 1) 63 #[.slice At nt ct, .int .i64 (fx : Int), .int .i64 (fb : Int), .int .i64 (db : Int), .int .i64 (al : Int)], .blk (w.heap.size + 1 + 1) 59 #[.int .i64 0, .int .i64 0, .int .i64 0, .int .i64 0, .int .i64 0, .int .i64 0, .slice none 0 0], .blk (w.heap.size + 1 + 1 + 1) 23 #[.int .i64 0, .int .i64 0, .int .i64 0, .int .i64 0, .int .i64 0, .int .i64 0, .int .i64 0]] := Mem.set 3 H rfl 5 (.int .i64 0)
  replace H : Mem (w) [] _ [.blk (w.heap.size) 59 #[.int .i64 (me : Int), .int .i64 (rev : Int), .int .i64 (next : Int), .int .i64 (month : Int), .int .i64 (bought : Int), .int .i64 free, .slice A n c], .blk (w.heap.size + 1) 63 #[.slice At nt ct, .int .i64 (fx : Int), .int .i64 (fb : Int), .int .i64 (db : Int), .int .i64 (al : Int)], .blk (w.heap.size + 1 + 1) 59 #[.int .i64 0, .int .i64 0, .int .i64 0, .int .i64 0, .int .i64 0, .int .i64 0, .slice none 0 0], .blk (w.heap.size + 1 + 1 + 1) 23 #[.int .i64 0, .int .i64 0, .int .i64 0, .int .i64 0, .int .i64 0, .int .i64 0, .int .i64 0]] := Mem.set 3 H rfl 6 (.int .i64 0)
  replace H : Mem (w) [] _ [.blk (w.heap.size) 59 #[.int .i64 (me : Int), .int .i64 (rev : Int), .int .i64 (next : Int), .int .i64 (month : Int), .int .i64 (bought : Int), .int .i64 free, .slice A n c], .blk (w.heap.size + 1) 63 #[.slice At nt ct, .int .i64 (fx : Int), .int .i64 (fb : Int), .int .i64 (db : Int), .int .i64 (al : Int)], .blk (w.heap.size + 1 + 1) 59 #[.int .i64 0, .int .i64 0, .int .i64 0, .int .i64 0, .int .i64 0, .int .i64 0, .slice none 0 0], .blk (w.heap.size + 1 + 1 + 1) 23 #[.int .i64 0, .int .i64 0, .int .i64 0, .int .i64 0, .int .i64 0, .int .i64 0, .int .i64 0], .blk (w3.heap.size) 23 #[.int .i64 0, .int .i64 0, .int .i64 0, .int .i64 0, .int .i64 0, .int .i64 0, .int .i64 0]] := Mem.alloc H (w3.heap.size) (by first | (simp; done) | (simp; omega)) #[.int .i64 0, .int .i64 0, .int .i64 0, .int .i64 0, .int .i64 0, .int .i64 0, .int .i64 0] 23
  rw [hW5] at H ⊢
  clear hW5
  clear x0 xf0 x1 xf1 x2 xf2 x3 xf3 x4 xf4 x5 xf5 x6 xf6 xlt y0 yf0 y1 yf1 y2 yf2 y3 yf3 y4 yf4 y5 yf5 y6 yf6 ylt ne_x_y ne_y_x
  have x0 : (W5).cell? ⟨w.heap.size + 1 + 1, 0, none⟩ = some (.int .i64 0) := (H.blk 2 rfl).cell 0
  have xf0 : (W5).frozen? ⟨w.heap.size + 1 + 1, 0, none⟩ = false := (H.blk 2 rfl).frozen 0
  have x1 : (W5).cell? ⟨w.heap.size + 1 + 1, 1, none⟩ = some (.int .i64 0) := (H.blk 2 rfl).cell 1
  have xf1 : (W5).frozen? ⟨w.heap.size + 1 + 1, 1, none⟩ = false := (H.blk 2 rfl).frozen 1
  have x2 : (W5).cell? ⟨w.heap.size + 1 + 1, 2, none⟩ = some (.int .i64 0) := (H.blk 2 rfl).cell 2
  have xf2 : (W5).frozen? ⟨w.heap.size + 1 + 1, 2, none⟩ = false := (H.blk 2 rfl).frozen 2
  have x3 : (W5).cell? ⟨w.heap.size + 1 + 1, 3, none⟩ = some (.int .i64 0) := (H.blk 2 rfl).cell 3
  have xf3 : (W5).frozen? ⟨w.heap.size + 1 + 1, 3, none⟩ = false := (H.blk 2 rfl).frozen 3
  have x4 : (W5).cell? ⟨w.heap.size + 1 + 1, 4, none⟩ = some (.int .i64 0) := (H.blk 2 rfl).cell 4
  have xf4 : (W5).frozen? ⟨w.heap.size + 1 + 1, 4, none⟩ = false := (H.blk 2 rfl).frozen 4
  have x5 : (W5).cell? ⟨w.heap.size + 1 + 1, 5, none⟩ = some (.int .i64 0) := (H.blk 2 rfl).cell 5
  have xf5 : (W5).frozen? ⟨w.heap.size + 1 + 1, 5, none⟩ = false := (H.blk 2 rfl).frozen 5
  have x6 : (W5).cell? ⟨w.heap.size + 1 + 1, 6, none⟩ = some (.slice none 0 0) := (H.blk 2 rfl).cell 6
  have xf6 : (W5).frozen? ⟨w.heap.size + 1 + 1, 6, none⟩ = false := (H.blk 2 rfl).frozen 6
  have xlt : w.heap.size + 1 + 1 < (W5).heap.size := H.lt 2 rfl
  have y0 : (W5).cell? ⟨w.heap.size + 1 + 1 + 1, 0, none⟩ = some (.int .i64 0) := (H.blk 3 rfl).cell 0
  have yf0 : (W5).frozen? ⟨w.heap.size + 1 + 1 + 1, 0, none⟩ = false := (H.blk 3 rfl).frozen 0
  have y1 : (W5).cell? ⟨w.heap.size + 1 + 1 + 1, 1, none⟩ = some (.int .i64 0) := (H.blk 3 rfl).cell 1
  have yf1 : (W5).frozen? ⟨w.heap.size + 1 + 1 + 1, 1, none⟩ = false := (H.blk 3 rfl).frozen 1
  have y2 : (W5).cell? ⟨w.heap.size + 1 + 1 + 1, 2, none⟩ = some (.int .i64 0) := (H.blk 3 rfl).cell 2
  have yf2 : (W5).frozen? ⟨w.heap.size + 1 + 1 + 1, 2, none⟩ = false := (H.blk 3 rfl).frozen 2
  have y3 : (W5).cell? ⟨w.heap.size + 1 + 1 + 1, 3, none⟩ = some (.int .i64 0) := (H.blk 3 rfl).cell 3
  have yf3 : (W5).frozen? ⟨w.heap.size + 1 + 1 + 1, 3, none⟩ = false := (H.blk 3 rfl).frozen 3
  have y4 : (W5).cell? ⟨w.heap.size + 1 + 1 + 1, 4, none⟩ = some (.int .i64 0) := (H.blk 3 rfl).cell 4
  have yf4 : (W5).frozen? ⟨w.heap.size + 1 + 1 + 1, 4, none⟩ = false := (H.blk 3 rfl).frozen 4
  have y5 : (W5).cell? ⟨w.heap.size + 1 + 1 + 1, 5, none⟩ = some (.int .i64 0) := (H.blk 3 rfl).cell 5
  have yf5 : (W5).frozen? ⟨w.heap.size + 1 + 1 + 1, 5, none⟩ = false := (H.blk 3 rfl).frozen 5
  have y6 : (W5).cell? ⟨w.heap.size + 1 + 1 + 1, 6, none⟩ = some (.int .i64 0) := (H.blk 3 rfl).cell 6
  have yf6 : (W5).frozen? ⟨w.heap.size + 1 + 1 + 1, 6, none⟩ = false := (H.blk 3 rfl).frozen 6
  have ylt : w.heap.size + 1 + 1 + 1 < (W5).heap.size := H.lt 3 rfl
  have ne_x_y : w.heap.size + 1 + 1 ≠ w.heap.size + 1 + 1 + 1 := H.ne 2 3 rfl rfl (by decide)
  have ne_y_x : w.heap.size + 1 + 1 + 1 ≠ w.heap.size + 1 + 1 := H.ne 3 2 rfl rfl (by decide)
  refine bodyPost_ret (v := .tuple #[.agg #[.int .i64 0, .int .i64 0, .int .i64 0, .int .i64 0, .int .i64 0, .int .i64 0, .slice none 0 0], .agg #[.int .i64 0, .int .i64 0, .int .i64 0, .int .i64 0, .int .i64 0, .int .i64 0, .int .i64 0], .int .i64 19]) (by simp [results, Try.results23, go_sem, x0, x1, x2, x3, x4, x5, x6, y0, y1, y2, y3, y4, y5, y6]; done) rfl ?_
  exact ⟨rfl, H.below⟩
end Go.Proofs.Ytnpkondgpmncnaa
