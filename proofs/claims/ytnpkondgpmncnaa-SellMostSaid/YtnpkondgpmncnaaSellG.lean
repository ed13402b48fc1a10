/- A sale's answer by letters, and what lies in memory behind 'after, b, e := account.Sell(..)'. -/
import Derived.Test.YtnpkondgpmncnaaSaleX
namespace Go.Proofs.Ytnpkondgpmncnaa
open Go.RowKit
set_option linter.unusedVariables false
/-- The answer of 'Sell', of which Q is known. -/
def RetSG (Q : List Int → Option Addr → Nat → List (Nat × Nat) → List Int → Int → Prop) (w : World) (e : Ending) (w' : World) : Prop :=
  ∃ (v0 v1 v2 v3 v4 v5 : Int) (A2 : Option Addr) (c2 : Nat) (out : List (Nat × Nat)) (b0 b1 b2 b3 b4 b5 b6 er : Int), e = .returned (.tuple #[.agg #[.int .i64 v0, .int .i64 v1, .int .i64 v2, .int .i64 v3, .int .i64 v4, .int .i64 v5, .slice A2 out.length c2], .agg #[.int .i64 b0, .int .i64 b1, .int .i64 b2, .int .i64 b3, .int .i64 b4, .int .i64 b5, .int .i64 b6], .int .i64 er]) ∧
    Q [v0, v1, v2, v3, v4, v5] A2 c2 out [b0, b1, b2, b3, b4, b5, b6] er ∧ w'.ownsRow w.heap.size 25 2 (.slice A2 out.length c2) out.length (drs out) ∧ Below w.heap.size w w'
theorem three_mem {w Wd wx : World} {L : List Chunk} {g1 g2 base n : Nat} {t1 t2 e : TypeId} {cs1 cs2 : Array Value} {size : Nat} {v : Value} {xs : List Value} (H : Mem w [] Wd L) (hb : Below Wd.heap.size Wd wx) (h1 : Blk wx g1 t1 cs1) (h2 : Blk wx g2 t2 cs2) (h3 : wx.ownsRow base e size v n xs)
    (hn : g1 ≠ g2) (b1 : Wd.heap.size ≤ g1) (b2 : Wd.heap.size ≤ g2) (b3 : Wd.heap.size ≤ base) (n1 : t1 ≠ e) (n2 : t2 ≠ e) : Mem w [] wx (L ++ [.blk g1 t1 cs1, .blk g2 t2 cs2, .row base e size v n xs]) := by
  have k1 := blk_not_row h1 n1 h3
  have k2 := blk_not_row h2 n2 h3
  refine H.join ⟨⟨hb.os, hb.tape, hb.output, hb.size, fun k hk _ => hb.block k hk⟩, fun d hd => ?_, ?_, fun d hd k hk => .inl ?_⟩
  · rcases List.mem_cons.1 hd with rfl | hd
    · exact h1
    · rcases List.mem_cons.1 hd with rfl | hd
      · exact h2
      · obtain rfl := List.mem_singleton.1 hd
        exact h3
  · refine List.pairwise_cons.2 ⟨fun d hd k hk hk' => ?_, List.pairwise_cons.2 ⟨fun d hd k hk hk' => ?_, List.pairwise_singleton _ _⟩⟩
    · obtain rfl : g1 = k := by simpa [Chunk.num] using hk
      rcases List.mem_cons.1 hd with rfl | hd
      · exact hn (by simpa [Chunk.num] using hk'.symm)
      · obtain rfl := List.mem_singleton.1 hd
        exact k1 hk'.symm
    · obtain rfl : g2 = k := by simpa [Chunk.num] using hk
      obtain rfl := List.mem_singleton.1 hd
      exact k2 hk'.symm
  · rcases List.mem_cons.1 hd with rfl | hd
    · obtain rfl : g1 = k := by simpa [Chunk.num] using hk
      exact b1
    · rcases List.mem_cons.1 hd with rfl | hd
      · obtain rfl : g2 = k := by simpa [Chunk.num] using hk
        exact b2
      · obtain rfl := List.mem_singleton.1 hd
        exact Nat.le_trans b3 (World.ownsRow.lt h3 k hk).1
/-- What follows the call, by the places of the two variables. -/
def SellOut (w : World) (L : List Chunk) (Q : List Int → Option Addr → Nat → List (Nat × Nat) → List Int → Int → Prop) (p q r : Value) (wx : World) : Prop :=
  ∃ (g1 g2 base : Nat) (v0 v1 v2 v3 v4 v5 : Int) (A2 : Option Addr) (c2 : Nat) (out : List (Nat × Nat)) (b0 b1 b2 b3 b4 b5 b6 er : Int), p = .pointer (some ⟨g1, 0, none⟩) ∧ q = .pointer (some ⟨g2, 0, none⟩) ∧ r = .int .i64 er ∧ Q [v0, v1, v2, v3, v4, v5] A2 c2 out [b0, b1, b2, b3, b4, b5, b6] er ∧
    Mem w [] wx (L ++ [.blk g1 59 #[.int .i64 v0, .int .i64 v1, .int .i64 v2, .int .i64 v3, .int .i64 v4, .int .i64 v5, .slice A2 out.length c2], .blk g2 23 #[.int .i64 b0, .int .i64 b1, .int .i64 b2, .int .i64 b3, .int .i64 b4, .int .i64 b5, .int .i64 b6], .row base 25 2 (.slice A2 out.length c2) out.length (drs out)])
/-- The two variables came up behind the call. -/
theorem out_a {w Wd W0 we : World} {L : List Chunk} {Q : List Int → Option Addr → Nat → List (Nat × Nat) → List Int → Int → Prop} {v0 v1 v2 v3 v4 v5 : Int} {A2 : Option Addr} {c2 : Nat} {out : List (Nat × Nat)} {b0 b1 b2 b3 b4 b5 b6 er : Int} (H : Mem w [] Wd L) (h0 : Below Wd.heap.size Wd W0) (hb : Below W0.heap.size W0 we) (hq : Q [v0, v1, v2, v3, v4, v5] A2 c2 out [b0, b1, b2, b3, b4, b5, b6] er) (ho : we.ownsRow W0.heap.size 25 2 (.slice A2 out.length c2) out.length (drs out)) :
    SellOut w L Q (.pointer (some ⟨we.heap.size, 0, none⟩)) (.pointer (some ⟨we.heap.size + 1, 0, none⟩)) (.int .i64 er) ((we.alloc (.cells #[.int .i64 v0, .int .i64 v1, .int .i64 v2, .int .i64 v3, .int .i64 v4, .int .i64 v5, .slice A2 out.length c2] 59)).alloc (.cells #[.int .i64 b0, .int .i64 b1, .int .i64 b2, .int .i64 b3, .int .i64 b4, .int .i64 b5, .int .i64 b6] 23)) := by
  have s1 := h0.size
  have s2 := hb.size
  have h2 := Blk.new (we.alloc (.cells #[.int .i64 v0, .int .i64 v1, .int .i64 v2, .int .i64 v3, .int .i64 v4, .int .i64 v5, .slice A2 out.length c2] 59)) 23 #[.int .i64 b0, .int .i64 b1, .int .i64 b2, .int .i64 b3, .int .i64 b4, .int .i64 b5, .int .i64 b6]
  rw [World.size_alloc] at h2
  exact ⟨_, _, _, v0, v1, v2, v3, v4, v5, A2, c2, out, b0, b1, b2, b3, b4, b5, b6, er, rfl, rfl, rfl, hq, three_mem H ((h0.trans (hb.mono s1)).trans ((below_a2 we _ _).mono (by omega))) ((Blk.new we _ _).alloc _) h2 ((ho.alloc _).alloc _) (by omega) (by omega) (by omega) s1 (by decide) (by decide)⟩
/-- The same, the other way round. -/
theorem out_b {w Wd W0 we : World} {L : List Chunk} {Q : List Int → Option Addr → Nat → List (Nat × Nat) → List Int → Int → Prop} {v0 v1 v2 v3 v4 v5 : Int} {A2 : Option Addr} {c2 : Nat} {out : List (Nat × Nat)} {b0 b1 b2 b3 b4 b5 b6 er : Int} (H : Mem w [] Wd L) (h0 : Below Wd.heap.size Wd W0) (hb : Below W0.heap.size W0 we) (hq : Q [v0, v1, v2, v3, v4, v5] A2 c2 out [b0, b1, b2, b3, b4, b5, b6] er) (ho : we.ownsRow W0.heap.size 25 2 (.slice A2 out.length c2) out.length (drs out)) :
    SellOut w L Q (.pointer (some ⟨we.heap.size + 1, 0, none⟩)) (.pointer (some ⟨we.heap.size, 0, none⟩)) (.int .i64 er) ((we.alloc (.cells #[.int .i64 b0, .int .i64 b1, .int .i64 b2, .int .i64 b3, .int .i64 b4, .int .i64 b5, .int .i64 b6] 23)).alloc (.cells #[.int .i64 v0, .int .i64 v1, .int .i64 v2, .int .i64 v3, .int .i64 v4, .int .i64 v5, .slice A2 out.length c2] 59)) := by
  have s1 := h0.size
  have s2 := hb.size
  have h2 := Blk.new (we.alloc (.cells #[.int .i64 b0, .int .i64 b1, .int .i64 b2, .int .i64 b3, .int .i64 b4, .int .i64 b5, .int .i64 b6] 23)) 59 #[.int .i64 v0, .int .i64 v1, .int .i64 v2, .int .i64 v3, .int .i64 v4, .int .i64 v5, .slice A2 out.length c2]
  rw [World.size_alloc] at h2
  exact ⟨_, _, _, v0, v1, v2, v3, v4, v5, A2, c2, out, b0, b1, b2, b3, b4, b5, b6, er, rfl, rfl, rfl, hq, three_mem H ((h0.trans (hb.mono s1)).trans ((below_a2 we _ _).mono (by omega))) h2 ((Blk.new we _ _).alloc _) ((ho.alloc _).alloc _) (by omega) (by omega) (by omega) s1 (by decide) (by decide)⟩
/-- The account's variable stood there at the call. -/
theorem out_c {w Wd W0 we : World} {L : List Chunk} {Q : List Int → Option Addr → Nat → List (Nat × Nat) → List Int → Int → Prop} {v0 v1 v2 v3 v4 v5 : Int} {A2 : Option Addr} {c2 : Nat} {out : List (Nat × Nat)} {b0 b1 b2 b3 b4 b5 b6 er : Int} {g : Nat} {cz : Array Value} (ps : List (Nat × Value)) (H : Mem w [] Wd L) (h0 : Below Wd.heap.size Wd W0) (hb : Below W0.heap.size W0 we) (hz : Blk we g 59 cz) (hg : Wd.heap.size ≤ g) (hg2 : g < W0.heap.size) (hc : ps.foldl (fun cs p => cs.setIfInBounds p.1 p.2) cz = #[.int .i64 v0, .int .i64 v1, .int .i64 v2, .int .i64 v3, .int .i64 v4, .int .i64 v5, .slice A2 out.length c2]) (hq : Q [v0, v1, v2, v3, v4, v5] A2 c2 out [b0, b1, b2, b3, b4, b5, b6] er) (ho : we.ownsRow W0.heap.size 25 2 (.slice A2 out.length c2) out.length (drs out)) :
    SellOut w L Q (.pointer (some ⟨g, 0, none⟩)) (.pointer (some ⟨we.heap.size, 0, none⟩)) (.int .i64 er) ((sets we g ps).alloc (.cells #[.int .i64 b0, .int .i64 b1, .int .i64 b2, .int .i64 b3, .int .i64 b4, .int .i64 b5, .int .i64 b6] 23)) := by
  have s1 := h0.size
  have s2 := hb.size
  have h1 := Blk.sets ps hz
  rw [hc] at h1
  have h2 := Blk.new (sets we g ps) 23 #[.int .i64 b0, .int .i64 b1, .int .i64 b2, .int .i64 b3, .int .i64 b4, .int .i64 b5, .int .i64 b6]
  rw [size_sets] at h2
  have hbb := below_sets (B := Wd.heap.size) (b := g) hg ps (h0.trans (hb.mono s1))
  have hs := hbb.size
  exact ⟨_, _, _, v0, v1, v2, v3, v4, v5, A2, c2, out, b0, b1, b2, b3, b4, b5, b6, er, rfl, rfl, rfl, hq, three_mem H (hbb.alloc hs _) (h1.alloc _) h2 ((own_sets hg2 ps ho).alloc _) (by omega) hg (by omega) s1 (by decide) (by decide)⟩
/-- The bill's variable stood there at the call. -/
theorem out_d {w Wd W0 we : World} {L : List Chunk} {Q : List Int → Option Addr → Nat → List (Nat × Nat) → List Int → Int → Prop} {v0 v1 v2 v3 v4 v5 : Int} {A2 : Option Addr} {c2 : Nat} {out : List (Nat × Nat)} {b0 b1 b2 b3 b4 b5 b6 er : Int} {g : Nat} {cz : Array Value} (ps : List (Nat × Value)) (H : Mem w [] Wd L) (h0 : Below Wd.heap.size Wd W0) (hb : Below W0.heap.size W0 we) (hz : Blk we g 23 cz) (hg : Wd.heap.size ≤ g) (hg2 : g < W0.heap.size) (hc : ps.foldl (fun cs p => cs.setIfInBounds p.1 p.2) cz = #[.int .i64 b0, .int .i64 b1, .int .i64 b2, .int .i64 b3, .int .i64 b4, .int .i64 b5, .int .i64 b6]) (hq : Q [v0, v1, v2, v3, v4, v5] A2 c2 out [b0, b1, b2, b3, b4, b5, b6] er) (ho : we.ownsRow W0.heap.size 25 2 (.slice A2 out.length c2) out.length (drs out)) :
    SellOut w L Q (.pointer (some ⟨we.heap.size, 0, none⟩)) (.pointer (some ⟨g, 0, none⟩)) (.int .i64 er) ((sets we g ps).alloc (.cells #[.int .i64 v0, .int .i64 v1, .int .i64 v2, .int .i64 v3, .int .i64 v4, .int .i64 v5, .slice A2 out.length c2] 59)) := by
  have s1 := h0.size
  have s2 := hb.size
  have h1 := Blk.sets ps hz
  rw [hc] at h1
  have h2 := Blk.new (sets we g ps) 59 #[.int .i64 v0, .int .i64 v1, .int .i64 v2, .int .i64 v3, .int .i64 v4, .int .i64 v5, .slice A2 out.length c2]
  rw [size_sets] at h2
  have hbb := below_sets (B := Wd.heap.size) (b := g) hg ps (h0.trans (hb.mono s1))
  have hs := hbb.size
  exact ⟨_, _, _, v0, v1, v2, v3, v4, v5, A2, c2, out, b0, b1, b2, b3, b4, b5, b6, er, rfl, rfl, rfl, hq, three_mem H (hbb.alloc hs _) h2 (h1.alloc _) ((own_sets hg2 ps ho).alloc _) (by omega) (by omega) hg s1 (by decide) (by decide)⟩
/-- Both stood there. -/
theorem out_e {w Wd W0 we : World} {L : List Chunk} {Q : List Int → Option Addr → Nat → List (Nat × Nat) → List Int → Int → Prop} {v0 v1 v2 v3 v4 v5 : Int} {A2 : Option Addr} {c2 : Nat} {out : List (Nat × Nat)} {b0 b1 b2 b3 b4 b5 b6 er : Int} {g g' : Nat} {cz cy : Array Value} (ps qs : List (Nat × Value)) (H : Mem w [] Wd L) (h0 : Below Wd.heap.size Wd W0) (hb : Below W0.heap.size W0 we) (hz : Blk we g 59 cz) (hy : Blk we g' 23 cy) (hn : g ≠ g') (hg : Wd.heap.size ≤ g) (hg2 : g < W0.heap.size) (hg' : Wd.heap.size ≤ g') (hg2' : g' < W0.heap.size)
    (hc : ps.foldl (fun cs p => cs.setIfInBounds p.1 p.2) cz = #[.int .i64 v0, .int .i64 v1, .int .i64 v2, .int .i64 v3, .int .i64 v4, .int .i64 v5, .slice A2 out.length c2]) (hc' : qs.foldl (fun cs p => cs.setIfInBounds p.1 p.2) cy = #[.int .i64 b0, .int .i64 b1, .int .i64 b2, .int .i64 b3, .int .i64 b4, .int .i64 b5, .int .i64 b6]) (hq : Q [v0, v1, v2, v3, v4, v5] A2 c2 out [b0, b1, b2, b3, b4, b5, b6] er) (ho : we.ownsRow W0.heap.size 25 2 (.slice A2 out.length c2) out.length (drs out)) :
    SellOut w L Q (.pointer (some ⟨g, 0, none⟩)) (.pointer (some ⟨g', 0, none⟩)) (.int .i64 er) (sets (sets we g ps) g' qs) := by
  have s1 := h0.size
  have s2 := hb.size
  have h1 := Blk.sets_far hn qs (Blk.sets ps hz)
  rw [hc] at h1
  have h2 := Blk.sets qs (Blk.sets_far (Ne.symm hn) ps hy)
  rw [hc'] at h2
  exact ⟨_, _, _, v0, v1, v2, v3, v4, v5, A2, c2, out, b0, b1, b2, b3, b4, b5, b6, er, rfl, rfl, rfl, hq, three_mem H (below_sets hg' qs (below_sets hg ps (h0.trans (hb.mono s1)))) h1 h2 (own_sets hg2' qs (own_sets hg2 ps ho)) hn hg hg' s1 (by decide) (by decide)⟩
end Go.Proofs.Ytnpkondgpmncnaa
