/- pocket.Make. -/
import Derived.Test.YtopnlkhepjbjkaaDoorG31
import Derived.Laws.CopyOwn
import Derived.Deep.RegionLaw
namespace Go.Proofs.YtopnlkhepjbjkaaDoor
open Go.RowKit
set_option linter.unusedVariables false
theorem u32_size : (Tryd.prog.info? 67).map (·.size) = some 1 := by kernel_rfl
set_option maxHeartbeats 400000 in
/-- Fresh slots of five words, in a block of their own. -/
theorem fresh_blk (w : World) : Calls Tryd.prog 19 #[.int .i64 5] w fun e w' => ∃ g, e = .returned (.tuple #[.slice (some ⟨g, 0, none⟩) 12 12, .int .i64 0]) ∧ w.heap.size ≤ g ∧ Blk w' g 67 (ws (1 :: List.replicate 11 0)).toArray ∧ Below w.heap.size w w' := by
  have hmk0 := run_make_n (P := Tryd.prog) Tryd.underlying23 u32_info 12 (by omega) (by omega)
  obtain ⟨L, hL⟩ : ∃ L : List Value, List.replicate 11 (Value.int .u32 0) = L := ⟨_, rfl⟩
  have hmk : ∀ w : World, (Instr.makeSlice 23 (.int .i64 12) (.int .i64 12)).run Tryd.prog w = .ok (.slice (some ⟨w.heap.size, 0, none⟩) 12 12) (w.alloc (.cells (Value.int .u32 0 :: L).toArray 67)) := fun w => by
    have := hmk0 w
    simp only [Int.cast_ofNat_Int] at this
    rw [this, ← hL]
    congr 4
  have HL := Lib.hid hL
  clear hL hmk0
  go_enter Tryd.func19, Tryd.ntmps19
  go_wp2
  go_ret2
  have e3 : ws (1 :: List.replicate 11 0) = Value.int .u32 1 :: L := by rw [← HL.out]; rfl
  rw [e3]
  have hq := Blk.new w 67 (Value.int .u32 1 :: L).toArray
  exact ⟨w.heap.size, rfl, Nat.le_refl _, by simpa using hq, by simpa using below_a1 w _⟩
set_option maxRecDepth 100000 in
set_option maxHeartbeats 4000000 in
theorem pmake_ok (me : Nat) (w : World) (h : me < 50) : Calls Tryd.prog 7 #[.int .i64 (me : Int)] w (RetWsOk ((1 :: mws me 0 0 0 0 0 0) ++ (0 :: List.replicate 5 0)) w) := by
  have hm : mmay ((me : Nat) : Int) ((0 : Nat) : Int) ((0 : Nat) : Int) ((0 : Nat) : Int) 0 ((0 : Nat) : Int) ((0 : Nat) : Int) = true := may_of h (by omega) (by omega) (by omega) (by omega) (by omega) (.inl ⟨rfl, rfl⟩)
  have hB := fun W => begin_ok me W h
  have hW := fun W => mwords_ok me 0 0 0 0 0 0 W (by decide) hm
  have hF := fun W => fresh_blk W
  obtain ⟨rec, hrec⟩ : ∃ r, mws me 0 0 0 0 0 0 = r := ⟨_, rfl⟩
  have hrl : rec.length = 5 := by rw [← hrec]; rfl
  rw [hrec] at hW ⊢
  simp only [Int.cast_ofNat_Int] at hW hF
  clear hm hrec
  have HM := Mem.init w
  go_enter Tryd.func7, Tryd.ntmps7
  go_wp2_with fail
  refine (hB _).mono ?_
  rintro e wa ⟨rfl, hba⟩
  replace HM : Mem (w) [] (wa) [] := Mem.call HM hba
  clear hba hB
  go_wp2_with fail
  obtain ⟨W1, hW1⟩ : ∃ W1, (wa).alloc (.cells #[.int .i64 (me : Int), .int .i64 0, .int .i64 0, .int .i64 0, .int .u64 0, .int .i64 0, .int .i64 0] 39) = W1 := ⟨_, rfl⟩
  replace HM : Mem (w) [] _ [.blk (wa.heap.size) 39 #[.int .i64 (me : Int), .int .i64 0, .int .i64 0, .int .i64 0, .int .u64 0, .int .i64 0, .int .i64 0]] := Mem.alloc HM (wa.heap.size) (by first | (simp; done) | (simp; omega)) #[.int .i64 (me : Int), .int .i64 0, .int .i64 0, .int .i64 0, .int .u64 0, .int .i64 0, .int .i64 0] 39
  rw [hW1] at HM ⊢
  clear hW1
  refine (hW _).mono ?_
  rintro e wb ⟨u, rfl, hu, hbb⟩
  replace HM : Mem (w) [] (wb) [.blk (wa.heap.size) 39 #[.int .i64 (me : Int), .int .i64 0, .int .i64 0, .int .i64 0, .int .u64 0, .int .i64 0, .int .i64 0]] := Mem.call HM hbb
  clear hbb hW
  go_wp2_with fail
  refine (hF _).mono ?_
  rintro e wd ⟨g, rfl, hg, hblk, hbd⟩
  have hgw : w.heap.size ≤ g := Nat.le_trans HM.below.size hg
  have hu2 := hu.below hbd
  replace HM : Mem (w) [] (wd) [.blk (wa.heap.size) 39 #[.int .i64 (me : Int), .int .i64 0, .int .i64 0, .int .i64 0, .int .u64 0, .int .i64 0, .int .i64 0]] := Mem.call HM hbd
  have HB := HM.below
  have hblk' : wd.heap[g]? = some (.cells (ws (1 :: List.replicate 11 0)).toArray 67 (0, 0)) := hblk
  clear hbd hF HM hu hg
  obtain ⟨A, c, rfl, hc1, hc2, hx, hr⟩ := hu2
  obtain ⟨bk, off, rfl, hBk, hcell⟩ := hr.at_ (by omega)
  rw [hrl] at hc1 ⊢
  have hone : ∀ v ∈ ws rec, v.oneCell' = true := fun v hv => by
    obtain ⟨x, _, rfl⟩ := List.mem_map.1 hv
    rfl
  have hwl : (ws rec).length = 5 := by rw [ws_length, hrl]
  have HX := Lib.hid hx
  have HR := Lib.hid hrl
  clear hx hr hc1 hc2
  obtain ⟨W5, hW5⟩ : ∃ W5, wd.setRow g (((ws (1 :: List.replicate 11 0)).toArray.toList.take 1 ++ ws rec ++ (ws (1 :: List.replicate 11 0)).toArray.toList.drop (1 + (ws rec).length)).toArray) = W5 := ⟨_, rfl⟩
  have hrun := run_copy_row (P := Tryd.prog) wd 23 23 3 67 g 1 11 11 ⟨bk, off, none⟩ 5 c _ 67 (ws rec) Tryd.underlying23 u32_size hblk' (by rw [hwl]; rfl) (fun j v hv => by rw [add_none]; exact hcell j v hv) (by rw [hwl]; decide) hone
  have h5 := setRow_heap wd g _ (((ws (1 :: List.replicate 11 0)).toArray.toList.take 1 ++ ws rec ++ (ws (1 :: List.replicate 11 0)).toArray.toList.drop (1 + (ws rec).length)).toArray) 67 _ hblk'
  have hb5 := below_setRow HB hgw (((ws (1 :: List.replicate 11 0)).toArray.toList.take 1 ++ ws rec ++ (ws (1 :: List.replicate 11 0)).toArray.toList.drop (1 + (ws rec).length)).toArray)
  rw [hW5] at hrun h5 hb5
  have hB5 : Blk W5 g 67 (ws ((1 :: rec) ++ (0 :: List.replicate 5 0))).toArray := by
    have h6 := h5
    rw [hwl] at h6
    show W5.heap[g]? = _
    rw [h6]
    congr 2
    show (_ : List Value).toArray = _
    congr 1
    simp [ws]
  rw [hwl] at hrun
  have HB5 := Lib.hid hB5
  clear hblk hblk' hcell hone h5 hB5 hwl hW5
  go_wp2
  go_ret2
  have hlen : ((1 :: rec) ++ (0 :: List.replicate 5 0)).length = 12 := by simp [HR.out]
  have hI := isws_blk (w := W5) (g := g) (t := 67) (xs := (1 :: rec) ++ (0 :: List.replicate 5 0)) (by rw [hlen]; unfold maxLen; omega) (by
    intro x hx'
    simp only [List.cons_append, List.mem_cons, List.mem_append, List.mem_replicate] at hx'
    rcases hx' with rfl | hx' | rfl | ⟨_, rfl⟩
    · omega
    · exact HX.out x hx'
    · omega
    · omega) HB5.out
  rw [hlen] at hI
  exact ⟨_, rfl, hI, hb5⟩
end Go.Proofs.YtopnlkhepjbjkaaDoor
