/- The walk of the law PadScripts. -/
import Derived.Test.YthhbnmmhjfgpdaaDoorWPadUndo
namespace Go.Proofs.YthhbnmmhjfgpdaaDoor
open Go.RowKit
set_option linter.unusedVariables false
theorem el_i32 : Elem Tryd.prog 34 21 1 4 := elem_of Tryd.underlying34 (show _ = some (some (.int .i32 0), 1, 4) by kernel_rfl) rfl (by omega)
/-- string(v) of a row of runes that v owns. -/
theorem own_runes {w : World} {base : Nat} {A : Option Addr} {n c : Nat} {ns : List Int} (h : w.ownsRow base 21 1 (.slice A n c) n (ns.map (Value.int .i32))) : (convert 34 9 (.slice A n c)).run Tryd.prog w = .ok (.string (rtext ns)) w := by
  have hlen : ns.length = n := by have := h.1; simpa using this
  by_cases hn : 0 < n
  · obtain ⟨b, off, rfl, _, hc⟩ := (Rd.of_own h).at_ hn
    have h2 := run_convert_runes (P := Tryd.prog) w 34 9 21 ⟨b, off, none⟩ n c ns (by omega) Tryd.underlying34 Tryd.underlying21 Tryd.underlying9 (fun j hj => by
      have := hc j (.int .i32 (ns.getD j 0)) (by simp [List.getD, List.getElem?_eq_getElem hj])
      rw [add_none]
      exact this)
    rw [List.take_of_length_le (by omega)] at h2
    exact h2
  · have h0 : n = 0 := by omega
    subst h0
    have hns : ns = [] := List.eq_nil_of_length_eq_zero hlen
    subst hns
    rcases h.2 with ⟨h1, _⟩ | ⟨g, cap, cur, h1, _⟩
    · injection h1 with h1; subst h1
      exact run_convert_runes_nil w _ _ 21 _ _ Tryd.underlying34 Tryd.underlying21 Tryd.underlying9
    · injection h1 with h1; subst h1
      have h2 := run_convert_runes (P := Tryd.prog) w 34 9 21 ⟨g, 0, none⟩ 0 c [] (by simp) Tryd.underlying34 Tryd.underlying21 Tryd.underlying9 (fun j hj => by simp at hj)
      exact h2
/-- A slice of ints that came in. -/
def IsIs (w : World) (v : Value) (zs : List Int) : Prop := ∃ (A : Option Addr) (n c : Nat), v = .slice A n c ∧ zs.length = n ∧ (∀ z ∈ zs, (Lit.int .i64 z).wf = true) ∧ Rd w w.heap.size 1 A n (zs.map (Value.int .i64)) ∧ n ≤ maxLen
theorem is_fit {v : Value} {w : World} (h : Fit Tryd.prog w 33 v) : ∃ zs, IsIs w v zs := by
  obtain ⟨A, n, c, rfl, hc⟩ := h.slice Tryd.underlying33
  obtain ⟨hn, hm, zs, hz, hw, hr⟩ := hc.slice_int Tryd.underlying33 (by kernel_rfl) Tryd.underlying3
  exact ⟨zs, A, n, c, rfl, hz, hw, hr, by omega⟩
set_option maxRecDepth 100000 in
set_option maxHeartbeats 4000000 in
theorem walk_padScripts (w : World) (a0 : Value) (w0 : Fit Tryd.prog w 22 a0) (a1 : Value) (w1 : Fit Tryd.prog w 33 a1) :
    Calls Tryd.prog 4 #[a0, a1] w fun e w' => e = .returned (.bool true) ∧ Below w.heap.size w w' := by
  obtain ⟨zs, A1, n1, c1, rfl, hz1, hzw, hzr, hzm⟩ := is_fit w1
  clear w1
  have H := Mem.init w
  go_enter Tryd.func4, Tryd.ntmps4
  go_wp2_with fail
  refine (numerals_fit w0 30 (by omega) (by omega)).mono ?_
  rintro e wa ⟨ds, hpos, hlen, hdD, rfl, hba⟩
  replace H : Mem (w) [] (wa) [] := Mem.call H hba
  clear hba w0
  have hsz := dstr_size ds
  go_wp2
  go_loopw [6, 7] (fun v i wr => ∃ (k : Nat) (R : List Int) (A : Option Addr) (c : Nat), k ≤ ds.length ∧ i = .int .i64 (k : Int) ∧ R.length = k ∧ (∀ r ∈ R, Utf8.valid r = true ∧ 0 ≤ kv r) ∧ Hid (R.map (fun r => (kv r).toNat) = ds.take k) ∧ v = .slice A k c ∧ Mem w [] wr [.row w.heap.size 21 1 (.slice A k c) k (R.map (Value.int .i32))]) (fun _ i _ => ds.length - (intOf i).toNat)
  case atStart => exact ⟨0, [], none, 0, by omega, rfl, rfl, by simp, Lib.hid rfl, rfl, H.nilrow _ _ _⟩
  case round =>
    obtain ⟨k, R, A, c, hk, rfl, hRl, hRv, hRd, rfl, HM⟩ := hrel
    clear H
    have H : Mem (w) [] (wr) [.row (w.heap.size) (21) (1) (.slice A k c) (k) (R.map (Value.int .i32))] := HM
    clear HM
    have HRl := Lib.hid hRl
    clear hRl

    by_cases hlt : k < ds.length
    · have hb := dstr_byte hdD k (by rw [hsz]; exact hlt)
      have h9 := hdD _ (List.getElem_mem hlt)
      have hds := List.take_succ_eq_append_getElem hlt
      obtain ⟨d, hdd⟩ : ∃ d, ds[k] = d := ⟨_, rfl⟩
      rw [hdd] at hb h9 hds
      have HD := Lib.hid hds
      clear hdd hds hdD

      by_cases hs : k < n1
      · obtain ⟨b, off, rfl, hB, hc⟩ := hzr.at_ (by omega)
        have hkz : k < zs.length := by omega
        have hck : wr.cell? ⟨b, off + k, none⟩ = some (.int .i64 zs[k]) := (H.below.cell (p := ⟨b, off + k, none⟩) hB).trans (hc k _ (by simp [hkz]))
        have hzk := hzw _ (List.getElem_mem hkz)
        obtain ⟨x, hx⟩ : ∃ x, zs[k] = x := ⟨_, rfl⟩
        rw [hx] at hck hzk
        obtain ⟨j, hj, hj6⟩ := pk_nat x 6 (by omega)
        have hSc := fun W => script_is x j W hj hj6 hzk
        obtain ⟨hkv, hkd, hz0, hzz, hz2, hz3⟩ := zero6_kv j d hj6 h9
        obtain ⟨z, hz⟩ : ∃ z, zero6 j = z := ⟨_, rfl⟩
        rw [hz] at hSc hkv hkd hz0 hzz hz2 hz3
        have i2 : IntKind.i32.wrap (z + (d : Int)) = z + (d : Int) := i32_in (by omega) (by omega)
        clear hz hj hj6 hx hc hzr hzw hkz hzk

        go_wp2_with (first | (go_at_call 11; (with_reducible refine (hSc _).mono ?_); rintro e w' ⟨rfl, rfl⟩) | (at_builtin; refine wpList_pushM el_i32 rfl (.tmp 29) (.tmp 37) rfl 0 H rfl rfl _ rfl rfl (news := [.int .i32 (z + (48 + (d : Int) - 48))]) rfl (fun u hu => by simp at hu; subst hu; rfl) (by omega) (by unfold maxLen; omega) H.keep.size ?_; intro A3 c3 w1 H1))
        replace H : Mem (w) [] (w1) [.row (w.heap.size) (21) (1) (.slice A3 (k + 1) c3) (k + 1) (R.map (Value.int .i32) ++ [.int .i32 (z + (48 + (d : Int) - 48))])] := H1
        clear H1
        go_roundw
        case rel =>
          refine ⟨k + 1, R ++ [z + (d : Int)], A3, c3, by omega, by go_num, by simp [HRl.out], fun r hr => ?_, ?_, rfl, ?_⟩
          · rcases List.mem_append.1 hr with h | h
            · exact hRv r h
            · simp only [List.mem_singleton] at h
              subst h
              exact ⟨hkd, by rw [hkv]; omega⟩
          · show _ = _
            rw [List.map_append, hRd.out, HD.out]
            simp [hkv]
          · have e : (R ++ [z + (d : Int)]).map (Value.int .i32) = R.map (Value.int .i32) ++ [.int .i32 (z + (48 + (d : Int) - 48))] := by
              rw [List.map_append, show (48 + (d : Int) - 48) = (d : Int) by omega]; rfl
            rw [e]; exact H
        case measure => simp [intOf]; omega
      · skip
        obtain ⟨hkv, hkd, hz0, hzz, hz2, hz3⟩ := zero6_kv 0 d (by omega) h9
        simp only [zero6, List.getD_cons_zero] at hkv hkd hz0 hzz hz2 hz3
        have i2 : IntKind.i32.wrap (48 + (d : Int)) = 48 + (d : Int) := i32_in (by omega) (by omega)

        go_wp2_with ((at_builtin; refine wpList_pushM el_i32 rfl (.tmp 29) (.tmp 37) rfl 0 H rfl rfl _ rfl rfl (news := [.int .i32 (48 + (48 + (d : Int) - 48))]) rfl (fun u hu => by simp at hu; subst hu; rfl) (by omega) (by unfold maxLen; omega) H.keep.size ?_; intro A3 c3 w1 H1))
        replace H : Mem (w) [] (w1) [.row (w.heap.size) (21) (1) (.slice A3 (k + 1) c3) (k + 1) (R.map (Value.int .i32) ++ [.int .i32 (48 + (48 + (d : Int) - 48))])] := H1
        clear H1
        go_roundw
        case rel =>
          refine ⟨k + 1, R ++ [48 + (d : Int)], A3, c3, by omega, by go_num, by simp [HRl.out], fun r hr => ?_, ?_, rfl, ?_⟩
          · rcases List.mem_append.1 hr with h | h
            · exact hRv r h
            · simp only [List.mem_singleton] at h
              subst h
              exact ⟨hkd, by rw [hkv]; omega⟩
          · show _ = _
            rw [List.map_append, hRd.out, HD.out]
            simp [hkv]
          · have e : (R ++ [48 + (d : Int)]).map (Value.int .i32) = R.map (Value.int .i32) ++ [.int .i32 (48 + (48 + (d : Int) - 48))] := by
              rw [List.map_append, show (48 + (d : Int) - 48) = (d : Int) by omega]; rfl
            rw [e]; exact H
        case measure => simp [intOf]; omega
    · skip
      have hke : k = ds.length := by omega
      have hRt := own_runes (H.own_ 0 rfl)
      have hRlen : R.length = ds.length := by rw [HRl.out]; exact hke
      have hRd2 : R.map (fun r => (kv r).toNat) = ds := by rw [hRd.out, hke, List.take_length]
      have hK := fun W => keys_one R ds W (fun r hr => (hRv r hr).1) (fun r hr => (hRv r hr).2) (by omega) (by omega) hRd2
      have hts := rtext_size R
      obtain ⟨T, hT⟩ : ∃ T, rtext R = T := ⟨_, rfl⟩
      rw [hT] at hRt hK hts
      have hcap : ¬ 9223372036854775807 < T.size + 1 := by omega
      have hE := fun W => pad_eql ByteArray.empty ByteArray.empty false false W
      have hE2 := fun W => ent_eql (dstr ds) (dstr ds) 0 0 W
      simp only [beq_self_eq_true, Bool.and_true] at hE hE2
      clear hRd2 hRlen hke hRv hRd hT hts hpos hlen hdD hzr hzw hz1 hzm
      go_wp2_with fail
      refine (hK _).mono ?_
      rintro e wb ⟨A5, c5, rfl, hown, hbb⟩
      replace H : Mem (w) [] (wb) [.row (w.heap.size) (21) (1) (.slice A k c) (k) (R.map (Value.int .i32))] := Mem.call H hbb
      obtain ⟨b, off, rfl, hB, hc⟩ := (Rd.of_own hown).at_ (by omega)
      have hc0 : wb.cell? ⟨b, off, none⟩ = some (.string (dstr ds)) := hc 0 _ rfl
      have hc1 : wb.cell? ⟨b, off + 1, none⟩ = some (.int .i64 0) := hc 1 _ rfl
      clear hK hbb hown hc
      replace H : Mem (w) [] _ [.row (w.heap.size) (21) (1) (.slice A k c) (k) (R.map (Value.int .i32)), .blk (wb.heap.size) 26 #[.string ByteArray.empty, .bool false]] := Mem.alloc H (wb.heap.size) (by first | (simp; done) | (simp; omega)) #[.string ByteArray.empty, .bool false] 26
      have pp0 : ((wb).alloc (.cells #[.string ByteArray.empty, .bool false] 26)).cell? ⟨wb.heap.size, 0, none⟩ = some (.string ByteArray.empty) := (H.blk 1 rfl).cell 0
      have ppf0 : ((wb).alloc (.cells #[.string ByteArray.empty, .bool false] 26)).frozen? ⟨wb.heap.size, 0, none⟩ = false := (H.blk 1 rfl).frozen 0
      have pp1 : ((wb).alloc (.cells #[.string ByteArray.empty, .bool false] 26)).cell? ⟨wb.heap.size, 1, none⟩ = some (.bool false) := (H.blk 1 rfl).cell 1
      have ppf1 : ((wb).alloc (.cells #[.string ByteArray.empty, .bool false] 26)).frozen? ⟨wb.heap.size, 1, none⟩ = false := (H.blk 1 rfl).frozen 1
      have pplt : wb.heap.size < ((wb).alloc (.cells #[.string ByteArray.empty, .bool false] 26)).heap.size := H.lt 1 rfl
      go_wp2
      go_ret
      exact ⟨rfl, H.below⟩
end Go.Proofs.YthhbnmmhjfgpdaaDoor
