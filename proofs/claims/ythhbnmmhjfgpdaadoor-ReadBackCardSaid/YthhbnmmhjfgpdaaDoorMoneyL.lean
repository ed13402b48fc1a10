/- cents.Read: what it makes of any text; of an amount's own text. -/
import Derived.Test.YthhbnmmhjfgpdaaDoorMoneyR
import Derived.Test.YthhbnmmhjfgpdaaDoorPicked
namespace Go.Proofs.YthhbnmmhjfgpdaaDoor
open Go.RowKit
set_option linter.unusedVariables false
theorem indexByte_at (c : UInt8) (q : List UInt8) : ∀ p : List UInt8, c ∉ p → Lib.indexByte (p ++ c :: q) c = (p.length : Int)
  | [], _ => by simp [Lib.indexByte]
  | b :: p, h => by
    have hb : (b == c) = false := by
      have : b ≠ c := fun e => h (by simp [e])
      simpa using this
    have ih := indexByte_at c q p (fun hm => h (by simp [hm]))
    have h9 : ((p.length : Int) == -1) = false := by rw [beq_eq_false_iff_ne]; omega
    simp only [List.cons_append, Lib.indexByte, hb, Bool.false_eq_true, if_false, ih, h9]
    simp
theorem dg_ne {d : Nat} (h : d ≤ 9) (c : UInt8) (hc : c.toNat < 48) : dg d ≠ c := by
  intro e
  have := congrArg UInt8.toNat e
  rw [dg_toNat h] at this
  omega
/-- The parts of an amount's text. -/
theorem money_parts (neg : Bool) (D : List Nat) (a b : Nat) (h0 : 0 < D.length) (hD : ∀ d ∈ D, d ≤ 9) :
    Lib.hasPrefix (moneyS neg D a b).data.toList [45] = neg ∧ (⟨(Lib.trimPrefix (moneyS neg D a b).data.toList [45]).toArray⟩ : ByteArray) = dstr D ++ ⟨#[46]⟩ ++ dstr [a, b] := by
  have hB : (dstr D ++ ⟨#[46]⟩ ++ dstr [a, b] : ByteArray).data.toList = D.map dg ++ (46 :: [a, b].map dg) := by
    rw [app_toList, app_toList, dstr_toList, dstr_toList]; simp
  cases neg with
  | true =>
    have e : (moneyS true D a b).data.toList = 45 :: (D.map dg ++ (46 :: [a, b].map dg)) := by
      unfold moneyS
      rw [if_pos rfl, app_toList, hB]; rfl
    rw [e]
    refine ⟨by simp [Lib.hasPrefix], ?_⟩
    apply str_ext
    rw [hB]
    simp [Lib.trimPrefix, Lib.hasPrefix]
  | false =>
    have e : (moneyS false D a b).data.toList = D.map dg ++ (46 :: [a, b].map dg) := by
      unfold moneyS
      rw [if_neg (by simp), app_toList, hB]; rfl
    have hp : Lib.hasPrefix (D.map dg ++ (46 :: [a, b].map dg)) [45] = false := by
      cases D with
      | nil => simp at h0
      | cons d D =>
        have := dg_ne (hD d (by simp)) 45 (by decide)
        simp [Lib.hasPrefix, List.isPrefixOf]
        exact fun h => this h.symm
    rw [e]
    refine ⟨hp, ?_⟩
    apply str_ext
    unfold Lib.trimPrefix
    rw [hp, hB]
    simp
theorem money_cut (D : List Nat) (a b : Nat) (hD : ∀ d ∈ D, d ≤ 9) :
    Lib.indexByte (dstr D ++ ⟨#[46]⟩ ++ dstr [a, b] : ByteArray).data.toList 46 = ((dstr D).size : Int) ∧ (dstr D ++ ⟨#[46]⟩ ++ dstr [a, b] : ByteArray).extract 0 (dstr D).size = dstr D ∧ (dstr D ++ ⟨#[46]⟩ ++ dstr [a, b] : ByteArray).extract ((dstr D).size + 1) (dstr D ++ ⟨#[46]⟩ ++ dstr [a, b] : ByteArray).size = dstr [a, b] ∧ (dstr D ++ ⟨#[46]⟩ ++ dstr [a, b] : ByteArray).size = (dstr D).size + 1 + (dstr [a, b]).size := by
  have hB : (dstr D ++ ⟨#[46]⟩ ++ dstr [a, b] : ByteArray).data.toList = D.map dg ++ (46 :: [a, b].map dg) := by
    rw [app_toList, app_toList, dstr_toList, dstr_toList]; simp
  have hs : (dstr D ++ ⟨#[46]⟩ ++ dstr [a, b] : ByteArray).size = (dstr D).size + 1 + (dstr [a, b]).size := by
    rw [ByteArray.size_append, ByteArray.size_append]; rfl
  refine ⟨?_, ?_, ?_, hs⟩
  · rw [hB, indexByte_at 46 _ _ ?_]
    · rw [dstr_size]; simp
    · intro hm
      obtain ⟨d, hd, he⟩ := List.mem_map.1 hm
      exact dg_ne (hD d hd) 46 (by decide) he
  · apply str_ext
    rw [Lib.extract_data, hB, dstr_toList, dstr_size]
    simp
  · apply str_ext
    rw [Lib.extract_data, hB, hs, dstr_toList, dstr_size, dstr_size]
    have e : D.map dg ++ (46 :: [a, b].map dg) = (D.map dg ++ [46]) ++ [a, b].map dg := by simp
    rw [e, List.drop_left' (by simp)]
    simp
theorem satv_val {ds : List Nat} (h : val10 ds ≤ 1000000000000) : satv ds = val10 ds := satv_small h
theorem read_good (neg : Bool) (D : List Nat) (a b : Nat) (hc : Canon neg D a b) (hs : (moneyS neg D a b).size ≤ 20) (w : World) :
    Calls Tryd.prog 17 #[.string (moneyS neg D a b)] w (RetRead (signed neg (val10 (D ++ [a, b]))) 0 w) := by
  obtain ⟨h0, hD, ha, hb, hh, hv, hn⟩ := hc
  obtain ⟨p1, p2⟩ := money_parts neg D a b h0 hD
  obtain ⟨c1, c2, c3, c4⟩ := money_cut D a b hD
  have hss : (dstr D ++ ⟨#[46]⟩ ++ dstr [a, b] : ByteArray).size ≤ 20 := by
    have : (moneyS neg D a b).size = (if neg then (⟨#[45]⟩ : ByteArray) else ⟨#[]⟩).size + (dstr D ++ ⟨#[46]⟩ ++ dstr [a, b] : ByteArray).size := by unfold moneyS; rw [ByteArray.size_append]
    omega
  have hP := cutp_is (moneyS neg D a b) _ neg p1 p2
  have hC := cut_some _ (dstr D) (dstr [a, b]) c1 c2 c3 c4 hss
  have hD1 := dstr_size D
  have h21 : (dstr [a, b]).size = 2 := dstr_size [a, b]
  have hT : dstr D ++ dstr [a, b] = dstr (D ++ [a, b]) := (dstr_append D [a, b]).symm
  have hds : ∀ d ∈ D ++ [a, b], d ≤ 9 := by
    intro d hd
    rcases List.mem_append.1 hd with h | h
    · exact hD d h
    · simp at h; rcases h with rfl | rfl <;> assumption
  have hsv := satv_small hv
  have hc0 := dstr_byte hD 0 (by omega)
  have hz : decide ((1 : Int) < ((dstr D).size : Int)) = false ∨ ((1 : Int) < ((dstr D).size : Int) ∧ ((((48 + D[0] : Nat) : Int)) == 48) = false) := by
    rcases hh with h | h
    · exact .inl (by rw [hD1]; simp; omega)
    · by_cases h1 : 1 < D.length
      · refine .inr ⟨by omega, ?_⟩
        have : D[0] ≠ 0 := fun e => h (by rw [List.getElem?_eq_getElem h0, e])
        rw [beq_eq_false_iff_ne]; omega
      · exact .inl (by rw [hD1]; simp; omega)
  have hle : D.length ≤ 20 := by rw [c4, hD1] at hss; omega
  have he := dstr_empty h0
  cases neg with
  | true =>
    have := read_neg _ _ (dstr D) (dstr [a, b]) true w hP hC hs he h21 (by omega) (by omega) (48 + D[0]) hc0 hz (D ++ [a, b]) hds hT rfl (by rw [hsv]; exact hn rfl) (by rw [hsv]; exact hv)
    rw [hsv] at this
    exact this
  | false =>
    have := read_pos _ _ (dstr D) (dstr [a, b]) false w hP hC hs he h21 (by omega) (by omega) (48 + D[0]) hc0 hz (D ++ [a, b]) hds hT rfl (by rw [hsv]; exact hv)
    rw [hsv] at this
    exact this
/-- What any text is read as: no amount; or the amount whose text it is. -/
def RetAny (s : ByteArray) (w : World) (e : Ending) (w' : World) : Prop :=
  ∃ n E : Int, e = .returned (.tuple #[.int .i64 n, .int .i64 E]) ∧ ((¬ E = 0 ∧ n = 0) ∨ (E = 0 ∧ -1000000000000 ≤ n ∧ n ≤ 1000000000000 ∧ s = shown n)) ∧ Below w.heap.size w w'
theorem retany_bad {s : ByteArray} {E : Int} {w : World} {e : Ending} {w' : World} (hE : ¬ E = 0) (h : RetRead 0 E w e w') : RetAny s w e w' := ⟨0, E, h.1, .inl ⟨hE, rfl⟩, h.2⟩
theorem read_any (s : ByteArray) (w : World) (hm : s.size ≤ 9223372036854775807) : Calls Tryd.prog 17 #[.string s] w (RetAny s w) := by
  by_cases hs : s.size ≤ 20
  · obtain ⟨neg, B, hP, hsB, hBs⟩ : ∃ (neg : Bool) (B : ByteArray), (∀ W, Calls Tryd.prog 23 #[.string s, .string ⟨#[45]⟩] W fun e w' => e = .returned (.tuple #[.string B, .bool neg]) ∧ W = w') ∧ s = (if neg then ⟨#[45]⟩ else ⟨#[]⟩) ++ B ∧ B.size ≤ 20 := by
      rcases prefix_spec s with ⟨h1, B, h2, h3, h4⟩ | ⟨h1, h2⟩
      · exact ⟨true, B, cutp_is s B true h1 h3, h2, by omega⟩
      · refine ⟨false, s, cutp_is s s false h1 h2, ?_, hs⟩
        apply str_ext; simp
    rcases cut_spec B with hn | ⟨wh, la, e1, e2, e3, e4, e5, e6⟩
    · exact (read_nodot s B B ⟨#[]⟩ neg w hP (cut_none B hn) hs).mono fun _ _ h => retany_bad (by omega) h
    · have hC := cut_some B wh la e3 e4 e5 e6 hBs
      have hwl : wh.size ≤ 20 := by omega
      by_cases hemp : wh.size = 0
      · have he : wh.toList.isEmpty = true := by
          rw [Lib.toList_data]
          have : wh.data.toList.length = 0 := by rw [Array.length_toList]; exact hemp
          rw [List.isEmpty_iff]
          exact List.eq_nil_of_length_eq_zero this
        exact (read_empty s B wh la neg w hP hC hs he).mono fun _ _ h => retany_bad (by omega) h
      · have h0 : 0 < wh.size := by omega
        have he : wh.toList.isEmpty = false := by
          rw [Lib.toList_data]
          cases hl : wh.data.toList with
          | nil =>
            have : wh.data.toList.length = 0 := by rw [hl]; rfl
            rw [Array.length_toList] at this
            exact absurd this hemp
          | cons x l => rfl
        by_cases h2 : la.size = 2
        · obtain ⟨c0, hc0⟩ : ∃ c : Nat, wh[0].toNat = c := ⟨_, rfl⟩
          by_cases hlz : 1 < wh.size ∧ c0 = 48
          · exact (read_zero s B wh la neg w hP hC hs he h2 hlz.1 hwl (by rw [hc0]; exact hlz.2)).mono fun _ _ h => retany_bad (by omega) h
          · have hz : decide ((1 : Int) < (wh.size : Int)) = false ∨ ((1 : Int) < (wh.size : Int) ∧ ((c0 : Int) == 48) = false) := by
              by_cases h1 : 1 < wh.size
              · exact .inr ⟨by omega, by rw [beq_eq_false_iff_ne]; omega⟩
              · exact .inl (by simp; omega)
            rcases digits_or (wh ++ la) with ⟨ds, hds, hT⟩ | ⟨j, hj, hnj, hdj⟩
            · by_cases hv : val10 ds ≤ 1000000000000
              · have hsv := satv_small hv
                by_cases hn0 : neg = true ∧ val10 ds = 0
                · exact (read_minus0 s B wh la neg w hP hC hs he h2 hwl h0 c0 hc0 hz ds hds hT hn0.1 (by rw [hsv]; exact hn0.2)).mono fun _ _ h => retany_bad (by omega) h
                · -- the text of an amount
                  have hdl : ds.length = wh.size + 2 := by
                    have := congrArg ByteArray.size hT
                    rw [ByteArray.size_append, dstr_size] at this
                    omega
                  have hwh : wh = dstr (ds.take wh.size) := by
                    apply str_ext
                    have := congrArg (fun x : ByteArray => x.data.toList.take wh.size) hT
                    simp only [app_toList, dstr_toList] at this
                    rw [dstr_toList, List.map_take, ← this, List.take_append_of_le_length (by rw [Array.length_toList]; exact Nat.le_refl _)]
                    rw [List.take_of_length_le (by rw [Array.length_toList]; exact Nat.le_refl _)]
                  have hla : la = dstr (ds.drop wh.size) := by
                    apply str_ext
                    have := congrArg (fun x : ByteArray => x.data.toList.drop wh.size) hT
                    simp only [app_toList, dstr_toList] at this
                    rw [dstr_toList, List.map_drop, ← this]
                    have hl : wh.data.toList.length = wh.size := Array.length_toList
                    rw [← hl, List.drop_left]
                  obtain ⟨D, hDD⟩ : ∃ D, ds.take wh.size = D := ⟨_, rfl⟩
                  obtain ⟨ab, hab⟩ : ∃ D, ds.drop wh.size = D := ⟨_, rfl⟩
                  have habl : ab.length = 2 := by rw [← hab, List.length_drop]; omega
                  have hDl : D.length = wh.size := by rw [← hDD, List.length_take]; omega
                  have hdab : ds = D ++ ab := by rw [← hDD, ← hab, List.take_append_drop]
                  rw [hDD] at hwh
                  rw [hab] at hla
                  match ab, habl with
                  | [a, b], _ =>
                    have hcan : Canon neg D a b := by
                      refine ⟨by omega, fun d hd => hds d (by rw [hdab]; simp [hd]), hds a (by rw [hdab]; simp), hds b (by rw [hdab]; simp), ?_, by rw [← hdab]; exact hv, fun hn => by rw [← hdab]; exact Nat.pos_of_ne_zero fun h => hn0 ⟨hn, h⟩⟩
                      by_cases h1 : D.length = 1
                      · exact .inl h1
                      · refine .inr fun h => hlz ⟨by omega, ?_⟩
                        have hD0 : D[0]'(by omega) = 0 := by
                          rw [List.getElem?_eq_getElem (by omega)] at h
                          exact Option.some.inj h
                        have hb := dstr_byte (l := D) (fun d hd => hds d (by rw [hdab]; simp [hd])) 0 (by rw [dstr_size]; omega)
                        rw [hD0] at hb
                        subst hwh
                        rw [← hc0, hb]
                    have hsm : s = moneyS neg D a b := by rw [hsB, e1, hwh, hla]; rfl
                    have h := read_good neg D a b hcan (by rw [← hsm]; exact hs) w
                    rw [← hsm] at h
                    have hsh := shown_canon hcan
                    have hvv : val10 (D ++ [a, b]) ≤ 1000000000000 := hcan.2.2.2.2.2.1
                    refine h.mono fun e w' h => ⟨_, 0, h.1, .inr ⟨rfl, ?_, ?_, ?_⟩, h.2⟩
                    · unfold signed; split <;> omega
                    · unfold signed; split <;> omega
                    · rw [hsh]; exact hsm
              · have hsv := satv_big hv
                cases neg with
                | true => exact (read_big_neg s B wh la true w hP hC hs he h2 hwl h0 c0 hc0 hz ds hds hT rfl hsv).mono fun _ _ h => retany_bad (by omega) h
                | false => exact (read_big_pos s B wh la false w hP hC hs he h2 hwl h0 c0 hc0 hz ds hds hT rfl hsv).mono fun _ _ h => retany_bad (by omega) h
            · exact (read_sign s B wh la neg w hP hC hs he h2 hwl h0 c0 hc0 hz (wh ++ la) rfl j hj hnj hdj).mono fun _ _ h => retany_bad (by omega) h
        · exact (read_cents s B wh la neg w hP hC hs he h2 (by omega)).mono fun _ _ h => retany_bad (by omega) h
  · exact (read_long s w hs hm).mono fun _ _ h => retany_bad (by omega) h
end Go.Proofs.YthhbnmmhjfgpdaaDoor
