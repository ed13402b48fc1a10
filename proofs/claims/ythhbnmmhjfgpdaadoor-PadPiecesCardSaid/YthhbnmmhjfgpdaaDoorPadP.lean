/- characters, sameEntries; append of a row of the call's own to another. -/
import Derived.Test.YthhbnmmhjfgpdaaDoorWPadScripts
import Derived.Test.YthhbnmmhjfgpdaaDoorPushN
import Derived.Maps.AppendAt
namespace Go.Proofs.YthhbnmmhjfgpdaaDoor
open Go.RowKit
set_option linter.unusedVariables false
section
variable {P : Program} {ops : Array Oper} {rest : List Oper} {o : Oper} {a : Act} {t e : TypeId} {size bytes : Nat} {w0 W : World} {G : List Nat} {L : List Chunk} {base base' n m c : Nat} {v : Value} {xs news : List Value} {A : Option Addr}
theorem wpList_pushNM {Q : Exit → Act → World → Prop} (E : Elem P t e size bytes) (hgd : o.guard = none) (s x : Operand)
    (ho : o.op = .call { callee := .builtin .append, args := #[s, x], argTypes := #[t, t] })
    (i j : Nat) (H : Mem w0 G W L) (hi : L[i]? = some (.row base e size v n xs)) (hj : L[j]? = some (.row base' e size (.slice A m c) m news)) (hs : a.eval s = v) (hx : a.eval x = .slice A m c)
    (h1 : ∀ u ∈ news, u.oneCell' = true) (hbytes : (n + m) * bytes ≤ 140737488355328) (hmax : n + m ≤ maxLen) (hbase : base ≤ W.heap.size)
    (h : ∀ A' c' w', Mem w0 G w' (L.set i (.row base e size (.slice A' (n + m) c') (n + m) (xs ++ news))) → wpList P ops Q rest (a.put o.dst (.slice A' (n + m) c')) w') : wpList P ops Q (o :: rest) a W := by
  have hown := H.own_ i hi
  have hownj := H.own_ j hj
  rcases A with _ | ad
  · have hm : m = 0 := by
      rcases hownj.2 with ⟨h2, h3⟩ | ⟨g, cap, cur, h2, _⟩
      · exact h3
      · cases h2
    subst hm
    have hn : news = [] := List.eq_nil_of_length_eq_zero (by simpa using hownj.1)
    subst hn
    obtain ⟨A', c', rfl⟩ := own_slice hown
    have hil := List.getElem?_eq_some_iff.1 hi
    have hset : L.set i (.row base e size (.slice A' (n + 0) c') (n + 0) (xs ++ [])) = L := by
      rw [Nat.add_zero, List.append_nil]
      apply List.ext_getElem?
      intro k
      rw [List.getElem?_set]
      split
      · subst_vars; rw [if_pos hil.1, hi]
      · rfl
    have hh := h A' c' W (by rw [hset]; exact H)
    refine wpList_plain hgd fun K hK => ?_
    have hrun := run_append_empty (P := P) (ty := o.type) E hown c
    unfold Oper.wp
    simp [execOp, ho, resolve, invoke, builtin, hs, hx, hrun, Result.andThen]
    exact hK _ _ hh
  · obtain ⟨i', z, hi', hz, hsize, hby, hzs⟩ := E.info
    refine wpList_append_own_at W hgd s x t ho base e i' z size bytes E.und hi' hz hsize hby hzs E.pos v n xs hs hown ad m c news hx hownj.1 ?_ h1 hmax hbytes hbase ?_
    · intro k u hu
      rcases hownj.2 with ⟨h2, h3⟩ | ⟨g, cap, cur, h2, _⟩
      · cases h2
      · have h4 := hownj.cells (g := g) (by rw [h2]; rfl) k u hu
        injection h2 with h2
        injection h2 with h2
        subst h2
        exact h4
    · intro v' w' ho' hg _ hor
      obtain ⟨A', c', rfl⟩ := own_slice ho'
      refine h A' c' w' (Mem.push i H hi hg ho' (fun k hk => ?_))
      rcases hor with h2 | h2
      · exact .inl (by rw [← h2]; exact hk)
      · rw [h2] at hk
        injection hk with hk
        exact .inr (by omega)
end
set_option maxRecDepth 1000000 in
set_option maxHeartbeats 2000000 in
theorem character_ok (n : Int) (w : World) (hn : (Lit.int .i64 n).wf = true) : Calls Tryd.prog 20 #[.int .i64 n] w fun e w' => ∃ r : Int, Utf8.valid r = true ∧ e = .returned (.int .i32 r) ∧ w = w' := by
  obtain ⟨p, hp2, hpl⟩ : ∃ p : Nat, Hid (pk n 1114112 = (p : Int)) ∧ (p : Int) < 1114112 := by
    obtain ⟨r, h1, h2, h3⟩ := pk_int n 1114112 (by omega)
    exact ⟨r.toNat, by show _ = _; rw [h1.out]; omega, by omega⟩
  have h9 : (p : Int) ≤ 1114111 := by omega
  have i1 : IntKind.i32.wrap (p : Int) = (p : Int) := i32_in (by omega) (by omega)
  by_cases h1 : 55296 ≤ p
  · by_cases h2 : p < 57344
    · have g1 : (55296 : Int) ≤ (p : Int) := by omega
      have g2 : (p : Int) < 57344 := by omega
      clear h1 h2 hpl
      go_enter Tryd.func20, Tryd.ntmps20
      go_wp2_with fail
      refine (picked_is _ hp2 hn (by omega) (by omega)).mono ?_
      rintro e w' ⟨rfl, rfl⟩
      go_wp2
      go_ret
      exact ⟨35, by decide, rfl, rfl⟩
    · have g1 : (55296 : Int) ≤ (p : Int) := by omega
      have g2 : ¬ (p : Int) < 57344 := by omega
      have hv : Utf8.valid (p : Int) = true := by unfold Utf8.valid; simp; omega
      clear h1 h2 hpl
      go_enter Tryd.func20, Tryd.ntmps20
      go_wp2_with fail
      refine (picked_is _ hp2 hn (by omega) (by omega)).mono ?_
      rintro e w' ⟨rfl, rfl⟩
      go_wp2
      go_ret
      exact ⟨_, hv, rfl, rfl⟩
  · have g1 : ¬ (55296 : Int) ≤ (p : Int) := by omega
    have hv : Utf8.valid (p : Int) = true := by unfold Utf8.valid; simp; omega
    clear h1 hpl
    go_enter Tryd.func20, Tryd.ntmps20
    go_wp2_with fail
    refine (picked_is _ hp2 hn (by omega) (by omega)).mono ?_
    rintro e w' ⟨rfl, rfl⟩
    go_wp2
    go_ret
    exact ⟨_, hv, rfl, rfl⟩
/-- A row of runes, each valid, of at most 200. -/
def RetRunes (w : World) (e : Ending) (w' : World) : Prop :=
  ∃ (R : List Int) (A : Option Addr) (c : Nat), R.length ≤ 200 ∧ (∀ r ∈ R, Utf8.valid r = true) ∧ e = .returned (.slice A R.length c) ∧ w'.ownsRow w.heap.size 21 1 (.slice A R.length c) R.length (R.map (Value.int .i32)) ∧ Below w.heap.size w w'
theorem IsIs.below {w w' : World} {v : Value} {zs : List Int} (h : IsIs w v zs) (hb : Below w.heap.size w w') : IsIs w' v zs := by
  obtain ⟨A, n, c, h1, h2, h3, h4, h5⟩ := h
  exact ⟨A, n, c, h1, h2, h3, (h4.below hb).more hb.size, h5⟩
set_option maxRecDepth 100000 in
theorem characters_ok (v : Value) (zs : List Int) (w : World) (hv : IsIs w v zs) :
    Calls Tryd.prog 14 #[v, .int .i64 200] w (RetRunes w) := by
  obtain ⟨A1, n1, c1, rfl, hz1, hzw, hzr, hzm⟩ := hv
  have H := Mem.init w
  go_enter Tryd.func14, Tryd.ntmps14
  go_wp2
  go_loopw [5, 6] (fun v i wr => ∃ (k : Nat) (R : List Int) (A : Option Addr) (c : Nat), k ≤ n1 ∧ k ≤ 200 ∧ i = .int .i64 (k : Int) ∧ R.length = k ∧ (∀ r ∈ R, Utf8.valid r = true) ∧ v = .slice A k c ∧ Mem w [] wr [.row w.heap.size 21 1 (.slice A k c) k (R.map (Value.int .i32))]) (fun _ i _ => 200 - (intOf i).toNat)
  case atStart => exact ⟨0, [], none, 0, by omega, by omega, rfl, rfl, by simp, rfl, H.nilrow _ _ _⟩
  case round =>
    obtain ⟨k, R, A, c, hkn, hk2, rfl, hRl, hRv, rfl, HM⟩ := hrel
    clear H
    have H : Mem (w) [] (wr) [.row (w.heap.size) (21) (1) (.slice A k c) (k) (R.map (Value.int .i32))] := HM
    clear HM
    have HRl := Lib.hid hRl
    clear hRl

    by_cases hlt : k < n1 ∧ k < 200
    · obtain ⟨hlt, hlm⟩ := hlt
      obtain ⟨b, off, rfl, hB, hc⟩ := hzr.at_ (by omega)
      have hkz : k < zs.length := by omega
      have hck : wr.cell? ⟨b, off + k, none⟩ = some (.int .i64 zs[k]) := (H.below.cell (p := ⟨b, off + k, none⟩) hB).trans (hc k _ (by simp [hkz]))
      have hzk := hzw _ (List.getElem_mem hkz)
      obtain ⟨x, hx⟩ : ∃ x, zs[k] = x := ⟨_, rfl⟩
      rw [hx] at hck hzk
      have hSc := fun W => character_ok x W hzk
      clear hx hc hzr hzw hkz hzk
      go_wp2_with fail
      refine (hSc _).mono ?_
      rintro e w' ⟨r, hr, rfl, rfl⟩

      go_wp2_with (at_builtin; refine wpList_pushM el_i32 rfl (.tmp 24) (.tmp 26) rfl 0 H rfl rfl _ rfl rfl (news := [.int .i32 r]) rfl (fun u hu => by simp at hu; subst hu; rfl) (by omega) (by unfold maxLen; omega) H.keep.size ?_; intro A3 c3 w1 H1)
      replace H : Mem (w) [] (w1) [.row (w.heap.size) (21) (1) (.slice A3 (k + 1) c3) (k + 1) (R.map (Value.int .i32) ++ [.int .i32 r])] := H1
      clear H1
      go_roundw
      case rel =>
        refine ⟨k + 1, R ++ [r], A3, c3, by omega, by omega, by go_num, by simp [HRl.out], fun q hq => ?_, rfl, by rw [List.map_append]; exact H⟩
        rcases List.mem_append.1 hq with h | h
        · exact hRv q h
        · simp at h; subst h; exact hr
      case measure => simp [intOf]; omega
    · skip
      by_cases hkn' : k < n1
      · obtain rfl : k = 200 := by omega
        go_wp2
        go_ret
        exact ⟨R, A, c, by rw [HRl.out]; omega, hRv, by rw [HRl.out]; rfl, by rw [HRl.out]; exact H.ownb 0 rfl, H.below⟩
      · obtain rfl : k = n1 := by omega
        go_wp2
        go_ret
        exact ⟨R, A, c, by rw [HRl.out]; omega, hRv, by rw [HRl.out]; rfl, by rw [HRl.out]; exact H.ownb 0 rfl, H.below⟩
theorem entsV_len (es : List EntS) : (entsV es).length = es.length * 2 := by
  induction es with
  | nil => rfl
  | cons e es ih => simp only [entsV, List.flatMap_cons, List.length_append, List.length_cons, List.length_nil] at *; omega
theorem entsV_at : ∀ (es : List EntS) (k : Nat) (h : k < es.length), (entsV es)[k * 2]? = some (.string (dstr es[k].1)) ∧ (entsV es)[k * 2 + 1]? = some (.int .i64 (es[k].2 : Int))
  | e :: es, 0, _ => ⟨rfl, rfl⟩
  | e :: es, k + 1, h => by
    have ih := entsV_at es k (by simpa using h)
    exact ⟨by rw [show (k + 1) * 2 = k * 2 + 1 + 1 by omega]; exact ih.1, by rw [show (k + 1) * 2 + 1 = k * 2 + 1 + 1 + 1 by omega]; exact ih.2⟩
theorem entsV_one (es : List EntS) : ∀ u ∈ entsV es, u.oneCell' = true := by
  intro u hu
  simp only [entsV, List.mem_flatMap] at hu
  obtain ⟨e, _, h⟩ := hu
  simp at h
  rcases h with rfl | rfl <;> rfl
set_option maxRecDepth 100000 in
theorem same_ents (es : List EntS) (A B : Option Addr) (c d : Nat) (w : World) (hl : es.length ≤ 100000) (ha : Rd w w.heap.size 2 A es.length (entsV es)) (hb : Rd w w.heap.size 2 B es.length (entsV es)) :
    Calls Tryd.prog 15 #[.slice A es.length c, .slice B es.length d] w fun e w' => e = .returned (.bool true) ∧ Below w.heap.size w w' := by
  obtain ⟨n, hn⟩ : ∃ n, es.length = n := ⟨_, rfl⟩
  have HN := Lib.hid hn
  rw [hn] at ha hb hl ⊢
  clear hn
  go_enter Tryd.func15, Tryd.ntmps15
  go_wp2
  go_loopw [5] (fun i wr => ∃ k : Nat, k ≤ n ∧ i = .int .i64 k ∧ ∃ m, wr = w.drewN m) (fun i _ => n - (intOf i).toNat)
  case atStart => exact ⟨0, by omega, rfl, 0, rfl⟩
  case round =>
    obtain ⟨k, hk, rfl, m, rfl⟩ := hrel
    by_cases hlt : k < n
    · have hlt2 : k < es.length := by have := HN.out; omega
      obtain ⟨b1, o1, rfl, _, hc1⟩ := ha.at_ (by omega)
      obtain ⟨b2, o2, rfl, _, hc2⟩ := hb.at_ (by omega)
      obtain ⟨e1, e2⟩ := entsV_at es k hlt2
      have q1 : w.cell? ⟨b1, o1 + k * 2, none⟩ = some (.string (dstr es[k].1)) := hc1 _ _ e1
      have q2 : w.cell? ⟨b1, o1 + k * 2 + 1, none⟩ = some (.int .i64 (es[k].2 : Int)) := hc1 _ _ e2
      have q3 : w.cell? ⟨b2, o2 + k * 2, none⟩ = some (.string (dstr es[k].1)) := hc2 _ _ e1
      have q4 : w.cell? ⟨b2, o2 + k * 2 + 1, none⟩ = some (.int .i64 (es[k].2 : Int)) := hc2 _ _ e2
      obtain ⟨S, hS⟩ : ∃ S, dstr es[k].1 = S := ⟨_, rfl⟩
      obtain ⟨T, hT⟩ : ∃ T : Nat, es[k].2 = T := ⟨_, rfl⟩
      rw [hS] at q1 q3
      rw [hT] at q2 q4
      have hE := fun W => ent_eql S S (T : Int) (T : Int) W
      simp only [beq_self_eq_true, Bool.and_true] at hE
      have i1 : (k : Int) < (n : Int) := by omega
      clear e1 e2 hc1 hc2 ha hb hS hT hlt2
      go_wp2_with fail
      go_quiet (fail)
      go_wp2
      go_roundw
      case rel => exact ⟨k + 1, by omega, by go_num, _, rfl⟩
      case measure => simp [intOf]; omega
    · go_wp2
      go_ret
      exact ⟨rfl, below_draws (Below.refl _ _) _⟩
end Go.Proofs.YthhbnmmhjfgpdaaDoor
