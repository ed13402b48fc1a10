/- slices.symMergeCmpFunc at a slice of ints: where the right run is one long. -/
import Derived.Test.YtfcgpgfghidajaaSymM1
namespace Go.Proofs.Ytfcgpgfghidajaa
open Go.RowKit Go.Sort
set_option linter.unusedVariables false
set_option maxRecDepth 100000 in
set_option maxHeartbeats 4000000 in
theorem symM_two (f : Nat → Nat) (key : Nat → Nat) (g : Nat) (cb : Array Value) (blk off cap a m : Nat) (d0 d : Array Nat) (w0 w : World) (eg : ∀ args w, (callFunc g args).run Try.prog w = .ok (.enter g args) w) (hcmp : CmpLays1 Try.prog g cb (encN f) (cfK key) blk off d0.size w0) (R : Row1 (encN f) w0 blk off d0) (hs : d0.size = d.size) (S : SW (encN f) w0 blk off d w) (ham : a + 1 < m) (hb : m + 1 ≤ d.size) (hsz : d.size < 4611686018427387904)
    (hsr : Srt key a m d) (hlow : Low a m (m + 1) d) :
    Calls Try.prog 15 #[.slice (some ⟨blk, off, none⟩) d.size cap, .int .i64 (a : Int), .int .i64 (m : Int), .int .i64 ((m + 1 : Nat) : Int), .func (.func g) #[] cb] w (Mrgd f key blk off a (m + 1) d w0) := by
  have mixed : Try.prog.follows .mixedOrders = true := by kernel_rfl
  have S0 := Lib.hid S
  clear S
  obtain ⟨b, hm⟩ : ∃ b, m + 1 = b := ⟨_, rfl⟩
  obtain ⟨n, hn⟩ : ∃ n, m - a = n := ⟨_, rfl⟩
  rw [hm] at hb hlow ⊢
  have HC := Lib.hid hcmp
  clear hcmp
  have HL := Lib.hid (And.intro hsr hlow)
  clear hsr hlow
  have z1 : IntKind.i64.wrap ((m : Int) - (a : Int)) = (n : Int) := by rw [IntKind.wrap_i64]; omega
  have z2 : IntKind.i64.wrap ((b : Int) - (m : Int)) = 1 := by rw [IntKind.wrap_i64]; omega
  have z3 : ((n : Int) == 1) = false := by simp; omega
  have z4 : ¬ (n : Int) = 1 := by omega
  clear hn
  unfold Mrgd
  go_enter Try.func15, Try.ntmps15
  go_wp2
  clear z1 z2 z3 z4
  go_loopw [14, 15] (fun v u wr => ∃ (i j : Nat), v = .int .i64 (i : Int) ∧ u = .int .i64 (j : Int) ∧ a ≤ i ∧ i ≤ j ∧ j ≤ m ∧ Hid (SW (encN f) w0 blk off d wr) ∧ Hid ((∀ h, a ≤ h → h < i → Fst key d[h]! d[m]!) ∧ ∀ h, j ≤ h → h < m → Fst key d[m]! d[h]!)) (fun v u _ => (intOf u).toNat - (intOf v).toNat)
  case atStart => exact ⟨a, m, rfl, rfl, by omega, by omega, by omega, S0, Lib.hid ⟨fun h h1 h2 => by omega, fun h h1 h2 => by omega⟩⟩
  case round =>
    clear S0
    obtain ⟨i, j, rfl, rfl, h1, h2, h3, S1, HF⟩ := hrel
    by_cases hij : i < j
    · have hijz : (i : Int) < (j : Int) := by omega
      obtain ⟨h, hh⟩ : ∃ h, (i + j) / 2 = h := ⟨_, rfl⟩
      obtain ⟨s, hs9⟩ : ∃ s, i + j = s := ⟨_, rfl⟩
      have zs : IntKind.i64.wrap ((i : Int) + (j : Int)) = (s : Int) := by rw [IntKind.wrap_i64]; omega
      have zu : IntKind.u64.wrap (s : Int) = (s : Int) := by rw [IntKind.wrap_u64]; omega
      have zd : (s : Int) / 2 = (h : Int) := by omega
      have zi : IntKind.i64.wrap (h : Int) = (h : Int) := by rw [IntKind.wrap_i64]; omega
      have hhb : (h : Int) < (d.size : Int) := by omega
      have hab : (m : Int) < (d.size : Int) := by omega
      obtain ⟨x, hx⟩ : ∃ x, d[m]! = x := ⟨_, rfl⟩
      obtain ⟨y, hy⟩ : ∃ y, d[h]! = y := ⟨_, rfl⟩
      have l1 := S1.out.cl R (by omega) m (by omega)
      have l2 := S1.out.cl R (by omega) h (by omega)
      have hc := S1.out.cmp HC.out (by omega) x y
      rw [hx] at l1
      rw [hy] at l2
      obtain ⟨c, hc9⟩ : ∃ c, cfK key x y = c := ⟨_, rfl⟩
      rw [hc9] at hc
      unfold encN at l1 l2 hc
      have HH := Lib.hid (And.intro hh (And.intro hs9 (And.intro hx (And.intro hy hc9))))
      clear hh hs9 hx hy hc9
      have hcd : c < 0 ∨ ¬ c < 0 := by omega
      rcases hcd with hcd | hcd
      · have hdc : decide (c < 0) = true := decide_eq_true hcd
        go_wp2_with fail
        go_quiet_grown (first | (go_at_fn g; refine Calls.grown_of (hc _ _)))
        have S2 := Lib.hid (S1.out.grown nq osq)
        clear l1 l2 hc S1
        generalize grow (wr.drewN nq) osq = w2 at S2 ⊢
        clear nq osq
        go_wp2
        go_roundw
        case rel =>
          obtain ⟨hh, hs9, hx, hy, hc9⟩ := HH.out
          have hf : Fst key d[m]! d[h]! := (fst_right (HL.out.2 h m (by omega) (by omega) (by omega) (by omega))).2 (by rw [hx, hy]; unfold cfK at hc9; omega)
          exact ⟨i, h, rfl, rfl, h1, by omega, by omega, S2, Lib.hid ⟨HF.out.1, fun k k1 k2 => HL.out.1.ge (by omega) k1 k2 hf⟩⟩
        case measure =>
          obtain ⟨hh, -⟩ := HH.out
          simp [intOf]; omega
      · have hdc : decide (c < 0) = false := decide_eq_false hcd
        go_wp2_with fail
        go_quiet_grown (first | (go_at_fn g; refine Calls.grown_of (hc _ _)))
        have S2 := Lib.hid (S1.out.grown nq osq)
        clear l1 l2 hc S1
        generalize grow (wr.drewN nq) osq = w2 at S2 ⊢
        clear nq osq
        go_wp2
        go_roundw
        case rel =>
          obtain ⟨hh, hs9, hx, hy, hc9⟩ := HH.out
          have hf : Fst key d[h]! d[m]! := (fst_left (HL.out.2 h m (by omega) (by omega) (by omega) (by omega))).2 (by rw [hx, hy]; unfold cfK at hc9; omega)
          exact ⟨h + 1, j, by go_num, rfl, by omega, by omega, h3, S2, Lib.hid ⟨fun k k1 k2 => HL.out.1.le k1 (by omega) (by omega) hf, HF.out.2⟩⟩
        case measure =>
          obtain ⟨hh, -⟩ := HH.out
          simp [intOf]; omega
    · have hijz : ¬ (i : Int) < (j : Int) := by omega
      obtain rfl : i = j := by omega
      obtain ⟨wo, hwo⟩ : ∃ wo, wo = wr := ⟨_, rfl⟩
      subst hwo
      go_wp2
      go_loopw [17] (fun v wr => ∃ (k : Nat) (dk : Array Nat), v = .int .i64 (k : Int) ∧ i ≤ k ∧ k ≤ m ∧ dk.size = d.size ∧ Hid (SW (encN f) w0 blk off dk wr) ∧ Hid (Dn m k d dk) ∧ Hid (PermIn a b d dk)) (fun v _ => (intOf v).toNat)
      case atStart => exact ⟨m, d, rfl, by omega, by omega, rfl, S1, Lib.hid (dn_zero m d), Lib.hid (permIn_refl _ _ _)⟩
      case round =>
        clear S1
        obtain ⟨k, dk, rfl, k1, k2, hsk, S1, HU, HP⟩ := hrel
        by_cases hkn : i < k
        · obtain ⟨q, rfl⟩ : ∃ q, k = q + 1 := ⟨k - 1, by omega⟩
          obtain ⟨k, hk⟩ : ∃ k, q + 1 = k := ⟨_, rfl⟩
          rw [hk] at hkn k1 k2 HU ⊢
          have hknz : (i : Int) < (k : Int) := by omega
          have hknd : decide ((k : Int) > (i : Int)) = true := decide_eq_true hknz
          have zq : IntKind.i64.wrap ((k : Int) - 1) = (q : Int) := by rw [IntKind.wrap_i64]; omega
          have pp : (k : Int) < (d.size : Int) := by omega
          have qq : (q : Int) < (d.size : Int) := by omega
          have c1 := S1.out.c1 R (by omega) k (by omega)
          have c2 := S1.out.c1 R (by omega) q (by omega)
          have f1 := S1.out.f1 R (by omega) k (by omega)
          have f2 := S1.out.f1 R (by omega) q (by omega)
          have S2 := S1.out.swapped R k q (by omega) (by omega)
          obtain ⟨x, hx⟩ : ∃ x, dk[k]! = x := ⟨_, rfl⟩
          obtain ⟨y, hy⟩ : ∃ y, dk[q]! = y := ⟨_, rfl⟩
          rw [hx] at c1 S2
          rw [hy] at c2 S2
          unfold encN at c1 c2 S2
          obtain ⟨u, c3⟩ := S1.out.c2 R (by omega) k q (by omega) (by omega) (.int .i64 ((f y : Nat) : Int))
          have HS := Lib.hid (And.intro S2 hk)
          clear S2 hk hx hy
          go_wp2_with fail
          go_big_region
          go_wp2
          go_roundw
          case rel =>
            obtain ⟨S2, hk⟩ := HS.out
            subst hk
            exact ⟨q, swp dk (q + 1) q, rfl, by omega, by omega, by rw [size_swp]; exact hsk, S2, Lib.hid (HU.out.step hsk k2 (by omega)), Lib.hid (permIn_trans _ _ _ _ _ HP.out (swp_permIn dk a b (q + 1) q (by omega) (by omega) (by omega) (by omega) (by omega)))⟩
          case measure =>
            have hk := HS.out.2
            simp [intOf]; omega
        · have hknz : ¬ (i : Int) < (k : Int) := by omega
          have hknd : decide ((k : Int) > (i : Int)) = false := decide_eq_false hknz
          obtain rfl : k = i := by omega
          go_wp2
          refine bodyPost_ret (results_none rfl _ _ _) rfl ?_
          subst hm
          exact ⟨rfl, dk, HP.out, merge_dn hb h1 h3 HL.out.1 HF.out.1 HF.out.2 HU.out, S1.out⟩
end Go.Proofs.Ytfcgpgfghidajaa
