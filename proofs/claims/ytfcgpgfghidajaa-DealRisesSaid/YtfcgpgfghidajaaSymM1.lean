/- slices.symMergeCmpFunc at a slice of ints: where the left run is one long. -/
import Derived.Test.YtfcgpgfghidajaaRotate
import Derived.Test.YtfcgpgfghidajaaMergD
namespace Go.Proofs.Ytfcgpgfghidajaa
open Go.RowKit Go.Sort
set_option linter.unusedVariables false
/-- What the merging leaves. -/
def Mrgd (f key : Nat → Nat) (blk off a b : Nat) (d : Array Nat) (w0 : World) (e : Ending) (w' : World) : Prop := e = .returned (.tuple #[]) ∧ ∃ d', PermIn a b d d' ∧ Srt key a b d' ∧ SW (encN f) w0 blk off d' w'
def cfK (key : Nat → Nat) (x y : Nat) : Int := (key y : Int) - (key x : Int)
set_option maxRecDepth 100000 in
set_option maxHeartbeats 4000000 in
theorem symM_one (f : Nat → Nat) (key : Nat → Nat) (g : Nat) (cb : Array Value) (blk off cap a b : Nat) (d0 d : Array Nat) (w0 w : World) (eg : ∀ args w, (callFunc g args).run Try.prog w = .ok (.enter g args) w) (hcmp : CmpLays1 Try.prog g cb (encN f) (cfK key) blk off d0.size w0) (R : Row1 (encN f) w0 blk off d0) (hs : d0.size = d.size) (S : SW (encN f) w0 blk off d w) (hmb : a + 1 < b) (hb : b ≤ d.size) (hsz : d.size < 4611686018427387904)
    (hsr : Srt key (a + 1) b d) (hlow : Low a (a + 1) b d) :
    Calls Try.prog 15 #[.slice (some ⟨blk, off, none⟩) d.size cap, .int .i64 (a : Int), .int .i64 ((a + 1 : Nat) : Int), .int .i64 (b : Int), .func (.func g) #[] cb] w (Mrgd f key blk off a b d w0) := by
  have mixed : Try.prog.follows .mixedOrders = true := by kernel_rfl
  have S0 := Lib.hid S
  clear S
  obtain ⟨m, hm⟩ : ∃ m, a + 1 = m := ⟨_, rfl⟩
  rw [hm] at hmb hsr hlow ⊢
  have HC := Lib.hid hcmp
  clear hcmp
  have HL := Lib.hid (And.intro hsr hlow)
  clear hsr hlow
  have z1 : IntKind.i64.wrap ((m : Int) - (a : Int)) = 1 := by rw [IntKind.wrap_i64]; omega
  unfold Mrgd
  go_enter Try.func15, Try.ntmps15
  go_wp2
  clear z1
  go_loopw [10, 11] (fun v u wr => ∃ (i j : Nat), v = .int .i64 (i : Int) ∧ u = .int .i64 (j : Int) ∧ m ≤ i ∧ i ≤ j ∧ j ≤ b ∧ Hid (SW (encN f) w0 blk off d wr) ∧ Hid ((∀ h, m ≤ h → h < i → Fst key d[h]! d[a]!) ∧ ∀ h, j ≤ h → h < b → Fst key d[a]! d[h]!)) (fun v u _ => (intOf u).toNat - (intOf v).toNat)
  case atStart => exact ⟨m, b, rfl, rfl, by omega, by omega, by omega, S0, Lib.hid ⟨fun h h1 h2 => by omega, fun h h1 h2 => by omega⟩⟩
  case round =>
    clear S0
    obtain ⟨i, j, rfl, rfl, h1, h2, h3, S1, HF⟩ := hrel
    by_cases hij : i < j
    · have hijz : (i : Int) < (j : Int) := by omega
      obtain ⟨h, hh⟩ : ∃ h, (i + j) / 2 = h := ⟨_, rfl⟩
      obtain ⟨s, hs9⟩ : ∃ s, i + j = s := ⟨_, rfl⟩
      have zs : IntKind.i64.wrap ((i : Int) + (j : Int)) = (s : Int) := by rw [IntKind.wrap_i64]; omega
      have zu : IntKind.u64.wrap (s : Int) = (s : Int) := by rw [IntKind.wrap_u64]; omega
      have zd : (s : Int) / 2 = (h : Int) := by omega
      have zi : IntKind.i64.wrap (h : Int) = (h : Int) := by rw [IntKind.wrap_i64]; omega
      have hhb : (h : Int) < (d.size : Int) := by omega
      have hab : (a : Int) < (d.size : Int) := by omega
      obtain ⟨x, hx⟩ : ∃ x, d[h]! = x := ⟨_, rfl⟩
      obtain ⟨y, hy⟩ : ∃ y, d[a]! = y := ⟨_, rfl⟩
      have l1 := S1.out.cl R (by omega) h (by omega)
      have l2 := S1.out.cl R (by omega) a (by omega)
      have hc := S1.out.cmp HC.out (by omega) x y
      rw [hx] at l1
      rw [hy] at l2
      obtain ⟨c, hc9⟩ : ∃ c, cfK key x y = c := ⟨_, rfl⟩
      rw [hc9] at hc
      unfold encN at l1 l2 hc
      have HH := Lib.hid (And.intro hh (And.intro hs9 (And.intro hx (And.intro hy hc9))))
      clear hh hs9 hx hy hc9
      have hcd : c < 0 ∨ ¬ c < 0 := by omega
      rcases hcd with hcd | hcd
      · go_wp2_with fail
        go_quiet_grown (first | (go_at_fn g; refine Calls.grown_of (hc _ _)))
        have S2 := Lib.hid (S1.out.grown nq osq)
        clear l1 l2 hc S1
        generalize grow (wr.drewN nq) osq = w2 at S2 ⊢
        clear nq osq
        go_wp2
        go_roundw
        case rel =>
          obtain ⟨hh, hs9, hx, hy, hc9⟩ := HH.out
          have hf : Fst key d[h]! d[a]! := (fst_right (HL.out.2 a h (by omega) (by omega) (by omega) (by omega))).2 (by rw [hx, hy]; unfold cfK at hc9; omega)
          exact ⟨h + 1, j, by go_num, rfl, by omega, by omega, h3, S2, Lib.hid ⟨fun k k1 k2 => HL.out.1.le k1 (by omega) (by omega) hf, HF.out.2⟩⟩
        case measure =>
          obtain ⟨hh, -⟩ := HH.out
          simp [intOf]; omega
      · go_wp2_with fail
        go_quiet_grown (first | (go_at_fn g; refine Calls.grown_of (hc _ _)))
        have S2 := Lib.hid (S1.out.grown nq osq)
        clear l1 l2 hc S1
        generalize grow (wr.drewN nq) osq = w2 at S2 ⊢
        clear nq osq
        go_wp2
        go_roundw
        case rel =>
          obtain ⟨hh, hs9, hx, hy, hc9⟩ := HH.out
          have hf : Fst key d[a]! d[h]! := (fst_left (HL.out.2 a h (by omega) (by omega) (by omega) (by omega))).2 (by rw [hx, hy]; unfold cfK at hc9; omega)
          exact ⟨i, h, rfl, rfl, h1, by omega, by omega, S2, Lib.hid ⟨HF.out.1, fun k k1 k2 => HL.out.1.ge (by omega) k1 k2 hf⟩⟩
        case measure =>
          obtain ⟨hh, -⟩ := HH.out
          simp [intOf]; omega
    · have hijz : ¬ (i : Int) < (j : Int) := by omega
      obtain rfl : i = j := by omega
      obtain ⟨n, hn⟩ : ∃ n, i - 1 = n := ⟨_, rfl⟩
      have zn : IntKind.i64.wrap ((i : Int) - 1) = (n : Int) := by rw [IntKind.wrap_i64]; omega
      have HN := Lib.hid hn
      clear hn
      obtain ⟨wo, hwo⟩ : ∃ wo, wo = wr := ⟨_, rfl⟩
      subst hwo
      go_wp2
      clear zn
      go_loopw [13] (fun v wr => ∃ (k : Nat) (dk : Array Nat), v = .int .i64 (k : Int) ∧ a ≤ k ∧ k ≤ i - 1 ∧ dk.size = d.size ∧ Hid (SW (encN f) w0 blk off dk wr) ∧ Hid (Up a k d dk) ∧ Hid (PermIn a b d dk)) (fun v _ => n - (intOf v).toNat)
      case atStart => exact ⟨a, d, rfl, by omega, by omega, rfl, S1, Lib.hid (up_zero a d), Lib.hid (permIn_refl _ _ _)⟩
      case round =>
        clear S1
        obtain ⟨k, dk, rfl, k1, k2, hsk, S1, HU, HP⟩ := hrel
        have hn := HN.out
        have zn : IntKind.i64.wrap ((i : Int) - 1) = (n : Int) := by rw [IntKind.wrap_i64]; omega
        by_cases hkn : k < n
        · have hknz : (k : Int) < (n : Int) := by omega
          obtain ⟨q, hq⟩ : ∃ q, k + 1 = q := ⟨_, rfl⟩
          have zq : IntKind.i64.wrap ((k : Int) + 1) = (q : Int) := by rw [IntKind.wrap_i64]; omega
          have pp : (k : Int) < (d.size : Int) := by omega
          have qq : (q : Int) < (d.size : Int) := by omega
          have c1 := S1.out.c1 R (by omega) k (by omega)
          have c2 := S1.out.c1 R (by omega) q (by omega)
          have f1 := S1.out.f1 R (by omega) k (by omega)
          have f2 := S1.out.f1 R (by omega) q (by omega)
          have S2 := S1.out.swapped R k q (by omega) (by omega)
          obtain ⟨x, hx⟩ : ∃ x, dk[k]! = x := ⟨_, rfl⟩
          obtain ⟨y, hy⟩ : ∃ y, dk[q]! = y := ⟨_, rfl⟩
          rw [hx] at c1 S2
          rw [hy] at c2 S2
          unfold encN at c1 c2 S2
          obtain ⟨u, c3⟩ := S1.out.c2 R (by omega) k q (by omega) (by omega) (.int .i64 ((f y : Nat) : Int))
          have HS := Lib.hid (And.intro S2 hq)
          clear S2 hq hx hy hn
          go_wp2_with fail
          go_big_region
          go_wp2
          go_roundw
          case rel =>
            obtain ⟨S2, hq⟩ := HS.out
            have hn := HN.out
            subst hq
            exact ⟨k + 1, swp dk k (k + 1), by go_num, by omega, by omega, by rw [size_swp]; exact hsk, S2, Lib.hid (HU.out.step hsk k1 (by omega)), Lib.hid (permIn_trans _ _ _ _ _ HP.out (swp_permIn dk a b k (k + 1) (by omega) (by omega) (by omega) (by omega) (by omega)))⟩
          case measure =>
            have hq := HS.out.2
            simp [intOf]; omega
        · have hknz : ¬ (k : Int) < (n : Int) := by omega
          obtain rfl : k = i - 1 := by omega
          clear hn
          go_wp2
          refine bodyPost_ret (results_none rfl _ _ _) rfl ?_
          subst hm
          exact ⟨rfl, dk, HP.out, merge_up hb h1 h3 HL.out.1 HF.out.1 HF.out.2 HU.out, S1.out⟩
end Go.Proofs.Ytfcgpgfghidajaa
