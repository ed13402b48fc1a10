/- slices.symMergeCmpFunc at a slice of ints: the common case, over the two calls of itself. -/
import Derived.Test.YtfcgpgfghidajaaSymM1
import Derived.Test.YtfcgpgfghidajaaMergE
import Derived.Deep.CutRange
namespace Go.Proofs.Ytfcgpgfghidajaa
open Go.RowKit Go.Sort
set_option linter.unusedVariables false
/-- The contract for runs that are shorter than n. -/
def SymBelow (f key : Nat → Nat) (g : Nat) (cb : Array Value) (blk off cap n size : Nat) (w0 : World) : Prop :=
  ∀ (a m b : Nat) (d : Array Nat) (w : World), b - a < n → d.size = size → SW (encN f) w0 blk off d w → a < m → m < b → b ≤ d.size → Srt key a m d → Srt key m b d → Low a m b d →
    Calls Try.prog 15 #[.slice (some ⟨blk, off, none⟩) size cap, .int .i64 (a : Int), .int .i64 (m : Int), .int .i64 (b : Int), .func (.func g) #[] cb] w (Mrgd f key blk off a b d w0)
set_option maxRecDepth 100000 in
set_option maxHeartbeats 4000000 in
theorem symM_gen (f : Nat → Nat) (key : Nat → Nat) (g : Nat) (cb : Array Value) (blk off cap a m b : Nat) (d0 d : Array Nat) (w0 w : World) (eg : ∀ args w, (callFunc g args).run Try.prog w = .ok (.enter g args) w) (hcmp : CmpLays1 Try.prog g cb (encN f) (cfK key) blk off d0.size w0) (R : Row1 (encN f) w0 blk off d0) (hs : d0.size = d.size) (S : SW (encN f) w0 blk off d w) (ham : a + 1 < m) (hmb : m + 1 < b) (hb : b ≤ d.size) (hsz : d.size < 4611686018427387904)
    (hsl : Srt key a m d) (hsr : Srt key m b d) (hlow : Low a m b d) (hI : SymBelow f key g cb blk off cap (b - a) d.size w0) :
    Calls Try.prog 15 #[.slice (some ⟨blk, off, none⟩) d.size cap, .int .i64 (a : Int), .int .i64 (m : Int), .int .i64 (b : Int), .func (.func g) #[] cb] w (Mrgd f key blk off a b d w0) := by
  have mixed : Try.prog.follows .mixedOrders = true := by kernel_rfl
  have S0 := Lib.hid S
  clear S
  have HC := Lib.hid hcmp
  clear hcmp
  have HL := Lib.hid (And.intro hsl (And.intro hsr hlow))
  clear hsl hsr hlow
  have HI := Lib.hid hI
  clear hI
  obtain ⟨n1, hn1⟩ : ∃ n, m - a = n := ⟨_, rfl⟩
  obtain ⟨n2, hn2⟩ : ∃ n, b - m = n := ⟨_, rfl⟩
  obtain ⟨n3, hn3⟩ : ∃ n, a + b = n := ⟨_, rfl⟩
  obtain ⟨mid, hmid⟩ : ∃ mid, (a + b) / 2 = mid := ⟨_, rfl⟩
  obtain ⟨n, hn⟩ : ∃ n, mid + m = n := ⟨_, rfl⟩
  obtain ⟨s0, hs0⟩ : ∃ s0, s0 = if mid < m then mid + m - b else a := ⟨_, rfl⟩
  obtain ⟨r0, hr0⟩ : ∃ r0, r0 = if mid < m then mid else m := ⟨_, rfl⟩
  have hB : Cutb a m b mid s0 r0 := ⟨hmid.symm, hs0, hr0⟩
  obtain ⟨b1, b2, b3, b4, b5, b6, b7⟩ := hB.bounds (by omega) (by omega)
  obtain ⟨p, hp⟩ : ∃ p, n - 1 = p := ⟨_, rfl⟩
  have z1 : IntKind.i64.wrap ((m : Int) - (a : Int)) = (n1 : Int) := by rw [IntKind.wrap_i64]; omega
  have z2 : IntKind.i64.wrap ((b : Int) - (m : Int)) = (n2 : Int) := by rw [IntKind.wrap_i64]; omega
  have z3 : ((n1 : Int) == 1) = false := by simp; omega
  have z4 : ¬ (n1 : Int) = 1 := by omega
  have z5 : ((n2 : Int) == 1) = false := by simp; omega
  have z6 : ¬ (n2 : Int) = 1 := by omega
  have z7 : IntKind.i64.wrap ((a : Int) + (b : Int)) = (n3 : Int) := by rw [IntKind.wrap_i64]; omega
  have z8 : IntKind.u64.wrap (n3 : Int) = (n3 : Int) := by rw [IntKind.wrap_u64]; omega
  have z9 : (n3 : Int) / 2 = (mid : Int) := by omega
  have y1 : IntKind.i64.wrap (mid : Int) = (mid : Int) := by rw [IntKind.wrap_i64]; omega
  have y2 : IntKind.i64.wrap ((mid : Int) + (m : Int)) = (n : Int) := by rw [IntKind.wrap_i64]; omega
  have y3 : IntKind.i64.wrap ((n : Int) - 1) = (p : Int) := by rw [IntKind.wrap_i64]; omega
  have HB := Lib.hid (And.intro hB (And.intro hn (And.intro hp (And.intro hs0 hr0))))
  clear hB hn hp hs0 hr0 hn1 hn2 hn3 hmid
  unfold Mrgd
  go_enter Try.func15, Try.ntmps15
  go_upto_if 140 with fail
  clear z1 z2 z3 z4 z5 z6 z7 z8 z9 y1
  go_cut [20, 21] from 138 to 146 (fun v u wx => v = .int .i64 (s0 : Int) ∧ u = .int .i64 (r0 : Int) ∧ w = wx)
  case first =>
    obtain ⟨hB, hn, -, hs0, hr0⟩ := HB.out
    have hmid := hB.1
    by_cases hmm : mid < m
    · rw [if_pos hmm] at hs0 hr0
      have hz : (mid : Int) < (m : Int) := by omega
      have hzd : decide ((m : Int) > (mid : Int)) = true := decide_eq_true hz
      have zz : IntKind.i64.wrap ((n : Int) - (b : Int)) = (s0 : Int) := by rw [IntKind.wrap_i64]; omega
      subst hr0
      clear hs0 hn hB hmid
      go_wp2
      go_meet
      exact ⟨rfl, rfl, rfl⟩
    · rw [if_neg hmm] at hs0 hr0
      have hz : ¬ (mid : Int) < (m : Int) := by omega
      have hzd : decide ((m : Int) > (mid : Int)) = false := decide_eq_false hz
      subst hr0 hs0
      clear hn hB hmid
      go_wp2
      go_meet
      exact ⟨rfl, rfl, rfl⟩
  case rest =>
    obtain ⟨rfl, rfl, rfl⟩ := hcut
    go_wp2
    clear y2 y3
    go_loopw [20, 21] (fun v u wr => ∃ (i j : Nat), v = .int .i64 (i : Int) ∧ u = .int .i64 (j : Int) ∧ s0 ≤ i ∧ i ≤ j ∧ j ≤ r0 ∧ Hid (SW (encN f) w0 blk off d wr) ∧ Hid ((s0 < i → Fst key d[i - 1]! d[mid + m - 1 - (i - 1)]!) ∧ (j < r0 → Fst key d[mid + m - 1 - j]! d[j]!))) (fun v u _ => (intOf u).toNat - (intOf v).toNat)
    case atStart => exact ⟨s0, r0, rfl, rfl, by omega, by omega, by omega, S0, Lib.hid ⟨fun h => by omega, fun h => by omega⟩⟩
    case round =>
      clear S0
      obtain ⟨i, j, rfl, rfl, h1, h2, h3, S1, HF⟩ := hrel
      by_cases hij : i < j
      · have hijz : (i : Int) < (j : Int) := by omega
        obtain ⟨-, hn, hp, -, -⟩ := HB.out
        obtain ⟨h, hh⟩ : ∃ h, (i + j) / 2 = h := ⟨_, rfl⟩
        obtain ⟨s, hs9⟩ : ∃ s, i + j = s := ⟨_, rfl⟩
        obtain ⟨q, hq⟩ : ∃ q, p - h = q := ⟨_, rfl⟩
        have zs : IntKind.i64.wrap ((i : Int) + (j : Int)) = (s : Int) := by rw [IntKind.wrap_i64]; omega
        have zu : IntKind.u64.wrap (s : Int) = (s : Int) := by rw [IntKind.wrap_u64]; omega
        have zd : (s : Int) / 2 = (h : Int) := by omega
        have zi : IntKind.i64.wrap (h : Int) = (h : Int) := by rw [IntKind.wrap_i64]; omega
        have zq : IntKind.i64.wrap ((p : Int) - (h : Int)) = (q : Int) := by rw [IntKind.wrap_i64]; omega
        have hhb : (h : Int) < (d.size : Int) := by omega
        have hab : (q : Int) < (d.size : Int) := by omega
        obtain ⟨x, hx⟩ : ∃ x, d[q]! = x := ⟨_, rfl⟩
        obtain ⟨y, hy⟩ : ∃ y, d[h]! = y := ⟨_, rfl⟩
        have l1 := S1.out.cl R (by omega) q (by omega)
        have l2 := S1.out.cl R (by omega) h (by omega)
        have hc := S1.out.cmp HC.out (by omega) x y
        rw [hx] at l1
        rw [hy] at l2
        obtain ⟨c, hc9⟩ : ∃ c, cfK key x y = c := ⟨_, rfl⟩
        rw [hc9] at hc
        unfold encN at l1 l2 hc
        have hlw := HL.out.2.2 h q (by omega) (by omega) (by omega) (by omega)
        have eqq : mid + m - 1 - h = q := by omega
        have HH := Lib.hid (And.intro hh (And.intro hlw (And.intro hx (And.intro hy (And.intro hc9 eqq)))))
        clear hh hs9 hx hy hc9 hq hn hp hlw eqq
        have hcd : c < 0 ∨ ¬ c < 0 := by omega
        rcases hcd with hcd | hcd
        · have hdc : decide (c < 0) = true := decide_eq_true hcd
          go_wp2_with fail
          go_quiet_grown (first | (go_at_fn g; refine Calls.grown_of (hc _ _)))
          have S2 := Lib.hid (S1.out.grown nq osq)
          clear l1 l2 hc S1
          generalize grow (wr.drewN nq) osq = w2 at S2 ⊢
          clear nq osq
          go_wp2
          go_roundw
          case rel =>
            obtain ⟨hh, hlw, hx, hy, hc9, eqq⟩ := HH.out
            have hf : Fst key d[q]! d[h]! := (fst_right hlw).2 (by rw [hx, hy]; unfold cfK at hc9; omega)
            exact ⟨i, h, rfl, rfl, h1, by omega, by omega, S2, Lib.hid ⟨HF.out.1, fun _ => by rw [eqq]; exact hf⟩⟩
          case measure =>
            obtain ⟨hh, -⟩ := HH.out
            simp [intOf]; omega
        · have hdc : decide (c < 0) = false := decide_eq_false hcd
          go_wp2_with fail
          go_quiet_grown (first | (go_at_fn g; refine Calls.grown_of (hc _ _)))
          have S2 := Lib.hid (S1.out.grown nq osq)
          clear l1 l2 hc S1
          generalize grow (wr.drewN nq) osq = w2 at S2 ⊢
          clear nq osq
          go_wp2
          go_roundw
          case rel =>
            obtain ⟨hh, hlw, hx, hy, hc9, eqq⟩ := HH.out
            have hf : Fst key d[h]! d[q]! := (fst_left hlw).2 (by rw [hx, hy]; unfold cfK at hc9; omega)
            exact ⟨h + 1, j, by go_num, rfl, by omega, by omega, h3, S2, Lib.hid ⟨fun _ => by rw [Nat.add_sub_cancel, eqq]; exact hf, HF.out.2⟩⟩
          case measure =>
            obtain ⟨hh, -⟩ := HH.out
            simp [intOf]; omega
      · have hijz : ¬ (i : Int) < (j : Int) := by omega
        obtain rfl : i = j := by omega
        obtain ⟨hB, hn, hp, hs0, hr0⟩ := HB.out
        have K := merge_cut hb (by omega) (by omega) hB.1 hs0 hr0 h1 h3 HL.out.1 HL.out.2.1 HF.out.1 HF.out.2
        obtain ⟨e, he⟩ : ∃ e, mid + m - i = e := ⟨_, rfl⟩
        rw [he] at K
        obtain ⟨g1, g2, g3, g4, g5, g6, H1, H2⟩ := K
        have ye : IntKind.i64.wrap ((n : Int) - (i : Int)) = (e : Int) := by rw [IntKind.wrap_i64]; omega
        have HR := Lib.hid (fun d' => merge_rot (d' := d') hb g1 g2 g3 g4 g5 HL.out.1 HL.out.2.1 HL.out.2.2 H1 H2)
        clear H1 H2 hB hn hp hs0 hr0 he HF h2 h1 h3
        obtain ⟨t1, ht1⟩ : ∃ t : Bool, t = decide (i < m ∧ m < e) := ⟨_, rfl⟩
        have Ht1 := Lib.hid ht1
        clear ht1
        go_upto_region 39 with fail
        go_cut [185] from 178 to 185 (fun v wx => v = .bool t1 ∧ wr = wx)
        case first =>
          have ht1 := Ht1.out
          by_cases q1 : i < m
          · have q1z : (i : Int) < (m : Int) := by omega
            have q1d : decide ((i : Int) < (m : Int)) = true := decide_eq_true q1z
            by_cases q2 : m < e
            · have q2z : (m : Int) < (e : Int) := by omega
              have q2d : decide ((m : Int) < (e : Int)) = true := decide_eq_true q2z
              have hq : t1 = true := by rw [ht1]; exact decide_eq_true ⟨q1, q2⟩
              clear ht1
              subst hq
              go_wp2_with fail
              go_meet
              exact ⟨rfl, rfl⟩
            · have q2z : ¬ (m : Int) < (e : Int) := by omega
              have q2d : decide ((m : Int) < (e : Int)) = false := decide_eq_false q2z
              have hq : t1 = false := by rw [ht1]; exact decide_eq_false (fun k => q2 k.2)
              clear ht1
              subst hq
              go_wp2_with fail
              go_meet
              exact ⟨rfl, rfl⟩
          · have q1z : ¬ (i : Int) < (m : Int) := by omega
            have q1d : decide ((i : Int) < (m : Int)) = false := decide_eq_false q1z
            have hq : t1 = false := by rw [ht1]; exact decide_eq_false (fun k => q1 k.1)
            clear ht1
            subst hq
            go_wp2_with fail
            go_meet
            exact ⟨rfl, rfl⟩
        case rest =>
          obtain ⟨rfl, rfl⟩ := hcut
          go_upto_if 185 with fail
          go_cut [] from 186 to 191 (fun wx => ∃ d1, Hid (SW (encN f) w0 blk off d1 wx) ∧ Hid (PermIn a b d d1) ∧ Hid (Rot i m e d d1))
          case first =>
            have ht1 := Ht1.out
            cases t1 with
            | true =>
              obtain ⟨q1, q2⟩ := of_decide_eq_true ht1.symm
              have hC := rotate_ok f g cb blk off cap i m e d0 d w0 wr R hs S1.out q1 q2 (by omega) hsz
              clear ht1 Ht1
              go_wp2_with fail
              refine hC.mono ?_
              rintro ee w' ⟨rfl, d1, hs', hrot, hp', S'⟩
              have HZ := Lib.hid (And.intro S' (And.intro hp' hrot))
              clear hC S' hrot hp' hs'
              go_wp2_with fail
              go_meet
              exact ⟨d1, HZ.out.1, permIn_mono _ _ _ _ a b (by omega) (by omega) (by omega) HZ.out.2.1, HZ.out.2.2⟩
            | false =>
              have q1 : i = m ∨ e = m := by
                have := of_decide_eq_false ht1.symm
                omega
              clear ht1 Ht1
              go_wp2_with fail
              go_meet
              exact ⟨d, S1, permIn_refl _ _ _, rot_nil q1⟩
          case rest =>
            clear S1 Ht1
            obtain ⟨d1, S1, HP1, hrot⟩ := hcut
            have HK := Lib.hid (HR.out d1 hrot.out)
            have hs1 : d1.size = d.size := HP1.out.1
            clear hrot HR ye
            obtain ⟨t2, ht2⟩ : ∃ t : Bool, t = decide (a < i ∧ i < mid) := ⟨_, rfl⟩
            have Ht2 := Lib.hid ht2
            clear ht2
            go_upto_region 41 with fail
            go_cut [199] from 192 to 199 (fun v wx => v = .bool t2 ∧ wc = wx)
            case first =>
              have ht2 := Ht2.out
              by_cases q1 : a < i
              · have q1z : (a : Int) < (i : Int) := by omega
                have q1d : decide ((a : Int) < (i : Int)) = true := decide_eq_true q1z
                by_cases q2 : i < mid
                · have q2z : (i : Int) < (mid : Int) := by omega
                  have q2d : decide ((i : Int) < (mid : Int)) = true := decide_eq_true q2z
                  have hq : t2 = true := by rw [ht2]; exact decide_eq_true ⟨q1, q2⟩
                  clear ht2
                  subst hq
                  go_wp2_with fail
                  go_meet
                  exact ⟨rfl, rfl⟩
                · have q2z : ¬ (i : Int) < (mid : Int) := by omega
                  have q2d : decide ((i : Int) < (mid : Int)) = false := decide_eq_false q2z
                  have hq : t2 = false := by rw [ht2]; exact decide_eq_false (fun k => q2 k.2)
                  clear ht2
                  subst hq
                  go_wp2_with fail
                  go_meet
                  exact ⟨rfl, rfl⟩
              · have q1z : ¬ (a : Int) < (i : Int) := by omega
                have q1d : decide ((a : Int) < (i : Int)) = false := decide_eq_false q1z
                have hq : t2 = false := by rw [ht2]; exact decide_eq_false (fun k => q1 k.1)
                clear ht2
                subst hq
                go_wp2_with fail
                go_meet
                exact ⟨rfl, rfl⟩
            case rest =>
              obtain ⟨rfl, rfl⟩ := hcut
              go_upto_if 199 with fail
              obtain ⟨wk, hwk⟩ : ∃ wk, wk = wc := ⟨_, rfl⟩
              subst hwk
              go_cut [] from 200 to 205 (fun wx => ∃ d2, Hid (SW (encN f) w0 blk off d2 wx) ∧ Hid (PermIn a mid d1 d2) ∧ Hid (Srt key a mid d2))
              case first =>
                have ht1 := Ht2.out
                obtain ⟨k1, k2, k3, -⟩ := HK.out
                cases t2 with
                | true =>
                  obtain ⟨q1, q2⟩ := of_decide_eq_true ht1.symm
                  have hC := HI.out a i mid d1 wk (by omega) hs1 S1.out q1 q2 (by omega) k1 k2 k3
                  clear ht1 Ht2 k1 k2 k3
                  go_wp2_with fail
                  refine hC.mono ?_
                  rintro ee w' ⟨rfl, d2, hp', hst, S'⟩
                  have HZ := Lib.hid (And.intro S' (And.intro hp' hst))
                  clear hC S' hst hp'
                  go_wp2_with fail
                  go_meet
                  exact ⟨d2, HZ.out.1, HZ.out.2.1, HZ.out.2.2⟩
                | false =>
                  have q1 := of_decide_eq_false ht1.symm
                  have hst := Lib.hid (Srt.one q1 g1 g6 k1 k2)
                  clear ht1 Ht2 k1 k2 k3 q1
                  go_wp2_with fail
                  go_meet
                  exact ⟨d1, S1, permIn_refl _ _ _, hst⟩
              case rest =>
                clear S1 Ht2
                obtain ⟨d2, S1, HP2, HS2⟩ := hcut
                have hs2 : d2.size = d.size := by rw [HP2.out.1]; exact hs1
                obtain ⟨wq, hwq⟩ : ∃ wq, wq = wc := ⟨_, rfl⟩
                subst hwq
                obtain ⟨t3, ht3⟩ : ∃ t : Bool, t = decide (mid < e ∧ e < b) := ⟨_, rfl⟩
                have Ht3 := Lib.hid ht3
                clear ht3
                go_upto_region 43 with fail
                go_cut [213] from 206 to 213 (fun v wx => v = .bool t3 ∧ wq = wx)
                case first =>
                  have ht3 := Ht3.out
                  by_cases q1 : mid < e
                  · have q1z : (mid : Int) < (e : Int) := by omega
                    have q1d : decide ((mid : Int) < (e : Int)) = true := decide_eq_true q1z
                    by_cases q2 : e < b
                    · have q2z : (e : Int) < (b : Int) := by omega
                      have q2d : decide ((e : Int) < (b : Int)) = true := decide_eq_true q2z
                      have hq : t3 = true := by rw [ht3]; exact decide_eq_true ⟨q1, q2⟩
                      clear ht3
                      subst hq
                      go_wp2_with fail
                      go_meet
                      exact ⟨rfl, rfl⟩
                    · have q2z : ¬ (e : Int) < (b : Int) := by omega
                      have q2d : decide ((e : Int) < (b : Int)) = false := decide_eq_false q2z
                      have hq : t3 = false := by rw [ht3]; exact decide_eq_false (fun k => q2 k.2)
                      clear ht3
                      subst hq
                      go_wp2_with fail
                      go_meet
                      exact ⟨rfl, rfl⟩
                  · have q1z : ¬ (mid : Int) < (e : Int) := by omega
                    have q1d : decide ((mid : Int) < (e : Int)) = false := decide_eq_false q1z
                    have hq : t3 = false := by rw [ht3]; exact decide_eq_false (fun k => q1 k.1)
                    clear ht3
                    subst hq
                    go_wp2_with fail
                    go_meet
                    exact ⟨rfl, rfl⟩
                case rest =>
                  obtain ⟨rfl, rfl⟩ := hcut
                  have ht1 := Ht3.out
                  have HJ := Lib.hid (And.intro (HK.out.2.2.2.1.keep HP2.out (Nat.le_refl _)) (And.intro (HK.out.2.2.2.2.1.keep HP2.out (by omega)) (And.intro (HK.out.2.2.2.2.2.1.keep HP2.out (Nat.le_refl _) (by omega)) HK.out.2.2.2.2.2.2)))
                  have HP := Lib.hid (permIn_trans _ _ _ _ _ HP1.out (permIn_mono _ _ _ _ a b (by omega) (by omega) (by omega) HP2.out))
                  cases t3 with
                  | true =>
                    obtain ⟨q1, q2⟩ := of_decide_eq_true ht1.symm
                    have hC := HI.out mid e b d2 wq (by omega) hs2 S1.out q1 q2 (by omega) HJ.out.1 HJ.out.2.1 HJ.out.2.2.1
                    clear ht1 Ht3
                    go_wp2_with fail
                    refine hC.mono ?_
                    rintro ee w' ⟨rfl, d3, hp', hst, S'⟩
                    have HZ := Lib.hid (And.intro S' (And.intro hp' hst))
                    clear hC S' hst hp'
                    go_wp2_with fail
                    go_end0
                    exact ⟨rfl, d3, permIn_trans _ _ _ _ _ HP.out (permIn_mono _ _ _ _ a b (by omega) (by omega) (by omega) HZ.out.2.1), merge_all (by omega) (by omega) (by omega) HJ.out.2.2.2 HP2.out HS2.out HZ.out.2.1 HZ.out.2.2, HZ.out.1⟩
                  | false =>
                    have q1 := of_decide_eq_false ht1.symm
                    have hst := Lib.hid (Srt.one q1 (by omega) g4 HJ.out.1 HJ.out.2.1)
                    clear ht1 Ht3 q1
                    go_wp2_with fail
                    go_end0
                    exact ⟨rfl, d2, HP.out, merge_all (by omega) (by omega) (by omega) HJ.out.2.2.2 HP2.out HS2.out (permIn_refl _ _ _) hst.out, S1.out⟩
end Go.Proofs.Ytfcgpgfghidajaa
