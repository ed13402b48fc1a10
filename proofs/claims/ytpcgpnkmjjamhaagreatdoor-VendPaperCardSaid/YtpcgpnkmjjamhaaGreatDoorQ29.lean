/- disk: Replay. -/
import Derived.Test.YtpcgpnkmjjamhaaGreatDoorQ7
import Derived.Deep.RegionLaw
namespace Go.Proofs.YtpcgpnkmjjamhaaGreatDoor
open Go.RowKit
set_option linter.unusedVariables false
set_option maxRecDepth 100000
section
variable {P : Program}
theorem step_clone {ops : Array Oper} {o : Oper} {a : Act} {K : Act → World → Prop} {Q : Exit → Act → World → Prop} {F : Prop} {t e : TypeId} {size bytes : Nat} (E : Elem P t e size bytes) (hgd : o.guard = none) (s x : Operand)
   (ho : o.op = .call { callee := .builtin .append, args := #[s, x], argTypes := #[t, t] })
   (W : World) (hs : a.eval s = .slice none 0 0) (B : Nat) (A : Option Addr) (m c : Nat) (news : List Value) (hx : a.eval x = .slice A m c) (hr : Rd W B size A m news) (hm : 0 < m)
   (h1 : ∀ u ∈ news, u.oneCell' = true) (hbytes : m * bytes ≤ 140737488355328) (hmax : m ≤ maxLen)
   (h : ∀ A' c' w', w'.ownsRow W.heap.size e size (.slice A' m c') m news → Below W.heap.size W w' → K (a.put o.dst (.slice A' m c')) w') :
   if Region.wanted o (yielded ops a.tmps) = true then Oper.wp P o a W K Q else F := by
 obtain ⟨i, z, hi, hz, hsize, hby, hzs⟩ := E.info
 obtain ⟨b, off, rfl, _, hc⟩ := hr.at_ hm
 refine step_append_lies W hgd s x t ho W.heap.size e i z size bytes E.und hi hz hsize hby hzs E.pos _ 0 [] hs (World.ownsRow_nil _ _ _ _) ⟨b, off, none⟩ m c news hx hr.1 ?_ h1 hm (by omega) (by rw [Nat.zero_add]; exact hbytes) (Nat.le_refl _) _ rfl ?_
 · intro j u hj
   rw [add_none]
   exact hc j u hj
 · intro g cap w' ho' hgr _ _
   rw [Nat.zero_add, List.nil_append] at ho'
   rw [Nat.zero_add]
   exact h _ _ _ ho' ((Below.refl _ _).grown hgr (Nat.le_refl _) (fun k hk => by cases hk))
end
theorem OwnWs.set_ {w : World} {e t : TypeId} {v : Value} {xs : List Nat} {g : Nat} {cs : Array Value} (h : OwnWs w e v xs) (hB : w.heap[g]? = some (.cells cs t (0, 0))) (hne : e ≠ t) (u : Value) : OwnWs (w.setCell ⟨g, 0, none⟩ u) e v xs := by
 refine ⟨own_other h.1 ?_ u, h.2⟩
 rcases h.1.2 with ⟨rfl, _⟩ | ⟨g', cap, cur, rfl, _, hh, _⟩
 · simp [Value.ownBlock]
 · intro he
   have e3 : g = g' := by simpa [Value.ownBlock] using he
   subst e3
   rw [hB] at hh
   injection hh with hh
   injection hh with _ ht
   exact hne ht.symm
theorem below_of_drew {B : Nat} {w w' : World} (h : Below B w.drew w') : Below B w w' := ⟨h.os, h.tape, h.output, h.size, h.block⟩
theorem Blk.ne_ {w : World} {g g' : Nat} {t t' : TypeId} {cs cs' : Array Value} (h : Blk w g t cs) (h' : w.heap[g']? = some (.cells cs' t' (0, 0))) (hne : t ≠ t') : g ≠ g' := by
 rintro rfl
 unfold Blk at h
 rw [h] at h'
 injection h' with h'
 injection h' with _ ht
 exact hne ht
theorem own_blk_ne {w : World} {base g : Nat} {t e : TypeId} {cs : Array Value} {size n : Nat} {v : Value} {xs : List Value} (h : w.ownsRow base e size v n xs) (hg : Blk w g t cs) (hne : e ≠ t) : some g ≠ v.ownBlock := by
 rcases h.2 with ⟨rfl, _⟩ | ⟨g', cap, cur, rfl, _, hh, _⟩
 · simp [Value.ownBlock]
 · intro he
   have e3 : g = g' := by simpa [Value.ownBlock] using he
   subst e3
   exact Blk.ne_ hg hh (fun e => hne e.symm) rfl
section
variable {P : Program}
theorem step_pushg {ops : Array Oper} {o : Oper} {a : Act} {K : Act → World → Prop} {Q : Exit → Act → World → Prop} {F : Prop} {t e : TypeId} {size bytes : Nat} (E : Elem P t e size bytes) (hgd : o.guard = none) (s x : Operand)
   (ho : o.op = .call { callee := .builtin .append, args := #[s, x], argTypes := #[t, t] })
   (W : World) (base g : Nat) (v : Value) (n : Nat) (xs news : List Value) (hs : a.eval s = v) (hown : W.ownsRow base e size v n xs) (hx : a.eval x = .slice (some ⟨g, 0, none⟩) 1 1) (hg : W.heap[g]? = some (.cells ⟨news⟩ e (0, 0)))
   (hl : news.length = size) (h1 : ∀ u ∈ news, u.oneCell' = true) (hbytes : (n + 1) * bytes ≤ 140737488355328) (hmax : n + 1 ≤ maxLen) (hbase : base ≤ W.heap.size)
   (h : ∀ A' c' w', w'.ownsRow base e size (.slice A' (n + 1) c') (n + 1) (xs ++ news) → W.grownBy w' v.ownBlock → Below base W w' → K (a.put o.dst (.slice A' (n + 1) c')) w') :
   if Region.wanted o (yielded ops a.tmps) = true then Oper.wp P o a W K Q else F := by
 obtain ⟨i, z, hi, hz, hsize, hby, hzs⟩ := E.info
 refine step_append_lies W hgd s x t ho base e i z size bytes E.und hi hz hsize hby hzs E.pos v n xs hs hown ⟨g, 0, none⟩ 1 1 news hx (by omega) ?_ h1 (by omega) hmax hbytes hbase _ rfl ?_
 · intro j u hj
   exact World.news_of_block hg j u hj
 · intro g' c' w' ho' hgr _ _
   exact h _ _ _ ho' hgr ((Below.refl _ _).grown hgr hbase (fun k hk => (hown.lt k hk).1))
end
theorem Blk.below' {w w' : World} {B g : Nat} {t : TypeId} {cs : Array Value} (h : Blk w g t cs) (hb : Below B w w') (hg : g < B) : Blk w' g t cs := (hb.block g hg).trans h
def RepPost (base g : Nat) (n : Nat) (vs : List Value) (r : List Nat) (w : World) (e : Ending) (w' : World) : Prop :=
 ∃ A' c' v, e = .returned (.tuple #[]) ∧ Blk w' g 121 #[.slice A' (n + 1) c'] ∧ w'.ownsRow base 31 1 (.slice A' (n + 1) c') (n + 1) (vs ++ [v]) ∧ OwnWs w' 86 v r ∧
   (∀ v xs, OwnWs w 86 v xs → OwnWs w' 86 v xs) ∧ Below base w w' ∧ g < w'.heap.size
set_option maxHeartbeats 1000000 in
theorem replay_fn (u : Value) (r : List Nat) (base g n c : Nat) (A : Option Addr) (vs : List Value) (w : World) (hu : IsWs w u r) (hr : 1 ≤ r.length) (hr2 : r.length ≤ 64) (hn : n ≤ 2048)
   (hB : Blk w g 121 #[.slice A n c]) (hown : w.ownsRow base 31 1 (.slice A n c) n vs) (hbase : base ≤ g) :
   Calls Tryz.prog 62 #[u, .pointer (some ⟨g, 0, none⟩)] w (RepPost base g n vs r w) := by
 obtain ⟨B, d, rfl, hd1, hd2, hx, hrd⟩ := hu
 have hc0 : w.cell? ⟨g, 0, none⟩ = some (.slice A n c) := hB.cell 0
 have hglt := hB.lt
 have hm0 : 0 < r.length := by omega
 have hone : ∀ u ∈ ws r, u.oneCell' = true := by intro u hu; simp [ws] at hu; obtain ⟨x, _, rfl⟩ := hu; rfl
 have hby : r.length * 4 ≤ 140737488355328 := by omega
 have hmx : r.length ≤ maxLen := by unfold maxLen; omega
 have hby2 : (n + 1) * 24 ≤ 140737488355328 := by omega
 have hmx2 : n + 1 ≤ maxLen := by unfold maxLen; omega
 have hbase' : base ≤ w.heap.size := by omega
 go_enter Tryz.func62, Tryz.ntmps62
 go_wp2_with fail
 go_region_law (first | ((refine step_clone el_u32 (by rfl) _ _ (by rfl) _ (by rfl) _ _ _ _ _ (by rfl) hrd hm0 hone hby hmx ?_; intro A1 c1 w1 hown1 hb1; have hownA := (own_below hown (below_of_drew hb1)).alloc (.cells #[.slice A1 r.length c1] 31); have hB1 := (hB.below' (below_of_drew hb1) hglt); have hc1 := hB1.cell 0; have hB2 := hB1.alloc (.cells #[.slice A1 r.length c1] 31); have hc2 := hB2.cell 0; have hne := own_blk_ne hownA hB2 (by decide); have hs1 := hb1.size)) | ((refine step_pushg el_ws (by rfl) _ _ (by rfl) _ base w1.heap.size _ n vs [.slice A1 r.length c1] (by rfl) hownA (by rfl) (heap_alloc_new w1 _) rfl (fun u hu => by simp at hu; subst hu; rfl) hby2 hmx2 (Nat.le_trans hbase' (Nat.le_trans hs1 (by simp))) ?_; intro A2 c2 w2 hown2 hgr2 hb2; have hc3 := (hB2.grown hgr2 hne).cell 0; have hf3 := (hB2.grown hgr2 hne).frozen 0)))
 all_goals
   go_end0
   have hB3 := hB2.grown hgr2 hne
   have k1 : ∀ v xs, OwnWs w1 86 v xs → OwnWs (w2.setCell ⟨g, 0, none⟩ (.slice A2 (n + 1) c2)) 86 v xs := fun v xs h => ((h.alloc _).grown hownA (by decide) hgr2).set_ hB3 (by decide) _
   refine ⟨A2, c2, _, rfl, ?_, own_other hown2 (own_blk_ne hown2 hB3 (by decide)) _, k1 _ _ ⟨own_mono hown1 (Nat.zero_le _), hx⟩, fun v xs h => k1 v xs (h.below (below_of_drew hb1)), ?_, ?_⟩
   · have h := hB3.set_ 0 (.slice A2 (n + 1) c2)
     simpa using h
   · exact ((((below_of_drew hb1).mono hbase').alloc (Nat.le_trans hbase' hs1) _).trans hb2).setCell hbase _
   · have := hB3.lt
     simpa [World.setCell] using this
theorem isws_mid {w : World} {b off n p : Nat} {c r : List Nat} (hc : ∀ j u, (ws c)[j]? = some u → w.cell? ⟨b, off + j, none⟩ = some u) (hb : b < w.heap.size) (hx : ∀ x ∈ c, x < 4294967296) (hr : (c.drop p).take n = r) (hn : r.length = n) (hm : n ≤ maxLen) :
   IsWs w (.slice (some ⟨b, off + p, none⟩) n n) r := by
 subst hn
 refine ⟨_, _, rfl, Nat.le_refl _, hm, fun x h => hx x ?_, by rw [ws_length, Nat.mul_one], fun _ => ⟨b, off + p, rfl, hb, fun j u hu => ?_⟩⟩
 · rw [← hr] at h
   exact List.mem_of_mem_drop (List.mem_of_mem_take h)
 · have hj := (List.getElem?_eq_some_iff.1 hu).1
   rw [ws_length] at hj
   rw [Nat.add_assoc]
   refine hc (p + j) _ ?_
   have e : r[j]? = c[p + j]? := by
     rw [← hr, List.getElem?_take, if_pos (by omega), List.getElem?_drop]
   unfold ws at hu ⊢
   rw [List.getElem?_map] at hu ⊢
   rw [← e]
   exact hu
def RetWalk (base g : Nat) (l : List (List Nat)) (w : World) (e : Ending) (w' : World) : Prop :=
 ∃ A' c' vs, e = .returned (.tuple #[.int .i64 (enc l).length, .int .i64 0]) ∧ Blk w' g 121 #[.slice A' l.length c'] ∧ w'.ownsRow base 31 1 (.slice A' l.length c') l.length vs ∧ IsRo w' 86 vs l ∧ Below base w w'
set_option maxHeartbeats 2000000 in
theorem walk_rep (v : Value) (c : List Nat) (l : List (List Nat)) (w0 w : World) (g : Nat) (hv : IsWs w0 v c) (hb0 : Below w0.heap.size w0 w) (hg : w0.heap.size ≤ g) (hB : Blk w g 121 #[.slice none 0 0]) (ht : IsTape c l) (h1 : 1 ≤ c.length) (h2 : c.length ≤ 2048) :
   Calls Tryz.prog 61 #[v, .func (.func 62) #[] #[.pointer (some ⟨g, 0, none⟩)]] w (RetWalk w0.heap.size g l w) := by
 obtain ⟨A, cp, rfl, hc1, hc2, hx, hr⟩ := hv
 have hcp : cp ≤ 9223372036854775807 := by unfold maxLen at hc2; omega
 obtain ⟨b, off, rfl, hlt, hcell⟩ := hr.at_ (by omega)
 have hle := ht.le
 have hll := enc_len_ge l
 clear hr
 go_enter Tryz.func61, Tryz.ntmps61
 go_wp2_with fail
 go_loopw [6] (fun a wr => ∃ (i p : Nat) (A' : Option Addr) (c' : Nat) (vs : List Value), i ≤ l.length ∧ a = .int .i64 p ∧ Hid ((enc (l.take i)).length = p) ∧ p ≤ c.length ∧ Blk wr g 121 #[.slice A' i c'] ∧ wr.ownsRow w0.heap.size 31 1 (.slice A' i c') i vs ∧ IsRo wr 86 vs (l.take i) ∧ Below w0.heap.size w wr) (fun a _ => c.length - (intOf a).toNat)
 case atStart => exact ⟨0, 0, none, 0, [], by omega, rfl, rfl, by omega, hB, World.ownsRow_nil _ _ _ _, isro_nil _ _, Below.refl _ _⟩
 case round =>
   obtain ⟨i, p, A', c', vs, hi, rfl, HP, hpc, hBr, hown, hro, hbr⟩ := hrel
   have hb := hb0.trans hbr
   by_cases hil : i < l.length
   · have hh := ht.head hil
     have hf := ht.fits hil
     obtain ⟨k1, k2, k3⟩ := ht.1 _ (List.getElem_mem hil)
     have HP2 : Hid ((enc (l.take (i + 1))).length = p + 1 + l[i].length) := by
       show _ = _
       rw [enc_take_succ hil, List.length_append, HP.out]; simp; omega
     rw [HP.out] at hh hf
     have hrec := ht.rec_ hil
     rw [HP.out] at hrec
     clear HP
     have HTk := Lib.hid (List.take_succ_eq_append_getElem hil)
     generalize l[i] = r at *
     obtain ⟨n, hn⟩ : ∃ n, r.length = n := ⟨_, rfl⟩
     rw [hn] at hh hf hrec k1 k2 HP2
     have hpl : p < c.length := by omega
     have q1 : wr.cell? ⟨b, off + p, none⟩ = some (.int .u32 n) := by
       obtain ⟨hp1, hp2⟩ := List.getElem?_eq_some_iff.1 hh
       have := hcell p _ (ws_get hp1)
       rw [hp2] at this
       exact (hb.cell (p := ⟨b, off + p, none⟩) hlt).trans this
     have g1 : ((n : Int) != 0) = true := by rw [bne_iff_ne]; omega
     have Hn := Lib.hid hn
     have Hr := Lib.hid hrec
     clear hh ht hn hrec
     have hrc := isws_mid (fun j u hu => (hb.cell (p := ⟨b, off + j, none⟩) hlt).trans (hcell j u hu)) (Nat.lt_of_lt_of_le hlt hb.size) hx Hr.out Hn.out (by unfold maxLen; omega)
     have hF := fun W h1 h2 h3 => replay_fn (.slice (some ⟨b, off + (p + 1), none⟩) n n) r w0.heap.size g i c' A' vs W h1 (by rw [Hn.out]; exact k1) (by rw [Hn.out]; exact k2) (by omega) h2 h3 hg
     clear hcell
     go_wp2_with fail
     refine (hF _ hrc hBr hown).mono ?_
     rintro e w1 ⟨A2, c2, v2, rfl, hB2, hown2, hv2, hkeep, hb2, _⟩
     go_wp2
     go_roundw
     case rel => exact ⟨i + 1, p + 1 + n, A2, c2, _, by omega, by go_num, HP2, by omega, hB2, hown2, by rw [HTk.out]; exact (hro.map hkeep).snoc hv2, hbr.trans hb2⟩
     case measure => (simp [intOf]; try omega)
   · obtain rfl : i = l.length := by omega
     rw [List.take_length] at HP hro
     by_cases hpl : p < c.length
     · have hh := ht.end_ (by rw [HP.out]; exact hpl)
       rw [HP.out] at hh
       have q1 : wr.cell? ⟨b, off + p, none⟩ = some (.int .u32 0) := by
         obtain ⟨hp1, hp2⟩ := List.getElem?_eq_some_iff.1 hh
         have := hcell p _ (ws_get hp1)
         rw [hp2] at this
         exact (hb.cell (p := ⟨b, off + p, none⟩) hlt).trans this
       clear hh hcell ht
       go_wp2
       go_ret2
       exact ⟨A', c', vs, by rw [HP.out]; rfl, hBr, hown, hro, hbr⟩
     · clear hcell ht
       go_wp2
       go_ret2
       exact ⟨A', c', vs, by rw [HP.out]; rfl, hBr, hown, hro, hbr⟩
def RetRep (L : List (List Nat)) (w : World) (e : Ending) (w' : World) : Prop :=
 ∃ A c vs, e = .returned (.tuple #[.slice A L.length c, .int .i64 (enc L).length, .int .i64 0]) ∧ w'.ownsRow w.heap.size 31 1 (.slice A L.length c) L.length vs ∧ IsRo w' 86 vs L ∧ Below w.heap.size w w'
theorem RetRep.is {L : List (List Nat)} {w w' : World} {A : Option Addr} {c : Nat} {vs : List Value} (h : w'.ownsRow w.heap.size 31 1 (.slice A L.length c) L.length vs) (hr : IsRo w' 86 vs L) : IsRr w' (.slice A L.length c) L := isrr_own rfl h hr.is
set_option maxHeartbeats 2000000 in
theorem replay_ok (v : Value) (c : List Nat) (l : List (List Nat)) (w : World) (hv : IsWs w v c) (ht : IsTape c l) (h1 : 1 ≤ c.length) (h2 : c.length ≤ 2048) :
   Calls Tryz.prog 35 #[v] w (RetRep l w) := by
 have hW := fun g W hb hg hB => walk_rep v c l w W g hv hb hg hB ht h1 h2
 obtain ⟨A, cp, rfl, _, _, _, _⟩ := hv
 clear ht h1 h2
 go_enter Tryz.func35, Tryz.ntmps35
 go_wp2_with fail
 refine (hW w.heap.size _ (below_a1 _ _) (Nat.le_refl _) (Blk.new _ _ _)).mono ?_
 rintro e w1 ⟨A2, c2, vs, rfl, hB2, hown2, hro2, hb2⟩
 have hc2 := hB2.cell 0
 have hz := hB2.lt
 clear hW
 go_wp2
 go_ret3
 exact ⟨A2, c2, vs, rfl, hown2, hro2, (below_a1 _ _).trans hb2⟩
end Go.Proofs.YtpcgpnkmjjamhaaGreatDoor
