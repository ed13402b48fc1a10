/- words.Show: a wide number's decimal digits. -/
import Derived.Test.YtfgiehkfcoodbaaGreatM33
import Derived.Test.YtfgiehkfcoodbaaGreatM17
import Derived.Test.YtfgiehkfcoodbaaGreatM24
import Derived.Test.YtfgiehkfcoodbaaGreatM9
namespace Go.Proofs.YtfgiehkfcoodbaaGreat
open Go.RowKit
set_option linter.unusedVariables false
set_option maxRecDepth 100000
set_option maxHeartbeats 16000000
theorem el_str:Elem Tryz.prog 301 9 1 16:=elem_of Tryz.underlying301 (show _ = some (some (.string ⟨#[]⟩),1,16) by kernel_rfl) rfl (by omega)
theorem enc_digit {d:Nat} (h:d ≤ 9):Utf8.encode (48 + (d:Int)) = dstr [d]:=by
 match d,h with
 | 0,_ => rfl
 | 1,_ => rfl
 | 2,_ => rfl
 | 3,_ => rfl
 | 4,_ => rfl
 | 5,_ => rfl
 | 6,_ => rfl
 | 7,_ => rfl
 | 8,_ => rfl
 | 9,_ => rfl
 | n + 10,h => omega
def lenOf:Value → Nat
 | .slice _ n _ => n
 | _ => 0
def pieces (ps:List Nat):List Value:=strs (ps.map fun d => [dg d])
theorem pieces_snoc (ps:List Nat) (d:Nat):pieces ps ++ [.string (dstr [d])] = pieces (ps ++ [d]):=by simp [pieces,strs,dstr]
theorem pieces_flat (l:List Nat):(l.map fun d => [dg d]).flatten = l.map dg:=by
 induction l with
 | nil => rfl
 | cons d l ih => simp [ih]
theorem str_map_dg (l:List Nat):(⟨(l.map dg).toArray⟩:ByteArray) = dstr l:=rfl
theorem q_zero {q0 q1 q2 r V:Nat} (l0:q0 < 4294967296) (l1:q1 < 4294967296) (l2:q2 < 4294967296) (h:val3 q0 q1 q2 * 10 + r = V) (hV:V < 10):q0 = 0 ∧ q1 = 0 ∧ q2 = 0 ∧ V = r:=by
 unfold val3 at h
 omega
theorem q_pos {q0 q1 q2 r V:Nat} (h:val3 q0 q1 q2 * 10 + r = V) (hV:¬ V < 10) (hr:(r:Int) ≤ 9):(((q0:Int) == 0) && (((q1:Int) == 0) && ((q2:Int) == 0))) = false:=by
 unfold val3 at h
 rw [Bool.eq_false_iff]
 intro hc
 simp only [Bool.and_eq_true,beq_iff_eq] at hc
 omega
theorem show_ok (x0 x1 x2:Nat) (w:World) (h0:x0 < 4294967296) (h1:x1 < 4294967296) (h2:x2 < 4294967296) :
 Calls Tryz.prog 147 #[.agg #[.int .u32 x0,.int .u32 x1,.int .u32 x2]] w fun e w' => e = .returned (.string (dstr (dec (val3 x0 x1 x2)))) ∧ Below w.heap.size w w':=by
 obtain ⟨N0,hN0⟩:∃ N,val3 x0 x1 x2 = N:=⟨_,rfl⟩
 have HN0:=Lib.hid hN0
 clear hN0
 have H:=Mem.init w
 replace H:=H.al w.heap.size #[.int .u32 ↑x0,.int .u32 ↑x1,.int .u32 ↑x2] (288) |>.gen
 simp only [List.nil_append] at H
 obtain ⟨W0,hW0,H⟩:=H
 have Lwb:=H.c3 0 rfl
 go_enter Tryz.func147,Tryz.ntmps147
 go_wp2
 clear hW0
 go_loopw [3] (fun v wr => ∃ (y0 y1 y2:Nat) (ps:List Nat) (A:Option Addr) (c:Nat),y0 < 4294967296 ∧ y1 < 4294967296 ∧ y2 < 4294967296 ∧ Hid (dec N0 = dec (val3 y0 y1 y2) ++ ps.reverse) ∧ (∀ d ∈ ps,d ≤ 9) ∧ v = .slice A ps.length c ∧ Mem w [] wr [.blk w.heap.size 288 #[.int .u32 ↑y0,.int .u32 ↑y1,.int .u32 ↑y2],.row w.heap.size 9 1 (.slice A ps.length c) ps.length (pieces ps)]) (fun v _ => 40 - lenOf v)
 case atStart => exact ⟨x0,x1,x2,[],none,0,h0,h1,h2,(show _ = _ by rw [HN0.out];simp),by simp,rfl,H.nilrow _ _ _⟩
 case round =>
  obtain ⟨y0,y1,y2,ps,A,c,k0,k1,k2,hd,hp,rfl,HM⟩:=hrel
  clear Lwb
  clear H
  obtain ⟨n,hn⟩:∃ n,ps.length = n:=⟨_,rfl⟩
  have hlen:=dec_len N0 29 (by rw [← HN0.out];have:=val3_lt h0 h1 h2;omega) (by omega)
  have hpos:=dec_pos (val3 y0 y1 y2)
  have hn28:n ≤ 28:=by
   have:=congrArg List.length hd.out
   simp at this;omega
  clear hlen hpos
  have hO:=fun W => over_is y0 y1 y2 10 W k0 k1 k2 (by omega) (by omega)
  rw [hn] at HM ⊢
  obtain ⟨V,hV⟩:∃ V,val3 y0 y1 y2 = V:=⟨_,rfl⟩
  have HP:=Lib.hid hn
  clear hn
  rw [hV] at hO hd
  clear hV
  have H:Mem (w) [] (wr) [.blk (w.heap.size) 288 #[.int .u32 ↑y0,.int .u32 ↑y1,.int .u32 ↑y2],.row (w.heap.size) (9) (1) (.slice A n c) (n) (pieces ps)]:=HM
  clear HM
  have Lwb:=H.c3 0 rfl
  go_wp2_with fail
  refine (hO _).mono ?_
  rintro e wa ⟨q0,q1,q2,r,l0,l1,l2,hr,hq,rfl,hba⟩
  replace H:=Mem.call H hba
  clear Lwb
  have Lwb:=H.c3 0 rfl
  clear hba hO
  have hE:=enc_digit (d:=r) (by omega)
  have hr9:(r:Int) ≤ 9:=by omega
  clear hr
  clear k0 k1 k2
  clear Lwb
  by_cases hV:V < 10
  ·obtain ⟨rfl,rfl,rfl,hVr⟩:=q_zero l0 l1 l2 hq.out hV
   have HVr:=Lib.hid hVr
   clear hVr hV hq
   have hE2:=fun W => wide_eql 0 0 0 0 0 0 W
   rw [show (((0:Int) == 0) && (((0:Int) == 0) && ((0:Int) == 0))) = true by rfl] at hE2
   replace H:=H.al wa.heap.size #[.int .u32 0,.int .u32 0,.int .u32 0] (288)
   simp only [List.cons_append,List.nil_append] at H
   go_wp2_with (at_builtin;refine wpList_pushM el_str rfl (.tmp 13) (.tmp 18) rfl 1 H rfl rfl _ (World.size_alloc _ _) rfl (news:=[.string (dstr [r])]) rfl (fun u hu => by simp at hu;subst hu;rfl) (by omega) (by unfold maxLen;omega) H.keep.size ?_;intro A1 c1 w1 H1;obtain ⟨wblt,wb0,wbf0,wb1,wbf1,wb2,wbf2⟩:=H1.c3 0 rfl;obtain ⟨nxlt,nx0,nxf0,nx1,nxf1,nx2,nxf2⟩:=H1.c3 2 rfl;obtain ⟨ne_wb_nx,ne_nx_wb⟩:=H1.ne2 0 2 rfl rfl rfl)
   replace H:Mem (w) [] (w1) [.blk (w.heap.size) 288 #[.int .u32 ↑y0,.int .u32 ↑y1,.int .u32 ↑y2],.row (w.heap.size) (9) (1) (.slice A1 (n + 1) c1) (n + 1) (pieces ps ++ [.string (dstr [r])]),.blk (wa.heap.size) 288 #[.int .u32 0,.int .u32 0,.int .u32 0]]:=H1
   clear H1
   replace H:=H.set 0 rfl 0 (.int .u32 0) |>.set 0 rfl 1 (.int .u32 0) |>.set 0 rfl 2 (.int .u32 0) |>.gen
   simp only [List.set_cons_zero,List.setIfInBounds_toArray,List.set_cons_succ] at H
   obtain ⟨w2,hw2,H⟩:=H
   rw [hw2]
   clear hw2
   clear wblt wb0 wbf0 wb1 wbf1 wb2 wbf2 nxlt nx0 nxf0 nx1 nxf1 nx2 nxf2 ne_wb_nx ne_nx_wb
   clear hE hE2
   rw [pieces_snoc] at H
   refine (revS_mem _ _ _ _ 1 _ _ _ _ _ _ H rfl).mono ?_
   rintro e w3 ⟨rfl,H3⟩
   go_wp2_with fail
   have hO3:=H3.own_ 1 rfl
   have hfl:Lib.join (List.map (fun d => [dg d]) (ps ++ [r])).reverse (⟨#[]⟩:ByteArray).data.toList = (dec N0).map dg:=by
    show Lib.join _ [] = _
    rw [join_flat,← List.map_reverse,pieces_flat,hd.out,HVr.out,dec_small (by omega)]
    simp
   have hl29:=dec_len N0 29 (by rw [← HN0.out];have:=val3_lt h0 h1 h2;omega) (by omega)
   have hJ:=joinS_own _ _ _ _ _ _ ⟨#[]⟩ _ hO3 (by omega) (by rw [hfl];simp;omega)
   rw [hfl,str_map_dg] at hJ
   refine hJ.mono ?_
   rintro e w4 ⟨rfl,hb4⟩
   clear hfl hJ hO3 hl29
   go_wp2
   go_ret
   exact ⟨by rw [HN0.out];rfl,(H3.call hb4).below⟩
  ·skip
   have hE2:=fun W => wide_eql (q0:Int) (q1:Int) (q2:Int) 0 0 0 W
   rw [q_pos hq.out hV hr9] at hE2
   replace H:=H.al wa.heap.size #[.int .u32 ↑q0,.int .u32 ↑q1,.int .u32 ↑q2] (288)
   simp only [List.cons_append,List.nil_append] at H
   go_wp2_with (at_builtin;refine wpList_pushM el_str rfl (.tmp 13) (.tmp 18) rfl 1 H rfl rfl _ (World.size_alloc _ _) rfl (news:=[.string (dstr [r])]) rfl (fun u hu => by simp at hu;subst hu;rfl) (by omega) (by unfold maxLen;omega) H.keep.size ?_;intro A1 c1 w1 H1;obtain ⟨wblt,wb0,wbf0,wb1,wbf1,wb2,wbf2⟩:=H1.c3 0 rfl;obtain ⟨nxlt,nx0,nxf0,nx1,nxf1,nx2,nxf2⟩:=H1.c3 2 rfl;obtain ⟨ne_wb_nx,ne_nx_wb⟩:=H1.ne2 0 2 rfl rfl rfl)
   replace H:Mem (w) [] (w1) [.blk (w.heap.size) 288 #[.int .u32 ↑y0,.int .u32 ↑y1,.int .u32 ↑y2],.row (w.heap.size) (9) (1) (.slice A1 (n + 1) c1) (n + 1) (pieces ps ++ [.string (dstr [r])]),.blk (wa.heap.size) 288 #[.int .u32 ↑q0,.int .u32 ↑q1,.int .u32 ↑q2]]:=H1
   clear H1
   replace H:=H.set 0 rfl 0 (.int .u32 ↑q0) |>.set 0 rfl 1 (.int .u32 ↑q1) |>.set 0 rfl 2 (.int .u32 ↑q2) |>.gen
   simp only [List.set_cons_zero,List.setIfInBounds_toArray,List.set_cons_succ] at H
   obtain ⟨w2,hw2,H⟩:=H
   rw [hw2]
   clear hw2
   clear wblt wb0 wbf0 wb1 wbf1 wb2 wbf2 nxlt nx0 nxf0 nx1 nxf1 nx2 nxf2 ne_wb_nx ne_nx_wb
   clear hE hE2
   go_roundw
   case rel =>
    replace H:=Mem.drop_ 2 H
    refine ⟨q0,q1,q2,ps ++ [r],A1,c1,l0,l1,l2,?_,fun d hd' => ?_,by simp [HP.out],?_⟩
    ·show _ = _
     have hqV:=hq.out
     rw [hd.out,dec_big hV,show V / 10 = val3 q0 q1 q2 by omega,show V % 10 = r by omega]
     simp
    ·rcases List.mem_append.1 hd' with h | h
     ·exact hp d h
     ·simp at h;omega
    ·rw [← pieces_snoc,show (ps ++ [r]).length = n + 1 by simp [HP.out]]
     exact H
   case measure => simp [lenOf];omega
end Go.Proofs.YtfgiehkfcoodbaaGreat
