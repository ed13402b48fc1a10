/- asked; Issue whatever was there. -/
import Derived.Test.YtfgiehkfcoodbaaGreatM0
import Derived.Test.YtfgiehkfcoodbaaGreatM36
import Derived.Test.YtfgiehkfcoodbaaGreatM1
import Derived.Test.YtfgiehkfcoodbaaGreatM2
import Derived.StillTailTactics
import Derived.Test.YtfgiehkfcoodbaaGreatM24
import Derived.Test.YtfgiehkfcoodbaaGreatM31
import Derived.Test.YtfgiehkfcoodbaaGreatM37
import Derived.Test.YtfgiehkfcoodbaaGreatM6
import Derived.Laws.Cover4
import Derived.Laws.RangeAny
import Derived.Lib.DecodeN
namespace Go.Proofs.YtfgiehkfcoodbaaGreat
open Go.RowKit Go.Maps Go.ChangeShapes Go.WideShapes
set_option linter.unusedVariables false
set_option maxRecDepth 100000
set_option maxHeartbeats 16000000
def issL (l:List Pr) (x y z d:Int):List Pr:=if look l (x,y,z) = none then l ++ [(x,y,z,d)] else l
def issT (l:List Pr) (x y z d:Int):Int:=(look l (x,y,z)).getD d
theorem issL_ok {l:List Pr} {x y z d:Int} (h:OOk l) (hk:mayK (x,y,z)) (hd1:0 ≤ d) (hd2:d ≤ 65535) (h5:l.length < 500):OOk (issL l x y z d):=by
 unfold issL
 by_cases g:look l (x,y,z) = none
 ·rw [if_pos g];exact ook_snoc h ⟨hk,hd1,hd2⟩ h5 g
 ·rw [if_neg g];exact h
theorem issL_len (l:List Pr) (x y z d:Int):l.length ≤ (issL l x y z d).length ∧ (issL l x y z d).length ≤ l.length + 1:=by
 unfold issL;split <;> simp
theorem issL_look (l:List Pr) (x y z d:Int) (k:Int × Int × Int):look (issL l x y z d) k = if k = (x,y,z) then some (issT l x y z d) else look l k:=by
 unfold issL issT
 by_cases e:k = (x,y,z)
 ·subst e
  rw [if_pos rfl]
  cases h:look l (x,y,z) with
  | none => rw [if_pos rfl,look_snoc,h,if_pos (show keyP (x,y,z,d) = (x,y,z) from rfl)];rfl
  | some t => rw [if_neg (by simp),h];rfl
 ·rw [if_neg e]
  split
  ·rw [look_snoc,if_neg (show ¬ keyP (x,y,z,d) = k from fun h => e h.symm),Option.or_none]
  ·rfl
theorem ook_wf {l:List Pr} (h:OOk l):∀ p ∈ l,wfP p:=fun p hp => by
 obtain ⟨⟨h1,h2,h3,h4,h5,h6⟩,h7,h8⟩:=h.2.1 p hp
 unfold keyP at *
 dsimp only at *
 exact ⟨⟨WalkArith.wf_i64 (by omega),WalkArith.wf_i64 (by omega),WalkArith.wf_i64 (by omega)⟩,WalkArith.wf_i64 (by omega)⟩
theorem issT_bd {l:List Pr} {x y z d:Int} (h:OOk l) (hd1:0 ≤ d) (hd2:d ≤ 65535):0 ≤ issT l x y z d ∧ issT l x y z d ≤ 65535:=by
 unfold issT
 cases hl:look l (x,y,z) with
 | none => exact ⟨hd1,hd2⟩
 | some t =>
  obtain ⟨p,hp,_,rfl⟩:=look_some_mem hl
  exact (h.2.1 p hp).2
theorem issue_ok (v:Value) (l l2:List Pr) (x y z d t:Int) (w:World) (hv:IsPs w v l) (hl:OOk l) (hk:mayK (x,y,z)) (hw:wf3 x y z) (hd1:0 ≤ d) (hd2:d ≤ 65535) (h5:l.length < 500) (hl2:Hid (issL l x y z d = l2)) (ht:Hid (issT l x y z d = t)) :
 Calls Tryz.prog 140 #[.agg #[v],x,y,z,d] w (RetIss l2 t w):=by
 rw [← hl2.out,← ht.out]
 unfold issL issT
 cases h:look l (x,y,z) with
 | none => rw [if_pos rfl];exact issue_new v l x y z d w hv hl hk hw hd1 hd2 h h5
 | some t => rw [if_neg (by simp)];exact issue_had v l x y z d t w hv hl hk hw hd1 hd2 h
end Go.Proofs.YtfgiehkfcoodbaaGreat
namespace Go.Proofs.YtfgiehkfcoodbaaGreat
open Go.RowKit
set_option linter.unusedVariables false
set_option maxRecDepth 100000
set_option maxHeartbeats 16000000
theorem may_of {me rev cr H B bad lock:Nat} (h1:me < 50) (h2:rev ≤ 15) (h3:cr ≤ 99999999) (h4:bad < 5) (h5:lock ≤ 30) (h6:¬ (0 < bad ∧ 0 < lock)) (hW:WMay H B):mmay me rev cr H B bad lock = true:=by
 unfold mmay
 rw [if_pos (by unfold may1;omega),if_pos (by unfold may2;omega)]
 exact wmayB_of hW
theorem may_bounds {me rev cr H B bad lock:Nat} (hB:B < 2 ^ 64) (h:mmay me rev cr H B bad lock = true):me < 50 ∧ rev ≤ 15 ∧ cr ≤ 99999999 ∧ bad < 5 ∧ lock ≤ 30 ∧ ¬ (0 < bad ∧ 0 < lock) ∧ WMay H B:=by
 obtain ⟨⟨a1,a2,a3,a4,a5,a6⟩,⟨b1,b2,b3,b4,b5⟩,H',hH',hW⟩:=mmay_bd hB h
 obtain rfl:H = H':=by omega
 exact ⟨by omega,by omega,by omega,by omega,by omega,fun h => b5 ⟨by omega,by omega⟩,hW⟩
theorem keyS_may {l:List Pr} {me rev cr H B bad lock cls id am tag r2 c2 h2 b2 d2 k2 ad E:Nat} (hB:B < 2 ^ 64) (hm:mmay me rev cr H B bad lock = true) (hk:TkOk cls id am tag) (h:keyS l me rev cr H B bad lock cls id am tag = (r2,c2,h2,b2,d2,k2,ad,E)):mmay me r2 c2 h2 b2 d2 k2 = true ∧ b2 < 2 ^ 64:=by
 obtain ⟨a1,a2,a3,a4,a5,a6,hW⟩:=may_bounds hB hm
 suffices hs:(r2 ≤ 15 ∧ c2 ≤ 99999999 ∧ d2 < 5 ∧ k2 ≤ 30 ∧ ¬ (0 < d2 ∧ 0 < k2)) ∧ WMay h2 b2 by
  exact ⟨may_of a1 hs.1.1 hs.1.2.1 hs.1.2.2.1 hs.1.2.2.2.1 hs.1.2.2.2.2 hs.2,hs.2.lt⟩
 have kill:∀ {a b c d e f g i:Nat},(a,b,c,d,e,f,g,i) = (r2,c2,h2,b2,d2,k2,ad,E) → a = r2 ∧ b = c2 ∧ c = h2 ∧ d = b2 ∧ e = d2 ∧ f = k2 ∧ g = ad ∧ i = E:=fun h => by
  injection h with f1 h;injection h with f2 h;injection h with f3 h;injection h with f4 h;injection h with f5 h;injection h with f6 h;injection h with f7 f8
  exact ⟨f1,f2,f3,f4,f5,f6,f7,f8⟩
 have k4:=hk.h4
 unfold keyS at h
 by_cases g1:0 < lock
 ·rw [if_pos g1] at h
  (try dsimp only at h)
  obtain ⟨rfl,rfl,rfl,rfl,rfl,rfl,_,_⟩:=kill h
  exact ⟨by omega,hW⟩
 ·rw [if_neg g1] at h
  by_cases g2:cls = 3
  ·rw [if_pos g2] at h
   (try dsimp only at h)
   obtain ⟨rfl,rfl,rfl,rfl,rfl,rfl,_,_⟩:=kill h
   exact ⟨by omega,hW⟩
  ·rw [if_neg g2] at h
   generalize soldE l me (tbody cls id am) rev tag (rev + 1) = Es at *
   by_cases g3:Es = 0
   ·rw [if_pos g3] at h
    unfold takeS at h
    by_cases g4:judge H B id ≠ 0
    ·rw [if_pos g4] at h
     (try dsimp only at h)
     obtain ⟨rfl,rfl,rfl,rfl,rfl,rfl,_,_⟩:=kill h
     exact ⟨by omega,hW⟩
    ·rw [if_neg g4] at h
     have hT:=take_may hW hk.h2 hk.h3 (Decidable.byContradiction g4)
     by_cases g5:cls = 0
     ·rw [if_pos g5] at h
      by_cases g6:99999999 < cr + am
      ·rw [if_pos g6] at h
       (try dsimp only at h)
       obtain ⟨rfl,rfl,rfl,rfl,rfl,rfl,_,_⟩:=kill h
       exact ⟨by omega,hW⟩
      ·rw [if_neg g6] at h
       (try dsimp only at h)
       obtain ⟨rfl,rfl,rfl,rfl,rfl,rfl,_,_⟩:=kill h
       exact ⟨by omega,hT⟩
     ·rw [if_neg g5] at h
      by_cases g6:cls = 1
      ·rw [if_pos g6] at h
       (try dsimp only at h)
       obtain ⟨rfl,rfl,rfl,rfl,rfl,rfl,_,_⟩:=kill h
       exact ⟨by omega,hT⟩
      ·rw [if_neg g6] at h
       by_cases g7:am ≤ rev
       ·rw [if_pos g7] at h
        (try dsimp only at h)
        obtain ⟨rfl,rfl,rfl,rfl,rfl,rfl,_,_⟩:=kill h
        exact ⟨by omega,hW⟩
       ·rw [if_neg g7] at h
        (try dsimp only at h)
        obtain ⟨rfl,rfl,rfl,rfl,rfl,rfl,_,_⟩:=kill h
        exact ⟨by omega,hT⟩
   ·rw [if_neg g3] at h
    unfold badS at h
    by_cases g4:Es = 12
    ·rw [if_pos g4] at h
     by_cases g5:bad + 1 = 5
     ·rw [if_pos g5] at h
      (try dsimp only at h)
      obtain ⟨rfl,rfl,rfl,rfl,rfl,rfl,_,_⟩:=kill h
      exact ⟨by omega,hW⟩
     ·rw [if_neg g5] at h
      (try dsimp only at h)
      obtain ⟨rfl,rfl,rfl,rfl,rfl,rfl,_,_⟩:=kill h
      exact ⟨by omega,hW⟩
    ·rw [if_neg g4] at h
     (try dsimp only at h)
     obtain ⟨rfl,rfl,rfl,rfl,rfl,rfl,_,_⟩:=kill h
     exact ⟨by omega,hW⟩
theorem mws_len (me rev cr H b bad lock:Nat):(mws me rev cr H b bad lock).length = 5:=rfl
theorem mws_back {me rev cr H b bad lock:Nat} (hb:b < 2 ^ 64) (hm:mmay me rev cr H b bad lock = true):(lock * 16777216 + bad * 65536 + rev * 256 + me) % 256 = me ∧ (lock * 16777216 + bad * 65536 + rev * 256 + me) / 256 % 256 = rev ∧ (lock * 16777216 + bad * 65536 + rev * 256 + me) / 65536 % 256 = bad ∧ (lock * 16777216 + bad * 65536 + rev * 256 + me) / 16777216 % 256 = lock ∧ b % 4294967296 + b / 4294967296 * 4294967296 = b:=by
 obtain ⟨a1,a2,a3,a4,a5,a6,hW⟩:=may_bounds hb hm
 refine ⟨by omega,by omega,by omega,by omega,by omega⟩
theorem make_sl (r:List Nat) (n:Nat) (h:r.length = n):IsSl ((1 :: r) ++ (0 :: List.replicate n 0)) n r 0 :=
 ⟨1,r,0,List.replicate n 0,rfl,h,List.length_replicate,rfl,by omega,by rw [if_pos rfl]⟩
def runeOf (r:Int):Nat:=if Utf8.valid r then r.toNat else 65533
theorem dec_posP (s:ByteArray) (j:Nat) (h:j < s.size):1 ≤ (Utf8.decode s j).2:=by
 by_cases ha:(s[j]'h).toNat < 128
 ·rw [decode_ascii s j h ha];exact Nat.le_refl _
 ·exact (decode_high s j h (by omega)).2
def Told (s:ByteArray):Nat → List Nat → Prop
 | j,[] => s.size ≤ j
 | j,r :: R => j < s.size ∧ (Utf8.decode s j).1 = r ∧ Told s (j + (Utf8.decode s j).2) R
def rtext (R:List Int):ByteArray:=R.foldl (fun r n => r ++ Utf8.encode n) ByteArray.empty
theorem enc_ascii {n:Nat} (h:n < 128):Utf8.encode (n:Int) = ⟨#[UInt8.ofNat n]⟩:=by
 have hv:Utf8.valid (n:Int) = true:=by unfold Utf8.valid;simp;omega
 unfold Utf8.encode;rw [hv];simp [h]
def kv (r:Int):Int :=
 if 48 ≤ r ∧ r < 58 then r - 48 else if 1632 ≤ r ∧ r < 1642 then r - 1632 else if 1776 ≤ r ∧ r < 1786 then r - 1776
 else if 2406 ≤ r ∧ r < 2416 then r - 2406 else if 2534 ≤ r ∧ r < 2544 then r - 2534 else if 65296 ≤ r ∧ r < 65306 then r - 65296 else -1
theorem kv_bd (r:Int):-1 ≤ kv r ∧ kv r ≤ 9:=by unfold kv;repeat' split <;> try omega
abbrev PadS:=List Nat × Bool
abbrev EntS:=List Nat × Nat
def kpress (p:PadS) (r:Int):PadS × Option EntS :=
 if r = 32 ∨ r = 45 ∨ r = 160 then (p,none)
 else if r = 42 then ((p.1.dropLast,p.2),none)
 else if r = 35 then (([],false),if p.2 then some ([],3) else if p.1 = [] then none else some (p.1,0))
 else if kv r < 0 ∨ p.1.length = 30 then ((p.1,true),none)
 else ((p.1 ++ [(kv r).toNat],p.2),none)
def PadOk (p:PadS):Prop:=p.1.length ≤ 30 ∧ ∀ d ∈ p.1,d ≤ 9
theorem kpress_ok {p:PadS} (h:PadOk p) (r:Int):PadOk (kpress p r).1:=by
 obtain ⟨h1,h2⟩:=h
 unfold kpress
 split
 ·exact ⟨h1,h2⟩
 ·split
  ·exact ⟨by simp;omega,fun d hd => h2 d (List.dropLast_subset _ hd)⟩
  ·split
   ·exact ⟨by simp,by simp⟩
   ·split
    ·exact ⟨h1,h2⟩
    ·rename_i h3
     have:=kv_bd r
     refine ⟨?_,fun d hd => ?_⟩
     ·simp;omega
     ·rcases List.mem_append.1 hd with h4 | h4
      ·exact h2 d h4
      ·simp at h4;omega
def kstep (x:PadS × List EntS) (r:Int):PadS × List EntS:=((kpress x.1 r).1,x.2 ++ (kpress x.1 r).2.toList)
def kkeys (R:List Int) (x:PadS × List EntS):PadS × List EntS:=R.foldl kstep x
def EntOk (e:EntS):Prop:=(∀ d ∈ e.1,d ≤ 9) ∧ e.1.length ≤ 30 ∧ e.2 < 100
theorem kkeys_ents (R:List Int):∀ (x:PadS × List EntS),PadOk x.1 → (∀ e ∈ x.2,EntOk e) → ∀ e ∈ (kkeys R x).2,EntOk e:=by
 induction R with
 | nil => intro x _ h;exact h
 | cons r R ih =>
  intro x hp h
  refine ih _ (kpress_ok hp r) ?_
  intro e he
  rcases List.mem_append.1 he with h1 | h1
  ·exact h e h1
  ·unfold kpress at h1
   split at h1
   ·simp at h1
   ·split at h1
    ·simp at h1
    ·split at h1
     ·split at h1
      ·simp at h1;subst h1;exact ⟨by simp,by simp,by simp⟩
      ·split at h1
       ·simp at h1
       ·simp at h1;subst h1;exact ⟨hp.2,hp.1,by simp⟩
     ·split at h1 <;> simp at h1
theorem kkeys_len (R:List Int):∀ (x:PadS × List EntS),(kkeys R x).2.length ≤ x.2.length + R.length:=by
 induction R with
 | nil => intro x;simp [kkeys]
 | cons r R ih =>
  intro x
  have h:=ih (kstep x r)
  have h2:(kstep x r).2.length ≤ x.2.length + 1:=by
   unfold kstep
   cases (kpress x.1 r).2 <;> simp
  show (kkeys R (kstep x r)).2.length ≤ _
  simp;omega
def rest97 (l:List Nat):Nat:=l.foldl (fun n d => (n * 10 + d) % 97) 0
def p10:Nat → Nat → Nat
 | 0,a => a
 | k + 1,a => p10 k a * 10 % 97
end Go.Proofs.YtfgiehkfcoodbaaGreat
