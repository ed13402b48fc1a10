/- token: Format. -/
import Derived.Test.YtfgiehkfcoodbaaGreatM0
import Derived.Test.YtfgiehkfcoodbaaGreatM32
import Derived.Test.YtfgiehkfcoodbaaGreatM34
namespace Go.Proofs.YtfgiehkfcoodbaaGreat
open Go.RowKit
set_option linter.unusedVariables false
set_option maxRecDepth 100000
set_option maxHeartbeats 16000000
def tokD (cls id am tag:Nat):List Nat:=pad 20 (tokN cls id am tag * 97)
theorem tok_lt20 {cls id am tag:Nat} (h:TkOk cls id am tag):tokN cls id am tag * 97 < 10 ^ 20:=by
 have:=tokN_lt h
 have e:(10:Nat) ^ 20 = 100000000000000000000:=by decide
 rw [e];omega
theorem tokD_len {cls id am tag:Nat} (h:TkOk cls id am tag):(tokD cls id am tag).length = 20:=pad_len (tok_lt20 h) (by omega)
theorem rep_zero (m:Nat):Lib.repeatL [48] m = (List.replicate m 0).map dg:=by
 induction m with
 | zero => rfl
 | succ m ih => rw [Lib.repeatL,ih,List.replicate_succ,List.map_cons];rfl
theorem pad_str {n k m:Nat} (h:k - (dec n).length = m):(⟨(Lib.repeatL (⟨#[48]⟩:ByteArray).data.toList m).toArray⟩:ByteArray) ++ dstr (dec n) = dstr (pad k n):=by
 unfold pad
 rw [dstr_append,h]
 congr 1
 show (⟨(Lib.repeatL [48] m).toArray⟩:ByteArray) = _
 rw [rep_zero];rfl
theorem format_ok (cls id am tag:Nat) (w:World) (hk:TkOk cls id am tag) :
 Calls Tryz.prog 141 #[.agg #[cls,id,am,tag]] w fun e w' => e = .returned (.tuple #[.string (dstr (tokD cls id am tag)),()]) ∧ Below w.heap.size w w':=by
 have hW:=fun W => twords_ok cls id am tag W hk
 have hl20:=dec_len _ 20 (tok_lt20 hk) (by omega)
 obtain ⟨D,hD⟩:∃ D,tokN cls id am tag * 97 = D:=⟨_,rfl⟩
 have hpd:tokD cls id am tag = pad 20 D:=by unfold tokD;rw [hD]
 rw [hpd]
 rw [hD] at hW hl20
 obtain ⟨m,hm⟩:∃ m,20 - (dec D).length = m:=⟨_,rfl⟩
 have hcat:=Lib.hid (pad_str hm)
 have hmI:(20:Int) - ((dec D).length:Int) = (m:Int):=by omega
 have hRp:=fun W => Tryz.strings_Repeat ⟨#[48]⟩ m W (by omega) (by show 1 * m ≤ _;omega)
 obtain ⟨R,hR⟩:∃ R,(⟨(Lib.repeatL (⟨#[48]⟩:ByteArray).data.toList m).toArray⟩:ByteArray) = R:=⟨_,rfl⟩
 rw [hR] at hRp hcat
 have hRz:R.size = m:=by
  rw [← hR]
  show (Lib.repeatL [48] m).toArray.size = m
  rw [List.size_toArray,Lib.repeatL_length];simp
 have hm20:(m:Int) ≤ 20:=by omega
 have hS:=@ByteArray.size_append
 have hsz:=dstr_size (dec D)
 obtain ⟨l,hl⟩:∃ l,dec D = l:=⟨_,rfl⟩
 rw [hl] at hcat hmI hsz hl20
 have hlI:(l.length:Int) ≤ 20:=by omega
 have Hl:=Lib.hid hl
 clear hD hpd hm hR hl hk
 have H:=Mem.init w
 replace H:=H.al w.heap.size #[cls,id,am,tag] (273) |>.gen
 simp only [List.nil_append] at H
 obtain ⟨W0,hW0,H⟩:=H
 have Ltk:=H.c4 0 rfl
 go_enter Tryz.func141,Tryz.ntmps141
 go_wp2_with fail
 refine (hW _).mono ?_
 rintro e wa ⟨y0,y1,y2,rfl,l0,l1,l2,hv,hba⟩
 replace H:=Mem.call H hba
 have hSh:=fun W => show_ok y0 y1 y2 W l0 l1 l2
 rw [hv,Hl.out] at hSh
 clear Ltk
 have Ltk:=H.c4 0 rfl
 clear hba hW hW0 hv l0 l1 l2
 go_wp2_with fail
 replace H:=H.al wa.heap.size #[.int .u32 ↑y0,.int .u32 ↑y1,.int .u32 ↑y2] (288) |>.gen
 simp only [List.cons_append,List.nil_append] at H
 obtain ⟨wb,hwb,H⟩:=H
 rw [hwb]
 clear hwb
 refine (hSh _).mono ?_
 rintro e wc ⟨rfl,hbc⟩
 replace H:=Mem.call H hbc
 clear Ltk
 have Ltk:=H.c4 0 rfl
 have Lwd:=H.c3 1 rfl
 have Ntkwd:=H.ne2 0 1 rfl rfl rfl
 clear hbc hSh
 go_wp2_with fail
 refine (hRp _).mono ?_
 rintro e wd ⟨rfl,hbd⟩
 replace H:=Mem.call H hbd
 clear Ltk Lwd Ntkwd
 clear hbd hRp hmI
 go_wp2
 go_ret2
 refine ⟨?_,H.below⟩
 rw [← hcat.out];rfl
end Go.Proofs.YtfgiehkfcoodbaaGreat
