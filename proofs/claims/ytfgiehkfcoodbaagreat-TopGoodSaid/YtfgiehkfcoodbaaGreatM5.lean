/- tariff.Check: steps that rise. -/
import Derived.Test.YtfgiehkfcoodbaaGreatM0
import Derived.Test.YtfgiehkfcoodbaaGreatM4
import Derived.Lib.ReflectliteSlice
import Derived.BigQuiet
import Derived.Deep.QuietTactic
namespace Go.Proofs.YtfgiehkfcoodbaaGreat
open Go.RowKit
set_option linter.unusedVariables false
set_option maxRecDepth 100000
set_option maxHeartbeats 16000000
structure TOk (l:List (Nat × Nat)):Prop where
 pos:1 ≤ l.length
 len:l.length ≤ 8
 bd:∀ p ∈ l,1 ≤ p.1 ∧ p.1 ≤ 10000000 ∧ 1 ≤ p.2 ∧ p.2 ≤ 100000
 rise:∀ i (h:i + 1 < l.length),(l[i]'(by omega)).1 < (l[i + 1]'h).1
 last:∀ (h:l.length - 1 < l.length),(l[l.length - 1]'h).1 = 10000000
theorem st_info:(Tryz.prog.info? 209).map (fun i => (i.zero,i.size,i.bytes)) = some (some (.agg #[(),()]),2,16):=by kernel_rfl
theorem el_st:Elem Tryz.prog 29 209 2 16:=elem_of Tryz.underlying29 st_info rfl (by omega)
theorem less_no (b off c n g i j x y:Nat) (w:World) (hg:w.cell? ⟨g,0,none⟩ = some (.slice (some ⟨b,off,none⟩) n c)) (hi:i < n) (hj:j < n) (q1:w.cell? ⟨b,off + i * 2,none⟩ = some (.int .i64 x)) (q2:w.cell? ⟨b,off + j * 2,none⟩ = some (.int .i64 y)) (h:y < x) :
 Calls Tryz.prog 88 #[i,j,.pointer (some ⟨g,0,none⟩)] w fun e w' => e = .returned (.bool false) ∧ ∃ m,w' = w.drewN m:=by
 have i1:(0:Int) ≤ (i:Int):=by omega
 have i2:(i:Int) < (n:Int):=by omega
 have j1:(0:Int) ≤ (j:Int):=by omega
 have j2:(j:Int) < (n:Int):=by omega
 have hxy:decide (x ≤ y) = false:=by simp;omega
 go_enter Tryz.func88,Tryz.ntmps88
 go_wp2
 go_quiet (fail)
 go_wp2
 go_ret
 exact ⟨rfl,_,rfl⟩
theorem st_desc:∃ i,Tryz.prog.info? 29 = some i ∧ i.desc = .slice 209:=by
 have h:(Tryz.prog.info? 29).map (·.desc) = some (.slice 209):=by kernel_rfl
 cases hi:Tryz.prog.info? 29 with
 | none => rw [hi] at h;cases h
 | some i => rw [hi] at h;exact ⟨i,rfl,by simpa using h⟩
theorem sorted_yes (A:Option Addr) (c g:Nat) (l:List (Nat × Nat)) (w:World) (hv:IsDs w (.slice A l.length c) l) (hl:TOk l) (hg:w.cell? ⟨g,0,none⟩ = some (.slice A l.length c)) :
 Calls Tryz.prog 87 #[.iface 29 (.slice A l.length c),.func (.func 88) #[] #[.pointer (some ⟨g,0,none⟩)]] w fun e w' => e = .returned (.bool true) ∧ Below w.heap.size w w':=by
 obtain ⟨i,hi,hd⟩:=st_desc
 have hV:=Lib.run_valueOf_slice (P:=Tryz.prog) 29 209 i hi hd A l.length c w
 have hL:=fun a w ha => Lib.run_valueLen_slice (P:=Tryz.prog) 29 209 i hi hd (by kernel_rfl) a A l.length c w ha
 have hgl:g < w.heap.size:=World.block_lt_of_cell? w _ hg
 obtain ⟨hpos,hlen,hbd,hrise,_⟩:=hl
 have hat:=fun k hk => hv.at_ (k:=k) hk
 obtain ⟨n,hn⟩:∃ n,l.length = n:=⟨_,rfl⟩
 rw [hn] at hV hL hg hpos hlen ⊢
 have HN:=Lib.hid hn
 simp only [typeHandle] at hV hL
 obtain ⟨G,hG⟩:∃ G,Tryz.prog.globals.size = G:=⟨_,rfl⟩
 rw [hG] at hV hL
 clear hG
 have HV:=Lib.hid hV
 have HL:=Lib.hid hL
 clear hv hn hi hd hV hL
 go_enter Tryz.func87,Tryz.ntmps87
 go_wp2
 rw [run_callFunc_extern Tryz.func97 (by kernel_rfl) (by kernel_rfl) (by kernel_rfl) (e:=fun args => Extern.ReflectliteValue.unpack (args.getD 0 (.tuple #[]))) (by kernel_rfl),
  show Sem.run Tryz.prog ((fun args:Array Value => Extern.ReflectliteValue.unpack (args.getD 0 (.tuple #[]))) #[.iface 29 (.slice A n c)]) w = _ from HV.out]
 simp only [Result.andThen]
 rw [Oper.upon_value]
 go_wp2
 rw [run_callFunc_extern Tryz.func98 (by kernel_rfl) (by kernel_rfl) (by kernel_rfl) (e:=Extern.ReflectliteValue.method (Extern.ReflectliteValue.valueError "reflectlite.Value.Len" 0) Extern.ReflectliteValue.len) (by kernel_rfl),
  HL.out _ _ (by simp)]
 simp only [Result.andThen]
 rw [Oper.upon_value]
 go_wp2
 go_loopw [7] (fun i wr => ∃ k:Nat,k < n ∧ i = .int .i64 k ∧ Below w.heap.size w wr) (fun i _ => (intOf i).toNat)
 case atStart => exact ⟨n - 1,by omega,by rw [show ((n - 1:Nat):Int) = (n:Int) - 1 by omega],below_a2 _ _ _⟩
 case round =>
  obtain ⟨k,hk,rfl,hb⟩:=hrel
  by_cases h0:0 < k
  ·obtain ⟨j,hj⟩:∃ j:Nat,(k:Int) - 1 = (j:Int):=⟨k - 1,by omega⟩
   have hkl:k < l.length:=by rw [HN.out];exact hk
   obtain ⟨b,off,rfl,hB,p1,_⟩:=hat k hkl
   obtain ⟨b',off',e',_,p2,_⟩:=hat j (by omega)
   injection e' with e'
   injection e' with e1 e2
   subst e1;subst e2
   have p1:=(hb.cell (p:=⟨b,off + k * 2,none⟩) hB).trans p1
   have p2:=(hb.cell (p:=⟨b,off + j * 2,none⟩) hB).trans p2
   have hg2:=(hb.cell (p:=⟨g,0,none⟩) hgl).trans hg
   have hlt:l[j].1 < l[k].1:=by
    obtain rfl:k = j + 1:=by omega
    exact hrise j hkl
   generalize l[k].1 = x at *
   generalize l[j].1 = y at *
   have hF:=fun W h1 h2 h3 => less_no b off c n g k j x y W h1 hk (by omega) h2 h3 hlt
   have i0:(0:Int) < (k:Int):=by omega
   clear hat hrise hlt
   go_wp2_with fail
   refine (hF _ hg2 p1 p2).mono ?_
   rintro e w' ⟨rfl,m,rfl⟩
   go_wp2
   go_roundw
   case rel => exact ⟨j,by omega,by go_num,below_draws hb m⟩
   case measure => (simp [intOf];try omega)
  ·obtain rfl:k = 0:=by omega
   clear hat hrise
   go_wp2
   go_ret
   exact ⟨rfl,hb⟩
end Go.Proofs.YtfgiehkfcoodbaaGreat
