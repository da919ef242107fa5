/- The helper scheme; the document's Texts and Same. -/
import Derived.Test.YtndlihclgdkpaaaGreatDoorGf
set_option linter.unusedVariables false
set_option linter.unusedSimpArgs false
open Go.Lib (hid)
namespace Go.Proofs.YtndlihclgdkpaaaGreatDoor
open Go.RowKit
open Kit (Chg)
open Sha (v)
open Go.Proofs.YtndlihclgdkpaaaGreatDoor.One
set_option maxRecDepth 100000 in
set_option maxHeartbeats 2000000 in
theorem texts_any (a b:Option Addr) (c1 c2 L1 L2:Nat) (X Y:List ByteArray) (h1:X.length=L1) (h2:Y.length=L2) (hl1:L1≤1000000) (hl2:L2≤9223372036854775807) (w:World) (hX:StrsAt w a X) (hY:StrsAt w b Y):
    Calls Tryz.prog 220 #[.slice a L1 c1,.slice b L2 c2] w fun e w'=>e= .returned (.bool (decide (X=Y)))∧Below w.heap.size w w':=by
 by_cases hl:L1=L2
 ·subst hl
  have HX:=hid hX
  have HY:=hid hY
  have H1:=hid h1
  have H2:=hid h2
  clear hX hY h1 h2
  go_enter Tryz.func220,Tryz.ntmps220
  go_wp2_with fail
  go_loopw [13] (fun z wr=> ∃k:Nat,k≤L1∧z= .int .i64 (k:Int)∧Drawn w wr∧Hid (∀i,i<k→X.getD i ByteArray.empty=Y.getD i ByteArray.empty)) (fun z _=>L1 - (intOf z).toNat)
  case atStart=>exact ⟨0,by omega,rfl,Drawn.refl _,fun i h=>by omega⟩
  case round=>
   obtain ⟨k,hk,rfl,hdr,HLE⟩:=hrel
   obtain ⟨q,rfl⟩:=hdr
   by_cases hlt:k<L1
   ·have hki:(k:Int)<(L1:Int):=by omega
    obtain ⟨b2,o2,rfl,hc2⟩: ∃b o,a=some ⟨b,o,none⟩∧ ∀i,i<X.length→w.cell? ⟨b,o+i,none⟩=some (.string (X.getD i ByteArray.empty)):=by
     rcases HX.o with h | h
     ·have:=H1.o;rw [h] at this;simp at this;omega
     ·exact h
    obtain ⟨b3,o3,rfl,hc3⟩: ∃b' o,b=some ⟨b',o,none⟩∧ ∀i,i<Y.length→w.cell? ⟨b',o+i,none⟩=some (.string (Y.getD i ByteArray.empty)):=by
     rcases HY.o with h | h
     ·have:=H2.o;rw [h] at this;simp at this;omega
     ·exact h
    have hx:(w.drewN q).cell? ⟨b2,o2+k,none⟩=some (.string (X.getD k ByteArray.empty)):=hc2 k (by rw [H1.o];exact hlt)
    have hy:(w.drewN q).cell? ⟨b3,o3+k,none⟩=some (.string (Y.getD k ByteArray.empty)):=hc3 k (by rw [H2.o];exact hlt)
    obtain ⟨d,hd⟩:=ex_eq (X.getD k ByteArray.empty)
    obtain ⟨f,hf⟩:=ex_eq (Y.getD k ByteArray.empty)
    rw [hd] at hx
    rw [hf] at hy
    have HDF:=hid (And.intro hd hf)
    have HTF:Hid ((d.toList==f.toList)=decide (d=f)):=hid (by
     rw [eq_str,decide_eq_decide]
     exact ⟨nb_inj,fun h=>by rw [h]⟩)
    clear hc2 hc3 hd hf
    go_upto_region 6 with fail
    refine Kit.wp_region_plan (fun V=>V.cell? ⟨b2,o2+k,none⟩=some (.string d)∧V.cell? ⟨b3,o3+k,none⟩=some (.string f)) [(true,0),(true,1),(true,2),(true,3),(true,4),(true,5),(true,6),(true,7),(true,8)] (by kernel_rfl) (by kernel_rfl) (by kernel_rfl) (by kernel_rfl) ⟨hx,hy⟩ ?_
    repeat (refine Kit.plan_head (by rfl) (.inl ⟨by rfl,fun w' hS=>by (dsimp only at hS);go_simp;(try with_reducible rfl)⟩) ?_;simp only [Act.put,List.setIfInBounds_toArray,List.set_cons_zero,List.set_cons_succ])
    refine Kit.plan_done ?_
    (try simp only [Act.put,List.setIfInBounds_toArray,List.set_cons_zero,List.set_cons_succ])
    obtain ⟨t,ht⟩:=ex_eq (!(d.toList==f.toList))
    rw [ht]
    rw [HTF.o] at ht
    by_cases hle:d=f
    ·have hne:t=false:=by rw [← ht,decide_eq_true hle];rfl
     subst hne
     clear ht
     have HLF:=hid hle
     clear hle
     go_wp2_with fail
     go_roundw
     case rel=>
      refine ⟨k+1,hlt,by go_num,⟨q+1,rfl⟩,fun i hi=> ?_⟩
      by_cases e:i=k
      ·rw [e,HDF.o.1,HDF.o.2];exact HLF.o
      ·exact HLE.o i (by omega)
     case measure=>simp [intOf];omega
    ·have hne:t=true:=by rw [← ht,decide_eq_false hle];rfl
     subst hne
     clear ht
     have HF:Hid (decide (X=Y)=false):=hid (decide_eq_false (fun h=>hle (by rw [← HDF.o.1,← HDF.o.2,h])))
     go_wp2_with fail
     go_ret
     exact ⟨by rw [HF.o];rfl,by exact (below_drewN (Below.refl _ w) q).drew⟩
   ·have hki: ¬(k:Int)<(L1:Int):=by omega
    have HF:Hid (decide (X=Y)=true):=hid (decide_eq_true (by
     refine List.ext_getElem (by rw [H1.o,H2.o]) fun i h1 h2=> ?_
     have h3:=HLE.o i (by rw [H1.o] at h1;omega)
     rwa [lD,lE h1,lD,lE h2] at h3))
    go_wp2_with fail
    go_ret
    exact ⟨by rw [HF.o];rfl,below_drewN (Below.refl _ w) q⟩
 ·have hne:((L1:Int) != (L2:Int))=true:=by rw [bne_iff_ne];omega
  have HF:Hid (decide (X=Y)=false):=hid (decide_eq_false (fun h=>hl (by rw [← h1,← h2,h])))
  clear hX hY h1 h2 hl
  go_enter Tryz.func220,Tryz.ntmps220
  go_wp2_with fail
  go_ret
  exact ⟨by rw [HF.o];rfl,Below.refl _ _⟩
end Go.Proofs.YtndlihclgdkpaaaGreatDoor
