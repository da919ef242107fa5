/- The document's Sums and Climb. -/
import Derived.Test.YtndlihclgdkpaaaGreatDoorGh
set_option linter.unusedVariables false
set_option linter.unusedSimpArgs false
open Go.Lib (hid)
set_option maxHeartbeats 2000000
set_option maxRecDepth 100000
namespace Go.Proofs.YtndlihclgdkpaaaGreatDoor
open Go.RowKit
open Kit (Chg)
open Sha (v)
open Go.Proofs.YtndlihclgdkpaaaGreatDoor.One

theorem refSums_any (a:Option Addr) (cap L:Nat) (ss:List ByteArray) (hLe:ss.length=L) (hl9:L<9223372036854775808) (w:World) (hS:StrsAt w a ss):
    Calls Tryz.prog 208 #[.slice a L cap] w fun e w'=>e= .returned (.bool (decide (∀s ∈ ss,s.size=32)))∧Below w.heap.size w w':=by
 obtain ⟨D,hD⟩:=ex_eq (decide (∀s ∈ ss,s.size=32))
 have HD:=hid hD
 rw [hD]
 clear hD
 have HLE:=hid hLe
 have HS:=hid hS
 clear hLe hS
 go_enter Tryz.func208,Tryz.ntmps208
 go_wp2_with fail
 go_loopw [7] (fun y wr=> ∃k:Nat,k≤L∧y= .int .i64 (k:Int)∧Hid (∀i,i<k→(ss.getD i ByteArray.empty).size=32)∧Hid (Below w.heap.size w wr)) (fun y _=>L - (intOf y).toNat)
 case atStart=>exact ⟨0,by omega,rfl,fun i h=>by omega,Below.refl _ _⟩
 case round=>
  obtain ⟨k,hk,rfl,H32,HBE⟩:=hrel
  by_cases hlt:k<L
  ·have hki:(k:Int)<(L:Int):=by omega
   obtain ⟨b1,o1,rfl,hcs⟩: ∃b o,a=some ⟨b,o,none⟩∧ ∀i,i<ss.length→wr.cell? ⟨b,o+i,none⟩=some (.string (ss.getD i ByteArray.empty)):=by
    rcases HS.o.later HBE.o with h | h
    ·have:=HLE.o;rw [h] at this;simp at this;omega
    ·exact h
   have hc:=hcs k (by rw [HLE.o];exact hlt)
   have HSM:Hid (ss.getD k ByteArray.empty ∈ ss):=hid (getD_mem ss k _ (by rw [HLE.o];exact hlt))
   obtain ⟨s,hse⟩:=ex_eq (ss.getD k ByteArray.empty)
   rw [hse] at hc HSM
   have HSE:=hid hse
   clear hcs hse
   by_cases h32:s.size=32
   ·have HH:=hid h32
    have hne:(((s.size:Nat):Int) != 32)=false:=by rw [h32];rfl
    go_wp2_with fail
    go_roundw
    case rel=>
     refine ⟨k+1,hlt,by go_num,fun i hi=> ?_,HBE.o⟩
     by_cases e:i=k
     ·rw [e,HSE.o];exact HH.o
     ·exact H32.o i (by omega)
    case measure=>simp [intOf];omega
   ·have hne:(((s.size:Nat):Int) != 32)=true:=by rw [bne_iff_ne];omega
    have HF:Hid (decide (∀s ∈ ss,s.size=32)=false):=hid (decide_eq_false (fun h=>h32 (h s HSM.o)))
    go_wp2_with fail
    go_ret
    exact ⟨by rw [← HD.o,HF.o];rfl,HBE.o⟩
  ·have hki: ¬(k:Int)<(L:Int):=by omega
   have hke:k=L:=by omega
   have HF:Hid (decide (∀s ∈ ss,s.size=32)=true):=hid (decide_eq_true (fun s hs=>by
    obtain ⟨i,hi,rfl⟩:=List.mem_iff_getElem.1 hs
    have h1:=H32.o i (by rw [hke,← HLE.o];exact hi)
    rwa [lD,lE hi] at h1))
   clear hke
   go_wp2_with fail
   go_ret
   exact ⟨by rw [← HD.o,HF.o];rfl,HBE.o⟩
theorem drop_cons_nb {ss:List ByteArray} {L k:Nat} (h:ss.length=L) (hk:k<L):(ss.drop k).map nb=nb (ss.getD k ByteArray.empty)::(ss.drop (k+1)).map nb:=by
 rw [List.drop_eq_getElem_cons (by omega:k<ss.length),List.map_cons,lD,lE (by omega:k<ss.length)]
 rfl
theorem refClimb_ok (l:ByteArray) (hl:l.size=32) (i:Nat) (hi:i≤1000) (a:Option Addr) (cap L:Nat) (ss:List ByteArray) (hLe:ss.length=L) (hl9:L<1000) (hq: ∀s ∈ ss,s.size=32) (w:World) (hS:StrsAt w a ss) (T:List Nat) (hT:Mrk.climb (nb l) i (ss.map nb)=T):
    Calls Tryz.prog 211 #[.string l,.int .i64 (i:Int),.slice a L cap] w fun e w'=> ∃u:ByteArray,e= .returned (.string u)∧nb u=T∧u.size=32∧Below w.heap.size w w':=by
 have HLE:=hid hLe
 have HS:=hid hS
 have HQ:=hid hq
 have HT:=hid hT
 have HL:=hid hl
 clear hLe hS hq hT hl
 go_enter Tryz.func211,Tryz.ntmps211
 go_wp2_with fail
 go_loopw [0,1,11] (fun x y z wr=> ∃(k:Nat) (u:ByteArray) (M:Nat),k≤L∧z= .int .i64 (k:Int)∧x= .string u∧y= .int .i64 (M:Int)∧Hid (Mrk.climb (nb u) M ((ss.drop k).map nb)=T)∧Hid (u.size=32)∧M≤1000∧Hid (Below w.heap.size w wr)) (fun _ _ z _=>L - (intOf z).toNat)
 case atStart=>exact ⟨0,l,i,by omega,rfl,rfl,rfl,hid (by rw [List.drop_zero];exact HT.o),HL,hi,Below.refl _ _⟩
 case round=>
  obtain ⟨k,u,M,hk,rfl,rfl,rfl,HCL,HUZ,hM,HBE⟩:=hrel
  by_cases hlt:k<L
  ·have hki:(k:Int)<(L:Int):=by omega
   obtain ⟨b1,o1,rfl,hcs⟩: ∃b o,a=some ⟨b,o,none⟩∧ ∀i,i<ss.length→wr.cell? ⟨b,o+i,none⟩=some (.string (ss.getD i ByteArray.empty)):=by
    rcases HS.o.later HBE.o with h | h
    ·have:=HLE.o;rw [h] at this;simp at this;omega
    ·exact h
   have hc:=hcs k (by rw [HLE.o];exact hlt)
   have HSM:Hid (ss.getD k ByteArray.empty ∈ ss):=hid (getD_mem ss k _ (by rw [HLE.o];exact hlt))
   obtain ⟨s,hse⟩:=ex_eq (ss.getD k ByteArray.empty)
   rw [hse] at hc HSM
   have HSE:=hid hse
   clear hcs hse
   by_cases hpar:M % 2=0
   ·have hm:(M:Int) % 2=0:=by omega
    go_upto_region 7 with (first
     | (go_at_call 192
        (refine (refNode_l u s HUZ.o (HQ.o s HSM.o) _ rfl _).mono ?_)
        rintro e w2 ⟨u2,rfl,hu2,hz2,h2⟩
        have HU2:=hid hu2
        have HZ2:=hid hz2
        have H2:=hid (HBE.o.trans (h2.mono HBE.o.size))
        clear hu2 hz2 h2))
    go_wp2_with fail
    go_roundw
    case rel=>
     refine ⟨k+1,u2,M/2,hlt,by go_num,rfl,by go_num,hid ?_,HZ2,by omega,H2⟩
     rw [← HCL.o,drop_cons_nb HLE.o hlt,HSE.o,HU2.o]
     show Mrk.climb _ _ _=Mrk.climb (Mrk.step (nb u) M (nb s)) (M/2) _
     unfold Mrk.step
     rw [if_pos (by omega)]
    case measure=>simp [intOf];omega
   ·have hm:(M:Int) % 2=1:=by omega
    go_upto_region 7 with (first
     | (go_at_call 192
        (refine (refNode_l s u (HQ.o s HSM.o) HUZ.o _ rfl _).mono ?_)
        rintro e w2 ⟨u2,rfl,hu2,hz2,h2⟩
        have HU2:=hid hu2
        have HZ2:=hid hz2
        have H2:=hid (HBE.o.trans (h2.mono HBE.o.size))
        clear hu2 hz2 h2))
    go_wp2_with fail
    go_roundw
    case rel=>
     refine ⟨k+1,u2,M/2,hlt,by go_num,rfl,by go_num,hid ?_,HZ2,by omega,H2⟩
     rw [← HCL.o,drop_cons_nb HLE.o hlt,HSE.o,HU2.o]
     show Mrk.climb _ _ _=Mrk.climb (Mrk.step (nb u) M (nb s)) (M/2) _
     unfold Mrk.step
     rw [if_neg (by omega)]
    case measure=>simp [intOf];omega
  ·have hki: ¬(k:Int)<(L:Int):=by omega
   have HF:Hid (nb u=T):=hid (by
    have h:=HCL.o
    rw [List.drop_eq_nil_of_le (by rw [HLE.o];omega)] at h
    exact h)
   go_wp2_with fail
   go_ret
   exact ⟨u,rfl,HF.o,HUZ.o,HBE.o⟩
end Go.Proofs.YtndlihclgdkpaaaGreatDoor
