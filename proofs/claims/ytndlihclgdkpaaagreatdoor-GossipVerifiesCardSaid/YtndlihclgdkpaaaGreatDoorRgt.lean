/- The document's Chain. -/
import Derived.Test.YtndlihclgdkpaaaGreatDoorGh
import Derived.Test.YtndlihclgdkpaaaGreatDoorRgs
set_option linter.unusedVariables false
set_option linter.unusedSimpArgs false
open Go.Lib (hid)
namespace Go.Proofs.YtndlihclgdkpaaaGreatDoor
open Go.RowKit
open Kit (Chg)
open Sha (v)
open Go.Proofs.YtndlihclgdkpaaaGreatDoor.One

set_option maxRecDepth 100000 in
set_option maxHeartbeats 1000000 in
theorem refChain_any (a:Option Addr) (c L:Nat) (es:List Ent) (hLe:es.length=L) (hLc:L≤c) (hL:L≤1000000) (w:World) (hE:EntsAt w a es):
    Calls Tryz.prog 231 #[.slice a L c] w fun e w'=>e= .returned (.int .i64 (chainI es))∧Below w.heap.size w w':=by
 have HE:=hid hE
 have HLE:=hid hLe
 clear hE hLe
 obtain ⟨M,hM⟩:=ex_eq w.heap.size
 have HM:=hid hM
 clear hM
 go_enter Tryz.func231,Tryz.ntmps231
 go_upto_region 2 with fail
 go_loopw [3] (fun z wr=> ∃k:Nat,k≤L∧z= .int .i64 (k:Int)∧Hid (∀i,(hi:i<es.length)→i<k→contE (es.take i) es[i]=true)∧Hid (Below M w wr)) (fun z _=>L - (intOf z).toNat)
 case atStart=>exact ⟨0,by omega,rfl,hid (fun i hi h=>by omega),hid (Below.refl _ _)⟩
 case round=>
  obtain ⟨k,hk,rfl,HCR,HR⟩:=hrel
  by_cases hlt:k<L
  ·have hki:(k:Int)<(L:Int):=by omega
   have HKL:Hid (k<es.length):=hid (by rw [HLE.o];exact hlt)
   obtain ⟨b0,o0,rfl,hes0⟩: ∃b o,a=some ⟨b,o,none⟩∧ ∀i,(h:i<es.length)→EntAt wr b (o+i*6) es[i]:=by
    rcases HE.o.later (by rw [HM.o];exact HR.o) with h | h
    ·have:=HLE.o;rw [h] at this;simp at this;omega
    ·exact h
   have HES:=hid hes0
   clear hes0
   have hek:=HES.o k HKL.o
   have HTK:Hid (EntsAt wr.drew (some ⟨b0,o0,none⟩) (es.take k)):=hid (.inr ⟨b0,o0,rfl,fun i hi=>by
    rw [List.length_take] at hi
    rw [List.getElem_take]
    exact (HES.o i (by omega)).later (Below.refl _ _).drew⟩)
   have HTL:Hid ((es.take k).length=k):=hid (by rw [List.length_take,HLE.o];omega)
   have HTV:Hid (∀q ∈ es.take k,ValidE q):=hid (fun q hq=>by
    obtain ⟨i,hi,rfl⟩:=List.getElem_of_mem hq
    have hi2:=hi
    rw [List.length_take] at hi2
    rw [List.getElem_take]
    have h1:=HCR.o i (by omega) (by omega)
    unfold contE at h1
    rw [Bool.and_eq_true] at h1
    exact (validE_iff _).1 h1.1)
   obtain ⟨q,hq⟩:=ex_eq (es[k]'HKL.o)
   have HQ:Hid (es[k]'HKL.o=q):=hid hq
   rw [hq] at hek
   clear hq
   obtain ⟨dv,sq,kd,dy,qb,p⟩:=q
   obtain ⟨ae,m,cm,hm,hmn,hmB,d0,d1,d2,d3,d4,d5⟩:=hek
   simp only at hm hmB d0 d1 d2 d3 d4 d5
   have HMN:=hid hm
   have HMB:=hid hmB
   clear hm hmB hmn
   have hslc: ∀W,(Instr.slice 111 (.slice (some ⟨b0,o0,none⟩) L c) none (some (.int .i64 (k:Int))) none).run Tryz.prog W= .ok (.slice (some ⟨b0,o0,none⟩) k c) W:=fun W=>by
    have h1:=sliceE_h (some ⟨b0,o0,none⟩) L c k (by omega) W
    rw [sub6_some (by omega),Nat.zero_mul,Nat.add_zero] at h1
    exact h1
   have HSS:Hid (∀V,Below wr.heap.size wr V→(V.cell? ⟨b0,o0+k*6,none⟩=some (.int .i64 dv)∧V.cell? ⟨b0,o0+k*6+1,none⟩=some (.int .i64 sq)∧V.cell? ⟨b0,o0+k*6+2,none⟩=some (.int .i64 kd)∧V.cell? ⟨b0,o0+k*6+3,none⟩=some (.int .i64 dy)∧V.cell? ⟨b0,o0+k*6+4,none⟩=some (.slice ae m cm)∧V.cell? ⟨b0,o0+k*6+5,none⟩=some (.string p))):=hid (fun V h=>by
    have t: ∀{j:Nat} {x:Value},wr.cell? ⟨b0,j,none⟩=some x→V.cell? ⟨b0,j,none⟩=some x:=fun h0=>(h.cell (World.block_lt_of_cell? wr _ h0)).trans h0
    exact ⟨t d0,t d1,t d2,t d3,t d4,t d5⟩)
   have HCT:=hid (fun w h1 h2=>continues_any (some ⟨b0,o0,none⟩) c k (es.take k) HTL.o (by omega) HTV.o dv sq kd dy ae m cm p qb HMN.o w h1 h2)
   obtain ⟨B,hB⟩:=ex_eq (contE (es.take k) ⟨dv,sq,kd,dy,qb,p⟩)
   have HBQ:Hid (contE (es.take k) (es[k]'HKL.o)=B):=hid (by rw [HQ.o];exact hB)
   rw [hB] at HCT
   have hwr:IntKind.i64.wrap ((k:Int)+1)=(k:Int)+1:=by rw [IntKind.wrap_i64];omega
   clear hB d0 d1 d2 d3 d4 d5
   go_upto_region 4 with fail
   refine Kit.wp_region_gplan (fun V=>V.cell? ⟨b0,o0+k*6,none⟩=some (.int .i64 dv)∧V.cell? ⟨b0,o0+k*6+1,none⟩=some (.int .i64 sq)∧V.cell? ⟨b0,o0+k*6+2,none⟩=some (.int .i64 kd)∧V.cell? ⟨b0,o0+k*6+3,none⟩=some (.int .i64 dy)∧V.cell? ⟨b0,o0+k*6+4,none⟩=some (.slice ae m cm)∧V.cell? ⟨b0,o0+k*6+5,none⟩=some (.string p)) [(true,0),(true,1),(true,2),(true,3),(true,4),(true,5),(true,6),(false,7),(true,8)] (by kernel_rfl) (by kernel_rfl) (by kernel_rfl) (by kernel_rfl) (HSS.o _ (Below.refl _ _).drew) ?_
   iterate 7 (refine Kit.ghd (h:= ?_))
   refine Kit.gplan_op (by rfl) (by rfl) fun K hK=> ?_
   go_simp
   go_at_call 273
   with_reducible refine (HCT.o _ HTK.o (HMB.o.later (Below.refl _ _).drew)).mono ?_
   rintro e w3 ⟨rfl,h3⟩
   have H3:Hid (Below wr.heap.size wr w3):=hid ((Below.refl _ wr).drew.trans h3)
   have H4:Hid (Below M w w3):=hid (HR.o.trans (H3.o.mono (by have:=HR.o.size;have:=HM.o;omega)))
   clear h3
   refine hK _ _ (HSS.o _ H3.o) ?_
   clear hK K
   iterate 1 (refine Kit.ghd (h:= ?_))
   refine Kit.gdn (h:=?_)
   cases B
   ·have HCH:Hid (chainI es=(k:Int)):=hid (chainI_bad es k (fun i hi h=>HCR.o i hi h) HKL.o HBQ.o)
    go_wp2_with fail
    go_ret
    exact ⟨by rw [HCH.o];rfl,by rw [HM.o];exact H4.o⟩
   ·have HC2:Hid (∀i,(hi:i<es.length)→i<k+1→contE (es.take i) es[i]=true):=hid (fun i hi h=>by
       by_cases e:i=k
       ·subst e;exact HBQ.o
       ·exact HCR.o i hi (by omega))
    go_wp2_with fail
    go_roundw
    case rel=>exact ⟨k+1,hlt,by go_num,HC2.o,H4.o⟩
    case measure=>simp [intOf];omega
  ·have hki: ¬(k:Int)<(L:Int):=by omega
   have HCH:Hid (chainI es= -1):=hid (chainI_good es (fun i hi=>HCR.o i hi (by have:=HLE.o;omega)))
   go_wp2_with fail
   go_ret
   exact ⟨by rw [HCH.o];rfl,by rw [HM.o];exact HR.o⟩
end Go.Proofs.YtndlihclgdkpaaaGreatDoor
