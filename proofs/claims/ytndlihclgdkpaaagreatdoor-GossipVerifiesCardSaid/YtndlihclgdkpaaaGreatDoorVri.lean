/- The document's Proves, walked. -/
import Derived.Test.YtndlihclgdkpaaaGreatDoorVrh
set_option linter.unusedVariables false
set_option linter.unusedSimpArgs false
open Go.Lib (hid)
namespace Go.Proofs.YtndlihclgdkpaaaGreatDoor
open Go.RowKit
open Kit (Chg)
open Sha (v)
open Go.Proofs.YtndlihclgdkpaaaGreatDoor.One

set_option maxRecDepth 100000 in
set_option maxHeartbeats 4000000 in
theorem proves_any (pk:ByteArray) (B H dv:Int) (a0:Option Addr) (c0 L0:Nat) (es0:List Ent) (hl0:es0.length=L0) (hk0:L0≤c0) (a1:Option Addr) (c1 L1:Nat) (es1:List Ent) (hl1:es1.length=L1) (hk1:L1≤c1) (x0 x1:HV) (hm0:L0≤4096) (hm1:L1≤4096) (w:World) (hE0:EntsAt w a0 es0) (hE1:EntsAt w a1 es1) (hX0:HeadIn w x0) (hX1:HeadIn w x1):
    Calls Tryz.prog 71 #[.string pk,.agg #[.int .i64 B,.int .i64 H],forkVal dv a0 L0 c0 a1 L1 c1 x0 x1] w fun e w'=>e= .returned (.bool (forkE B H (nb pk) ⟨dv,es0,es1,x0.h,x1.h⟩))∧Below w.heap.size w w':=by
 have HV0:Hid (∀V,Below w.heap.size w V→Calls Tryz.prog 69 #[.string pk,.agg #[.int .i64 B,.int .i64 H],.agg #[.int .i64 x0.h.dev,.int .i64 x0.h.seq,.string x0.h.sum,.int .i64 x0.h.idx,.slice x0.a1 x0.h.ps.length x0.c1,.slice x0.a2 x0.h.qs.length x0.c2]] V fun e w'=>e= .returned (.bool (decide (SignedH B H (nb pk) x0.h)))∧Below V.heap.size V w'):=hid (fun V h=>refSigned_any pk B H x0 hX0.1 hX0.2.1 V (hX0.later h).2.2.1 (hX0.later h).2.2.2)
 have HV1:Hid (∀V,Below w.heap.size w V→Calls Tryz.prog 69 #[.string pk,.agg #[.int .i64 B,.int .i64 H],.agg #[.int .i64 x1.h.dev,.int .i64 x1.h.seq,.string x1.h.sum,.int .i64 x1.h.idx,.slice x1.a1 x1.h.ps.length x1.c1,.slice x1.a2 x1.h.qs.length x1.c2]] V fun e w'=>e= .returned (.bool (decide (SignedH B H (nb pk) x1.h)))∧Below V.heap.size V w'):=hid (fun V h=>refSigned_any pk B H x1 hX1.1 hX1.2.1 V (hX1.later h).2.2.1 (hX1.later h).2.2.2)
 have HC0:Hid (decide (SignedH B H (nb pk) x0.h)=true→ ∀V,Below w.heap.size w V→Calls Tryz.prog 163 #[.agg #[.int .i64 x0.h.dev,.int .i64 x0.h.seq,.string x0.h.sum,.int .i64 x0.h.idx,.slice x0.a1 x0.h.ps.length x0.c1,.slice x0.a2 x0.h.qs.length x0.c2],.slice a0 L0 c0] V fun e w'=>e= .returned (.bool (covE x0.h es0))∧Below V.heap.size V w'):=hid (fun hs V h=>refCovers_any x0 a0 c0 L0 es0 hl0 hk0 hm0 (of_decide_eq_true hs).1.2.2.1 V (hE0.later h))
 have HC1:Hid (decide (SignedH B H (nb pk) x1.h)=true→ ∀V,Below w.heap.size w V→Calls Tryz.prog 163 #[.agg #[.int .i64 x1.h.dev,.int .i64 x1.h.seq,.string x1.h.sum,.int .i64 x1.h.idx,.slice x1.a1 x1.h.ps.length x1.c1,.slice x1.a2 x1.h.qs.length x1.c2],.slice a1 L1 c1] V fun e w'=>e= .returned (.bool (covE x1.h es1))∧Below V.heap.size V w'):=hid (fun hs V h=>refCovers_any x1 a1 c1 L1 es1 hl1 hk1 hm1 (of_decide_eq_true hs).1.2.2.1 V (hE1.later h))
 have HAG:Hid (∀V,Below w.heap.size w V→Calls Tryz.prog 164 #[.slice a0 L0 c0,.slice a1 L1 c1] V fun e w'=>e= .returned (.bool (agreeE es0 es1))∧Below V.heap.size V w'):=hid (fun V h=>agree_any a0 c0 L0 es0 hl0 hk0 a1 c1 L1 es1 hl1 hk1 (by omega) V (hE0.later h) (hE1.later h))
 have HFE:Hid (forkE B H (nb pk) ⟨dv,es0,es1,x0.h,x1.h⟩=((decide (x0.h.dev=dv) && (decide (SignedH B H (nb pk) x0.h) && covE x0.h es0)) && ((decide (x1.h.dev=dv) && (decide (SignedH B H (nb pk) x1.h) && covE x1.h es1)) && !agreeE es0 es1))):=hid rfl
 obtain ⟨FE,hFE⟩:=ex_eq (forkE B H (nb pk) ⟨dv,es0,es1,x0.h,x1.h⟩)
 rw [hFE] at HFE ⊢
 obtain ⟨AG,hAG⟩:=ex_eq (agreeE es0 es1)
 rw [hAG] at HFE HAG
 clear hFE hE0 hE1 hl0 hl1 hX0 hX1 hAG hk0 hk1
 unfold forkVal
 obtain ⟨⟨d0,q0,s0,i0,ps0,qs0⟩,p0,k0,r0,l0⟩:=x0
 obtain ⟨⟨d1,q1,s1,i1,ps1,qs1⟩,p1,k1,r1,l1⟩:=x1
 simp only at HV0 HV1 HC0 HC1 HFE ⊢
 obtain ⟨S0,hS0⟩:=ex_eq (decide (SignedH B H (nb pk) ⟨d0,q0,s0,i0,ps0,qs0⟩))
 obtain ⟨S1,hS1⟩:=ex_eq (decide (SignedH B H (nb pk) ⟨d1,q1,s1,i1,ps1,qs1⟩))
 obtain ⟨C0,hC0⟩:=ex_eq (covE ⟨d0,q0,s0,i0,ps0,qs0⟩ es0)
 obtain ⟨C1,hC1⟩:=ex_eq (covE ⟨d1,q1,s1,i1,ps1,qs1⟩ es1)
 rw [hS0] at HV0 HC0 HFE
 rw [hS1] at HV1 HC1 HFE
 rw [hC0] at HC0 HFE
 rw [hC1] at HC1 HFE
 clear hS0 hS1 hC0 hC1
 obtain ⟨m0,hm0'⟩:=ex_eq ps0.length
 obtain ⟨n0,hn0'⟩:=ex_eq qs0.length
 obtain ⟨m1,hm1'⟩:=ex_eq ps1.length
 obtain ⟨n1,hn1'⟩:=ex_eq qs1.length
 rw [hm0',hn0'] at HV0 HC0
 rw [hm1',hn1'] at HV1 HC1
 rw [hm0',hn0',hm1',hn1']
 clear hm0' hn0' hm1' hn1'
 have HF0:Hid ((decide (d0=dv) && (S0 && C0))=false→FE=false):=hid (fun h=>by rw [HFE.o,h];rfl)
 have HF1:Hid ((decide (d1=dv) && (S1 && C1))=false→FE=false):=hid (fun h=>by rw [HFE.o,h];simp)
 go_enter Tryz.func71,Tryz.ntmps71
 go_upto_region 1 with fail
 refine wp_over (fun V=>Hid (V.heap[w.heap.size]? =some (.cells #[.int .i64 B,.int .i64 H] 23 (0,0)))∧Hid (V.heap[w.heap.size+1]? =some (.cells #[.int .i64 dv,.slice a0 L0 c0,.slice a1 L1 c1,.int .i64 d0,.int .i64 q0,.string s0,.int .i64 i0,.slice p0 m0 k0,.slice r0 n0 l0,.int .i64 d1,.int .i64 q1,.string s1,.int .i64 i1,.slice p1 m1 k1,.slice r1 n1 l1] 128 (0,0)))∧Hid (Below w.heap.size w V)∧Hid (V.heap.size=w.heap.size+2)) ⟨two_rows1,two_rows2,two_below,two_size⟩ ?_
 rintro W ⟨HRS0,HRF0,HB,HWS⟩
 obtain ⟨N,hN⟩:=ex_eq w.heap.size
 obtain ⟨F,hF⟩:=ex_eq (w.heap.size+1)
 have HN:=hid hN
 have HFN:Hid (F=N+1):=hid (by omega)
 rw [hF] at HRF0 ⊢
 rw [hN] at HRS0 HB HWS ⊢
 have HWS:Hid (W.heap.size=F+1):=hid (by have:=HWS.o;have:=HFN.o;omega)
 clear hN hF
 have HRF:Hid (∀V,Below (F+1) W V→V.heap[F]? =some (.cells #[.int .i64 dv,.slice a0 L0 c0,.slice a1 L1 c1,.int .i64 d0,.int .i64 q0,.string s0,.int .i64 i0,.slice p0 m0 k0,.slice r0 n0 l0,.int .i64 d1,.int .i64 q1,.string s1,.int .i64 i1,.slice p1 m1 k1,.slice r1 n1 l1] 128 (0,0))):=hid (fun V h=>(h.block F (Nat.lt_succ_self _)).trans HRF0.o)
 have HRS:Hid (∀V,Below (F+1) W V→V.cell? ⟨N,0,none⟩=some (.int .i64 B)∧V.cell? ⟨N,1,none⟩=some (.int .i64 H)∧True):=hid (fun V h=>by
  have hr:=(h.block N (by have:=HFN.o;omega)).trans HRS0.o
  exact ⟨cr hr,cr hr,trivial⟩)
 have HBE:Hid (∀V,Below (F+1) W V→Below w.heap.size w V):=hid (fun V h=>by rw [HN.o];exact HB.o.trans (h.mono (by have:=HFN.o;omega)))
 have HST:Hid (∀V V',Below (F+1) W V→Below V.heap.size V V'→Below (F+1) W V'):=hid (fun V V' h h'=>h.trans (h'.mono (by have:=h.size;have:=HWS.o;omega)))
 clear HRS0 HB
 go_upto_region 2 with fail
 go_loopw [7] (fun z wr=>(z= .int .i64 0∨(z= .int .i64 1∧(decide (d0=dv) && (S0 && C0))=true)∨(z= .int .i64 2∧(decide (d0=dv) && (S0 && C0))=true∧(decide (d1=dv) && (S1 && C1))=true))∧Hid (Below (F+1) W wr)) (fun z _=>(2 - intOf z).toNat)
 case atStart=>exact ⟨.inl rfl,hid (Below.refl _ _)⟩
 case round=>
  obtain ⟨hz,HR⟩:=hrel
  rcases hz with rfl | ⟨rfl,ho0⟩ | ⟨rfl,ho0,ho1⟩
  ·have HSC:Hid (∀V,Below (F+1) W V→(V.cell? ⟨N,0,none⟩=some (.int .i64 B)∧V.cell? ⟨N,1,none⟩=some (.int .i64 H)∧V.cell? ⟨F,0,none⟩=some (.int .i64 dv)∧V.cell? ⟨F,1,none⟩=some (.slice a0 L0 c0)∧V.cell? ⟨F,3,none⟩=some (.int .i64 d0)∧V.cell? ⟨F,4,none⟩=some (.int .i64 q0)∧V.cell? ⟨F,5,none⟩=some (.string s0)∧V.cell? ⟨F,6,none⟩=some (.int .i64 i0)∧V.cell? ⟨F,7,none⟩=some (.slice p0 m0 k0)∧V.cell? ⟨F,8,none⟩=some (.slice r0 n0 l0))):=hid (fun V h=>by
      obtain ⟨e0,e1,_⟩:=HRS.o V h
      have ef:=HRF.o V h
      exact ⟨e0,e1,cr ef,cr ef,cr ef,cr ef,cr ef,cr ef,cr ef,cr ef⟩)
   go_upto_region 4 with fail
   have HD:Hid (Below (F+1) W wr.drew):=hid HR.o.drew
   by_cases hdv:d0=dv
   rotate_left
   ·have hne:(d0 != dv)=true:=by rw [bne_iff_ne];exact hdv
    have HF:Hid (FE=false):=hid (HF0.o (by rw [decide_eq_false hdv];rfl))
    clear hdv
    refine Kit.wp_region_hplan (fun V=>V.cell? ⟨N,0,none⟩=some (.int .i64 B)∧V.cell? ⟨N,1,none⟩=some (.int .i64 H)∧V.cell? ⟨F,0,none⟩=some (.int .i64 dv)∧V.cell? ⟨F,1,none⟩=some (.slice a0 L0 c0)∧V.cell? ⟨F,3,none⟩=some (.int .i64 d0)∧V.cell? ⟨F,4,none⟩=some (.int .i64 q0)∧V.cell? ⟨F,5,none⟩=some (.string s0)∧V.cell? ⟨F,6,none⟩=some (.int .i64 i0)∧V.cell? ⟨F,7,none⟩=some (.slice p0 m0 k0)∧V.cell? ⟨F,8,none⟩=some (.slice r0 n0 l0)) [(true,0),(true,1),(true,2),(true,3),(true,4),(true,5),(true,6),(true,7),(true,8),(true,9),(true,10),(true,11),(true,12),(true,13),(true,14),(false,15),(true,16),(true,17),(true,18),(true,19),(true,20),(true,21),(true,22),(true,23),(true,24),(true,25),(true,26),(false,27),(true,28),(true,29)] (by kernel_rfl) (by kernel_rfl) (by kernel_rfl) (by kernel_rfl) (HSC.o _ HD.o) ?_
    iterate 15 (refine Kit.hhd (h:= ?_))
    refine Kit.hsk (h:=?_)
    iterate 11 (refine Kit.hhd (h:= ?_))
    refine Kit.hsk (h:=?_)
    iterate 2 (refine Kit.hhd (h:= ?_))
    refine Kit.hdn (h:=?_)
    go_wp2_with fail
    go_ret
    exact ⟨by rw [HF.o];rfl,HBE.o _ HD.o⟩
   have hne:(d0 != dv)=false:=by rw [hdv];simp
   have HDV:Hid (decide (d0=dv)=true):=hid (decide_eq_true hdv)
   clear hdv
   by_cases hsg:S0=true
   rotate_left
   ·have hS:S0=false:=Bool.eq_false_iff.2 hsg
    have HF:Hid (FE=false):=hid (HF0.o (by rw [hS];simp))
    have HV0:=HV0
    rw [hS] at HV0
    clear hsg hS
    refine Kit.wp_region_hplan (fun V=>V.cell? ⟨N,0,none⟩=some (.int .i64 B)∧V.cell? ⟨N,1,none⟩=some (.int .i64 H)∧V.cell? ⟨F,0,none⟩=some (.int .i64 dv)∧V.cell? ⟨F,1,none⟩=some (.slice a0 L0 c0)∧V.cell? ⟨F,3,none⟩=some (.int .i64 d0)∧V.cell? ⟨F,4,none⟩=some (.int .i64 q0)∧V.cell? ⟨F,5,none⟩=some (.string s0)∧V.cell? ⟨F,6,none⟩=some (.int .i64 i0)∧V.cell? ⟨F,7,none⟩=some (.slice p0 m0 k0)∧V.cell? ⟨F,8,none⟩=some (.slice r0 n0 l0)) [(true,0),(true,1),(true,2),(true,3),(true,4),(true,5),(true,6),(true,7),(true,8),(true,9),(true,10),(true,11),(true,12),(true,13),(true,14),(false,15),(true,16),(true,17),(true,18),(true,19),(true,20),(true,21),(true,22),(true,23),(true,24),(true,25),(true,26),(false,27),(true,28),(true,29)] (by kernel_rfl) (by kernel_rfl) (by kernel_rfl) (by kernel_rfl) (HSC.o _ HD.o) ?_
    iterate 15 (refine Kit.hhd (h:= ?_))
    refine Kit.hplan_op (by rfl) (by rfl) fun K hK=> ?_
    go_simp
    go_at_call 69
    with_reducible refine (HV0.o wr.drew (HBE.o _ HD.o)).mono ?_
    rintro e w4 ⟨rfl,h4⟩
    have H4:Hid (Below (F+1) W w4):=hid (HST.o _ _ HD.o h4)
    clear h4
    refine hK _ _ (HSC.o _ H4.o) ?_
    clear hK K
    iterate 11 (refine Kit.hhd (h:= ?_))
    refine Kit.hsk (h:=?_)
    iterate 2 (refine Kit.hhd (h:= ?_))
    refine Kit.hdn (h:=?_)
    go_wp2_with fail
    go_ret
    exact ⟨by rw [HF.o];rfl,HBE.o _ H4.o⟩
   have HSG:Hid (S0=true):=hid hsg
   have HCX:=HC0.o hsg
   rw [hsg] at HV0
   clear hsg
   refine Kit.wp_region_hplan (fun V=>V.cell? ⟨N,0,none⟩=some (.int .i64 B)∧V.cell? ⟨N,1,none⟩=some (.int .i64 H)∧V.cell? ⟨F,0,none⟩=some (.int .i64 dv)∧V.cell? ⟨F,1,none⟩=some (.slice a0 L0 c0)∧V.cell? ⟨F,3,none⟩=some (.int .i64 d0)∧V.cell? ⟨F,4,none⟩=some (.int .i64 q0)∧V.cell? ⟨F,5,none⟩=some (.string s0)∧V.cell? ⟨F,6,none⟩=some (.int .i64 i0)∧V.cell? ⟨F,7,none⟩=some (.slice p0 m0 k0)∧V.cell? ⟨F,8,none⟩=some (.slice r0 n0 l0)) [(true,0),(true,1),(true,2),(true,3),(true,4),(true,5),(true,6),(true,7),(true,8),(true,9),(true,10),(true,11),(true,12),(true,13),(true,14),(false,15),(true,16),(true,17),(true,18),(true,19),(true,20),(true,21),(true,22),(true,23),(true,24),(true,25),(true,26),(false,27),(true,28),(true,29)] (by kernel_rfl) (by kernel_rfl) (by kernel_rfl) (by kernel_rfl) (HSC.o _ HD.o) ?_
   iterate 15 (refine Kit.hhd (h:= ?_))
   refine Kit.hplan_op (by rfl) (by rfl) fun K hK=> ?_
   go_simp
   go_at_call 69
   with_reducible refine (HV0.o wr.drew (HBE.o _ HD.o)).mono ?_
   rintro e w4 ⟨rfl,h4⟩
   have H4:Hid (Below (F+1) W w4):=hid (HST.o _ _ HD.o h4)
   clear h4
   refine hK _ _ (HSC.o _ H4.o) ?_
   clear hK K
   iterate 11 (refine Kit.hhd (h:= ?_))
   refine Kit.hplan_op (by rfl) (by rfl) fun K hK=> ?_
   go_simp
   go_at_call 163
   with_reducible refine (HCX w4 (HBE.o _ H4.o)).mono ?_
   rintro e w5 ⟨rfl,h5⟩
   have H5:Hid (Below (F+1) W w5):=hid (HST.o _ _ H4.o h5)
   clear h5
   refine hK _ _ (HSC.o _ H5.o) ?_
   clear hK K HCX
   cases C0
   ·iterate 2 (refine Kit.hhd (h:= ?_))
    refine Kit.hdn (h:=?_)
    have HF:Hid (FE=false):=hid (HF0.o (by simp))
    go_wp2_with fail
    go_ret
    exact ⟨by rw [HF.o];rfl,HBE.o _ H5.o⟩
   ·iterate 2 (refine Kit.hhd (h:= ?_))
    refine Kit.hdn (h:=?_)
    go_wp2_with fail
    go_roundw
    case rel=>exact ⟨.inr (.inl ⟨by first | rfl | go_num,by rw [HDV.o,HSG.o];rfl⟩),H5.o⟩
    case measure=>simp [intOf]
  ·have HO0:=hid ho0
   clear ho0
   have HSC:Hid (∀V,Below (F+1) W V→(V.cell? ⟨N,0,none⟩=some (.int .i64 B)∧V.cell? ⟨N,1,none⟩=some (.int .i64 H)∧V.cell? ⟨F,0,none⟩=some (.int .i64 dv)∧V.cell? ⟨F,2,none⟩=some (.slice a1 L1 c1)∧V.cell? ⟨F,9,none⟩=some (.int .i64 d1)∧V.cell? ⟨F,10,none⟩=some (.int .i64 q1)∧V.cell? ⟨F,11,none⟩=some (.string s1)∧V.cell? ⟨F,12,none⟩=some (.int .i64 i1)∧V.cell? ⟨F,13,none⟩=some (.slice p1 m1 k1)∧V.cell? ⟨F,14,none⟩=some (.slice r1 n1 l1))):=hid (fun V h=>by
    obtain ⟨e0,e1,_⟩:=HRS.o V h
    have ef:=HRF.o V h
    exact ⟨e0,e1,cr ef,cr ef,cr ef,cr ef,cr ef,cr ef,cr ef,cr ef⟩)
   go_upto_region 4 with fail
   have HD:Hid (Below (F+1) W wr.drew):=hid HR.o.drew
   by_cases hdv:d1=dv
   rotate_left
   ·have hne:(d1 != dv)=true:=by rw [bne_iff_ne];exact hdv
    have HF:Hid (FE=false):=hid (HF1.o (by rw [decide_eq_false hdv];rfl))
    clear hdv
    refine Kit.wp_region_hplan (fun V=>V.cell? ⟨N,0,none⟩=some (.int .i64 B)∧V.cell? ⟨N,1,none⟩=some (.int .i64 H)∧V.cell? ⟨F,0,none⟩=some (.int .i64 dv)∧V.cell? ⟨F,2,none⟩=some (.slice a1 L1 c1)∧V.cell? ⟨F,9,none⟩=some (.int .i64 d1)∧V.cell? ⟨F,10,none⟩=some (.int .i64 q1)∧V.cell? ⟨F,11,none⟩=some (.string s1)∧V.cell? ⟨F,12,none⟩=some (.int .i64 i1)∧V.cell? ⟨F,13,none⟩=some (.slice p1 m1 k1)∧V.cell? ⟨F,14,none⟩=some (.slice r1 n1 l1)) [(true,0),(true,1),(true,2),(true,3),(true,4),(true,5),(true,6),(true,7),(true,8),(true,9),(true,10),(true,11),(true,12),(true,13),(true,14),(false,15),(true,16),(true,17),(true,18),(true,19),(true,20),(true,21),(true,22),(true,23),(true,24),(true,25),(true,26),(false,27),(true,28),(true,29)] (by kernel_rfl) (by kernel_rfl) (by kernel_rfl) (by kernel_rfl) (HSC.o _ HD.o) ?_
    iterate 15 (refine Kit.hhd (h:= ?_))
    refine Kit.hsk (h:=?_)
    iterate 11 (refine Kit.hhd (h:= ?_))
    refine Kit.hsk (h:=?_)
    iterate 2 (refine Kit.hhd (h:= ?_))
    refine Kit.hdn (h:=?_)
    go_wp2_with fail
    go_ret
    exact ⟨by rw [HF.o];rfl,HBE.o _ HD.o⟩
   have hne:(d1 != dv)=false:=by rw [hdv];simp
   have HDV:Hid (decide (d1=dv)=true):=hid (decide_eq_true hdv)
   clear hdv
   by_cases hsg:S1=true
   rotate_left
   ·have hS:S1=false:=Bool.eq_false_iff.2 hsg
    have HF:Hid (FE=false):=hid (HF1.o (by rw [hS];simp))
    have HV1:=HV1
    rw [hS] at HV1
    clear hsg hS
    refine Kit.wp_region_hplan (fun V=>V.cell? ⟨N,0,none⟩=some (.int .i64 B)∧V.cell? ⟨N,1,none⟩=some (.int .i64 H)∧V.cell? ⟨F,0,none⟩=some (.int .i64 dv)∧V.cell? ⟨F,2,none⟩=some (.slice a1 L1 c1)∧V.cell? ⟨F,9,none⟩=some (.int .i64 d1)∧V.cell? ⟨F,10,none⟩=some (.int .i64 q1)∧V.cell? ⟨F,11,none⟩=some (.string s1)∧V.cell? ⟨F,12,none⟩=some (.int .i64 i1)∧V.cell? ⟨F,13,none⟩=some (.slice p1 m1 k1)∧V.cell? ⟨F,14,none⟩=some (.slice r1 n1 l1)) [(true,0),(true,1),(true,2),(true,3),(true,4),(true,5),(true,6),(true,7),(true,8),(true,9),(true,10),(true,11),(true,12),(true,13),(true,14),(false,15),(true,16),(true,17),(true,18),(true,19),(true,20),(true,21),(true,22),(true,23),(true,24),(true,25),(true,26),(false,27),(true,28),(true,29)] (by kernel_rfl) (by kernel_rfl) (by kernel_rfl) (by kernel_rfl) (HSC.o _ HD.o) ?_
    iterate 15 (refine Kit.hhd (h:= ?_))
    refine Kit.hplan_op (by rfl) (by rfl) fun K hK=> ?_
    go_simp
    go_at_call 69
    with_reducible refine (HV1.o wr.drew (HBE.o _ HD.o)).mono ?_
    rintro e w4 ⟨rfl,h4⟩
    have H4:Hid (Below (F+1) W w4):=hid (HST.o _ _ HD.o h4)
    clear h4
    refine hK _ _ (HSC.o _ H4.o) ?_
    clear hK K
    iterate 11 (refine Kit.hhd (h:= ?_))
    refine Kit.hsk (h:=?_)
    iterate 2 (refine Kit.hhd (h:= ?_))
    refine Kit.hdn (h:=?_)
    go_wp2_with fail
    go_ret
    exact ⟨by rw [HF.o];rfl,HBE.o _ H4.o⟩
   have HSG:Hid (S1=true):=hid hsg
   have HCX:=HC1.o hsg
   rw [hsg] at HV1
   clear hsg
   refine Kit.wp_region_hplan (fun V=>V.cell? ⟨N,0,none⟩=some (.int .i64 B)∧V.cell? ⟨N,1,none⟩=some (.int .i64 H)∧V.cell? ⟨F,0,none⟩=some (.int .i64 dv)∧V.cell? ⟨F,2,none⟩=some (.slice a1 L1 c1)∧V.cell? ⟨F,9,none⟩=some (.int .i64 d1)∧V.cell? ⟨F,10,none⟩=some (.int .i64 q1)∧V.cell? ⟨F,11,none⟩=some (.string s1)∧V.cell? ⟨F,12,none⟩=some (.int .i64 i1)∧V.cell? ⟨F,13,none⟩=some (.slice p1 m1 k1)∧V.cell? ⟨F,14,none⟩=some (.slice r1 n1 l1)) [(true,0),(true,1),(true,2),(true,3),(true,4),(true,5),(true,6),(true,7),(true,8),(true,9),(true,10),(true,11),(true,12),(true,13),(true,14),(false,15),(true,16),(true,17),(true,18),(true,19),(true,20),(true,21),(true,22),(true,23),(true,24),(true,25),(true,26),(false,27),(true,28),(true,29)] (by kernel_rfl) (by kernel_rfl) (by kernel_rfl) (by kernel_rfl) (HSC.o _ HD.o) ?_
   iterate 15 (refine Kit.hhd (h:= ?_))
   refine Kit.hplan_op (by rfl) (by rfl) fun K hK=> ?_
   go_simp
   go_at_call 69
   with_reducible refine (HV1.o wr.drew (HBE.o _ HD.o)).mono ?_
   rintro e w4 ⟨rfl,h4⟩
   have H4:Hid (Below (F+1) W w4):=hid (HST.o _ _ HD.o h4)
   clear h4
   refine hK _ _ (HSC.o _ H4.o) ?_
   clear hK K
   iterate 11 (refine Kit.hhd (h:= ?_))
   refine Kit.hplan_op (by rfl) (by rfl) fun K hK=> ?_
   go_simp
   go_at_call 163
   with_reducible refine (HCX w4 (HBE.o _ H4.o)).mono ?_
   rintro e w5 ⟨rfl,h5⟩
   have H5:Hid (Below (F+1) W w5):=hid (HST.o _ _ H4.o h5)
   clear h5
   refine hK _ _ (HSC.o _ H5.o) ?_
   clear hK K HCX
   cases C1
   ·iterate 2 (refine Kit.hhd (h:= ?_))
    refine Kit.hdn (h:=?_)
    have HF:Hid (FE=false):=hid (HF1.o (by simp))
    go_wp2_with fail
    go_ret
    exact ⟨by rw [HF.o];rfl,HBE.o _ H5.o⟩
   ·iterate 2 (refine Kit.hhd (h:= ?_))
    refine Kit.hdn (h:=?_)
    go_wp2_with fail
    go_roundw
    case rel=>exact ⟨.inr (.inr ⟨by first | rfl | go_num,HO0.o,by rw [HDV.o,HSG.o];rfl⟩),H5.o⟩
    case measure=>simp [intOf]
  ·have HFA:Hid (FE= !AG):=hid (by rw [HFE.o,ho0,ho1];rfl)
   have g1:wr.cell? ⟨F,1,none⟩=some (.slice a0 L0 c0):=(cell_of_row _ _ _ _ _ _ (HRF.o _ HR.o)).trans rfl
   have g2:wr.cell? ⟨F,2,none⟩=some (.slice a1 L1 c1):=(cell_of_row _ _ _ _ _ _ (HRF.o _ HR.o)).trans rfl
   clear ho0 ho1
   go_wp2_with (first
    | (go_at_call 164
       (with_reducible refine (HAG.o _ (HBE.o _ HR.o)).mono ?_)
       rintro e w2 ⟨rfl,h2⟩
       have H2:=hid (HST.o _ _ HR.o h2)
       clear h2 g1 g2))
   go_ret
   exact ⟨by rw [HFA.o];rfl,HBE.o _ H2.o⟩
end Go.Proofs.YtndlihclgdkpaaaGreatDoor
