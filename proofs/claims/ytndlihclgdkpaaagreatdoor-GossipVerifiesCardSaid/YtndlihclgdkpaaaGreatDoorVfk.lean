/- gossip: VerifyFork, walked. -/
import Derived.Lib.MinMax
import Derived.Test.YtndlihclgdkpaaaGreatDoorGc
import Derived.Test.YtndlihclgdkpaaaGreatDoorGg
import Derived.Test.YtndlihclgdkpaaaGreatDoorVcw
set_option linter.unusedVariables false
set_option linter.unusedSimpArgs false
open Go.Lib (hid)
namespace Go.Proofs.YtndlihclgdkpaaaGreatDoor
open Go.RowKit
open Kit (Chg)
open Sha (v)
open Go.Proofs.YtndlihclgdkpaaaGreatDoor.One

theorem index_heads0 (x0 x1 x2 x3 x4 x5 x6 x7 x8 x9 x10 x11:Value) (W:World):(Instr.index 126 (.agg #[x0,x1,x2,x3,x4,x5,x6,x7,x8,x9,x10,x11]) (.int .i64 0)).run Tryz.prog W= .ok (.agg #[x0,x1,x2,x3,x4,x5]) W:=by kernel_rfl
theorem index_heads1 (x0 x1 x2 x3 x4 x5 x6 x7 x8 x9 x10 x11:Value) (W:World):(Instr.index 126 (.agg #[x0,x1,x2,x3,x4,x5,x6,x7,x8,x9,x10,x11]) (.int .i64 1)).run Tryz.prog W= .ok (.agg #[x6,x7,x8,x9,x10,x11]) W:=by kernel_rfl
theorem ents_some {w:World} {a:Option Addr} {es:List Ent} (h:EntsAt w a es) (k:Nat) (hk:k<es.length): ∃b o,a=some ⟨b,o,none⟩∧ ∀i,(h:i<es.length)→EntAt w b (o+i*6) es[i]:=by
 rcases h with h | h
 ·rw [h] at hk;simp at hk
 ·exact h
theorem HeadIn.later {w w':World} {x:HV} (h:HeadIn w x) (hb:Below w.heap.size w w'):HeadIn w' x:=⟨h.1,h.2.1,h.2.2.1.later hb,h.2.2.2.later hb⟩
set_option maxRecDepth 100000 in
set_option maxHeartbeats 4000000 in
theorem verifyFork_any (pk:ByteArray) (B H dv:Int) (a0:Option Addr) (c0 L0:Nat) (es0:List Ent) (hl0:es0.length=L0) (a1:Option Addr) (c1 L1:Nat) (es1:List Ent) (hl1:es1.length=L1) (x0 x1:HV) (hm0:L0≤1000000) (hm1:L1≤1000000) (w:World) (hE0:EntsAt w a0 es0) (hE1:EntsAt w a1 es1) (hX0:HeadIn w x0) (hX1:HeadIn w x1) (hLd:Laid w):
    Calls Tryz.prog 70 #[.string pk,.agg #[.int .i64 B,.int .i64 H],forkVal dv a0 L0 c0 a1 L1 c1 x0 x1] w fun e w'=>e= .returned (.bool (forkE B H (nb pk) ⟨dv,es0,es1,x0.h,x1.h⟩))∧Below w.heap.size w w':=by
 have HV0:Hid (∀V,Below w.heap.size w V→Calls Tryz.prog 64 #[.string pk,.agg #[.int .i64 B,.int .i64 H],.agg #[.int .i64 x0.h.dev,.int .i64 x0.h.seq,.string x0.h.sum,.int .i64 x0.h.idx,.slice x0.a1 x0.h.ps.length x0.c1,.slice x0.a2 x0.h.qs.length x0.c2]] V fun e w'=>e= .returned (.bool (decide (SignedH B H (nb pk) x0.h)))∧Below V.heap.size V w'):=hid (fun V h=>verifyH_any pk B H x0 hX0.1 hX0.2.1 V (hX0.later h).2.2.1 (hX0.later h).2.2.2 (hLd.later h (Nat.le_refl _)))
 have HV1:Hid (∀V,Below w.heap.size w V→Calls Tryz.prog 64 #[.string pk,.agg #[.int .i64 B,.int .i64 H],.agg #[.int .i64 x1.h.dev,.int .i64 x1.h.seq,.string x1.h.sum,.int .i64 x1.h.idx,.slice x1.a1 x1.h.ps.length x1.c1,.slice x1.a2 x1.h.qs.length x1.c2]] V fun e w'=>e= .returned (.bool (decide (SignedH B H (nb pk) x1.h)))∧Below V.heap.size V w'):=hid (fun V h=>verifyH_any pk B H x1 hX1.1 hX1.2.1 V (hX1.later h).2.2.1 (hX1.later h).2.2.2 (hLd.later h (Nat.le_refl _)))
 have HC0:Hid (decide (SignedH B H (nb pk) x0.h)=true→ ∀V,Below w.heap.size w V→Calls Tryz.prog 161 #[.agg #[.int .i64 x0.h.dev,.int .i64 x0.h.seq,.string x0.h.sum,.int .i64 x0.h.idx,.slice x0.a1 x0.h.ps.length x0.c1,.slice x0.a2 x0.h.qs.length x0.c2],.slice a0 L0 c0] V fun e w'=>e= .returned (.bool (covE x0.h es0))∧Below V.heap.size V w'):=hid (fun hs V h=>covers_any x0 a0 c0 L0 es0 hl0 hm0 (of_decide_eq_true hs).1.2.2.1 V (hE0.later h) (hLd.later h (Nat.le_refl _)))
 have HC1:Hid (decide (SignedH B H (nb pk) x1.h)=true→ ∀V,Below w.heap.size w V→Calls Tryz.prog 161 #[.agg #[.int .i64 x1.h.dev,.int .i64 x1.h.seq,.string x1.h.sum,.int .i64 x1.h.idx,.slice x1.a1 x1.h.ps.length x1.c1,.slice x1.a2 x1.h.qs.length x1.c2],.slice a1 L1 c1] V fun e w'=>e= .returned (.bool (covE x1.h es1))∧Below V.heap.size V w'):=hid (fun hs V h=>covers_any x1 a1 c1 L1 es1 hl1 hm1 (of_decide_eq_true hs).1.2.2.1 V (hE1.later h) (hLd.later h (Nat.le_refl _)))
 have HFE:Hid (forkE B H (nb pk) ⟨dv,es0,es1,x0.h,x1.h⟩=((decide (x0.h.dev=dv) && (decide (SignedH B H (nb pk) x0.h) && covE x0.h es0)) && ((decide (x1.h.dev=dv) && (decide (SignedH B H (nb pk) x1.h) && covE x1.h es1)) && !agreeE es0 es1))):=hid rfl
 obtain ⟨FE,hFE⟩:=ex_eq (forkE B H (nb pk) ⟨dv,es0,es1,x0.h,x1.h⟩)
 rw [hFE] at HFE ⊢
 have HE0:=hid hE0
 have HE1:=hid hE1
 have HL0:=hid hl0
 have HL1:=hid hl1
 clear hFE hE0 hE1 hl0 hl1 hX0 hX1 hLd
 unfold forkVal
 obtain ⟨⟨d0,q0,s0,i0,ps0,qs0⟩,p0,k0,r0,l0⟩:=x0
 obtain ⟨⟨d1,q1,s1,i1,ps1,qs1⟩,p1,k1,r1,l1⟩:=x1
 simp only at HV0 HV1 HC0 HC1 HFE ⊢
 obtain ⟨S0,hS0⟩:=ex_eq (decide (SignedH B H (nb pk) ⟨d0,q0,s0,i0,ps0,qs0⟩))
 obtain ⟨S1,hS1⟩:=ex_eq (decide (SignedH B H (nb pk) ⟨d1,q1,s1,i1,ps1,qs1⟩))
 obtain ⟨C0,hC0⟩:=ex_eq (covE ⟨d0,q0,s0,i0,ps0,qs0⟩ es0)
 obtain ⟨C1,hC1⟩:=ex_eq (covE ⟨d1,q1,s1,i1,ps1,qs1⟩ es1)
 rw [hS0] at HV0 HC0 HFE
 rw [hS1] at HV1 HC1 HFE
 rw [hC0] at HC0 HFE
 rw [hC1] at HC1 HFE
 clear hS0 hS1 hC0 hC1
 obtain ⟨m0,hm0'⟩:=ex_eq ps0.length
 obtain ⟨n0,hn0'⟩:=ex_eq qs0.length
 obtain ⟨m1,hm1'⟩:=ex_eq ps1.length
 obtain ⟨n1,hn1'⟩:=ex_eq qs1.length
 rw [hm0',hn0'] at HV0 HC0
 rw [hm1',hn1'] at HV1 HC1
 rw [hm0',hn0',hm1',hn1']
 clear hm0' hn0' hm1' hn1'
 have HF0:Hid ((decide (d0=dv) && (S0 && C0))=false→FE=false):=hid (fun h=>by rw [HFE.o,h];rfl)
 have HF1:Hid ((decide (d1=dv) && (S1 && C1))=false→FE=false):=hid (fun h=>by rw [HFE.o,h];simp)
 go_enter Tryz.func70,Tryz.ntmps70
 go_upto_region 1 with fail
 refine wp_over (fun V=>Hid (V.heap[w.heap.size]? =some (.cells #[.int .i64 B,.int .i64 H] 23 (0,0)))∧Hid (V.heap[w.heap.size+1]? =some (.cells #[.int .i64 dv,.slice a0 L0 c0,.slice a1 L1 c1,.int .i64 d0,.int .i64 q0,.string s0,.int .i64 i0,.slice p0 m0 k0,.slice r0 n0 l0,.int .i64 d1,.int .i64 q1,.string s1,.int .i64 i1,.slice p1 m1 k1,.slice r1 n1 l1] 130 (0,0)))∧Hid (Below w.heap.size w V)∧Hid (V.heap.size=w.heap.size+2)) ⟨two_rows1,two_rows2,two_below,two_size⟩ ?_
 rintro W ⟨HRS0,HRF0,HB,HWS⟩
 obtain ⟨N,hN⟩:=ex_eq w.heap.size
 obtain ⟨F,hF⟩:=ex_eq (w.heap.size+1)
 have HN:=hid hN
 have HFN:Hid (F=N+1):=hid (by omega)
 rw [hF] at HRF0 ⊢
 rw [hN] at HRS0 HB HWS ⊢
 have HWS:Hid (W.heap.size=F+1):=hid (by have:=HWS.o;have:=HFN.o;omega)
 clear hN hF
 have HRF:Hid (∀V,Below (F+1) W V→V.heap[F]? =some (.cells #[.int .i64 dv,.slice a0 L0 c0,.slice a1 L1 c1,.int .i64 d0,.int .i64 q0,.string s0,.int .i64 i0,.slice p0 m0 k0,.slice r0 n0 l0,.int .i64 d1,.int .i64 q1,.string s1,.int .i64 i1,.slice p1 m1 k1,.slice r1 n1 l1] 130 (0,0))):=hid (fun V h=>(h.block F (Nat.lt_succ_self _)).trans HRF0.o)
 have HRS:Hid (∀V,Below (F+1) W V→V.cell? ⟨N,0,none⟩=some (.int .i64 B)∧V.cell? ⟨N,1,none⟩=some (.int .i64 H)∧True):=hid (fun V h=>by
  have hr:=(h.block N (by have:=HFN.o;omega)).trans HRS0.o
  exact ⟨cr hr,cr hr,trivial⟩)
 have HBE:Hid (∀V,Below (F+1) W V→Below w.heap.size w V):=hid (fun V h=>by rw [HN.o];exact HB.o.trans (h.mono (by have:=HFN.o;omega)))
 clear HRS0 HB
 have f3:W.cell? ⟨F,3,none⟩=some (.int .i64 d0):=cr HRF0.o
 have f4:W.cell? ⟨F,4,none⟩=some (.int .i64 q0):=cr HRF0.o
 have f5:W.cell? ⟨F,5,none⟩=some (.string s0):=cr HRF0.o
 have f6:W.cell? ⟨F,6,none⟩=some (.int .i64 i0):=cr HRF0.o
 have f7:W.cell? ⟨F,7,none⟩=some (.slice p0 m0 k0):=cr HRF0.o
 have f8:W.cell? ⟨F,8,none⟩=some (.slice r0 n0 l0):=cr HRF0.o
 have f9:W.cell? ⟨F,9,none⟩=some (.int .i64 d1):=cr HRF0.o
 have f10:W.cell? ⟨F,10,none⟩=some (.int .i64 q1):=cr HRF0.o
 have f11:W.cell? ⟨F,11,none⟩=some (.string s1):=cr HRF0.o
 have f12:W.cell? ⟨F,12,none⟩=some (.int .i64 i1):=cr HRF0.o
 have f13:W.cell? ⟨F,13,none⟩=some (.slice p1 m1 k1):=cr HRF0.o
 have f14:W.cell? ⟨F,14,none⟩=some (.slice r1 n1 l1):=cr HRF0.o
 go_upto_region 2 with fail
 clear f3 f4 f5 f6 f7 f8 f9 f10 f11 f12 f13 f14
 go_loopw [12] (fun z wr=>(z= .int .i64 0∨(z= .int .i64 1∧(decide (d0=dv) && (S0 && C0))=true)∨(z= .int .i64 2∧(decide (d0=dv) && (S0 && C0))=true∧(decide (d1=dv) && (S1 && C1))=true))∧Hid (Below (F+1) W wr)) (fun z _=>(2 - intOf z).toNat)
 case atStart=>exact ⟨.inl rfl,hid (Below.refl _ _)⟩
 case round=>
  obtain ⟨hz,HR⟩:=hrel
  rcases hz with rfl | ⟨rfl,ho0⟩ | ⟨rfl,ho0,ho1⟩
  ·have hix:=index_heads0 (.int .i64 d0) (.int .i64 q0) (.string s0) (.int .i64 i0) (.slice p0 m0 k0) (.slice r0 n0 l0) (.int .i64 d1) (.int .i64 q1) (.string s1) (.int .i64 i1) (.slice p1 m1 k1) (.slice r1 n1 l1)
   go_upto_region 4 with fail
   clear hix
   refine wp_over (fun V=>Hid (V.heap[wr.heap.size]? =some (.cells #[.int .i64 d0,.int .i64 q0,.string s0,.int .i64 i0,.slice p0 m0 k0,.slice r0 n0 l0] 94 (0,0)))∧Hid (V.heap.size=wr.heap.size+1)∧Hid (Below wr.heap.size wr V)) ⟨heap_alloc_new _ _,by show _=_;simp,(Below.refl _ _).alloc (Nat.le_refl _) _⟩ ?_
   rintro W2 ⟨HG2,HZ2,HB2⟩
   obtain ⟨J,hJ⟩:=ex_eq wr.heap.size
   have HJ:=hid hJ
   rw [hJ] at HG2 HZ2 HB2 ⊢
   clear hJ
   have HR2:Hid (Below (F+1) W W2):=hid (HR.o.trans (HB2.o.mono (by have:=HR.o.size;have:=HJ.o;have:=HWS.o;omega)))
   have HJN:Hid (F+1≤J):=hid (by have:=HR.o.size;have:=HJ.o;have:=HWS.o;omega)
   have HJS:Hid (W2.heap.size=J+1):=HZ2
   clear HB2 HZ2
   have HSC0:Hid (∀V,Below (J+1) W2 V→(V.cell? ⟨N,0,none⟩=some (.int .i64 B)∧V.cell? ⟨N,1,none⟩=some (.int .i64 H)∧V.cell? ⟨F,0,none⟩=some (.int .i64 dv)∧V.cell? ⟨F,1,none⟩=some (.slice a0 L0 c0)∧V.cell? ⟨J,0,none⟩=some (.int .i64 d0)∧V.cell? ⟨J,1,none⟩=some (.int .i64 q0)∧V.cell? ⟨J,2,none⟩=some (.string s0)∧V.cell? ⟨J,3,none⟩=some (.int .i64 i0)∧V.cell? ⟨J,4,none⟩=some (.slice p0 m0 k0)∧V.cell? ⟨J,5,none⟩=some (.slice r0 n0 l0))):=hid (fun V h=>by
    have hb:=HR2.o.trans (h.mono (by have:=HJN.o;omega))
    obtain ⟨e0,e1,_⟩:=HRS.o V hb
    have ef:=HRF.o V hb
    have ej:=(h.block J (Nat.lt_succ_self _)).trans HG2.o
    exact ⟨e0,e1,cr ef,cr ef,row6 ej⟩)
   have HSC:=HSC0
   clear HSC0
   obtain ⟨t0,t1,t2,t3,t4,t5,t6,t7,t8,t9⟩:=HSC.o _ (Below.refl _ _)
   go_upto_region 4 with fail
   have HD:Hid (Below (J+1) W2 W2.drew):=hid (Below.refl _ _).drew
   clear t0 t1 t2 t3 t4 t5 t6 t7 t8 t9
   by_cases hdv:d0=dv
   rotate_left
   ·have hne:(d0 != dv)=true:=by rw [bne_iff_ne];exact hdv
    have HF:Hid (FE=false):=hid (HF0.o (by rw [decide_eq_false hdv];rfl))
    clear hdv
    refine Kit.wp_region_hplan (fun V=>V.cell? ⟨N,0,none⟩=some (.int .i64 B)∧V.cell? ⟨N,1,none⟩=some (.int .i64 H)∧V.cell? ⟨F,0,none⟩=some (.int .i64 dv)∧V.cell? ⟨F,1,none⟩=some (.slice a0 L0 c0)∧V.cell? ⟨J,0,none⟩=some (.int .i64 d0)∧V.cell? ⟨J,1,none⟩=some (.int .i64 q0)∧V.cell? ⟨J,2,none⟩=some (.string s0)∧V.cell? ⟨J,3,none⟩=some (.int .i64 i0)∧V.cell? ⟨J,4,none⟩=some (.slice p0 m0 k0)∧V.cell? ⟨J,5,none⟩=some (.slice r0 n0 l0)) [(true,0),(true,1),(true,2),(true,3),(true,4),(true,5),(true,6),(true,7),(true,8),(false,9),(true,10),(true,11),(true,12),(true,13),(true,14),(true,15),(true,16),(true,17),(false,18),(true,19),(true,20)] (by kernel_rfl) (by kernel_rfl) (by kernel_rfl) (by kernel_rfl) (HSC.o _ HD.o) ?_
    iterate 9 (refine Kit.hhd (h:= ?_))
    refine Kit.hsk (h:=?_)
    iterate 8 (refine Kit.hhd (h:= ?_))
    refine Kit.hsk (h:=?_)
    iterate 2 (refine Kit.hhd (h:= ?_))
    refine Kit.hdn (h:=?_)
    go_wp2_with fail
    go_ret
    exact ⟨by rw [HF.o];rfl,HBE.o _ (HR2.o.trans (HD.o.mono (by have:=HJN.o;omega)))⟩
   have hne:(d0 != dv)=false:=by rw [hdv];simp
   have HDV:Hid (decide (d0=dv)=true):=hid (decide_eq_true hdv)
   clear hdv
   by_cases hsg:S0=true
   rotate_left
   ·have hS:S0=false:=Bool.eq_false_iff.2 hsg
    have HF:Hid (FE=false):=hid (HF0.o (by rw [hS];simp))
    have HV0:=HV0
    rw [hS] at HV0
    clear hsg hS
    refine Kit.wp_region_hplan (fun V=>V.cell? ⟨N,0,none⟩=some (.int .i64 B)∧V.cell? ⟨N,1,none⟩=some (.int .i64 H)∧V.cell? ⟨F,0,none⟩=some (.int .i64 dv)∧V.cell? ⟨F,1,none⟩=some (.slice a0 L0 c0)∧V.cell? ⟨J,0,none⟩=some (.int .i64 d0)∧V.cell? ⟨J,1,none⟩=some (.int .i64 q0)∧V.cell? ⟨J,2,none⟩=some (.string s0)∧V.cell? ⟨J,3,none⟩=some (.int .i64 i0)∧V.cell? ⟨J,4,none⟩=some (.slice p0 m0 k0)∧V.cell? ⟨J,5,none⟩=some (.slice r0 n0 l0)) [(true,0),(true,1),(true,2),(true,3),(true,4),(true,5),(true,6),(true,7),(true,8),(false,9),(true,10),(true,11),(true,12),(true,13),(true,14),(true,15),(true,16),(true,17),(false,18),(true,19),(true,20)] (by kernel_rfl) (by kernel_rfl) (by kernel_rfl) (by kernel_rfl) (HSC.o _ HD.o) ?_
    iterate 9 (refine Kit.hhd (h:= ?_))
    refine Kit.hplan_op (by rfl) (by rfl) fun K hK=> ?_
    go_simp
    go_at_call 64
    with_reducible refine (HV0.o W2.drew (HBE.o _ (HR2.o.trans (HD.o.mono (by have:=HJN.o;omega))))).mono ?_
    rintro e w4 ⟨rfl,h4⟩
    have H4:Hid (Below (J+1) W2 w4):=hid (HD.o.trans (h4.mono (by have h:W2.drew.heap.size=W2.heap.size:=rfl;have:=HJS.o;omega)))
    clear h4
    refine hK _ _ (HSC.o _ H4.o) ?_
    clear hK K
    iterate 8 (refine Kit.hhd (h:= ?_))
    refine Kit.hsk (h:=?_)
    iterate 2 (refine Kit.hhd (h:= ?_))
    refine Kit.hdn (h:=?_)
    go_wp2_with fail
    go_ret
    exact ⟨by rw [HF.o];rfl,HBE.o _ (HR2.o.trans (H4.o.mono (by have:=HJN.o;omega)))⟩
   have HSG:Hid (S0=true):=hid hsg
   have HCX:=HC0.o hsg
   rw [hsg] at HV0
   clear hsg
   refine Kit.wp_region_hplan (fun V=>V.cell? ⟨N,0,none⟩=some (.int .i64 B)∧V.cell? ⟨N,1,none⟩=some (.int .i64 H)∧V.cell? ⟨F,0,none⟩=some (.int .i64 dv)∧V.cell? ⟨F,1,none⟩=some (.slice a0 L0 c0)∧V.cell? ⟨J,0,none⟩=some (.int .i64 d0)∧V.cell? ⟨J,1,none⟩=some (.int .i64 q0)∧V.cell? ⟨J,2,none⟩=some (.string s0)∧V.cell? ⟨J,3,none⟩=some (.int .i64 i0)∧V.cell? ⟨J,4,none⟩=some (.slice p0 m0 k0)∧V.cell? ⟨J,5,none⟩=some (.slice r0 n0 l0)) [(true,0),(true,1),(true,2),(true,3),(true,4),(true,5),(true,6),(true,7),(true,8),(false,9),(true,10),(true,11),(true,12),(true,13),(true,14),(true,15),(true,16),(true,17),(false,18),(true,19),(true,20)] (by kernel_rfl) (by kernel_rfl) (by kernel_rfl) (by kernel_rfl) (HSC.o _ HD.o) ?_
   iterate 9 (refine Kit.hhd (h:= ?_))
   refine Kit.hplan_op (by rfl) (by rfl) fun K hK=> ?_
   go_simp
   go_at_call 64
   with_reducible refine (HV0.o W2.drew (HBE.o _ (HR2.o.trans (HD.o.mono (by have:=HJN.o;omega))))).mono ?_
   rintro e w4 ⟨rfl,h4⟩
   have H4:Hid (Below (J+1) W2 w4):=hid (HD.o.trans (h4.mono (by have h:W2.drew.heap.size=W2.heap.size:=rfl;have:=HJS.o;omega)))
   clear h4
   refine hK _ _ (HSC.o _ H4.o) ?_
   clear hK K
   iterate 8 (refine Kit.hhd (h:= ?_))
   refine Kit.hplan_op (by rfl) (by rfl) fun K hK=> ?_
   go_simp
   go_at_call 161
   with_reducible refine (HCX w4 (HBE.o _ (HR2.o.trans (H4.o.mono (by have:=HJN.o;omega))))).mono ?_
   rintro e w5 ⟨rfl,h5⟩
   have H5:Hid (Below (J+1) W2 w5):=hid (H4.o.trans (h5.mono (by have h:=H4.o.size;have:=HJS.o;omega)))
   clear h5
   refine hK _ _ (HSC.o _ H5.o) ?_
   clear hK K HCX
   have HR5:Hid (Below (F+1) W w5):=hid (HR2.o.trans (H5.o.mono (by have:=HJN.o;omega)))
   cases C0
   ·iterate 2 (refine Kit.hhd (h:= ?_))
    refine Kit.hdn (h:=?_)
    have HF:Hid (FE=false):=hid (HF0.o (by simp))
    go_wp2_with fail
    go_ret
    exact ⟨by rw [HF.o];rfl,HBE.o _ HR5.o⟩
   ·iterate 2 (refine Kit.hhd (h:= ?_))
    refine Kit.hdn (h:=?_)
    go_wp2_with fail
    go_roundw
    case rel=>exact ⟨.inr (.inl ⟨by first | rfl | go_num,by rw [HDV.o,HSG.o];rfl⟩),HR5.o⟩
    case measure=>simp [intOf]
  ·have HO0:=hid ho0
   clear ho0
   have hix:=index_heads1 (.int .i64 d0) (.int .i64 q0) (.string s0) (.int .i64 i0) (.slice p0 m0 k0) (.slice r0 n0 l0) (.int .i64 d1) (.int .i64 q1) (.string s1) (.int .i64 i1) (.slice p1 m1 k1) (.slice r1 n1 l1)
   go_upto_region 4 with fail
   clear hix
   refine wp_over (fun V=>Hid (V.heap[wr.heap.size]? =some (.cells #[.int .i64 d1,.int .i64 q1,.string s1,.int .i64 i1,.slice p1 m1 k1,.slice r1 n1 l1] 94 (0,0)))∧Hid (V.heap.size=wr.heap.size+1)∧Hid (Below wr.heap.size wr V)) ⟨heap_alloc_new _ _,by show _=_;simp,(Below.refl _ _).alloc (Nat.le_refl _) _⟩ ?_
   rintro W2 ⟨HG2,HZ2,HB2⟩
   obtain ⟨J,hJ⟩:=ex_eq wr.heap.size
   have HJ:=hid hJ
   rw [hJ] at HG2 HZ2 HB2 ⊢
   clear hJ
   have HR2:Hid (Below (F+1) W W2):=hid (HR.o.trans (HB2.o.mono (by have:=HR.o.size;have:=HJ.o;have:=HWS.o;omega)))
   have HJN:Hid (F+1≤J):=hid (by have:=HR.o.size;have:=HJ.o;have:=HWS.o;omega)
   have HJS:Hid (W2.heap.size=J+1):=HZ2
   clear HB2 HZ2
   have HSC0:Hid (∀V,Below (J+1) W2 V→(V.cell? ⟨N,0,none⟩=some (.int .i64 B)∧V.cell? ⟨N,1,none⟩=some (.int .i64 H)∧V.cell? ⟨F,0,none⟩=some (.int .i64 dv)∧V.cell? ⟨F,2,none⟩=some (.slice a1 L1 c1)∧V.cell? ⟨J,0,none⟩=some (.int .i64 d1)∧V.cell? ⟨J,1,none⟩=some (.int .i64 q1)∧V.cell? ⟨J,2,none⟩=some (.string s1)∧V.cell? ⟨J,3,none⟩=some (.int .i64 i1)∧V.cell? ⟨J,4,none⟩=some (.slice p1 m1 k1)∧V.cell? ⟨J,5,none⟩=some (.slice r1 n1 l1))):=hid (fun V h=>by
    have hb:=HR2.o.trans (h.mono (by have:=HJN.o;omega))
    obtain ⟨e0,e1,_⟩:=HRS.o V hb
    have ef:=HRF.o V hb
    have ej:=(h.block J (Nat.lt_succ_self _)).trans HG2.o
    exact ⟨e0,e1,cr ef,cr ef,row6 ej⟩)
   have HSC:=HSC0
   clear HSC0
   obtain ⟨t0,t1,t2,t3,t4,t5,t6,t7,t8,t9⟩:=HSC.o _ (Below.refl _ _)
   go_upto_region 4 with fail
   have HD:Hid (Below (J+1) W2 W2.drew):=hid (Below.refl _ _).drew
   clear t0 t1 t2 t3 t4 t5 t6 t7 t8 t9
   by_cases hdv:d1=dv
   rotate_left
   ·have hne:(d1 != dv)=true:=by rw [bne_iff_ne];exact hdv
    have HF:Hid (FE=false):=hid (HF1.o (by rw [decide_eq_false hdv];rfl))
    clear hdv
    refine Kit.wp_region_hplan (fun V=>V.cell? ⟨N,0,none⟩=some (.int .i64 B)∧V.cell? ⟨N,1,none⟩=some (.int .i64 H)∧V.cell? ⟨F,0,none⟩=some (.int .i64 dv)∧V.cell? ⟨F,2,none⟩=some (.slice a1 L1 c1)∧V.cell? ⟨J,0,none⟩=some (.int .i64 d1)∧V.cell? ⟨J,1,none⟩=some (.int .i64 q1)∧V.cell? ⟨J,2,none⟩=some (.string s1)∧V.cell? ⟨J,3,none⟩=some (.int .i64 i1)∧V.cell? ⟨J,4,none⟩=some (.slice p1 m1 k1)∧V.cell? ⟨J,5,none⟩=some (.slice r1 n1 l1)) [(true,0),(true,1),(true,2),(true,3),(true,4),(true,5),(true,6),(true,7),(true,8),(false,9),(true,10),(true,11),(true,12),(true,13),(true,14),(true,15),(true,16),(true,17),(false,18),(true,19),(true,20)] (by kernel_rfl) (by kernel_rfl) (by kernel_rfl) (by kernel_rfl) (HSC.o _ HD.o) ?_
    iterate 9 (refine Kit.hhd (h:= ?_))
    refine Kit.hsk (h:=?_)
    iterate 8 (refine Kit.hhd (h:= ?_))
    refine Kit.hsk (h:=?_)
    iterate 2 (refine Kit.hhd (h:= ?_))
    refine Kit.hdn (h:=?_)
    go_wp2_with fail
    go_ret
    exact ⟨by rw [HF.o];rfl,HBE.o _ (HR2.o.trans (HD.o.mono (by have:=HJN.o;omega)))⟩
   have hne:(d1 != dv)=false:=by rw [hdv];simp
   have HDV:Hid (decide (d1=dv)=true):=hid (decide_eq_true hdv)
   clear hdv
   by_cases hsg:S1=true
   rotate_left
   ·have hS:S1=false:=Bool.eq_false_iff.2 hsg
    have HF:Hid (FE=false):=hid (HF1.o (by rw [hS];simp))
    have HV1:=HV1
    rw [hS] at HV1
    clear hsg hS
    refine Kit.wp_region_hplan (fun V=>V.cell? ⟨N,0,none⟩=some (.int .i64 B)∧V.cell? ⟨N,1,none⟩=some (.int .i64 H)∧V.cell? ⟨F,0,none⟩=some (.int .i64 dv)∧V.cell? ⟨F,2,none⟩=some (.slice a1 L1 c1)∧V.cell? ⟨J,0,none⟩=some (.int .i64 d1)∧V.cell? ⟨J,1,none⟩=some (.int .i64 q1)∧V.cell? ⟨J,2,none⟩=some (.string s1)∧V.cell? ⟨J,3,none⟩=some (.int .i64 i1)∧V.cell? ⟨J,4,none⟩=some (.slice p1 m1 k1)∧V.cell? ⟨J,5,none⟩=some (.slice r1 n1 l1)) [(true,0),(true,1),(true,2),(true,3),(true,4),(true,5),(true,6),(true,7),(true,8),(false,9),(true,10),(true,11),(true,12),(true,13),(true,14),(true,15),(true,16),(true,17),(false,18),(true,19),(true,20)] (by kernel_rfl) (by kernel_rfl) (by kernel_rfl) (by kernel_rfl) (HSC.o _ HD.o) ?_
    iterate 9 (refine Kit.hhd (h:= ?_))
    refine Kit.hplan_op (by rfl) (by rfl) fun K hK=> ?_
    go_simp
    go_at_call 64
    with_reducible refine (HV1.o W2.drew (HBE.o _ (HR2.o.trans (HD.o.mono (by have:=HJN.o;omega))))).mono ?_
    rintro e w4 ⟨rfl,h4⟩
    have H4:Hid (Below (J+1) W2 w4):=hid (HD.o.trans (h4.mono (by have h:W2.drew.heap.size=W2.heap.size:=rfl;have:=HJS.o;omega)))
    clear h4
    refine hK _ _ (HSC.o _ H4.o) ?_
    clear hK K
    iterate 8 (refine Kit.hhd (h:= ?_))
    refine Kit.hsk (h:=?_)
    iterate 2 (refine Kit.hhd (h:= ?_))
    refine Kit.hdn (h:=?_)
    go_wp2_with fail
    go_ret
    exact ⟨by rw [HF.o];rfl,HBE.o _ (HR2.o.trans (H4.o.mono (by have:=HJN.o;omega)))⟩
   have HSG:Hid (S1=true):=hid hsg
   have HCX:=HC1.o hsg
   rw [hsg] at HV1
   clear hsg
   refine Kit.wp_region_hplan (fun V=>V.cell? ⟨N,0,none⟩=some (.int .i64 B)∧V.cell? ⟨N,1,none⟩=some (.int .i64 H)∧V.cell? ⟨F,0,none⟩=some (.int .i64 dv)∧V.cell? ⟨F,2,none⟩=some (.slice a1 L1 c1)∧V.cell? ⟨J,0,none⟩=some (.int .i64 d1)∧V.cell? ⟨J,1,none⟩=some (.int .i64 q1)∧V.cell? ⟨J,2,none⟩=some (.string s1)∧V.cell? ⟨J,3,none⟩=some (.int .i64 i1)∧V.cell? ⟨J,4,none⟩=some (.slice p1 m1 k1)∧V.cell? ⟨J,5,none⟩=some (.slice r1 n1 l1)) [(true,0),(true,1),(true,2),(true,3),(true,4),(true,5),(true,6),(true,7),(true,8),(false,9),(true,10),(true,11),(true,12),(true,13),(true,14),(true,15),(true,16),(true,17),(false,18),(true,19),(true,20)] (by kernel_rfl) (by kernel_rfl) (by kernel_rfl) (by kernel_rfl) (HSC.o _ HD.o) ?_
   iterate 9 (refine Kit.hhd (h:= ?_))
   refine Kit.hplan_op (by rfl) (by rfl) fun K hK=> ?_
   go_simp
   go_at_call 64
   with_reducible refine (HV1.o W2.drew (HBE.o _ (HR2.o.trans (HD.o.mono (by have:=HJN.o;omega))))).mono ?_
   rintro e w4 ⟨rfl,h4⟩
   have H4:Hid (Below (J+1) W2 w4):=hid (HD.o.trans (h4.mono (by have h:W2.drew.heap.size=W2.heap.size:=rfl;have:=HJS.o;omega)))
   clear h4
   refine hK _ _ (HSC.o _ H4.o) ?_
   clear hK K
   iterate 8 (refine Kit.hhd (h:= ?_))
   refine Kit.hplan_op (by rfl) (by rfl) fun K hK=> ?_
   go_simp
   go_at_call 161
   with_reducible refine (HCX w4 (HBE.o _ (HR2.o.trans (H4.o.mono (by have:=HJN.o;omega))))).mono ?_
   rintro e w5 ⟨rfl,h5⟩
   have H5:Hid (Below (J+1) W2 w5):=hid (H4.o.trans (h5.mono (by have h:=H4.o.size;have:=HJS.o;omega)))
   clear h5
   refine hK _ _ (HSC.o _ H5.o) ?_
   clear hK K HCX
   have HR5:Hid (Below (F+1) W w5):=hid (HR2.o.trans (H5.o.mono (by have:=HJN.o;omega)))
   cases C1
   ·iterate 2 (refine Kit.hhd (h:= ?_))
    refine Kit.hdn (h:=?_)
    have HF:Hid (FE=false):=hid (HF1.o (by simp))
    go_wp2_with fail
    go_ret
    exact ⟨by rw [HF.o];rfl,HBE.o _ HR5.o⟩
   ·iterate 2 (refine Kit.hhd (h:= ?_))
    refine Kit.hdn (h:=?_)
    go_wp2_with fail
    go_roundw
    case rel=>exact ⟨.inr (.inr ⟨by first | rfl | go_num,HO0.o,by rw [HDV.o,HSG.o];rfl⟩),HR5.o⟩
    case measure=>simp [intOf]
  ·have HO0:=hid ho0
   have HO1:=hid ho1
   clear ho0 ho1
   have HFA:Hid (FE= !agreeE es0 es1):=hid (by rw [HFE.o,HO0.o,HO1.o];rfl)
   obtain ⟨n,hn⟩:=ex_eq (min L0 L1)
   have hmin:min (L0:Int) (L1:Int)=(n:Int):=by omega
   have HMI:Hid (n≤L0∧n≤L1∧(n=L0∨n=L1)):=hid (by omega)
   have hn6:n≤1000000:=by omega
   have HCF:Hid (∀V,Below (F+1) W V→V.cell? ⟨F,1,none⟩=some (.slice a0 L0 c0)∧V.cell? ⟨F,2,none⟩=some (.slice a1 L1 c1)):=hid (fun V h=>⟨(cell_of_row _ _ _ _ _ _ (HRF.o V h)).trans rfl,(cell_of_row _ _ _ _ _ _ (HRF.o V h)).trans rfl⟩)
   have HST:Hid (∀V V',Below (F+1) W V→Below V.heap.size V V'→Below (F+1) W V'):=hid (fun V V' h h'=>h.trans (h'.mono (by have:=h.size;have:=HWS.o;omega)))
   obtain ⟨g1,g2⟩:=HCF.o _ HR.o
   clear hn HF0 HF1 HV0 HV1 HC0 HC1 HRS HRF HRF0
   go_upto_region 8 with fail
   clear g1 g2 hmin
   rename World=>wa
   have HRA:=HR
   clear HR
   go_loopw [47] (fun z wr2=> ∃k:Nat,k≤n∧z= .int .i64 (k:Int)∧Hid (∀i,(h1:i<es0.length)→(h2:i<es1.length)→i<k→sameE es0[i] es1[i]=true)∧Hid (Below (F+1) W wr2)) (fun z _=>n - (intOf z).toNat)
   case atStart=>exact ⟨0,by omega,rfl,hid (fun i h1 h2 h=>by omega),HRA⟩
   case round=>
    obtain ⟨k,hk,rfl,HCR,HR⟩:=hrel
    by_cases hlt:k<n
    ·have hki:(k:Int)<(n:Int):=by omega
     have hk0:(k:Int)<(L0:Int):=by have:=HMI.o;omega
     have hk1:(k:Int)<(L1:Int):=by have:=HMI.o;omega
     have HK1:Hid (k<es0.length):=hid (by rw [HL0.o];omega)
     have HK2:Hid (k<es1.length):=hid (by rw [HL1.o];omega)
     obtain ⟨b1,o1,rfl,hes⟩:=ents_some (HE0.o.later (HBE.o _ HR.o)) k HK1.o
     obtain ⟨b2,o2,rfl,hfs⟩:=ents_some (HE1.o.later (HBE.o _ HR.o)) k HK2.o
     have h1:=hes k HK1.o
     have h2:=hfs k HK2.o
     obtain ⟨q1,hq1⟩:=ex_eq (es0[k]'HK1.o)
     obtain ⟨q2,hq2⟩:=ex_eq (es1[k]'HK2.o)
     have HQ1:=hid hq1
     have HQ2:=hid hq2
     rw [hq1] at h1
     rw [hq2] at h2
     clear hq1 hq2 hes hfs
     obtain ⟨e1,f1,g1,y1,w1,u1⟩:=q1
     obtain ⟨e2,f2,g2,y2,w2,u2⟩:=q2
     obtain ⟨x1,z1,t1,hz1,_,hB1,d0,d1,d2,d3,d4,d5⟩:=h1
     obtain ⟨x2,z2,t2,hz2,_,hB2,j0,j1,j2,j3,j4,j5⟩:=h2
     simp only at hz1 hB1 d0 d1 d2 d3 d4 d5 hz2 hB2 j0 j1 j2 j3 j4 j5
     have HB1:=hid hB1
     have HB2:=hid hB2
     have HSM:=hid (fun w h1 h2=>sameG_any e1 f1 g1 y1 x1 z1 t1 u1 w1 hz1 e2 f2 g2 y2 x2 z2 t2 u2 w2 hz2 w h1 h2)
     obtain ⟨Bq,hBq⟩:=ex_eq (sameE ⟨e1,f1,g1,y1,w1,u1⟩ ⟨e2,f2,g2,y2,w2,u2⟩)
     have HBQ:Hid (sameE (es0[k]'HK1.o) (es1[k]'HK2.o)=Bq):=hid (by rw [HQ1.o,HQ2.o];exact hBq)
     rw [hBq] at HSM
     have HSS:Hid (∀V,Below wr.heap.size wr V→(V.cell? ⟨F,1,none⟩=some (.slice (some ⟨b1,o1,none⟩) L0 c0)∧V.cell? ⟨F,2,none⟩=some (.slice (some ⟨b2,o2,none⟩) L1 c1)∧V.cell? ⟨b1,o1+k*6,none⟩=some (.int .i64 e1)∧V.cell? ⟨b1,o1+k*6+1,none⟩=some (.int .i64 f1)∧V.cell? ⟨b1,o1+k*6+2,none⟩=some (.int .i64 g1)∧V.cell? ⟨b1,o1+k*6+3,none⟩=some (.int .i64 y1)∧V.cell? ⟨b1,o1+k*6+4,none⟩=some (.slice x1 z1 t1)∧V.cell? ⟨b1,o1+k*6+5,none⟩=some (.string u1)∧V.cell? ⟨b2,o2+k*6,none⟩=some (.int .i64 e2)∧V.cell? ⟨b2,o2+k*6+1,none⟩=some (.int .i64 f2)∧V.cell? ⟨b2,o2+k*6+2,none⟩=some (.int .i64 g2)∧V.cell? ⟨b2,o2+k*6+3,none⟩=some (.int .i64 y2)∧V.cell? ⟨b2,o2+k*6+4,none⟩=some (.slice x2 z2 t2)∧V.cell? ⟨b2,o2+k*6+5,none⟩=some (.string u2))):=hid (fun V h=>by
      have t: ∀{b j:Nat} {x:Value},wr.cell? ⟨b,j,none⟩=some x→V.cell? ⟨b,j,none⟩=some x:=fun h0=>(h.cell (World.block_lt_of_cell? wr _ h0)).trans h0
      obtain ⟨r1,r2⟩:=HCF.o _ (HST.o _ _ HR.o h)
      exact ⟨r1,r2,t d0,t d1,t d2,t d3,t d4,t d5,t j0,t j1,t j2,t j3,t j4,t j5⟩)
     have hwr:IntKind.i64.wrap ((k:Int)+1)=(k:Int)+1:=by rw [IntKind.wrap_i64];omega
     clear hBq hB1 hB2 hz1 hz2 d0 d1 d2 d3 d4 d5 j0 j1 j2 j3 j4 j5
     go_upto_region 10 with fail
     refine Kit.wp_region_gplan (fun V=>V.cell? ⟨F,1,none⟩=some (.slice (some ⟨b1,o1,none⟩) L0 c0)∧V.cell? ⟨F,2,none⟩=some (.slice (some ⟨b2,o2,none⟩) L1 c1)∧V.cell? ⟨b1,o1+k*6,none⟩=some (.int .i64 e1)∧V.cell? ⟨b1,o1+k*6+1,none⟩=some (.int .i64 f1)∧V.cell? ⟨b1,o1+k*6+2,none⟩=some (.int .i64 g1)∧V.cell? ⟨b1,o1+k*6+3,none⟩=some (.int .i64 y1)∧V.cell? ⟨b1,o1+k*6+4,none⟩=some (.slice x1 z1 t1)∧V.cell? ⟨b1,o1+k*6+5,none⟩=some (.string u1)∧V.cell? ⟨b2,o2+k*6,none⟩=some (.int .i64 e2)∧V.cell? ⟨b2,o2+k*6+1,none⟩=some (.int .i64 f2)∧V.cell? ⟨b2,o2+k*6+2,none⟩=some (.int .i64 g2)∧V.cell? ⟨b2,o2+k*6+3,none⟩=some (.int .i64 y2)∧V.cell? ⟨b2,o2+k*6+4,none⟩=some (.slice x2 z2 t2)∧V.cell? ⟨b2,o2+k*6+5,none⟩=some (.string u2)) [(true,0),(true,1),(true,2),(true,3),(true,4),(true,5),(true,6),(true,7),(true,8),(true,9),(true,10),(true,11),(false,12),(true,13)] (by kernel_rfl) (by kernel_rfl) (by kernel_rfl) (by kernel_rfl) (HSS.o _ (Below.refl _ _).drew) ?_
     iterate 12 (refine Kit.ghd (h:= ?_))
     refine Kit.gplan_op (by rfl) (by rfl) fun K hK=> ?_
     go_simp
     go_at_call 162
     with_reducible refine (HSM.o _ (HB1.o.later (Below.refl _ _).drew) (HB2.o.later (Below.refl _ _).drew)).mono ?_
     rintro e w3 ⟨rfl,h3⟩
     have H3:Hid (Below wr.heap.size wr w3):=hid ((Below.refl _ wr).drew.trans h3)
     have H4:Hid (Below (F+1) W w3):=hid (HST.o _ _ HR.o H3.o)
     clear h3
     refine hK _ _ (HSS.o _ H3.o) ?_
     clear hK K
     iterate 1 (refine Kit.ghd (h:= ?_))
     refine Kit.gdn (h:=?_)
     cases Bq
     ·have HX:Hid (FE=true):=hid (by rw [HFA.o,agreeE_bad k HK1.o HK2.o HBQ.o];rfl)
      go_wp2_with fail
      go_ret
      exact ⟨by rw [HX.o];rfl,HBE.o _ H4.o⟩
     ·have HC2:Hid (∀i,(h1:i<es0.length)→(h2:i<es1.length)→i<k+1→sameE es0[i] es1[i]=true):=hid (fun i hi hj h=>by
         by_cases e:i=k
         ·subst e;exact HBQ.o
         ·exact HCR.o i hi hj (by omega))
      go_wp2_with fail
      go_roundw
      case rel=>exact ⟨k+1,hlt,by go_num,HC2.o,H4.o⟩
      case measure=>simp [intOf];omega
    ·have hki: ¬(k:Int)<(n:Int):=by omega
     have HX:Hid (FE=false):=hid (by
      rw [HFA.o,agreeE_good (fun i hi hj=>HCR.o i hi hj (by have:=HL0.o;have:=HL1.o;have:=HMI.o;omega))];rfl)
     go_wp2_with fail
     go_ret
     exact ⟨by rw [HX.o];rfl,HBE.o _ HR.o⟩
end Go.Proofs.YtndlihclgdkpaaaGreatDoor
