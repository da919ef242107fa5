/- The law GossipVerifies. -/
import Derived.Test.YtndlihclgdkpaaaGreatDoorVri
import Derived.Test.YtndlihclgdkpaaaGreatDoorLga
import Derived.Test.YtndlihclgdkpaaaGreatDoorOpf
set_option linter.unusedVariables false
set_option linter.unusedSimpArgs false
open Go.Lib (hid)
namespace Go.Proofs.YtndlihclgdkpaaaGreatDoor
open Go.RowKit
open Kit (Chg)
open Sha (v)
open Go.Proofs.YtndlihclgdkpaaaGreatDoor.One

theorem row15 {w:World} {N:Nat} {x0 x1 x2 x3 x4 x5 x6 x7 x8 x9 x10 x11 x12 x13 x14:Value} {T:TypeId} {f:Nat × Nat} (hg:w.heap[N]? =some (.cells #[x0,x1,x2,x3,x4,x5,x6,x7,x8,x9,x10,x11,x12,x13,x14] T f)):w.cell? ⟨N,0,none⟩=some x0∧w.cell? ⟨N,1,none⟩=some x1∧w.cell? ⟨N,2,none⟩=some x2∧w.cell? ⟨N,3,none⟩=some x3∧w.cell? ⟨N,4,none⟩=some x4∧w.cell? ⟨N,5,none⟩=some x5∧w.cell? ⟨N,6,none⟩=some x6∧w.cell? ⟨N,7,none⟩=some x7∧w.cell? ⟨N,8,none⟩=some x8∧w.cell? ⟨N,9,none⟩=some x9∧w.cell? ⟨N,10,none⟩=some x10∧w.cell? ⟨N,11,none⟩=some x11∧w.cell? ⟨N,12,none⟩=some x12∧w.cell? ⟨N,13,none⟩=some x13∧w.cell? ⟨N,14,none⟩=some x14:=
 ⟨cr hg,cr hg,cr hg,cr hg,cr hg,cr hg,cr hg,cr hg,cr hg,cr hg,cr hg,cr hg,cr hg,cr hg,cr hg⟩
set_option maxRecDepth 100000 in
set_option maxHeartbeats 4000000 in
theorem walk_GossipVerifies (pk:ByteArray) (B H dv:Int) (a0:Option Addr) (c0:Nat) (es0:List Ent) (a1:Option Addr) (c1:Nat) (es1:List Ent) (x0 x1:HV) (w:World) (hk0:es0.length≤c0) (hm0:es0.length≤9223372036854775807) (hE0:EntsAt w a0 es0) (hk1:es1.length≤c1) (hm1:es1.length≤9223372036854775807) (hE1:EntsAt w a1 es1) (hX0:HeadIn w x0) (hX1:HeadIn w x1) (hLd:Laid w):
    Calls Tryz.prog 13 #[.string pk,.agg #[.int .i64 B,.int .i64 H],forkVal dv a0 es0.length c0 a1 es1.length c1 x0 x1] w fun e w'=>e= .returned (.bool true)∧Below w.heap.size w w':=by
 obtain ⟨L0,hl0⟩:=ex_eq es0.length
 obtain ⟨L1,hl1⟩:=ex_eq es1.length
 rw [hl0] at hk0 hm0 ⊢
 rw [hl1] at hk1 hm1 ⊢
 have HV0:Hid (∀V,Below w.heap.size w V→Calls Tryz.prog 64 #[.string pk,.agg #[.int .i64 B,.int .i64 H],.agg #[.int .i64 x0.h.dev,.int .i64 x0.h.seq,.string x0.h.sum,.int .i64 x0.h.idx,.slice x0.a1 x0.h.ps.length x0.c1,.slice x0.a2 x0.h.qs.length x0.c2]] V fun e w'=>e= .returned (.bool (decide (SignedH B H (nb pk) x0.h)))∧Below V.heap.size V w'):=hid (fun V h=>verifyH_any pk B H x0 hX0.1 hX0.2.1 V (hX0.later h).2.2.1 (hX0.later h).2.2.2 (hLd.later h (Nat.le_refl _)))
 have HV1:Hid (∀V,Below w.heap.size w V→Calls Tryz.prog 64 #[.string pk,.agg #[.int .i64 B,.int .i64 H],.agg #[.int .i64 x1.h.dev,.int .i64 x1.h.seq,.string x1.h.sum,.int .i64 x1.h.idx,.slice x1.a1 x1.h.ps.length x1.c1,.slice x1.a2 x1.h.qs.length x1.c2]] V fun e w'=>e= .returned (.bool (decide (SignedH B H (nb pk) x1.h)))∧Below V.heap.size V w'):=hid (fun V h=>verifyH_any pk B H x1 hX1.1 hX1.2.1 V (hX1.later h).2.2.1 (hX1.later h).2.2.2 (hLd.later h (Nat.le_refl _)))
 have HS0:Hid (∀V,Below w.heap.size w V→Calls Tryz.prog 69 #[.string pk,.agg #[.int .i64 B,.int .i64 H],.agg #[.int .i64 x0.h.dev,.int .i64 x0.h.seq,.string x0.h.sum,.int .i64 x0.h.idx,.slice x0.a1 x0.h.ps.length x0.c1,.slice x0.a2 x0.h.qs.length x0.c2]] V fun e w'=>e= .returned (.bool (decide (SignedH B H (nb pk) x0.h)))∧Below V.heap.size V w'):=hid (fun V h=>refSigned_any pk B H x0 hX0.1 hX0.2.1 V (hX0.later h).2.2.1 (hX0.later h).2.2.2)
 have HS1:Hid (∀V,Below w.heap.size w V→Calls Tryz.prog 69 #[.string pk,.agg #[.int .i64 B,.int .i64 H],.agg #[.int .i64 x1.h.dev,.int .i64 x1.h.seq,.string x1.h.sum,.int .i64 x1.h.idx,.slice x1.a1 x1.h.ps.length x1.c1,.slice x1.a2 x1.h.qs.length x1.c2]] V fun e w'=>e= .returned (.bool (decide (SignedH B H (nb pk) x1.h)))∧Below V.heap.size V w'):=hid (fun V h=>refSigned_any pk B H x1 hX1.1 hX1.2.1 V (hX1.later h).2.2.1 (hX1.later h).2.2.2)
 have HVF:Hid (L0≤20→L1≤20→ ∀V,Below w.heap.size w V→Calls Tryz.prog 70 #[.string pk,.agg #[.int .i64 B,.int .i64 H],forkVal dv a0 L0 c0 a1 L1 c1 x0 x1] V fun e w'=>e= .returned (.bool (forkE B H (nb pk) ⟨dv,es0,es1,x0.h,x1.h⟩))∧Below V.heap.size V w'):=hid (fun h0 h1 V h=>verifyFork_any pk B H dv a0 c0 L0 es0 hl0 a1 c1 L1 es1 hl1 x0 x1 (by omega) (by omega) V (hE0.later h) (hE1.later h) (hX0.later h) (hX1.later h) (hLd.later h (Nat.le_refl _)))
 have HPV:Hid (L0≤20→L1≤20→ ∀V,Below w.heap.size w V→Calls Tryz.prog 71 #[.string pk,.agg #[.int .i64 B,.int .i64 H],forkVal dv a0 L0 c0 a1 L1 c1 x0 x1] V fun e w'=>e= .returned (.bool (forkE B H (nb pk) ⟨dv,es0,es1,x0.h,x1.h⟩))∧Below V.heap.size V w'):=hid (fun h0 h1 V h=>proves_any pk B H dv a0 c0 L0 es0 hl0 hk0 a1 c1 L1 es1 hl1 hk1 x0 x1 (by omega) (by omega) V (hE0.later h) (hE1.later h) (hX0.later h) (hX1.later h))
 have HM0:Hid (∀V,Below w.heap.size w V→Calls Tryz.prog 68 #[.slice a0 L0 c0] V fun e w'=>e= .returned (.bool (smB es0))∧V=w'):=hid (fun V h=>small46_any a0 c0 L0 es0 hl0 hm0 V (hE0.later h))
 have HM1:Hid (∀V,Below w.heap.size w V→Calls Tryz.prog 68 #[.slice a1 L1 c1] V fun e w'=>e= .returned (.bool (smB es1))∧V=w'):=hid (fun V h=>small46_any a1 c1 L1 es1 hl1 hm1 V (hE1.later h))
 have HSV:Hid (∀V,Calls Tryz.prog 67 #[.agg #[.int .i64 B,.int .i64 H]] V fun e w'=>e= .returned (.bool (decide (SV B H)))∧Below V.heap.size V w'):=hid (fun V=>refSchemeValid_any B H V)
 have HAW:Hid (∀V,Below w.heap.size w V→Calls Tryz.prog 52 #[] V fun e w'=>e= .returned (.bool true)∧Below V.heap.size V w'):=hid (fun V h=>awake46 V (hLd.later h (Nat.le_refl _)) (hLd.later h (Nat.le_refl _)).size3)
 have HQ0:Hid (smB es0=true→L0≤20):=hid (fun h=>by rw [← hl0];exact smB_len h)
 have HQ1:Hid (smB es1=true→L1≤20):=hid (fun h=>by rw [← hl1];exact smB_len h)
 obtain ⟨FE,hFE⟩:=ex_eq (forkE B H (nb pk) ⟨dv,es0,es1,x0.h,x1.h⟩)
 rw [hFE] at HVF HPV
 obtain ⟨D,hD⟩:=ex_eq (decide (SV B H))
 rw [hD] at HSV
 obtain ⟨M0,hM0⟩:=ex_eq (smB es0)
 rw [hM0] at HM0 HQ0
 obtain ⟨M1,hM1⟩:=ex_eq (smB es1)
 rw [hM1] at HM1 HQ1
 clear hFE hD hM0 hM1 hE0 hE1 hX0 hX1 hl0 hl1 hk0 hk1 hm0 hm1
 have HLD:=hid hLd
 clear hLd
 unfold forkVal at HVF HPV ⊢
 obtain ⟨⟨d0,q0,s0,i0,ps0,qs0⟩,p0,k0,r0,l0⟩:=x0
 obtain ⟨⟨d1,q1,s1,i1,ps1,qs1⟩,p1,k1,r1,l1⟩:=x1
 simp only at HV0 HV1 HS0 HS1 HVF HPV ⊢
 obtain ⟨G0,hG0⟩:=ex_eq (decide (SignedH B H (nb pk) ⟨d0,q0,s0,i0,ps0,qs0⟩))
 obtain ⟨G1,hG1⟩:=ex_eq (decide (SignedH B H (nb pk) ⟨d1,q1,s1,i1,ps1,qs1⟩))
 rw [hG0] at HV0 HS0
 rw [hG1] at HV1 HS1
 clear hG0 hG1
 obtain ⟨m0,hm0'⟩:=ex_eq ps0.length
 obtain ⟨n0,hn0'⟩:=ex_eq qs0.length
 obtain ⟨m1,hm1'⟩:=ex_eq ps1.length
 obtain ⟨n1,hn1'⟩:=ex_eq qs1.length
 rw [hm0',hn0'] at HV0 HS0
 rw [hm1',hn1'] at HV1 HS1
 rw [hm0',hn0',hm1',hn1'] at HVF HPV ⊢
 clear hm0' hn0' hm1' hn1'
 go_enter Tryz.func13,Tryz.ntmps13
 go_upto_region 1 with fail
 refine wp_over (fun V=>Hid (V.heap[w.heap.size]? =some (.cells #[.int .i64 B,.int .i64 H] 23 (0,0)))∧Hid (V.heap[w.heap.size+1]? =some (.cells #[.int .i64 dv,.slice a0 L0 c0,.slice a1 L1 c1,.int .i64 d0,.int .i64 q0,.string s0,.int .i64 i0,.slice p0 m0 k0,.slice r0 n0 l0,.int .i64 d1,.int .i64 q1,.string s1,.int .i64 i1,.slice p1 m1 k1,.slice r1 n1 l1] 128 (0,0)))∧Hid (Below w.heap.size w V)∧Hid (V.heap.size=w.heap.size+2)) ⟨two_rows1,two_rows2,two_below,two_size⟩ ?_
 rintro W ⟨HRS0,HRF0,HB,HWS⟩
 obtain ⟨N,hN⟩:=ex_eq w.heap.size
 obtain ⟨F,hF⟩:=ex_eq (w.heap.size+1)
 have HN:=hid hN
 have HFN:Hid (F=N+1):=hid (by omega)
 rw [hF] at HRF0 ⊢
 rw [hN] at HRS0 HB HWS ⊢
 have HWS:Hid (W.heap.size=F+1):=hid (by have:=HWS.o;have:=HFN.o;omega)
 clear hN hF
 have HRF:Hid (∀V,Below (F+1) W V→V.heap[F]? =some (.cells #[.int .i64 dv,.slice a0 L0 c0,.slice a1 L1 c1,.int .i64 d0,.int .i64 q0,.string s0,.int .i64 i0,.slice p0 m0 k0,.slice r0 n0 l0,.int .i64 d1,.int .i64 q1,.string s1,.int .i64 i1,.slice p1 m1 k1,.slice r1 n1 l1] 128 (0,0))):=hid (fun V h=>(h.block F (Nat.lt_succ_self _)).trans HRF0.o)
 have HSS:Hid (∀V,Below (F+1) W V→(V.cell? ⟨N,0,none⟩=some (.int .i64 B)∧V.cell? ⟨N,1,none⟩=some (.int .i64 H)∧V.cell? ⟨F,0,none⟩=some (.int .i64 dv)∧V.cell? ⟨F,1,none⟩=some (.slice a0 L0 c0)∧V.cell? ⟨F,2,none⟩=some (.slice a1 L1 c1)∧V.cell? ⟨F,3,none⟩=some (.int .i64 d0)∧V.cell? ⟨F,4,none⟩=some (.int .i64 q0)∧V.cell? ⟨F,5,none⟩=some (.string s0)∧V.cell? ⟨F,6,none⟩=some (.int .i64 i0)∧V.cell? ⟨F,7,none⟩=some (.slice p0 m0 k0)∧V.cell? ⟨F,8,none⟩=some (.slice r0 n0 l0)∧V.cell? ⟨F,9,none⟩=some (.int .i64 d1)∧V.cell? ⟨F,10,none⟩=some (.int .i64 q1)∧V.cell? ⟨F,11,none⟩=some (.string s1)∧V.cell? ⟨F,12,none⟩=some (.int .i64 i1)∧V.cell? ⟨F,13,none⟩=some (.slice p1 m1 k1)∧V.cell? ⟨F,14,none⟩=some (.slice r1 n1 l1))):=hid (fun V h=>by
  have hr:=(h.block N (by have:=HFN.o;omega)).trans HRS0.o
  exact ⟨cr hr,cr hr,row15 (HRF.o V h)⟩)
 have HBE:Hid (∀V,Below (F+1) W V→Below w.heap.size w V):=hid (fun V h=>by rw [HN.o];exact HB.o.trans (h.mono (by have:=HFN.o;omega)))
 have HST:Hid (∀V V',Below (F+1) W V→Below V.heap.size V V'→Below (F+1) W V'):=hid (fun V V' h h'=>h.trans (h'.mono (by have:=h.size;have:=HWS.o;omega)))
 clear HRS0 HB
 go_upto_region 3 with (first
  | (go_at_call 52
     (with_reducible refine (HAW.o _ (HBE.o _ (Below.refl _ _))).mono ?_)
     rintro e w2 ⟨rfl,h2⟩
     have H2:Hid (Below (F+1) W w2):=hid (HST.o _ _ (Below.refl _ _) h2)
     clear h2))
 have hcells:=HSS.o _ H2.o
 obtain ⟨s0',s1',f0,f1,f2,f3,f4,f5,f6,f7,f8,f9,f10,f11,f12,f13,f14⟩:=hcells
 have HCL:Hid (∀V,Below (F+1) W V→(V.cell? ⟨N,0,none⟩=some (.int .i64 B)∧V.cell? ⟨N,1,none⟩=some (.int .i64 H)∧V.cell? ⟨F,0,none⟩=some (.int .i64 dv)∧V.cell? ⟨F,1,none⟩=some (.slice a0 L0 c0)∧V.cell? ⟨F,2,none⟩=some (.slice a1 L1 c1)∧V.cell? ⟨F,3,none⟩=some (.int .i64 d0)∧V.cell? ⟨F,4,none⟩=some (.int .i64 q0)∧V.cell? ⟨F,5,none⟩=some (.string s0)∧V.cell? ⟨F,6,none⟩=some (.int .i64 i0)∧V.cell? ⟨F,7,none⟩=some (.slice p0 m0 k0)∧V.cell? ⟨F,8,none⟩=some (.slice r0 n0 l0)∧V.cell? ⟨F,9,none⟩=some (.int .i64 d1)∧V.cell? ⟨F,10,none⟩=some (.int .i64 q1)∧V.cell? ⟨F,11,none⟩=some (.string s1)∧V.cell? ⟨F,12,none⟩=some (.int .i64 i1)∧V.cell? ⟨F,13,none⟩=some (.slice p1 m1 k1)∧V.cell? ⟨F,14,none⟩=some (.slice r1 n1 l1))):=HSS
 cases D
 ·skip
  go_wp2_with (first
   | (go_at_call 67
      (with_reducible refine (HSV.o _).mono ?_)
      rintro e w3 ⟨rfl,h3⟩
      have H3:Hid (Below (F+1) W w3):=hid (HST.o _ _ H2.o h3)
      clear h3 s0' s1' f0 f1 f2 f3 f4 f5 f6 f7 f8 f9 f10 f11 f12 f13 f14
      obtain ⟨s0',s1',f0,f1,f2,f3,f4,f5,f6,f7,f8,f9,f10,f11,f12,f13,f14⟩:=HCL.o _ H3.o)
   | (go_at_call 68
      (with_reducible refine (HM0.o _ (HBE.o _ H3.o)).mono ?_)
      rintro e w4 ⟨rfl,rfl⟩)
   | (go_at_call 68
      (with_reducible refine (HM1.o _ (HBE.o _ H3.o)).mono ?_)
      rintro e w4 ⟨rfl,rfl⟩))
  go_ret
  exact ⟨rfl,HBE.o _ H3.o⟩
 by_cases hH:H≤1
 rotate_left
 ·have hHi:(1:Int)<H:=by omega
  clear hH
  go_wp2_with (first
   | (go_at_call 67
      (with_reducible refine (HSV.o _).mono ?_)
      rintro e w3 ⟨rfl,h3⟩
      have H3:Hid (Below (F+1) W w3):=hid (HST.o _ _ H2.o h3)
      clear h3 s0' s1' f0 f1 f2 f3 f4 f5 f6 f7 f8 f9 f10 f11 f12 f13 f14
      obtain ⟨s0',s1',f0,f1,f2,f3,f4,f5,f6,f7,f8,f9,f10,f11,f12,f13,f14⟩:=HCL.o _ H3.o)
   | (go_at_call 68
      (with_reducible refine (HM0.o _ (HBE.o _ H3.o)).mono ?_)
      rintro e w4 ⟨rfl,rfl⟩)
   | (go_at_call 68
      (with_reducible refine (HM1.o _ (HBE.o _ H3.o)).mono ?_)
      rintro e w4 ⟨rfl,rfl⟩))
  go_ret
  exact ⟨rfl,HBE.o _ H3.o⟩
 have hHi: ¬(1:Int)<H:=by omega
 clear hH
 cases M0
 ·skip
  go_wp2_with (first
   | (go_at_call 67
      (with_reducible refine (HSV.o _).mono ?_)
      rintro e w3 ⟨rfl,h3⟩
      have H3:Hid (Below (F+1) W w3):=hid (HST.o _ _ H2.o h3)
      clear h3 s0' s1' f0 f1 f2 f3 f4 f5 f6 f7 f8 f9 f10 f11 f12 f13 f14
      obtain ⟨s0',s1',f0,f1,f2,f3,f4,f5,f6,f7,f8,f9,f10,f11,f12,f13,f14⟩:=HCL.o _ H3.o)
   | (go_at_call 68
      (with_reducible refine (HM0.o _ (HBE.o _ H3.o)).mono ?_)
      rintro e w4 ⟨rfl,rfl⟩)
   | (go_at_call 68
      (with_reducible refine (HM1.o _ (HBE.o _ H3.o)).mono ?_)
      rintro e w4 ⟨rfl,rfl⟩))
  go_ret
  exact ⟨rfl,HBE.o _ H3.o⟩
 cases M1
 ·skip
  go_wp2_with (first
   | (go_at_call 67
      (with_reducible refine (HSV.o _).mono ?_)
      rintro e w3 ⟨rfl,h3⟩
      have H3:Hid (Below (F+1) W w3):=hid (HST.o _ _ H2.o h3)
      clear h3 s0' s1' f0 f1 f2 f3 f4 f5 f6 f7 f8 f9 f10 f11 f12 f13 f14
      obtain ⟨s0',s1',f0,f1,f2,f3,f4,f5,f6,f7,f8,f9,f10,f11,f12,f13,f14⟩:=HCL.o _ H3.o)
   | (go_at_call 68
      (with_reducible refine (HM0.o _ (HBE.o _ H3.o)).mono ?_)
      rintro e w4 ⟨rfl,rfl⟩)
   | (go_at_call 68
      (with_reducible refine (HM1.o _ (HBE.o _ H3.o)).mono ?_)
      rintro e w4 ⟨rfl,rfl⟩))
  go_ret
  exact ⟨rfl,HBE.o _ H3.o⟩
 have HVF:=hid (HVF.o (HQ0.o rfl) (HQ1.o rfl))
 have HPV:=hid (HPV.o (HQ0.o rfl) (HQ1.o rfl))
 by_cases h4:m0≤400
 rotate_left
 ·have h4i:(400:Int)<(m0:Int):=by omega
  clear h4
  go_wp2_with (first
   | (go_at_call 67
      (with_reducible refine (HSV.o _).mono ?_)
      rintro e w3 ⟨rfl,h3⟩
      have H3:Hid (Below (F+1) W w3):=hid (HST.o _ _ H2.o h3)
      clear h3 s0' s1' f0 f1 f2 f3 f4 f5 f6 f7 f8 f9 f10 f11 f12 f13 f14
      obtain ⟨s0',s1',f0,f1,f2,f3,f4,f5,f6,f7,f8,f9,f10,f11,f12,f13,f14⟩:=HCL.o _ H3.o)
   | (go_at_call 68
      (with_reducible refine (HM0.o _ (HBE.o _ H3.o)).mono ?_)
      rintro e w4 ⟨rfl,rfl⟩)
   | (go_at_call 68
      (with_reducible refine (HM1.o _ (HBE.o _ H3.o)).mono ?_)
      rintro e w4 ⟨rfl,rfl⟩))
  go_ret
  exact ⟨rfl,HBE.o _ H3.o⟩
 have h4i: ¬(400:Int)<(m0:Int):=by omega
 clear h4
 by_cases h5:m1≤400
 rotate_left
 ·have h5i:(400:Int)<(m1:Int):=by omega
  clear h5
  go_wp2_with (first
   | (go_at_call 67
      (with_reducible refine (HSV.o _).mono ?_)
      rintro e w3 ⟨rfl,h3⟩
      have H3:Hid (Below (F+1) W w3):=hid (HST.o _ _ H2.o h3)
      clear h3 s0' s1' f0 f1 f2 f3 f4 f5 f6 f7 f8 f9 f10 f11 f12 f13 f14
      obtain ⟨s0',s1',f0,f1,f2,f3,f4,f5,f6,f7,f8,f9,f10,f11,f12,f13,f14⟩:=HCL.o _ H3.o)
   | (go_at_call 68
      (with_reducible refine (HM0.o _ (HBE.o _ H3.o)).mono ?_)
      rintro e w4 ⟨rfl,rfl⟩)
   | (go_at_call 68
      (with_reducible refine (HM1.o _ (HBE.o _ H3.o)).mono ?_)
      rintro e w4 ⟨rfl,rfl⟩))
  go_ret
  exact ⟨rfl,HBE.o _ H3.o⟩
 have h5i: ¬(400:Int)<(m1:Int):=by omega
 clear h5
 go_upto_region 6 with (first
  | (go_at_call 67
     (with_reducible refine (HSV.o _).mono ?_)
     rintro e w3 ⟨rfl,h3⟩
     have H3:Hid (Below (F+1) W w3):=hid (HST.o _ _ H2.o h3)
     clear h3 s0' s1' f0 f1 f2 f3 f4 f5 f6 f7 f8 f9 f10 f11 f12 f13 f14
     obtain ⟨s0',s1',f0,f1,f2,f3,f4,f5,f6,f7,f8,f9,f10,f11,f12,f13,f14⟩:=HCL.o _ H3.o)
  | (go_at_call 68
     (with_reducible refine (HM0.o _ (HBE.o _ H3.o)).mono ?_)
     rintro e w4 ⟨rfl,rfl⟩)
  | (go_at_call 68
     (with_reducible refine (HM1.o _ (HBE.o _ H3.o)).mono ?_)
     rintro e w4 ⟨rfl,rfl⟩))
 clear s0' s1' f0 f1 f2 f3 f4 f5 f6 f7 f8 f9 f10 f11 f12 f13 f14 hHi h4i h5i
 refine wp_over (fun V=>Hid (V.heap[w3.heap.size]? =some (.cells #[.int .i64 dv,.slice a0 L0 c0,.slice a1 L1 c1,.int .i64 d0,.int .i64 q0,.string s0,.int .i64 i0,.slice p0 m0 k0,.slice r0 n0 l0,.int .i64 d1,.int .i64 q1,.string s1,.int .i64 i1,.slice p1 m1 k1,.slice r1 n1 l1] 130 (0,0)))∧Hid (V.heap.size=w3.heap.size+1)∧Hid (Below w3.heap.size w3 V)) ⟨heap_alloc_new _ _,by show _=_;simp,(Below.refl _ _).alloc (Nat.le_refl _) _⟩ ?_
 rintro Y ⟨HRJ0,HYS,HYB⟩
 obtain ⟨J,hJ⟩:=ex_eq w3.heap.size
 have HJ:=hid hJ
 rw [hJ] at HRJ0 HYS HYB ⊢
 clear hJ
 have HJF:Hid (F+1≤J):=hid (by have:=H3.o.size;have:=HWS.o;have:=HJ.o;omega)
 have HY:Hid (Below (F+1) W Y):=hid (H3.o.trans (HYB.o.mono HJF.o))
 have HYE:Hid (∀V,Below (J+1) Y V→Below (F+1) W V):=hid (fun V h=>HY.o.trans (h.mono (by have:=HJF.o;omega)))
 have HYT:Hid (∀V V',Below (J+1) Y V→Below V.heap.size V V'→Below (J+1) Y V'):=hid (fun V V' h h'=>h.trans (h'.mono (by have:=h.size;have:=HYS.o;omega)))
 have HSJ:Hid (∀V,Below (J+1) Y V→(V.cell? ⟨N,0,none⟩=some (.int .i64 B)∧V.cell? ⟨N,1,none⟩=some (.int .i64 H)∧V.cell? ⟨F,0,none⟩=some (.int .i64 dv)∧V.cell? ⟨F,1,none⟩=some (.slice a0 L0 c0)∧V.cell? ⟨F,2,none⟩=some (.slice a1 L1 c1)∧V.cell? ⟨F,3,none⟩=some (.int .i64 d0)∧V.cell? ⟨F,4,none⟩=some (.int .i64 q0)∧V.cell? ⟨F,5,none⟩=some (.string s0)∧V.cell? ⟨F,6,none⟩=some (.int .i64 i0)∧V.cell? ⟨F,7,none⟩=some (.slice p0 m0 k0)∧V.cell? ⟨F,8,none⟩=some (.slice r0 n0 l0)∧V.cell? ⟨F,9,none⟩=some (.int .i64 d1)∧V.cell? ⟨F,10,none⟩=some (.int .i64 q1)∧V.cell? ⟨F,11,none⟩=some (.string s1)∧V.cell? ⟨F,12,none⟩=some (.int .i64 i1)∧V.cell? ⟨F,13,none⟩=some (.slice p1 m1 k1)∧V.cell? ⟨F,14,none⟩=some (.slice r1 n1 l1)∧V.cell? ⟨J,0,none⟩=some (.int .i64 dv)∧V.cell? ⟨J,1,none⟩=some (.slice a0 L0 c0)∧V.cell? ⟨J,2,none⟩=some (.slice a1 L1 c1)∧V.cell? ⟨J,3,none⟩=some (.int .i64 d0)∧V.cell? ⟨J,4,none⟩=some (.int .i64 q0)∧V.cell? ⟨J,5,none⟩=some (.string s0)∧V.cell? ⟨J,6,none⟩=some (.int .i64 i0)∧V.cell? ⟨J,7,none⟩=some (.slice p0 m0 k0)∧V.cell? ⟨J,8,none⟩=some (.slice r0 n0 l0)∧V.cell? ⟨J,9,none⟩=some (.int .i64 d1)∧V.cell? ⟨J,10,none⟩=some (.int .i64 q1)∧V.cell? ⟨J,11,none⟩=some (.string s1)∧V.cell? ⟨J,12,none⟩=some (.int .i64 i1)∧V.cell? ⟨J,13,none⟩=some (.slice p1 m1 k1)∧V.cell? ⟨J,14,none⟩=some (.slice r1 n1 l1))):=hid (fun V h=>by
  obtain ⟨e0,e1,g0,g1,g2,g3,g4,g5,g6,g7,g8,g9,g10,g11,g12,g13,g14⟩:=HSS.o V (HYE.o V h)
  exact ⟨e0,e1,g0,g1,g2,g3,g4,g5,g6,g7,g8,g9,g10,g11,g12,g13,g14,row15 ((h.block J (Nat.lt_succ_self _)).trans HRJ0.o)⟩)
 have HK0:Hid (Below (J+1) Y Y.drew):=hid (Below.refl _ _).drew
 have HWB:Hid (∀V,Below (J+1) Y V→Below w.heap.size w V):=hid (fun V h=>HBE.o _ (HYE.o V h))
 clear HCL HYB HAW HSV HM0 HM1
 refine Kit.wp_region_gplan (fun V=>V.cell? ⟨N,0,none⟩=some (.int .i64 B)∧V.cell? ⟨N,1,none⟩=some (.int .i64 H)∧V.cell? ⟨F,0,none⟩=some (.int .i64 dv)∧V.cell? ⟨F,1,none⟩=some (.slice a0 L0 c0)∧V.cell? ⟨F,2,none⟩=some (.slice a1 L1 c1)∧V.cell? ⟨F,3,none⟩=some (.int .i64 d0)∧V.cell? ⟨F,4,none⟩=some (.int .i64 q0)∧V.cell? ⟨F,5,none⟩=some (.string s0)∧V.cell? ⟨F,6,none⟩=some (.int .i64 i0)∧V.cell? ⟨F,7,none⟩=some (.slice p0 m0 k0)∧V.cell? ⟨F,8,none⟩=some (.slice r0 n0 l0)∧V.cell? ⟨F,9,none⟩=some (.int .i64 d1)∧V.cell? ⟨F,10,none⟩=some (.int .i64 q1)∧V.cell? ⟨F,11,none⟩=some (.string s1)∧V.cell? ⟨F,12,none⟩=some (.int .i64 i1)∧V.cell? ⟨F,13,none⟩=some (.slice p1 m1 k1)∧V.cell? ⟨F,14,none⟩=some (.slice r1 n1 l1)∧V.cell? ⟨J,0,none⟩=some (.int .i64 dv)∧V.cell? ⟨J,1,none⟩=some (.slice a0 L0 c0)∧V.cell? ⟨J,2,none⟩=some (.slice a1 L1 c1)∧V.cell? ⟨J,3,none⟩=some (.int .i64 d0)∧V.cell? ⟨J,4,none⟩=some (.int .i64 q0)∧V.cell? ⟨J,5,none⟩=some (.string s0)∧V.cell? ⟨J,6,none⟩=some (.int .i64 i0)∧V.cell? ⟨J,7,none⟩=some (.slice p0 m0 k0)∧V.cell? ⟨J,8,none⟩=some (.slice r0 n0 l0)∧V.cell? ⟨J,9,none⟩=some (.int .i64 d1)∧V.cell? ⟨J,10,none⟩=some (.int .i64 q1)∧V.cell? ⟨J,11,none⟩=some (.string s1)∧V.cell? ⟨J,12,none⟩=some (.int .i64 i1)∧V.cell? ⟨J,13,none⟩=some (.slice p1 m1 k1)∧V.cell? ⟨J,14,none⟩=some (.slice r1 n1 l1)) [(true,0),(true,1),(true,2),(true,3),(true,4),(true,6),(true,7),(true,8),(true,9),(true,10),(false,5),(false,11),(true,12),(true,13),(true,14),(true,15),(true,16),(true,17),(true,18),(true,20),(true,21),(true,22),(true,23),(true,24),(false,19),(false,25),(true,26),(true,27),(true,28),(true,29),(true,30),(true,31),(true,33),(true,34),(true,35),(false,32),(false,36),(true,37),(true,38),(true,39)] (by kernel_rfl) (by kernel_rfl) (by kernel_rfl) (by kernel_rfl) (HSJ.o _ HK0.o) ?_
 iterate 10 (refine Kit.ghd (h:= ?_))
 refine Kit.gplan_op (by rfl) (by rfl) fun K hK=> ?_
 go_simp
 go_at_call 64
 with_reducible refine (HV0.o _ (HWB.o _ HK0.o)).mono ?_
 rintro e y1 ⟨rfl,h1⟩
 have HK1:Hid (Below (J+1) Y y1):=hid (HYT.o _ _ HK0.o h1)
 clear h1
 refine hK _ _ (HSJ.o _ HK1.o) ?_
 clear hK K
 refine Kit.gplan_op (by rfl) (by rfl) fun K hK=> ?_
 go_simp
 go_at_call 69
 with_reducible refine (HS0.o _ (HWB.o _ HK1.o)).mono ?_
 rintro e y2 ⟨rfl,h2⟩
 have HK2:Hid (Below (J+1) Y y2):=hid (HYT.o _ _ HK1.o h2)
 clear h2
 refine hK _ _ (HSJ.o _ HK2.o) ?_
 clear hK K
 iterate 12 (refine Kit.ghd (h:= ?_))
 refine Kit.gplan_op (by rfl) (by rfl) fun K hK=> ?_
 go_simp
 go_at_call 64
 with_reducible refine (HV1.o _ (HWB.o _ HK2.o)).mono ?_
 rintro e y3 ⟨rfl,h3⟩
 have HK3:Hid (Below (J+1) Y y3):=hid (HYT.o _ _ HK2.o h3)
 clear h3
 refine hK _ _ (HSJ.o _ HK3.o) ?_
 clear hK K
 refine Kit.gplan_op (by rfl) (by rfl) fun K hK=> ?_
 go_simp
 go_at_call 69
 with_reducible refine (HS1.o _ (HWB.o _ HK3.o)).mono ?_
 rintro e y4 ⟨rfl,h4⟩
 have HK4:Hid (Below (J+1) Y y4):=hid (HYT.o _ _ HK3.o h4)
 clear h4
 refine hK _ _ (HSJ.o _ HK4.o) ?_
 clear hK K
 iterate 9 (refine Kit.ghd (h:= ?_))
 refine Kit.gplan_op (by rfl) (by rfl) fun K hK=> ?_
 go_simp
 go_at_call 70
 with_reducible refine (HVF.o _ (HWB.o _ HK4.o)).mono ?_
 rintro e y5 ⟨rfl,h5⟩
 have HK5:Hid (Below (J+1) Y y5):=hid (HYT.o _ _ HK4.o h5)
 clear h5
 refine hK _ _ (HSJ.o _ HK5.o) ?_
 clear hK K
 refine Kit.gplan_op (by rfl) (by rfl) fun K hK=> ?_
 go_simp
 go_at_call 71
 with_reducible refine (HPV.o _ (HWB.o _ HK5.o)).mono ?_
 rintro e y6 ⟨rfl,h6⟩
 have HK6:Hid (Below (J+1) Y y6):=hid (HYT.o _ _ HK5.o h6)
 clear h6
 refine hK _ _ (HSJ.o _ HK6.o) ?_
 clear hK K
 iterate 3 (refine Kit.ghd (h:= ?_))
 refine Kit.gdn (h:=?_)
 go_wp2_with fail
 go_ret
 exact ⟨by first | rfl | simp,HWB.o _ HK6.o⟩
end Go.Proofs.YtndlihclgdkpaaaGreatDoor
