/- The law ReceiptContradicts. -/
import Derived.Test.YtndlihclgdkpaaaGreatDoorQaw
import Derived.Test.YtndlihclgdkpaaaGreatDoorQrf
import Derived.Test.YtndlihclgdkpaaaGreatDoorOpr
set_option linter.unusedVariables false
set_option linter.unusedSimpArgs false
open Go.Lib (hid)
namespace Go.Proofs.YtndlihclgdkpaaaGreatDoor
open Go.RowKit
open Kit (Chg)
open Sha (v)
open Go.Proofs.YtndlihclgdkpaaaGreatDoor.One

set_option maxRecDepth 100000 in
set_option maxHeartbeats 4000000 in
theorem walk_ReceiptContradicts (hol vlt:Int) (str:ByteArray) (ix sz day ser cnt pl:Int) (root:ByteArray) (ap:Option Addr) (n1 c1:Nat) (si:Int) (aq:Option Addr) (n2 c2:Nat) (ar:Option Addr) (n3 c3:Nat) (pa pt sq:List ByteArray) (holB vltB:Int) (strB:ByteArray) (ixB szB dayB serB cntB plB:Int) (rootB:ByteArray) (apB:Option Addr) (n1B c1B:Nat) (siB:Int) (aqB:Option Addr) (n2B c2B:Nat) (arB:Option Addr) (n3B c3B:Nat) (paB ptB sqB:List ByteArray) (w:World) (h1:pa.length=n1) (k1:n1<9223372036854775808) (s1:StrsAt w ap pa) (h2:pt.length=n2) (k2:n2<9223372036854775808) (s2:StrsAt w aq pt) (h3:sq.length=n3) (k3:n3<9223372036854775808) (s3:StrsAt w ar sq) (h1B:paB.length=n1B) (k1B:n1B<9223372036854775808) (s1B:StrsAt w apB paB) (h2B:ptB.length=n2B) (k2B:n2B<9223372036854775808) (s2B:StrsAt w aqB ptB) (h3B:sqB.length=n3B) (k3B:n3B<9223372036854775808) (s3B:StrsAt w arB sqB) (hL:Laid w):
    Calls Tryz.prog 9 #[.agg #[.int .i64 hol,.int .i64 vlt,.string str,.int .i64 ix,.int .i64 sz,.int .i64 day,.int .i64 ser,.int .i64 cnt,.int .i64 pl,.string root,.slice ap n1 c1,.int .i64 si,.slice aq n2 c2,.slice ar n3 c3],.agg #[.int .i64 holB,.int .i64 vltB,.string strB,.int .i64 ixB,.int .i64 szB,.int .i64 dayB,.int .i64 serB,.int .i64 cntB,.int .i64 plB,.string rootB,.slice apB n1B c1B,.int .i64 siB,.slice aqB n2B c2B,.slice arB n3B c3B]] w fun e w'=>e= .returned (.bool true)∧Below w.heap.size w w':=by
 obtain ⟨C,hC⟩:=ex_eq (contraR ⟨hol,vlt,str,ix,sz,day,ser,cnt,pl,root,pa,si,pt,sq⟩ ⟨holB,vltB,strB,ixB,szB,dayB,serB,cntB,plB,rootB,paB,siB,ptB,sqB⟩)
 have HAB:Hid (∀V,Below w.heap.size w V→Calls Tryz.prog 35 #[.agg #[.int .i64 hol,.int .i64 vlt,.string str,.int .i64 ix,.int .i64 sz,.int .i64 day,.int .i64 ser,.int .i64 cnt,.int .i64 pl,.string root,.slice ap n1 c1,.int .i64 si,.slice aq n2 c2,.slice ar n3 c3],.agg #[.int .i64 holB,.int .i64 vltB,.string strB,.int .i64 ixB,.int .i64 szB,.int .i64 dayB,.int .i64 serB,.int .i64 cntB,.int .i64 plB,.string rootB,.slice apB n1B c1B,.int .i64 siB,.slice aqB n2B c2B,.slice arB n3B c3B]] V fun e w'=>e= .returned (.bool C)∧Below V.heap.size V w'):=hid (fun V hb=>by
  have h:=contraR_any hol vlt str ix sz day ser cnt pl root ap n1 c1 si aq n2 c2 ar n3 c3 pa pt sq holB vltB strB ixB szB dayB serB cntB plB rootB apB n1B c1B siB aqB n2B c2B arB n3B c3B paB ptB sqB V h1 k1 (s1.later hb) h2 k2 (s2.later hb) h3 k3 (s3.later hb) h1B k1B (s1B.later hb) h2B k2B (s2B.later hb) h3B k3B (s3B.later hb)
  rw [hC] at h
  exact h)
 have HBA:Hid (∀V,Below w.heap.size w V→Calls Tryz.prog 35 #[.agg #[.int .i64 holB,.int .i64 vltB,.string strB,.int .i64 ixB,.int .i64 szB,.int .i64 dayB,.int .i64 serB,.int .i64 cntB,.int .i64 plB,.string rootB,.slice apB n1B c1B,.int .i64 siB,.slice aqB n2B c2B,.slice arB n3B c3B],.agg #[.int .i64 hol,.int .i64 vlt,.string str,.int .i64 ix,.int .i64 sz,.int .i64 day,.int .i64 ser,.int .i64 cnt,.int .i64 pl,.string root,.slice ap n1 c1,.int .i64 si,.slice aq n2 c2,.slice ar n3 c3]] V fun e w'=>e= .returned (.bool C)∧Below V.heap.size V w'):=hid (fun V hb=>by
  have h:=contraR_any holB vltB strB ixB szB dayB serB cntB plB rootB apB n1B c1B siB aqB n2B c2B arB n3B c3B paB ptB sqB hol vlt str ix sz day ser cnt pl root ap n1 c1 si aq n2 c2 ar n3 c3 pa pt sq V h1B k1B (s1B.later hb) h2B k2B (s2B.later hb) h3B k3B (s3B.later hb) h1 k1 (s1.later hb) h2 k2 (s2.later hb) h3 k3 (s3.later hb)
  rw [contraR_comm,hC] at h
  exact h)
 have HAA:Hid (∀V,Below w.heap.size w V→Calls Tryz.prog 35 #[.agg #[.int .i64 hol,.int .i64 vlt,.string str,.int .i64 ix,.int .i64 sz,.int .i64 day,.int .i64 ser,.int .i64 cnt,.int .i64 pl,.string root,.slice ap n1 c1,.int .i64 si,.slice aq n2 c2,.slice ar n3 c3],.agg #[.int .i64 hol,.int .i64 vlt,.string str,.int .i64 ix,.int .i64 sz,.int .i64 day,.int .i64 ser,.int .i64 cnt,.int .i64 pl,.string root,.slice ap n1 c1,.int .i64 si,.slice aq n2 c2,.slice ar n3 c3]] V fun e w'=>e= .returned (.bool false)∧Below V.heap.size V w'):=hid (fun V hb=>by
  have h:=contraR_any hol vlt str ix sz day ser cnt pl root ap n1 c1 si aq n2 c2 ar n3 c3 pa pt sq hol vlt str ix sz day ser cnt pl root ap n1 c1 si aq n2 c2 ar n3 c3 pa pt sq V h1 k1 (s1.later hb) h2 k2 (s2.later hb) h3 k3 (s3.later hb) h1 k1 (s1.later hb) h2 k2 (s2.later hb) h3 k3 (s3.later hb)
  rw [contraR_self] at h
  exact h)
 have HRF:Hid (∀V,Below w.heap.size w V→Calls Tryz.prog 36 #[.agg #[.int .i64 hol,.int .i64 vlt,.string str,.int .i64 ix,.int .i64 sz,.int .i64 day,.int .i64 ser,.int .i64 cnt,.int .i64 pl,.string root,.slice ap n1 c1,.int .i64 si,.slice aq n2 c2,.slice ar n3 c3],.agg #[.int .i64 holB,.int .i64 vltB,.string strB,.int .i64 ixB,.int .i64 szB,.int .i64 dayB,.int .i64 serB,.int .i64 cntB,.int .i64 plB,.string rootB,.slice apB n1B c1B,.int .i64 siB,.slice aqB n2B c2B,.slice arB n3B c3B]] V fun e w'=>e= .returned (.bool C)∧Below V.heap.size V w'):=hid (fun V hb=>by
  have h:=refContraR_any hol vlt str ix sz day ser cnt pl root ap n1 c1 si aq n2 c2 ar n3 c3 pa pt sq holB vltB strB ixB szB dayB serB cntB plB rootB apB n1B c1B siB aqB n2B c2B arB n3B c3B paB ptB sqB V h1 k1 (s1.later hb) h2 k2 (s2.later hb) h3 k3 (s3.later hb) h1B k1B (s1B.later hb) h2B k2B (s2B.later hb) h3B k3B (s3B.later hb)
  rw [hC] at h
  exact h)
 have HL:=hid hL
 have H3:=hid (Laid.low3' hL)
 clear h1 h2 h3 k1 k2 k3 s1 s2 s3 h1B h2B h3B k1B k2B k3B s1B s2B s3B hL hC
 go_enter Tryz.func9,Tryz.ntmps9
 go_upto_region 1 with fail
 refine wp_over (fun W=>Hid (W.heap[w.heap.size]? =some (.cells #[.int .i64 hol,.int .i64 vlt,.string str,.int .i64 ix,.int .i64 sz,.int .i64 day,.int .i64 ser,.int .i64 cnt,.int .i64 pl,.string root,.slice ap n1 c1,.int .i64 si,.slice aq n2 c2,.slice ar n3 c3] 47 (0,0)))∧Hid (W.heap[w.heap.size+1]? =some (.cells #[.int .i64 holB,.int .i64 vltB,.string strB,.int .i64 ixB,.int .i64 szB,.int .i64 dayB,.int .i64 serB,.int .i64 cntB,.int .i64 plB,.string rootB,.slice apB n1B c1B,.int .i64 siB,.slice aqB n2B c2B,.slice arB n3B c3B] 47 (0,0)))∧Hid (Below w.heap.size w W)∧Hid (W.heap.size=w.heap.size+2)) ⟨two_rows1,two_rows2,two_below,two_size⟩ ?_
 rintro W ⟨HG,HG2,HB,HWS⟩
 obtain ⟨N,hN⟩:=ex_eq w.heap.size
 have HN:=hid hN
 obtain ⟨N1,hN1⟩:=ex_eq (N+1)
 have HN1:=hid hN1
 rw [hN] at HG HG2 HWS ⊢
 rw [hN1] at HG2 ⊢
 clear hN hN1
 have HLT:Hid (N<W.heap.size∧N1<W.heap.size):=hid ⟨(gS HG.o).1,(gS HG2.o).1⟩
 have HCL:Hid (∀V,Below W.heap.size W V→V.cell? ⟨N,0,none⟩=some (.int .i64 hol)∧V.cell? ⟨N,1,none⟩=some (.int .i64 vlt)∧V.cell? ⟨N,2,none⟩=some (.string str)∧V.cell? ⟨N,3,none⟩=some (.int .i64 ix)∧V.cell? ⟨N,4,none⟩=some (.int .i64 sz)∧V.cell? ⟨N,5,none⟩=some (.int .i64 day)∧V.cell? ⟨N,6,none⟩=some (.int .i64 ser)∧V.cell? ⟨N,7,none⟩=some (.int .i64 cnt)∧V.cell? ⟨N,8,none⟩=some (.int .i64 pl)∧V.cell? ⟨N,9,none⟩=some (.string root)∧V.cell? ⟨N,10,none⟩=some (.slice ap n1 c1)∧V.cell? ⟨N,11,none⟩=some (.int .i64 si)∧V.cell? ⟨N,12,none⟩=some (.slice aq n2 c2)∧V.cell? ⟨N,13,none⟩=some (.slice ar n3 c3)∧V.cell? ⟨N1,0,none⟩=some (.int .i64 holB)∧V.cell? ⟨N1,1,none⟩=some (.int .i64 vltB)∧V.cell? ⟨N1,2,none⟩=some (.string strB)∧V.cell? ⟨N1,3,none⟩=some (.int .i64 ixB)∧V.cell? ⟨N1,4,none⟩=some (.int .i64 szB)∧V.cell? ⟨N1,5,none⟩=some (.int .i64 dayB)∧V.cell? ⟨N1,6,none⟩=some (.int .i64 serB)∧V.cell? ⟨N1,7,none⟩=some (.int .i64 cntB)∧V.cell? ⟨N1,8,none⟩=some (.int .i64 plB)∧V.cell? ⟨N1,9,none⟩=some (.string rootB)∧V.cell? ⟨N1,10,none⟩=some (.slice apB n1B c1B)∧V.cell? ⟨N1,11,none⟩=some (.int .i64 siB)∧V.cell? ⟨N1,12,none⟩=some (.slice aqB n2B c2B)∧V.cell? ⟨N1,13,none⟩=some (.slice arB n3B c3B)):=hid (fun V hb=>by
  obtain ⟨r0,r1,r2,r3,r4,r5,r6,r7,r8,r9,r10,r11,r12,r13⟩:=row14 ((hb.block N HLT.o.1).trans HG.o)
  obtain ⟨z0,z1,z2,z3,z4,z5,z6,z7,z8,z9,z10,z11,z12,z13⟩:=row14 ((hb.block N1 HLT.o.2).trans HG2.o)
  exact ⟨r0,r1,r2,r3,r4,r5,r6,r7,r8,r9,r10,r11,r12,r13,z0,z1,z2,z3,z4,z5,z6,z7,z8,z9,z10,z11,z12,z13⟩)
 have HAW:=hid (awake43 W (HL.o.low HB.o H3.o) (by have:=HB.o.size;have:=H3.o;omega))
 go_wp2_with fail
 with_reducible refine HAW.o.mono ?_
 rintro e w1 ⟨rfl,hb1⟩
 have HB1:=hid hb1
 have HF1:Hid (Below w.heap.size w w1):=hid (HB.o.trans (hb1.mono HB.o.size))
 clear hb1
 obtain ⟨r0,r1,r2,r3,r4,r5,r6,r7,r8,r9,r10,r11,r12,r13,z0,z1,z2,z3,z4,z5,z6,z7,z8,z9,z10,z11,z12,z13⟩:=HCL.o w1 HB1.o
 clear r0 r1 r2 r3 r4 r5 r6 r7 r8 r9 r10 r11 r13 z0 z1 z2 z3 z4 z5 z6 z7 z8 z9 z10 z11 z13
 by_cases hn:(400:Int)<(n2:Int)
 ·go_wp2_with fail
  go_ret
  exact ⟨rfl,HF1.o⟩
 by_cases hnB:(400:Int)<(n2B:Int)
 ·go_wp2_with fail
  go_ret
  exact ⟨rfl,HF1.o⟩
 go_upto_region 5 with fail
 clear r12 z12 hn hnB
 refine Kit.wp_region_gplan (fun V=>V.cell? ⟨N,0,none⟩=some (.int .i64 hol)∧V.cell? ⟨N,1,none⟩=some (.int .i64 vlt)∧V.cell? ⟨N,2,none⟩=some (.string str)∧V.cell? ⟨N,3,none⟩=some (.int .i64 ix)∧V.cell? ⟨N,4,none⟩=some (.int .i64 sz)∧V.cell? ⟨N,5,none⟩=some (.int .i64 day)∧V.cell? ⟨N,6,none⟩=some (.int .i64 ser)∧V.cell? ⟨N,7,none⟩=some (.int .i64 cnt)∧V.cell? ⟨N,8,none⟩=some (.int .i64 pl)∧V.cell? ⟨N,9,none⟩=some (.string root)∧V.cell? ⟨N,10,none⟩=some (.slice ap n1 c1)∧V.cell? ⟨N,11,none⟩=some (.int .i64 si)∧V.cell? ⟨N,12,none⟩=some (.slice aq n2 c2)∧V.cell? ⟨N,13,none⟩=some (.slice ar n3 c3)∧V.cell? ⟨N1,0,none⟩=some (.int .i64 holB)∧V.cell? ⟨N1,1,none⟩=some (.int .i64 vltB)∧V.cell? ⟨N1,2,none⟩=some (.string strB)∧V.cell? ⟨N1,3,none⟩=some (.int .i64 ixB)∧V.cell? ⟨N1,4,none⟩=some (.int .i64 szB)∧V.cell? ⟨N1,5,none⟩=some (.int .i64 dayB)∧V.cell? ⟨N1,6,none⟩=some (.int .i64 serB)∧V.cell? ⟨N1,7,none⟩=some (.int .i64 cntB)∧V.cell? ⟨N1,8,none⟩=some (.int .i64 plB)∧V.cell? ⟨N1,9,none⟩=some (.string rootB)∧V.cell? ⟨N1,10,none⟩=some (.slice apB n1B c1B)∧V.cell? ⟨N1,11,none⟩=some (.int .i64 siB)∧V.cell? ⟨N1,12,none⟩=some (.slice aqB n2B c2B)∧V.cell? ⟨N1,13,none⟩=some (.slice arB n3B c3B)) [(true,0),(true,1),(true,3),(true,4),(false,2),(false,5),(true,6),(true,7),(true,8),(true,9),(true,11),(true,12),(false,10),(false,13),(true,14),(true,15),(true,16),(true,17),(true,18),(false,19),(true,20),(true,21),(true,22)] (by kernel_rfl) (by kernel_rfl) (by kernel_rfl) (by kernel_rfl) (HCL.o w1.drew ((Below.refl _ _).trans (HB1.o.trans ((Below.refl _ _).drew.mono HB1.o.size)))) ?_
 obtain ⟨q,hq⟩:=ex_eq w1.drew
 have Hq:Hid (Below w.heap.size w q):=hid (hq ▸ HF1.o.trans ((Below.refl _ _).drew.mono HF1.o.size))
 have Gq:Hid (Below W.heap.size W q):=hid (hq ▸ HB1.o.trans ((Below.refl _ _).drew.mono HB1.o.size))
 rw [hq]
 clear hq
 obtain ⟨r0,r1,r2,r3,r4,r5,r6,r7,r8,r9,r10,r11,r12,r13,z0,z1,z2,z3,z4,z5,z6,z7,z8,z9,z10,z11,z12,z13⟩:=HCL.o q Gq.o
 iterate 4 (refine Kit.ghd (h:= ?_))
 clear r0 r1 r2 r3 r4 r5 r6 r7 r8 r9 r10 r11 r12 r13 z0 z1 z2 z3 z4 z5 z6 z7 z8 z9 z10 z11 z12 z13
 refine Kit.gplan_op (by rfl) (by rfl) fun K' hK'=> ?_
 go_simp
 go_at_call 35
 with_reducible refine (HAB.o q Hq.o).mono ?_
 rintro e q1 ⟨rfl,hb⟩
 have Hq1:Hid (Below w.heap.size w q1):=hid (Hq.o.trans (hb.mono Hq.o.size))
 have Gq1:Hid (Below W.heap.size W q1):=hid (Gq.o.trans (hb.mono Gq.o.size))
 clear hb
 refine hK' _ _ (HCL.o q1 Gq1.o) ?_
 clear hK' K'
 refine Kit.gplan_op (by rfl) (by rfl) fun K' hK'=> ?_
 go_simp
 go_at_call 36
 with_reducible refine (HRF.o q1 Hq1.o).mono ?_
 rintro e q2 ⟨rfl,hb⟩
 have Hq2:Hid (Below w.heap.size w q2):=hid (Hq1.o.trans (hb.mono Hq1.o.size))
 have Gq2:Hid (Below W.heap.size W q2):=hid (Gq1.o.trans (hb.mono Gq1.o.size))
 clear hb
 refine hK' _ _ (HCL.o q2 Gq2.o) ?_
 clear hK' K'
 obtain ⟨r0,r1,r2,r3,r4,r5,r6,r7,r8,r9,r10,r11,r12,r13,z0,z1,z2,z3,z4,z5,z6,z7,z8,z9,z10,z11,z12,z13⟩:=HCL.o q2 Gq2.o
 iterate 6 (refine Kit.ghd (h:= ?_))
 clear r0 r1 r2 r3 r4 r5 r6 r7 r8 r9 r10 r11 r12 r13 z0 z1 z2 z3 z4 z5 z6 z7 z8 z9 z10 z11 z12 z13
 refine Kit.gplan_op (by rfl) (by rfl) fun K' hK'=> ?_
 go_simp
 go_at_call 35
 with_reducible refine (HBA.o q2 Hq2.o).mono ?_
 rintro e q3 ⟨rfl,hb⟩
 have Hq3:Hid (Below w.heap.size w q3):=hid (Hq2.o.trans (hb.mono Hq2.o.size))
 have Gq3:Hid (Below W.heap.size W q3):=hid (Gq2.o.trans (hb.mono Gq2.o.size))
 clear hb
 refine hK' _ _ (HCL.o q3 Gq3.o) ?_
 clear hK' K'
 refine Kit.gplan_op (by rfl) (by rfl) fun K' hK'=> ?_
 go_simp
 go_at_call 36
 with_reducible refine (HRF.o q3 Hq3.o).mono ?_
 rintro e q4 ⟨rfl,hb⟩
 have Hq4:Hid (Below w.heap.size w q4):=hid (Hq3.o.trans (hb.mono Hq3.o.size))
 have Gq4:Hid (Below W.heap.size W q4):=hid (Gq3.o.trans (hb.mono Gq3.o.size))
 clear hb
 refine hK' _ _ (HCL.o q4 Gq4.o) ?_
 clear hK' K'
 obtain ⟨r0,r1,r2,r3,r4,r5,r6,r7,r8,r9,r10,r11,r12,r13,z0,z1,z2,z3,z4,z5,z6,z7,z8,z9,z10,z11,z12,z13⟩:=HCL.o q4 Gq4.o
 iterate 5 (refine Kit.ghd (h:= ?_))
 clear r0 r1 r2 r3 r4 r5 r6 r7 r8 r9 r10 r11 r12 r13 z0 z1 z2 z3 z4 z5 z6 z7 z8 z9 z10 z11 z12 z13
 refine Kit.gplan_op (by rfl) (by rfl) fun K' hK'=> ?_
 go_simp
 go_at_call 35
 with_reducible refine (HAA.o q4 Hq4.o).mono ?_
 rintro e q5 ⟨rfl,hb⟩
 have Hq5:Hid (Below w.heap.size w q5):=hid (Hq4.o.trans (hb.mono Hq4.o.size))
 have Gq5:Hid (Below W.heap.size W q5):=hid (Gq4.o.trans (hb.mono Gq4.o.size))
 clear hb
 refine hK' _ _ (HCL.o q5 Gq5.o) ?_
 clear hK' K'
 iterate 3 (refine Kit.ghd (h:= ?_))
 refine Kit.gdn (h:=?_)
 go_wp2_with fail
 go_ret
 exact ⟨rfl,Hq5.o⟩
end Go.Proofs.YtndlihclgdkpaaaGreatDoor
