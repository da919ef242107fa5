/- The law ReceiptVerifies. -/
import Derived.Test.YtndlihclgdkpaaaGreatDoorGi
import Derived.Test.YtndlihclgdkpaaaGreatDoorGl
import Derived.Test.YtndlihclgdkpaaaGreatDoorGp
import Derived.Test.YtndlihclgdkpaaaGreatDoorQaw
set_option linter.unusedVariables false
set_option linter.unusedSimpArgs false
open Go.Lib (hid)
namespace Go.Proofs.YtndlihclgdkpaaaGreatDoor
open Go.RowKit
open Kit (Chg)
open Sha (v)
open Go.Proofs.YtndlihclgdkpaaaGreatDoor.One

set_option maxRecDepth 100000 in
set_option maxHeartbeats 4000000 in
theorem walk_ReceiptVerifies (pk:ByteArray) (B H:Int) (hol vlt:Int) (str:ByteArray) (ix sz day ser cnt pl:Int) (root:ByteArray) (ap:Option Addr) (n1 c1:Nat) (si:Int) (aq:Option Addr) (n2 c2:Nat) (ar:Option Addr) (n3 c3:Nat) (pa pt sq:List ByteArray) (w:World) (h1:pa.length=n1) (k1:n1<9223372036854775808) (s1:StrsAt w ap pa) (h2:pt.length=n2) (k2:n2<9223372036854775808) (s2:StrsAt w aq pt) (h3:sq.length=n3) (k3:n3<9223372036854775808) (s3:StrsAt w ar sq) (hc1:n1≤c1) (hL:Laid w):
    Calls Tryz.prog 5 #[.string pk,.agg #[.int .i64 B,.int .i64 H],.agg #[.int .i64 hol,.int .i64 vlt,.string str,.int .i64 ix,.int .i64 sz,.int .i64 day,.int .i64 ser,.int .i64 cnt,.int .i64 pl,.string root,.slice ap n1 c1,.int .i64 si,.slice aq n2 c2,.slice ar n3 c3]] w fun e w'=>e= .returned (.bool true)∧Below w.heap.size w w':=by
 obtain ⟨VA,hVA⟩:=ex_eq (validR ⟨hol,vlt,str,ix,sz,day,ser,cnt,pl,root,pa,si,pt,sq⟩)
 obtain ⟨F,hF⟩:=ex_eq (verR B H (nb pk) ⟨hol,vlt,str,ix,sz,day,ser,cnt,pl,root,pa,si,pt,sq⟩)
 obtain ⟨CB,hCB⟩:=ex_eq (cheapB B H)
 have HL:=hid hL
 have H3:=hid (Laid.low3' hL)
 have HLV:Hid (∀V,Below w.heap.size w V→Laid V):=hid (fun V h=>hL.later h (Nat.le_refl _))
 have HCH:Hid (∀V,Below w.heap.size w V→Calls Tryz.prog 15 #[.agg #[.int .i64 B,.int .i64 H]] V fun e w'=>e= .returned (.bool CB)∧Below V.heap.size V w'):=hid (fun V hb=>by
  have h:=cheap_any B H V
  rw [hCB] at h
  exact h)
 have HVA:Hid (∀V,Below w.heap.size w V→Calls Tryz.prog 29 #[.agg #[.int .i64 hol,.int .i64 vlt,.string str,.int .i64 ix,.int .i64 sz,.int .i64 day,.int .i64 ser,.int .i64 cnt,.int .i64 pl,.string root,.slice ap n1 c1,.int .i64 si,.slice aq n2 c2,.slice ar n3 c3]] V fun e w'=>e= .returned (.bool VA)∧Below V.heap.size V w'):=hid (fun V hb=>by
  have h:=refValidR_any hol vlt str ix sz day ser cnt pl root ap n1 c1 si aq n2 c2 ar n3 c3 pa pt sq V h1 k1 (s1.later hb) h2 k2 (s2.later hb) h3 k3 (s3.later hb)
  rw [hVA] at h
  exact h)
 have HVF:Hid (∀V,Below w.heap.size w V→Calls Tryz.prog 23 #[.string pk,.agg #[.int .i64 B,.int .i64 H],.agg #[.int .i64 hol,.int .i64 vlt,.string str,.int .i64 ix,.int .i64 sz,.int .i64 day,.int .i64 ser,.int .i64 cnt,.int .i64 pl,.string root,.slice ap n1 c1,.int .i64 si,.slice aq n2 c2,.slice ar n3 c3]] V fun e w'=>e= .returned (.bool F)∧Below V.heap.size V w'):=hid (fun V hb=>by
  have h:=receiptVerify_any pk B H hol vlt str ix sz day ser cnt pl root ap n1 c1 si aq n2 c2 ar n3 c3 pa pt sq V h1 k1 (s1.later hb) h2 k2 (s2.later hb) h3 k3 (s3.later hb) hc1 (hL.later hb (Nat.le_refl _))
  rw [hF] at h
  exact h)
 have HRV:Hid (∀V,Below w.heap.size w V→Calls Tryz.prog 31 #[.string pk,.agg #[.int .i64 B,.int .i64 H],.agg #[.int .i64 hol,.int .i64 vlt,.string str,.int .i64 ix,.int .i64 sz,.int .i64 day,.int .i64 ser,.int .i64 cnt,.int .i64 pl,.string root,.slice ap n1 c1,.int .i64 si,.slice aq n2 c2,.slice ar n3 c3]] V fun e w'=>e= .returned (.bool F)∧Below V.heap.size V w'):=hid (fun V hb=>by
  have h:=refVerifyR_any pk B H hol vlt str ix sz day ser cnt pl root ap n1 c1 si aq n2 c2 ar n3 c3 pa pt sq V h1 k1 (s1.later hb) h2 k2 (s2.later hb) h3 k3 (s3.later hb) hc1 (hL.later hb (Nat.le_refl _))
  rw [hF] at h
  exact h)
 have HDB:Hid (VA=false→ ∀V,Below w.heap.size w V→Calls Tryz.prog 28 #[.agg #[.int .i64 hol,.int .i64 vlt,.string str,.int .i64 ix,.int .i64 sz,.int .i64 day,.int .i64 ser,.int .i64 cnt,.int .i64 pl,.string root,.slice ap n1 c1,.int .i64 si,.slice aq n2 c2,.slice ar n3 c3]] V fun e w'=>e= .returned (.tuple #[.string { data:= #[] },.int .i64 1])∧Below V.heap.size V w'):=hid (fun hv V hb=>digestR_bad hol vlt str ix sz day ser cnt pl root ap n1 c1 si aq n2 c2 ar n3 c3 pa pt sq V h1 k1 (s1.later hb) h2 k2 (s2.later hb) h3 k3 (s3.later hb) (by rw [hVA,hv]))
 obtain ⟨T,hT⟩:=ex_eq (leafR ⟨hol,vlt,str,ix,sz,day,ser,cnt,pl,root,pa,si,pt,sq⟩)
 have HDG:Hid (VA=true→ ∀V,Below w.heap.size w V→Calls Tryz.prog 28 #[.agg #[.int .i64 hol,.int .i64 vlt,.string str,.int .i64 ix,.int .i64 sz,.int .i64 day,.int .i64 ser,.int .i64 cnt,.int .i64 pl,.string root,.slice ap n1 c1,.int .i64 si,.slice aq n2 c2,.slice ar n3 c3]] V fun e w'=> ∃u:ByteArray,(e= .returned (.tuple #[.string u,.int .i64 0])∧nb u=T)∧Below V.heap.size V w'):=hid (fun hv V hb=>by
  refine (digestR_ok hol vlt str ix sz day ser cnt pl root ap n1 c1 si aq n2 c2 ar n3 c3 pa pt sq V h1 k1 (s1.later hb) h2 k2 (s2.later hb) h3 k3 (s3.later hb) (validR_iff.1 (by rw [hVA,hv])) T hT (hL.later hb (Nat.le_refl _))).mono ?_
  rintro e w' ⟨u,he,hu,_,hb⟩
  exact ⟨u,⟨he,hu⟩,hb⟩)
 have HLE:Hid (VA=true→ ∀V,Below w.heap.size w V→Calls Tryz.prog 30 #[.agg #[.int .i64 hol,.int .i64 vlt,.string str,.int .i64 ix,.int .i64 sz,.int .i64 day,.int .i64 ser,.int .i64 cnt,.int .i64 pl,.string root,.slice ap n1 c1,.int .i64 si,.slice aq n2 c2,.slice ar n3 c3]] V fun e w'=> ∃u:ByteArray,(e= .returned (.string u)∧nb u=T)∧Below V.heap.size V w'):=hid (fun hv V hb=>by
  refine (refLeafR_ok hol vlt str ix sz day ser cnt pl root ap n1 c1 si aq n2 c2 ar n3 c3 pa pt sq (validR_iff.1 (by rw [hVA,hv])).sgv T hT V).mono ?_
  rintro e w' ⟨u,he,hu,_,hb⟩
  exact ⟨u,⟨he,hu⟩,hb⟩)
 clear h1 h2 h3 k1 k2 k3 s1 s2 s3 hL hVA hF hCB hT hc1
 go_enter Tryz.func5,Tryz.ntmps5
 go_upto_region 1 with fail
 refine wp_over (fun W=>Hid (W.heap[w.heap.size]? =some (.cells #[.int .i64 B,.int .i64 H] 23 (0,0)))∧Hid (W.heap[w.heap.size+1]? =some (.cells #[.int .i64 hol,.int .i64 vlt,.string str,.int .i64 ix,.int .i64 sz,.int .i64 day,.int .i64 ser,.int .i64 cnt,.int .i64 pl,.string root,.slice ap n1 c1,.int .i64 si,.slice aq n2 c2,.slice ar n3 c3] 47 (0,0)))∧Hid (Below w.heap.size w W)∧Hid (W.heap.size=w.heap.size+2)) ⟨two_rows1,two_rows2,two_below,two_size⟩ ?_
 rintro W ⟨HG,HG2,HB,HWS⟩
 obtain ⟨N,hN⟩:=ex_eq w.heap.size
 obtain ⟨N1,hN1⟩:=ex_eq (N+1)
 rw [hN] at HG HG2 HWS ⊢
 rw [hN1] at HG2 ⊢
 clear hN hN1
 have HLT:Hid (N<W.heap.size∧N1<W.heap.size):=hid ⟨(gS HG.o).1,(gS HG2.o).1⟩
 have HCL:Hid (∀V,Below W.heap.size W V→(V.cell? ⟨N,0,none⟩=some (.int .i64 B)∧V.cell? ⟨N,1,none⟩=some (.int .i64 H))∧V.cell? ⟨N1,0,none⟩=some (.int .i64 hol)∧V.cell? ⟨N1,1,none⟩=some (.int .i64 vlt)∧V.cell? ⟨N1,2,none⟩=some (.string str)∧V.cell? ⟨N1,3,none⟩=some (.int .i64 ix)∧V.cell? ⟨N1,4,none⟩=some (.int .i64 sz)∧V.cell? ⟨N1,5,none⟩=some (.int .i64 day)∧V.cell? ⟨N1,6,none⟩=some (.int .i64 ser)∧V.cell? ⟨N1,7,none⟩=some (.int .i64 cnt)∧V.cell? ⟨N1,8,none⟩=some (.int .i64 pl)∧V.cell? ⟨N1,9,none⟩=some (.string root)∧V.cell? ⟨N1,10,none⟩=some (.slice ap n1 c1)∧V.cell? ⟨N1,11,none⟩=some (.int .i64 si)∧V.cell? ⟨N1,12,none⟩=some (.slice aq n2 c2)∧V.cell? ⟨N1,13,none⟩=some (.slice ar n3 c3)):=hid (fun V hb=>⟨row2' ((hb.block N HLT.o.1).trans HG.o),row14 ((hb.block N1 HLT.o.2).trans HG2.o)⟩)
 have HAW:=hid (awake43 W (HL.o.low HB.o H3.o) (by have:=HB.o.size;have:=H3.o;omega))
 go_wp2_with fail
 with_reducible refine HAW.o.mono ?_
 rintro e w1 ⟨rfl,hb1⟩
 have Gw1:=hid hb1
 have Hw1:Hid (Below w.heap.size w w1):=hid (HB.o.trans (hb1.mono HB.o.size))
 clear hb1
 obtain ⟨⟨c0,c1x⟩,r0,r1,r2,r3,r4,r5,r6,r7,r8,r9,r10,r11,r12,r13⟩:=HCL.o w1 Gw1.o
 go_wp2_with fail
 with_reducible refine (HCH.o w1 Hw1.o).mono ?_
 rintro e w2 ⟨rfl,hb⟩
 have Hw2:Hid (Below w.heap.size w w2):=hid (Hw1.o.trans (hb.mono Hw1.o.size))
 have Gw2:Hid (Below W.heap.size W w2):=hid (Gw1.o.trans (hb.mono Gw1.o.size))
 clear hb c0 c1x r0 r1 r2 r3 r4 r5 r6 r7 r8 r9 r10 r11 r12 r13
 obtain ⟨⟨c0,c1x⟩,r0,r1,r2,r3,r4,r5,r6,r7,r8,r9,r10,r11,r12,r13⟩:=HCL.o w2 Gw2.o
 cases CB
 ·go_wp2_with fail
  go_ret
  exact ⟨rfl,Hw2.o⟩
 by_cases g1:(20:Int)<(n1:Int)
 ·go_wp2_with fail
  go_ret
  exact ⟨rfl,Hw2.o⟩
 by_cases g2:(400:Int)<(n2:Int)
 ·go_wp2_with fail
  go_ret
  exact ⟨rfl,Hw2.o⟩
 by_cases g3:(20:Int)<(n3:Int)
 ·go_wp2_with fail
  go_ret
  exact ⟨rfl,Hw2.o⟩
 cases VA
 ·have HD0:=hid (HDB.o rfl)
  clear HDB HDG HLE
  go_wp2_with fail
  with_reducible refine (HD0.o w2 Hw2.o).mono ?_
  rintro e w3 ⟨rfl,hb⟩
  have Hw3:Hid (Below w.heap.size w w3):=hid (Hw2.o.trans (hb.mono Hw2.o.size))
  have Gw3:Hid (Below W.heap.size W w3):=hid (Gw2.o.trans (hb.mono Gw2.o.size))
  clear hb c0 c1x r0 r1 r2 r3 r4 r5 r6 r7 r8 r9 r10 r11 r12 r13
  obtain ⟨⟨c0,c1x⟩,r0,r1,r2,r3,r4,r5,r6,r7,r8,r9,r10,r11,r12,r13⟩:=HCL.o w3 Gw3.o
  go_wp2_with fail
  with_reducible refine (HVA.o w3 Hw3.o).mono ?_
  rintro e w4 ⟨rfl,hb⟩
  have Hw4:Hid (Below w.heap.size w w4):=hid (Hw3.o.trans (hb.mono Hw3.o.size))
  have Gw4:Hid (Below W.heap.size W w4):=hid (Gw3.o.trans (hb.mono Gw3.o.size))
  clear hb c0 c1x r0 r1 r2 r3 r4 r5 r6 r7 r8 r9 r10 r11 r12 r13
  obtain ⟨⟨c0,c1x⟩,r0,r1,r2,r3,r4,r5,r6,r7,r8,r9,r10,r11,r12,r13⟩:=HCL.o w4 Gw4.o
  go_wp2_with fail
  with_reducible refine (HVA.o w4 Hw4.o).mono ?_
  rintro e w5 ⟨rfl,hb⟩
  have Hw5:Hid (Below w.heap.size w w5):=hid (Hw4.o.trans (hb.mono Hw4.o.size))
  have Gw5:Hid (Below W.heap.size W w5):=hid (Gw4.o.trans (hb.mono Gw4.o.size))
  clear hb c0 c1x r0 r1 r2 r3 r4 r5 r6 r7 r8 r9 r10 r11 r12 r13
  obtain ⟨⟨c0,c1x⟩,r0,r1,r2,r3,r4,r5,r6,r7,r8,r9,r10,r11,r12,r13⟩:=HCL.o w5 Gw5.o
  go_upto_region 8 with fail
  clear c0 c1x r0 r1 r2 r3 r4 r5 r6 r7 r8 r9 r10 r11 r12 r13
  refine Kit.wp_region_gplan (fun V=>(V.cell? ⟨N,0,none⟩=some (.int .i64 B)∧V.cell? ⟨N,1,none⟩=some (.int .i64 H))∧V.cell? ⟨N1,0,none⟩=some (.int .i64 hol)∧V.cell? ⟨N1,1,none⟩=some (.int .i64 vlt)∧V.cell? ⟨N1,2,none⟩=some (.string str)∧V.cell? ⟨N1,3,none⟩=some (.int .i64 ix)∧V.cell? ⟨N1,4,none⟩=some (.int .i64 sz)∧V.cell? ⟨N1,5,none⟩=some (.int .i64 day)∧V.cell? ⟨N1,6,none⟩=some (.int .i64 ser)∧V.cell? ⟨N1,7,none⟩=some (.int .i64 cnt)∧V.cell? ⟨N1,8,none⟩=some (.int .i64 pl)∧V.cell? ⟨N1,9,none⟩=some (.string root)∧V.cell? ⟨N1,10,none⟩=some (.slice ap n1 c1)∧V.cell? ⟨N1,11,none⟩=some (.int .i64 si)∧V.cell? ⟨N1,12,none⟩=some (.slice aq n2 c2)∧V.cell? ⟨N1,13,none⟩=some (.slice ar n3 c3)) [(true,0),(true,1),(true,2),(true,4),(true,5),(true,6),(false,3),(false,7),(true,8),(true,9)] (by kernel_rfl) (by kernel_rfl) (by kernel_rfl) (by kernel_rfl) (HCL.o w5.drew (Gw5.o.trans ((Below.refl _ _).drew.mono Gw5.o.size))) ?_
  obtain ⟨q,hq⟩:=ex_eq w5.drew
  have Hq:Hid (Below w.heap.size w q):=hid (hq ▸ Hw5.o.trans ((Below.refl _ _).drew.mono Hw5.o.size))
  have Gq:Hid (Below W.heap.size W q):=hid (hq ▸ Gw5.o.trans ((Below.refl _ _).drew.mono Gw5.o.size))
  rw [hq]
  clear hq
  obtain ⟨⟨c0,c1x⟩,r0,r1,r2,r3,r4,r5,r6,r7,r8,r9,r10,r11,r12,r13⟩:=HCL.o q Gq.o
  iterate 6 (refine Kit.ghd (h:= ?_))
  clear c0 c1x r0 r1 r2 r3 r4 r5 r6 r7 r8 r9 r10 r11 r12 r13
  refine Kit.gplan_op (by rfl) (by rfl) fun K' hK'=> ?_
  go_simp
  go_at_call 23
  with_reducible refine (HVF.o q Hq.o).mono ?_
  rintro e q1 ⟨rfl,hb⟩
  have Hq1:Hid (Below w.heap.size w q1):=hid (Hq.o.trans (hb.mono Hq.o.size))
  have Gq1:Hid (Below W.heap.size W q1):=hid (Gq.o.trans (hb.mono Gq.o.size))
  clear hb
  refine hK' _ _ (HCL.o q1 Gq1.o) ?_
  clear hK' K'
  refine Kit.gplan_op (by rfl) (by rfl) fun K' hK'=> ?_
  go_simp
  go_at_call 31
  with_reducible refine (HRV.o q1 Hq1.o).mono ?_
  rintro e q2 ⟨rfl,hb⟩
  have Hq2:Hid (Below w.heap.size w q2):=hid (Hq1.o.trans (hb.mono Hq1.o.size))
  have Gq2:Hid (Below W.heap.size W q2):=hid (Gq1.o.trans (hb.mono Gq1.o.size))
  clear hb
  refine hK' _ _ (HCL.o q2 Gq2.o) ?_
  clear hK' K'
  iterate 2 (refine Kit.ghd (h:= ?_))
  refine Kit.gdn (h:=?_)
  go_wp2_with fail
  go_ret
  exact ⟨by first | rfl | simp,Hq2.o⟩
 ·have HD0:=hid (HDG.o rfl)
  have HLF:=hid (HLE.o rfl)
  clear HDB HDG HLE
  go_wp2_with fail
  with_reducible refine (HD0.o w2 Hw2.o).mono ?_
  rintro e w3 ⟨u,⟨rfl,hu⟩,hb⟩
  have Hw3:Hid (Below w.heap.size w w3):=hid (Hw2.o.trans (hb.mono Hw2.o.size))
  have Gw3:Hid (Below W.heap.size W w3):=hid (Gw2.o.trans (hb.mono Gw2.o.size))
  clear hb c0 c1x r0 r1 r2 r3 r4 r5 r6 r7 r8 r9 r10 r11 r12 r13
  have HU:=hid hu
  clear hu
  obtain ⟨⟨c0,c1x⟩,r0,r1,r2,r3,r4,r5,r6,r7,r8,r9,r10,r11,r12,r13⟩:=HCL.o w3 Gw3.o
  go_wp2_with fail
  with_reducible refine (HVA.o w3 Hw3.o).mono ?_
  rintro e w4 ⟨rfl,hb⟩
  have Hw4:Hid (Below w.heap.size w w4):=hid (Hw3.o.trans (hb.mono Hw3.o.size))
  have Gw4:Hid (Below W.heap.size W w4):=hid (Gw3.o.trans (hb.mono Gw3.o.size))
  clear hb c0 c1x r0 r1 r2 r3 r4 r5 r6 r7 r8 r9 r10 r11 r12 r13
  obtain ⟨⟨c0,c1x⟩,r0,r1,r2,r3,r4,r5,r6,r7,r8,r9,r10,r11,r12,r13⟩:=HCL.o w4 Gw4.o
  go_wp2_with fail
  with_reducible refine (HVA.o w4 Hw4.o).mono ?_
  rintro e w5 ⟨rfl,hb⟩
  have Hw5:Hid (Below w.heap.size w w5):=hid (Hw4.o.trans (hb.mono Hw4.o.size))
  have Gw5:Hid (Below W.heap.size W w5):=hid (Gw4.o.trans (hb.mono Gw4.o.size))
  clear hb c0 c1x r0 r1 r2 r3 r4 r5 r6 r7 r8 r9 r10 r11 r12 r13
  obtain ⟨⟨c0,c1x⟩,r0,r1,r2,r3,r4,r5,r6,r7,r8,r9,r10,r11,r12,r13⟩:=HCL.o w5 Gw5.o
  go_wp2_with fail
  with_reducible refine (HLF.o w5 Hw5.o).mono ?_
  rintro e w6 ⟨u2,⟨rfl,hu2⟩,hb⟩
  have Hw6:Hid (Below w.heap.size w w6):=hid (Hw5.o.trans (hb.mono Hw5.o.size))
  have Gw6:Hid (Below W.heap.size W w6):=hid (Gw5.o.trans (hb.mono Gw5.o.size))
  clear hb c0 c1x r0 r1 r2 r3 r4 r5 r6 r7 r8 r9 r10 r11 r12 r13
  obtain rfl:u2=u:=nb_inj (hu2.trans HU.o.symm)
  clear hu2
  obtain ⟨⟨c0,c1x⟩,r0,r1,r2,r3,r4,r5,r6,r7,r8,r9,r10,r11,r12,r13⟩:=HCL.o w6 Gw6.o
  go_upto_region 8 with fail
  clear c0 c1x r0 r1 r2 r3 r4 r5 r6 r7 r8 r9 r10 r11 r12 r13
  refine Kit.wp_region_gplan (fun V=>(V.cell? ⟨N,0,none⟩=some (.int .i64 B)∧V.cell? ⟨N,1,none⟩=some (.int .i64 H))∧V.cell? ⟨N1,0,none⟩=some (.int .i64 hol)∧V.cell? ⟨N1,1,none⟩=some (.int .i64 vlt)∧V.cell? ⟨N1,2,none⟩=some (.string str)∧V.cell? ⟨N1,3,none⟩=some (.int .i64 ix)∧V.cell? ⟨N1,4,none⟩=some (.int .i64 sz)∧V.cell? ⟨N1,5,none⟩=some (.int .i64 day)∧V.cell? ⟨N1,6,none⟩=some (.int .i64 ser)∧V.cell? ⟨N1,7,none⟩=some (.int .i64 cnt)∧V.cell? ⟨N1,8,none⟩=some (.int .i64 pl)∧V.cell? ⟨N1,9,none⟩=some (.string root)∧V.cell? ⟨N1,10,none⟩=some (.slice ap n1 c1)∧V.cell? ⟨N1,11,none⟩=some (.int .i64 si)∧V.cell? ⟨N1,12,none⟩=some (.slice aq n2 c2)∧V.cell? ⟨N1,13,none⟩=some (.slice ar n3 c3)) [(true,0),(true,1),(true,2),(true,4),(true,5),(true,6),(false,3),(false,7),(true,8),(true,9)] (by kernel_rfl) (by kernel_rfl) (by kernel_rfl) (by kernel_rfl) (HCL.o w6.drew (Gw6.o.trans ((Below.refl _ _).drew.mono Gw6.o.size))) ?_
  obtain ⟨q,hq⟩:=ex_eq w6.drew
  have Hq:Hid (Below w.heap.size w q):=hid (hq ▸ Hw6.o.trans ((Below.refl _ _).drew.mono Hw6.o.size))
  have Gq:Hid (Below W.heap.size W q):=hid (hq ▸ Gw6.o.trans ((Below.refl _ _).drew.mono Gw6.o.size))
  rw [hq]
  clear hq
  obtain ⟨⟨c0,c1x⟩,r0,r1,r2,r3,r4,r5,r6,r7,r8,r9,r10,r11,r12,r13⟩:=HCL.o q Gq.o
  iterate 6 (refine Kit.ghd (h:= ?_))
  clear c0 c1x r0 r1 r2 r3 r4 r5 r6 r7 r8 r9 r10 r11 r12 r13
  refine Kit.gplan_op (by rfl) (by rfl) fun K' hK'=> ?_
  go_simp
  go_at_call 23
  with_reducible refine (HVF.o q Hq.o).mono ?_
  rintro e q1 ⟨rfl,hb⟩
  have Hq1:Hid (Below w.heap.size w q1):=hid (Hq.o.trans (hb.mono Hq.o.size))
  have Gq1:Hid (Below W.heap.size W q1):=hid (Gq.o.trans (hb.mono Gq.o.size))
  clear hb
  refine hK' _ _ (HCL.o q1 Gq1.o) ?_
  clear hK' K'
  refine Kit.gplan_op (by rfl) (by rfl) fun K' hK'=> ?_
  go_simp
  go_at_call 31
  with_reducible refine (HRV.o q1 Hq1.o).mono ?_
  rintro e q2 ⟨rfl,hb⟩
  have Hq2:Hid (Below w.heap.size w q2):=hid (Hq1.o.trans (hb.mono Hq1.o.size))
  have Gq2:Hid (Below W.heap.size W q2):=hid (Gq1.o.trans (hb.mono Gq1.o.size))
  clear hb
  refine hK' _ _ (HCL.o q2 Gq2.o) ?_
  clear hK' K'
  iterate 2 (refine Kit.ghd (h:= ?_))
  refine Kit.gdn (h:=?_)
  go_wp2_with fail
  go_ret
  exact ⟨by first | rfl | simp,Hq2.o⟩
end Go.Proofs.YtndlihclgdkpaaaGreatDoor
