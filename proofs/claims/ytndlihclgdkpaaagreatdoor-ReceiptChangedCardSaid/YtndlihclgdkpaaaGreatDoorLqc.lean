/- The law ReceiptChanged. -/
import Derived.Test.YtndlihclgdkpaaaGreatDoorGf
import Derived.Test.YtndlihclgdkpaaaGreatDoorGi
import Derived.Test.YtndlihclgdkpaaaGreatDoorGk
import Derived.Test.YtndlihclgdkpaaaGreatDoorGp
import Derived.Test.YtndlihclgdkpaaaGreatDoorQaw
set_option linter.unusedVariables false
set_option linter.unusedSimpArgs false
open Go.Lib (hid)
namespace Go.Proofs.YtndlihclgdkpaaaGreatDoor
open Go.RowKit
open Kit (Chg)
open Sha (v)
open Go.Proofs.YtndlihclgdkpaaaGreatDoor.One

theorem set_mid2 {w0 X:World} {N:Nat} {vs pre mid post:List Value} {T:TypeId} (hb:Below N w0 X) (hg:X.heap[N]? =some (.cells (pre++(mid++post)).toArray T (0,0))) (hl:mid.length=vs.length):Below N w0 (putL N pre.length vs X)∧(putL N pre.length vs X).heap[N]? =some (.cells (pre++(vs++post)).toArray T (0,0)):=⟨putL_below (Nat.le_refl N) vs _ X hb,putL_mid vs pre mid post X hg hl⟩
theorem set_mid {w0 X:World} {N:Nat} {vs pre mid post:List Value} {T:TypeId} (hb:Below N w0 X) (hg:X.heap[N]? =some (.cells (pre++(mid++post)).toArray T (0,0))) (hl:mid.length=vs.length):Below N w0 ((putL N pre.length vs X).drew)∧((putL N pre.length vs X).drew).heap[N]? =some (.cells (pre++(vs++post)).toArray T (0,0)):=⟨(putL_below (Nat.le_refl N) vs _ X hb).drew,putL_mid vs pre mid post X hg hl⟩
theorem issue_new {b t:Nat} (hb:Bits b) (hb4:b≤4) (ht:t≤8) {Bs g:Nat} {seed pk:ByteArray} (hol day ser:Int) (a:Option Addr) (c L:Nat) (ps:List Pr) (hLe:ps.length=L) (hL9:L≤1000) (hg3:3≤g) (w:World) (hS:SignerAt w Bs g b t seed pk 0) (hLd:Laid w) (hP:PrsAt w a ps) (hok:issOk hol day ser L ps=true):
    Calls Tryz.prog 18 #[.pointer (some ⟨g,0,none⟩),.int .i64 hol,.int .i64 day,.int .i64 ser,.slice a L c] w fun e w'=> ∃bo xs,e= .returned (.tuple #[.slice (some ⟨bo,0,none⟩) L L,.int .i64 0])∧w.heap.size≤bo∧xs.map RcV.r=(List.range L).map (outP b t (nb seed) 0 hol.toNat day.toNat ser.toNat ps)∧(∀x ∈ xs,x.ok w'∧x.off bo)∧RowN RcV.cells 14 47 w' bo L xs∧SignerAt w' Bs g b t seed pk 1∧Chg (fun q i=>q=g∧i=6) w w':=by
 obtain ⟨⟨p1,p2⟩,⟨p3,p4⟩,p5,⟨hL1,hL9'⟩,p7,hg⟩:=issOk_iff hok
 have h:=issue_ok hol.toNat day.toNat ser.toNat a c L ps hLe hL1 hL9' (by omega) (by omega) (by omega) hg (Nat.pos_of_ne_zero (by simp)) hg3 w hS hLd hP
 rw [Int.toNat_of_nonneg p1,Int.toNat_of_nonneg p3,Int.toNat_of_nonneg p5] at h
 refine h.mono ?_
 rintro e w' ⟨bo,xs,h1,h2,h3,h4⟩
 rw [batchP_out,hLe] at h3
 exact ⟨bo,xs,h1,h2,h3,h4⟩
set_option maxRecDepth 100000 in
set_option maxHeartbeats 4000000 in
theorem walk_ReceiptChanged (B H:Int) (seed:ByteArray) (hol0 day0 ser0:Int) (al:Option Addr) (cl L:Nat) (ps:List Pr) (ix0:Int) (holB vltB:Int) (strB:ByteArray) (ixB szB dayB serB cntB plB:Int) (rootB:ByteArray) (apB:Option Addr) (n1B c1B:Nat) (siB:Int) (aqB:Option Addr) (n2B c2B:Nat) (arB:Option Addr) (n3B c3B:Nat) (paB ptB sqB:List ByteArray) (w:World) (hLe:ps.length=L) (hL9:L≤9223372036854775807) (hP:PrsAt w al ps) (h1B:paB.length=n1B) (k1B:n1B<9223372036854775808) (s1B:StrsAt w apB paB) (h2B:ptB.length=n2B) (k2B:n2B<9223372036854775808) (s2B:StrsAt w aqB ptB) (h3B:sqB.length=n3B) (k3B:n3B<9223372036854775808) (s3B:StrsAt w arB sqB) (hL:Laid w):
    Calls Tryz.prog 6 #[.agg #[.int .i64 B,.int .i64 H],.string seed,.int .i64 hol0,.int .i64 day0,.int .i64 ser0,.slice al L cl,.int .i64 ix0,.agg #[.int .i64 holB,.int .i64 vltB,.string strB,.int .i64 ixB,.int .i64 szB,.int .i64 dayB,.int .i64 serB,.int .i64 cntB,.int .i64 plB,.string rootB,.slice apB n1B c1B,.int .i64 siB,.slice aqB n2B c2B,.slice arB n3B c3B]] w fun e w'=>e= .returned (.bool true)∧Below w.heap.size w w':=by
 obtain ⟨CB,hCB⟩:=ex_eq (cheapB B H)
 have HCB:=hid hCB
 have HL:=hid hL
 have H3:=hid (Laid.low3' hL)
 have HLE:=hid hLe
 have HP:=hid hP
 have HOB:=hid (And.intro h1B (And.intro k1B (And.intro h2B (And.intro k2B (And.intro h3B k3B)))))
 have HSB:=hid (And.intro s1B (And.intro s2B s3B))
 have HCH:Hid (∀V,Calls Tryz.prog 15 #[.agg #[.int .i64 B,.int .i64 H]] V fun e w'=>e= .returned (.bool CB)∧Below V.heap.size V w'):=hid (fun V=>by
  have h:=cheap_any B H V
  rw [hCB] at h
  exact h)
 clear h1B h2B h3B k1B k2B k3B s1B s2B s3B hL hCB hLe hP hL9
 go_enter Tryz.func6,Tryz.ntmps6
 go_upto_region 1 with fail
 refine wp_over (fun W=>Hid (W.heap[w.heap.size]? =some (.cells #[.int .i64 B,.int .i64 H] 23 (0,0)))∧Hid (W.heap[w.heap.size+1]? =some (.cells #[.int .i64 holB,.int .i64 vltB,.string strB,.int .i64 ixB,.int .i64 szB,.int .i64 dayB,.int .i64 serB,.int .i64 cntB,.int .i64 plB,.string rootB,.slice apB n1B c1B,.int .i64 siB,.slice aqB n2B c2B,.slice arB n3B c3B] 47 (0,0)))∧Hid (Below w.heap.size w W)∧Hid (W.heap.size=w.heap.size+2)) ⟨two_rows1,two_rows2,two_below,two_size⟩ ?_
 rintro W ⟨HG,HG2,HB,HWS⟩
 obtain ⟨N,hN⟩:=ex_eq w.heap.size
 have HN:=hid hN
 obtain ⟨N1,hN1⟩:=ex_eq (N+1)
 rw [hN] at HG HG2 HWS ⊢
 rw [hN1] at HG2 ⊢
 clear hN hN1
 have HLT:Hid (N<W.heap.size∧N1<W.heap.size):=hid ⟨(gS HG.o).1,(gS HG2.o).1⟩
 have HCL:Hid (∀V,Below W.heap.size W V→(V.cell? ⟨N,0,none⟩=some (.int .i64 B)∧V.cell? ⟨N,1,none⟩=some (.int .i64 H))∧V.cell? ⟨N1,0,none⟩=some (.int .i64 holB)∧V.cell? ⟨N1,1,none⟩=some (.int .i64 vltB)∧V.cell? ⟨N1,2,none⟩=some (.string strB)∧V.cell? ⟨N1,3,none⟩=some (.int .i64 ixB)∧V.cell? ⟨N1,4,none⟩=some (.int .i64 szB)∧V.cell? ⟨N1,5,none⟩=some (.int .i64 dayB)∧V.cell? ⟨N1,6,none⟩=some (.int .i64 serB)∧V.cell? ⟨N1,7,none⟩=some (.int .i64 cntB)∧V.cell? ⟨N1,8,none⟩=some (.int .i64 plB)∧V.cell? ⟨N1,9,none⟩=some (.string rootB)∧V.cell? ⟨N1,10,none⟩=some (.slice apB n1B c1B)∧V.cell? ⟨N1,11,none⟩=some (.int .i64 siB)∧V.cell? ⟨N1,12,none⟩=some (.slice aqB n2B c2B)∧V.cell? ⟨N1,13,none⟩=some (.slice arB n3B c3B)):=hid (fun V hb=>⟨row2' ((hb.block N HLT.o.1).trans HG.o),row14 ((hb.block N1 HLT.o.2).trans HG2.o)⟩)
 have HAW:=hid (awake43 W (HL.o.low HB.o H3.o) (by have:=HB.o.size;have:=H3.o;omega))
 go_wp2_with fail
 with_reducible refine HAW.o.mono ?_
 rintro e w1 ⟨rfl,hb1⟩
 have Gw1:=hid hb1
 have Hw1:Hid (Below w.heap.size w w1):=hid (HB.o.trans (hb1.mono HB.o.size))
 clear hb1
 obtain ⟨⟨c0,c1x⟩,_⟩:=HCL.o w1 Gw1.o
 go_wp2_with fail
 with_reducible refine (HCH.o w1).mono ?_
 rintro e w2 ⟨rfl,hb⟩
 have Hw2:Hid (Below w.heap.size w w2):=hid (Hw1.o.trans (hb.mono Hw1.o.size))
 have Gw2:Hid (Below W.heap.size W w2):=hid (Gw1.o.trans (hb.mono Gw1.o.size))
 clear hb c0 c1x
 obtain ⟨⟨c0,c1x⟩,_⟩:=HCL.o w2 Gw2.o
 cases CB
 ·go_wp2_with fail
  go_ret
  exact ⟨by first | rfl | simp,Hw2.o⟩
 by_cases hs:(seed.size:Int)=32
 rotate_left
 ·have hs': ¬(seed.size:Int)=32:=hs
  go_wp2_with fail
  go_ret
  exact ⟨by first | rfl | simp,Hw2.o⟩
 have HS32:Hid (seed.size=32):=hid (by omega)
 by_cases g1:(12:Int)<(L:Int)
 ·go_wp2_with fail
  go_ret
  exact ⟨by first | rfl | simp,Hw2.o⟩
 by_cases g2:ix0<0
 ·go_wp2_with fail
  go_ret
  exact ⟨by first | rfl | simp,Hw2.o⟩
 by_cases g3:(L:Int)≤ix0
 ·go_wp2_with fail
  go_ret
  exact ⟨by first | rfl | simp,Hw2.o⟩
 obtain ⟨k,hk⟩: ∃k:Nat,ix0=(k:Int):=⟨ix0.toNat,by omega⟩
 subst hk
 have HKL:Hid (k<L∧L≤12):=hid (by omega)
 obtain ⟨HSV,HT1⟩:=cheapB_sv HCB.o
 obtain ⟨b,t,rfl,rfl,hb0,hb4,ht8⟩:=sv_of HSV
 have HBT:=hid (And.intro hb0 (And.intro hb4 ht8))
 clear HSV HT1 hb0 hb4 ht8 HCB HCH
 go_wp2_with fail
 with_reducible refine (signerNew_ok b t HBT.o.1 HBT.o.2.1 HBT.o.2.2 seed HS32.o w2 (HL.o.low Hw2.o H3.o)).mono ?_
 rintro e w3 ⟨g,pk,rfl,hsg,hb⟩
 have Hw3:Hid (Below w.heap.size w w3):=hid (Hw2.o.trans (hb.mono Hw2.o.size))
 have Gw3:Hid (Below W.heap.size W w3):=hid (Gw2.o.trans (hb.mono Gw2.o.size))
 have HSG:=hid hsg
 have HGB:Hid (W.heap.size≤g∧w.heap.size≤g):=hid (by have:=hsg.base;have:=Gw2.o.size;have:=Hw2.o.size;omega)
 clear hsg hb c0 c1x
 go_wp2_with fail
 with_reducible refine (promises_any al cl L ps HLE.o (by have:=HKL.o;omega) w3 (HP.o.later Hw3.o)).mono ?_
 rintro e w4 ⟨_,rfl,ap4,cp4,rfl,hp4,hb⟩
 have Hw4:Hid (Below w.heap.size w w4):=hid (Hw3.o.trans (hb.mono Hw3.o.size))
 have Gw4:Hid (Below W.heap.size W w4):=hid (Gw3.o.trans (hb.mono Gw3.o.size))
 have HP4:=hid hp4
 have HSG4:=hid (HSG.o.later hb)
 clear hp4 hb HSG
 cases hok:issOk hol0 day0 ser0 L ps with
 | false=>
   have HIB:=hid (issue_bad g hol0 day0 ser0 ap4 cp4 L ps HLE.o (by have:=HKL.o;omega) w4 HP4.o hok)
   clear hok
   go_wp2_with fail
   with_reducible refine HIB.o.mono ?_
   rintro e w5 ⟨rfl,hb⟩
   have Hw5:Hid (Below w.heap.size w w5):=hid (Hw4.o.trans (hb.mono Hw4.o.size))
   have Gw5:Hid (Below W.heap.size W w5):=hid (Gw4.o.trans (hb.mono Gw4.o.size))
   clear hb
   go_wp2_with fail
   go_ret
   exact ⟨by first | rfl | simp,Hw5.o⟩
 | true=>
   have HOK:=hid hok
   have HII:=hid (issue_new HBT.o.1 HBT.o.2.1 HBT.o.2.2 hol0 day0 ser0 ap4 cp4 L ps HLE.o (by have:=HKL.o;omega) (by have:=HGB.o;have:=H3.o;omega) w4 HSG4.o (HL.o.low Hw4.o H3.o) HP4.o hok)
   clear hok
   go_wp2_with fail
   with_reducible refine HII.o.mono ?_
   rintro e w5 ⟨bo,xs,rfl,hbo,hxs,hok,hrow,hsg,hc⟩
   have Hw5:Hid (Below w.heap.size w w5):=hid (Hw4.o.trans (hc.below Hw4.o.size (fun q i hq h=>by have:=HGB.o;have:=h.1;omega)))
   have Gw5:Hid (Below W.heap.size W w5):=hid (Gw4.o.trans (hc.below Gw4.o.size (fun q i hq h=>by have:=HGB.o;have:=h.1;omega)))
   have HXS:=hid hxs
   have HXK:=hid hok
   have HROW:=hid hrow
   have HSG5:=hid hsg
   clear hbo hxs hok hrow hsg hc HII HSG4 HP4
   have HXL:Hid (k<xs.length):=hid (by
    have h:=congrArg List.length HXS.o
    rw [List.length_map,List.length_map,List.length_range] at h
    have:=HKL.o
    omega)
   have hce:=(HROW.o.cells RcV.len k HXL.o).1
   have HXO:=hid (HXK.o _ (List.getElem_mem HXL.o))
   have HXE:Hid ((xs[k]'HXL.o).r=outP b t (nb seed) 0 hol0.toNat day0.toNat ser0.toNat ps k):=hid (by
    have h:=congrArg (fun l=>l[k]?) HXS.o
    simp only [List.getElem?_map,lE HXL.o,Option.map_some] at h
    rw [List.getElem?_range HKL.o.1] at h
    exact Option.some.inj h)
   obtain ⟨x,hx⟩:=ex_eq (xs[k]'HXL.o)
   rw [hx] at hce HXO HXE
   clear hx
   obtain ⟨⟨hol,vlt,str,ix,sz,day,ser,cnt,pl,root,pa,si,pt,sq⟩,ap,c1,aq,c2,ar,c3⟩:=x
   obtain rfl:cnt=(L:Int):=by
    have h:=congrArg Rc.cnt HXE.o
    rw [← HLE.o]
    exact h
   obtain rfl:pl=(k:Int):=congrArg Rc.pl HXE.o
   simp only [RcV.cells] at hce
   obtain ⟨n1,e1⟩:=ex_eq pa.length
   obtain ⟨n2,e2⟩:=ex_eq pt.length
   obtain ⟨n3,e3⟩:=ex_eq sq.length
   rw [e1,e2,e3] at hce
   have HLN:Hid (pa.length=n1∧pt.length=n2∧sq.length=n3):=hid ⟨e1,e2,e3⟩
   clear e1 e2 e3
   have HCE:=hid hce
   clear hce
   have hLL:((L:Int)==(L:Int))=true:=by rw [beq_iff_eq]
   have r0:w5.cell? ⟨bo,k*14,none⟩=some (.int .i64 hol):=HCE.o 0 (by decide)
   have r1:w5.cell? ⟨bo,k*14+1,none⟩=some (.int .i64 vlt):=HCE.o 1 (by decide)
   have r2:w5.cell? ⟨bo,k*14+2,none⟩=some (.string str):=HCE.o 2 (by decide)
   have r3:w5.cell? ⟨bo,k*14+3,none⟩=some (.int .i64 ix):=HCE.o 3 (by decide)
   have r4:w5.cell? ⟨bo,k*14+4,none⟩=some (.int .i64 sz):=HCE.o 4 (by decide)
   have r5:w5.cell? ⟨bo,k*14+5,none⟩=some (.int .i64 day):=HCE.o 5 (by decide)
   have r6:w5.cell? ⟨bo,k*14+6,none⟩=some (.int .i64 ser):=HCE.o 6 (by decide)
   have r7:w5.cell? ⟨bo,k*14+7,none⟩=some (.int .i64 (L:Int)):=HCE.o 7 (by decide)
   have r8:w5.cell? ⟨bo,k*14+8,none⟩=some (.int .i64 (k:Int)):=HCE.o 8 (by decide)
   have r9:w5.cell? ⟨bo,k*14+9,none⟩=some (.string root):=HCE.o 9 (by decide)
   have r10:w5.cell? ⟨bo,k*14+10,none⟩=some (.slice ap n1 c1):=HCE.o 10 (by decide)
   have r11:w5.cell? ⟨bo,k*14+11,none⟩=some (.int .i64 si):=HCE.o 11 (by decide)
   have r12:w5.cell? ⟨bo,k*14+12,none⟩=some (.slice aq n2 c2):=HCE.o 12 (by decide)
   have r13:w5.cell? ⟨bo,k*14+13,none⟩=some (.slice ar n3 c3):=HCE.o 13 (by decide)
   have hkl:(k:Int)<(L:Int):=by have:=HKL.o;omega
   have hk0:(0:Int)≤(k:Int):=by omega
   go_upto_region 14 with fail
   refine wp_over (fun X=>Hid (X.heap[w5.heap.size]? =some (.cells #[.int .i64 hol,.int .i64 vlt,.string str,.int .i64 ix,.int .i64 sz,.int .i64 day,.int .i64 ser,.int .i64 (L:Int),.int .i64 (k:Int),.string root,.slice ap n1 c1,.int .i64 si,.slice aq n2 c2,.slice ar n3 c3] 47 (0,0)))∧Hid (Below w5.heap.size w5 X)∧Hid (X.heap.size=w5.heap.size+1)) ⟨heap_alloc_new _ _,(Below.refl _ _).alloc (Nat.le_refl _) _,World.size_alloc _ _⟩ ?_
   rintro X ⟨HGX,HBX,HXS6⟩
   clear r0 r1 r2 r3 r4 r5 r6 r7 r8 r9 r10 r11 r12 r13
   obtain ⟨rN,hrN⟩:=ex_eq w5.heap.size
   have HRN:=hid hrN
   rw [hrN] at HGX HXS6 ⊢
   clear hrN
   have Hx:Hid (Below w.heap.size w X):=hid (Hw5.o.trans (HBX.o.mono Hw5.o.size))
   have Gx:Hid (Below W.heap.size W X):=hid (Gw5.o.trans (HBX.o.mono Gw5.o.size))
   have HBX:Hid (Below rN w5 X):=hid (HBX.o.mono (by have:=HRN.o;omega))
   obtain ⟨z0,z1,z2,z3,z4,z5,z6,z7,z8,z9,z10,z11,z12,z13⟩:=row14 HGX.o
   have fz: ∀i,X.frozen? ⟨rN,i,none⟩=false:=fun i=>frozen_of_row _ _ _ _ _ HGX.o
   refine Kit.wp_region_gplan (fun V=>V.cell? ⟨N1,0,none⟩=some (.int .i64 holB)∧V.cell? ⟨N1,1,none⟩=some (.int .i64 vltB)∧V.cell? ⟨N1,2,none⟩=some (.string strB)∧V.cell? ⟨N1,3,none⟩=some (.int .i64 ixB)∧V.cell? ⟨N1,4,none⟩=some (.int .i64 szB)∧V.cell? ⟨N1,5,none⟩=some (.int .i64 dayB)∧V.cell? ⟨N1,6,none⟩=some (.int .i64 serB)∧V.cell? ⟨N1,7,none⟩=some (.int .i64 cntB)∧V.cell? ⟨N1,8,none⟩=some (.int .i64 plB)∧V.cell? ⟨N1,9,none⟩=some (.string rootB)∧V.cell? ⟨N1,10,none⟩=some (.slice apB n1B c1B)∧V.cell? ⟨N1,11,none⟩=some (.int .i64 siB)∧V.cell? ⟨N1,12,none⟩=some (.slice aqB n2B c2B)∧V.cell? ⟨N1,13,none⟩=some (.slice arB n3B c3B)) [(true,0),(true,1),(true,2),(true,3),(true,4),(true,5),(true,6),(true,7),(true,8),(true,9),(true,10),(true,11),(true,12),(false,13),(true,14),(false,15),(true,16),(false,17),(true,18),(false,19),(true,20),(false,21),(true,22),(false,23)] (by kernel_rfl) (by kernel_rfl) (by kernel_rfl) (by kernel_rfl) (HCL.o X.drew ((Gx.o.trans ((Below.refl _ _).drew.mono Gx.o.size)))).2 ?_
   iterate 13 (refine Kit.ghd (h:= ?_))
   refine Kit.gplan_op (by rfl) (by rfl) fun K' hK'=> ?_
   go_simp
   obtain ⟨X1,hX1⟩:=ex_eq ((X.setCell ⟨rN,0,none⟩ (.int .i64 holB)).drew)
   have hhX1:Below rN w5 X1∧X1.heap[rN]? =some (.cells #[.int .i64 holB,.int .i64 vlt,.string str,.int .i64 ix,.int .i64 sz,.int .i64 day,.int .i64 ser,.int .i64 (L:Int),.int .i64 (k:Int),.string root,.slice ap n1 c1,.int .i64 si,.slice aq n2 c2,.slice ar n3 c3] 47 (0,0)):=by
    rw [← hX1]
    exact set_mid (pre:=[]) (mid:=[.int .i64 hol]) (post:=[.int .i64 vlt,.string str,.int .i64 ix,.int .i64 sz,.int .i64 day,.int .i64 ser,.int .i64 (L:Int),.int .i64 (k:Int),.string root,.slice ap n1 c1,.int .i64 si,.slice aq n2 c2,.slice ar n3 c3]) (vs:=[.int .i64 holB]) HBX.o HGX.o rfl
   have HBX1:=hid hhX1.1
   have HGX1:=hid hhX1.2
   have GX1:Hid (Below W.heap.size W X1):=hid (Gw5.o.trans (HBX1.o.mono (by have:=HRN.o;have:=Gw5.o.size;omega)))
   rw [hX1]
   clear hhX1 hX1 fz z0 z1 z2 z3 z4 z5 z6 z7 z8 z9 z10 z11 z12 z13
   refine hK' _ _ (HCL.o X1 GX1.o).2 ?_
   clear hK' K'
   obtain ⟨z0,z1,z2,z3,z4,z5,z6,z7,z8,z9,z10,z11,z12,z13⟩:=row14 HGX1.o
   have fz: ∀i,X1.frozen? ⟨rN,i,none⟩=false:=fun i=>frozen_of_row _ _ _ _ _ HGX1.o
   iterate 1 (refine Kit.ghd (h:= ?_))
   refine Kit.gplan_op (by rfl) (by rfl) fun K' hK'=> ?_
   go_simp
   obtain ⟨X2,hX2⟩:=ex_eq ((X1.setCell ⟨rN,1,none⟩ (.int .i64 vltB)))
   have hhX2:Below rN w5 X2∧X2.heap[rN]? =some (.cells #[.int .i64 holB,.int .i64 vltB,.string str,.int .i64 ix,.int .i64 sz,.int .i64 day,.int .i64 ser,.int .i64 (L:Int),.int .i64 (k:Int),.string root,.slice ap n1 c1,.int .i64 si,.slice aq n2 c2,.slice ar n3 c3] 47 (0,0)):=by
    rw [← hX2]
    exact set_mid2 (pre:=[.int .i64 holB]) (mid:=[.int .i64 vlt]) (post:=[.string str,.int .i64 ix,.int .i64 sz,.int .i64 day,.int .i64 ser,.int .i64 (L:Int),.int .i64 (k:Int),.string root,.slice ap n1 c1,.int .i64 si,.slice aq n2 c2,.slice ar n3 c3]) (vs:=[.int .i64 vltB]) HBX1.o HGX1.o rfl
   have HBX2:=hid hhX2.1
   have HGX2:=hid hhX2.2
   have GX2:Hid (Below W.heap.size W X2):=hid (Gw5.o.trans (HBX2.o.mono (by have:=HRN.o;have:=Gw5.o.size;omega)))
   rw [hX2]
   clear hhX2 hX2 fz z0 z1 z2 z3 z4 z5 z6 z7 z8 z9 z10 z11 z12 z13
   refine hK' _ _ (HCL.o X2 GX2.o).2 ?_
   clear hK' K'
   obtain ⟨z0,z1,z2,z3,z4,z5,z6,z7,z8,z9,z10,z11,z12,z13⟩:=row14 HGX2.o
   have fz: ∀i,X2.frozen? ⟨rN,i,none⟩=false:=fun i=>frozen_of_row _ _ _ _ _ HGX2.o
   iterate 1 (refine Kit.ghd (h:= ?_))
   refine Kit.gplan_op (by rfl) (by rfl) fun K' hK'=> ?_
   go_simp
   obtain ⟨X3,hX3⟩:=ex_eq (((X2.setCell ⟨rN,2,none⟩ (.string strB)).setCell ⟨rN,3,none⟩ (.int .i64 ixB)))
   have hhX3:Below rN w5 X3∧X3.heap[rN]? =some (.cells #[.int .i64 holB,.int .i64 vltB,.string strB,.int .i64 ixB,.int .i64 sz,.int .i64 day,.int .i64 ser,.int .i64 (L:Int),.int .i64 (k:Int),.string root,.slice ap n1 c1,.int .i64 si,.slice aq n2 c2,.slice ar n3 c3] 47 (0,0)):=by
    rw [← hX3]
    exact set_mid2 (pre:=[.int .i64 holB,.int .i64 vltB]) (mid:=[.string str,.int .i64 ix]) (post:=[.int .i64 sz,.int .i64 day,.int .i64 ser,.int .i64 (L:Int),.int .i64 (k:Int),.string root,.slice ap n1 c1,.int .i64 si,.slice aq n2 c2,.slice ar n3 c3]) (vs:=[.string strB,.int .i64 ixB]) HBX2.o HGX2.o rfl
   have HBX3:=hid hhX3.1
   have HGX3:=hid hhX3.2
   have GX3:Hid (Below W.heap.size W X3):=hid (Gw5.o.trans (HBX3.o.mono (by have:=HRN.o;have:=Gw5.o.size;omega)))
   rw [hX3]
   clear hhX3 hX3 fz z0 z1 z2 z3 z4 z5 z6 z7 z8 z9 z10 z11 z12 z13
   refine hK' _ _ (HCL.o X3 GX3.o).2 ?_
   clear hK' K'
   obtain ⟨z0,z1,z2,z3,z4,z5,z6,z7,z8,z9,z10,z11,z12,z13⟩:=row14 HGX3.o
   have fz: ∀i,X3.frozen? ⟨rN,i,none⟩=false:=fun i=>frozen_of_row _ _ _ _ _ HGX3.o
   iterate 1 (refine Kit.ghd (h:= ?_))
   refine Kit.gplan_op (by rfl) (by rfl) fun K' hK'=> ?_
   go_simp
   obtain ⟨X4,hX4⟩:=ex_eq ((X3.setCell ⟨rN,4,none⟩ (.int .i64 szB)))
   have hhX4:Below rN w5 X4∧X4.heap[rN]? =some (.cells #[.int .i64 holB,.int .i64 vltB,.string strB,.int .i64 ixB,.int .i64 szB,.int .i64 day,.int .i64 ser,.int .i64 (L:Int),.int .i64 (k:Int),.string root,.slice ap n1 c1,.int .i64 si,.slice aq n2 c2,.slice ar n3 c3] 47 (0,0)):=by
    rw [← hX4]
    exact set_mid2 (pre:=[.int .i64 holB,.int .i64 vltB,.string strB,.int .i64 ixB]) (mid:=[.int .i64 sz]) (post:=[.int .i64 day,.int .i64 ser,.int .i64 (L:Int),.int .i64 (k:Int),.string root,.slice ap n1 c1,.int .i64 si,.slice aq n2 c2,.slice ar n3 c3]) (vs:=[.int .i64 szB]) HBX3.o HGX3.o rfl
   have HBX4:=hid hhX4.1
   have HGX4:=hid hhX4.2
   have GX4:Hid (Below W.heap.size W X4):=hid (Gw5.o.trans (HBX4.o.mono (by have:=HRN.o;have:=Gw5.o.size;omega)))
   rw [hX4]
   clear hhX4 hX4 fz z0 z1 z2 z3 z4 z5 z6 z7 z8 z9 z10 z11 z12 z13
   refine hK' _ _ (HCL.o X4 GX4.o).2 ?_
   clear hK' K'
   obtain ⟨z0,z1,z2,z3,z4,z5,z6,z7,z8,z9,z10,z11,z12,z13⟩:=row14 HGX4.o
   have fz: ∀i,X4.frozen? ⟨rN,i,none⟩=false:=fun i=>frozen_of_row _ _ _ _ _ HGX4.o
   iterate 1 (refine Kit.ghd (h:= ?_))
   refine Kit.gplan_op (by rfl) (by rfl) fun K' hK'=> ?_
   go_simp
   obtain ⟨X5,hX5⟩:=ex_eq ((X4.setCell ⟨rN,5,none⟩ (.int .i64 dayB)))
   have hhX5:Below rN w5 X5∧X5.heap[rN]? =some (.cells #[.int .i64 holB,.int .i64 vltB,.string strB,.int .i64 ixB,.int .i64 szB,.int .i64 dayB,.int .i64 ser,.int .i64 (L:Int),.int .i64 (k:Int),.string root,.slice ap n1 c1,.int .i64 si,.slice aq n2 c2,.slice ar n3 c3] 47 (0,0)):=by
    rw [← hX5]
    exact set_mid2 (pre:=[.int .i64 holB,.int .i64 vltB,.string strB,.int .i64 ixB,.int .i64 szB]) (mid:=[.int .i64 day]) (post:=[.int .i64 ser,.int .i64 (L:Int),.int .i64 (k:Int),.string root,.slice ap n1 c1,.int .i64 si,.slice aq n2 c2,.slice ar n3 c3]) (vs:=[.int .i64 dayB]) HBX4.o HGX4.o rfl
   have HBX5:=hid hhX5.1
   have HGX5:=hid hhX5.2
   have GX5:Hid (Below W.heap.size W X5):=hid (Gw5.o.trans (HBX5.o.mono (by have:=HRN.o;have:=Gw5.o.size;omega)))
   rw [hX5]
   clear hhX5 hX5 fz z0 z1 z2 z3 z4 z5 z6 z7 z8 z9 z10 z11 z12 z13
   refine hK' _ _ (HCL.o X5 GX5.o).2 ?_
   clear hK' K'
   obtain ⟨z0,z1,z2,z3,z4,z5,z6,z7,z8,z9,z10,z11,z12,z13⟩:=row14 HGX5.o
   have fz: ∀i,X5.frozen? ⟨rN,i,none⟩=false:=fun i=>frozen_of_row _ _ _ _ _ HGX5.o
   iterate 1 (refine Kit.ghd (h:= ?_))
   refine Kit.gplan_op (by rfl) (by rfl) fun K' hK'=> ?_
   go_simp
   obtain ⟨X6,hX6⟩:=ex_eq ((X5.setCell ⟨rN,6,none⟩ (.int .i64 serB)))
   have hhX6:Below rN w5 X6∧X6.heap[rN]? =some (.cells #[.int .i64 holB,.int .i64 vltB,.string strB,.int .i64 ixB,.int .i64 szB,.int .i64 dayB,.int .i64 serB,.int .i64 (L:Int),.int .i64 (k:Int),.string root,.slice ap n1 c1,.int .i64 si,.slice aq n2 c2,.slice ar n3 c3] 47 (0,0)):=by
    rw [← hX6]
    exact set_mid2 (pre:=[.int .i64 holB,.int .i64 vltB,.string strB,.int .i64 ixB,.int .i64 szB,.int .i64 dayB]) (mid:=[.int .i64 ser]) (post:=[.int .i64 (L:Int),.int .i64 (k:Int),.string root,.slice ap n1 c1,.int .i64 si,.slice aq n2 c2,.slice ar n3 c3]) (vs:=[.int .i64 serB]) HBX5.o HGX5.o rfl
   have HBX6:=hid hhX6.1
   have HGX6:=hid hhX6.2
   have GX6:Hid (Below W.heap.size W X6):=hid (Gw5.o.trans (HBX6.o.mono (by have:=HRN.o;have:=Gw5.o.size;omega)))
   rw [hX6]
   clear hhX6 hX6 fz z0 z1 z2 z3 z4 z5 z6 z7 z8 z9 z10 z11 z12 z13
   refine hK' _ _ (HCL.o X6 GX6.o).2 ?_
   clear hK' K'
   obtain ⟨z0,z1,z2,z3,z4,z5,z6,z7,z8,z9,z10,z11,z12,z13⟩:=row14 HGX6.o
   have fz: ∀i,X6.frozen? ⟨rN,i,none⟩=false:=fun i=>frozen_of_row _ _ _ _ _ HGX6.o
   refine Kit.gdn (h:=?_)
   clear z0 z1 z2 z3 z4 z5 z6 z7 z8 z9 z10 z11 z12 z13 fz HGX HBX Gx Hx HGX1 HGX2 HGX3 HGX4 HGX5 HBX1 HBX2 HBX3 HBX4 HBX5 GX1 GX2 GX3 GX4 GX5
   have HOX:Hid (n1<9223372036854775808∧n2<9223372036854775808∧n3<9223372036854775808∧StrsAt w5 ap pa∧StrsAt w5 aq pt∧StrsAt w5 ar sq):=hid (by
    obtain ⟨⟨o1,o2,o3,o4,o5,o6⟩,_⟩:=HXO.o
    have p1:pa.length<9223372036854775808:=o1
    have p2:pt.length<9223372036854775808:=o2
    have p3:sq.length<9223372036854775808:=o3
    have:=HLN.o
    exact ⟨by omega,by omega,by omega,o4,o5,o6⟩)
   have HC1:Hid (n1≤c1):=hid (by have h:=HXO.o.2.2.2.2;have:=HLN.o;simp only at h;omega)
   have HLR:Hid (∀V:World,V.heap[rN]? =X6.heap[rN]? →rN<V.heap.size):=hid (fun V h=>(gS (h.trans HGX6.o)).1)
   have HCR:Hid (∀V,Below w5.heap.size w5 V→V.heap[rN]? =X6.heap[rN]? →(V.cell? ⟨N,0,none⟩=some (.int .i64 (b:Int))∧V.cell? ⟨N,1,none⟩=some (.int .i64 (t:Int)))∧(V.cell? ⟨rN,0,none⟩=some (.int .i64 holB)∧V.cell? ⟨rN,1,none⟩=some (.int .i64 vltB)∧V.cell? ⟨rN,2,none⟩=some (.string strB)∧V.cell? ⟨rN,3,none⟩=some (.int .i64 ixB)∧V.cell? ⟨rN,4,none⟩=some (.int .i64 szB)∧V.cell? ⟨rN,5,none⟩=some (.int .i64 dayB)∧V.cell? ⟨rN,6,none⟩=some (.int .i64 serB)∧V.cell? ⟨rN,7,none⟩=some (.int .i64 (L:Int))∧V.cell? ⟨rN,8,none⟩=some (.int .i64 (k:Int))∧V.cell? ⟨rN,9,none⟩=some (.string root)∧V.cell? ⟨rN,10,none⟩=some (.slice ap n1 c1)∧V.cell? ⟨rN,11,none⟩=some (.int .i64 si)∧V.cell? ⟨rN,12,none⟩=some (.slice aq n2 c2)∧V.cell? ⟨rN,13,none⟩=some (.slice ar n3 c3))∧V.cell? ⟨bo,k*14,none⟩=some (.int .i64 hol)∧V.cell? ⟨bo,k*14+1,none⟩=some (.int .i64 vlt)∧V.cell? ⟨bo,k*14+2,none⟩=some (.string str)∧V.cell? ⟨bo,k*14+3,none⟩=some (.int .i64 ix)∧V.cell? ⟨bo,k*14+4,none⟩=some (.int .i64 sz)∧V.cell? ⟨bo,k*14+5,none⟩=some (.int .i64 day)∧V.cell? ⟨bo,k*14+6,none⟩=some (.int .i64 ser)∧V.cell? ⟨bo,k*14+7,none⟩=some (.int .i64 (L:Int))∧V.cell? ⟨bo,k*14+8,none⟩=some (.int .i64 (k:Int))∧V.cell? ⟨bo,k*14+9,none⟩=some (.string root)∧V.cell? ⟨bo,k*14+10,none⟩=some (.slice ap n1 c1)∧V.cell? ⟨bo,k*14+11,none⟩=some (.int .i64 si)∧V.cell? ⟨bo,k*14+12,none⟩=some (.slice aq n2 c2)∧V.cell? ⟨bo,k*14+13,none⟩=some (.slice ar n3 c3)):=hid (fun V hb hr=>by
    have hg5:Below W.heap.size W V:=Gw5.o.trans (hb.mono Gw5.o.size)
    have hq: ∀j v,w5.cell? ⟨bo,k*14+j,none⟩=some v→V.cell? ⟨bo,k*14+j,none⟩=some v:=fun j v h=>(hb.cell (World.block_lt_of_cell? _ _ h)).trans h
    exact ⟨(HCL.o V hg5).1,row14 (hr.trans HGX6.o),hq 0 _ (HCE.o 0 (by decide)),hq 1 _ (HCE.o 1 (by decide)),hq 2 _ (HCE.o 2 (by decide)),hq 3 _ (HCE.o 3 (by decide)),hq 4 _ (HCE.o 4 (by decide)),hq 5 _ (HCE.o 5 (by decide)),hq 6 _ (HCE.o 6 (by decide)),hq 7 _ (HCE.o 7 (by decide)),hq 8 _ (HCE.o 8 (by decide)),hq 9 _ (HCE.o 9 (by decide)),hq 10 _ (HCE.o 10 (by decide)),hq 11 _ (HCE.o 11 (by decide)),hq 12 _ (HCE.o 12 (by decide)),hq 13 _ (HCE.o 13 (by decide))⟩)
   have HVX:Hid (ValidR ⟨hol,vlt,str,ix,sz,day,ser,(L:Int),(k:Int),root,pa,si,pt,sq⟩):=hid (by
    obtain ⟨⟨p1,p2⟩,⟨p3,p4⟩,p5,⟨p6,p7⟩,p8,hg⟩:=issOk_iff HOK.o
    rw [HXE.o]
    exact outP_valid HBT.o.1 HBT.o.2.2 (nb seed) (by rw [HLE.o];exact HKL.o.1) (by rw [HLE.o];exact p7) (by omega) (by omega) (by rw [HLE.o];omega) (Nat.pos_of_ne_zero (by simp)) hg)
   have HVY:Hid (verR (b:Int) (t:Int) (sigPub b (nb seed) t) ⟨hol,vlt,str,ix,sz,day,ser,(L:Int),(k:Int),root,pa,si,pt,sq⟩=true):=hid (by
    obtain ⟨⟨p1,p2⟩,⟨p3,p4⟩,p5,⟨p6,p7⟩,p8,hg⟩:=issOk_iff HOK.o
    rw [HXE.o]
    exact outP_verified HBT.o.1 HBT.o.2.1 HBT.o.2.2 (nb seed) (by rw [HLE.o];exact HKL.o.1) (by rw [HLE.o];exact p7) (by omega) (by omega) (by rw [HLE.o];omega) (Nat.pos_of_ne_zero (by simp)) hg)
   have HCX:Hid (Mrk.climbM (leafR ⟨hol,vlt,str,ix,sz,day,ser,(L:Int),(k:Int),root,pa,si,pt,sq⟩) k L (pa.map nb)=some (nb root)):=hid (by
    have h:=HVY.o
    unfold verR at h
    simp only [Bool.and_eq_true,decide_eq_true_eq] at h
    exact h.2.1)
   obtain ⟨D,hD⟩:=ex_eq (decide ((⟨holB,vltB,strB,ixB,szB,dayB,serB,(L:Int),(k:Int),root,pa,si,pt,sq⟩:Rc).sg=(⟨hol,vlt,str,ix,sz,day,ser,(L:Int),(k:Int),root,pa,si,pt,sq⟩:Rc).sg))
   have HFL:Hid (∀V,Calls Tryz.prog 32 #[.agg #[.int .i64 holB,.int .i64 vltB,.string strB,.int .i64 ixB,.int .i64 szB,.int .i64 dayB,.int .i64 serB,.int .i64 (L:Int),.int .i64 (k:Int),.string root,.slice ap n1 c1,.int .i64 si,.slice aq n2 c2,.slice ar n3 c3],.agg #[.int .i64 hol,.int .i64 vlt,.string str,.int .i64 ix,.int .i64 sz,.int .i64 day,.int .i64 ser,.int .i64 (L:Int),.int .i64 (k:Int),.string root,.slice ap n1 c1,.int .i64 si,.slice aq n2 c2,.slice ar n3 c3]] V fun e w'=>e= .returned (.bool D)∧Below V.heap.size V w'):=hid (fun V=>by
    have h:=refFields_any holB vltB strB ixB szB dayB serB (L:Int) (k:Int) root ap n1 c1 si aq n2 c2 ar n3 c3 pa pt sq hol vlt str ix sz day ser (L:Int) (k:Int) root ap n1 c1 si aq n2 c2 ar n3 c3 pa pt sq V
    rw [← hD]
    exact h)
   obtain ⟨F,hF⟩:=ex_eq (verR (b:Int) (t:Int) (nb pk) ⟨holB,vltB,strB,ixB,szB,dayB,serB,(L:Int),(k:Int),root,pa,si,pt,sq⟩)
   have HLV:Hid (∀V,Below w5.heap.size w5 V→Laid V):=hid (fun V hb=>HL.o.low (Hw5.o.trans (hb.mono Hw5.o.size)) H3.o)
   have HVF:Hid (∀V,Below w5.heap.size w5 V→Calls Tryz.prog 23 #[.string pk,.agg #[.int .i64 (b:Int),.int .i64 (t:Int)],.agg #[.int .i64 holB,.int .i64 vltB,.string strB,.int .i64 ixB,.int .i64 szB,.int .i64 dayB,.int .i64 serB,.int .i64 (L:Int),.int .i64 (k:Int),.string root,.slice ap n1 c1,.int .i64 si,.slice aq n2 c2,.slice ar n3 c3]] V fun e w'=>e= .returned (.bool F)∧Below V.heap.size V w'):=hid (fun V hb=>by
    have h:=receiptVerify_any pk (b:Int) (t:Int) holB vltB strB ixB szB dayB serB (L:Int) (k:Int) root ap n1 c1 si aq n2 c2 ar n3 c3 pa pt sq V HLN.o.1 HOX.o.1 ((HOX.o.2.2.2.1).later hb) HLN.o.2.1 HOX.o.2.1 ((HOX.o.2.2.2.2.1).later hb) HLN.o.2.2 HOX.o.2.2.1 ((HOX.o.2.2.2.2.2).later hb) HC1.o (HLV.o V hb)
    rw [hF] at h
    exact h)
   have HFT:Hid (F=true→ValidR ⟨holB,vltB,strB,ixB,szB,dayB,serB,(L:Int),(k:Int),root,pa,si,pt,sq⟩∧Mrk.climbM (leafR ⟨holB,vltB,strB,ixB,szB,dayB,serB,(L:Int),(k:Int),root,pa,si,pt,sq⟩) k L (pa.map nb)=some (nb root)):=hid (fun h=>by
    rw [h] at hF
    unfold verR at hF
    simp only [Bool.and_eq_true,decide_eq_true_eq] at hF
    exact ⟨validR_iff.1 hF.1,hF.2.1⟩)
   have HPU:Hid (∀V,Below w5.heap.size w5 V→Calls Tryz.prog 24 #[.pointer (some ⟨g,0,none⟩)] V fun e w'=>e= .returned (.string pk)∧Below V.heap.size V w'):=hid (fun V hb=>by
    refine (signerPublic_any V (HSG5.o.later hb)).mono ?_
    rintro e w' ⟨rfl,rfl⟩
    exact ⟨rfl,Below.refl _ _⟩)
   clear hD hF
   go_upto_region 15 with fail
   refine wp_over (fun V=>Hid (Below w5.heap.size w5 V)∧Hid (V.heap[rN]? =X6.heap[rN]?)) ⟨hid (HBX6.o.mono (by have:=HRN.o;omega)),hid rfl⟩ ?_
   rintro q0 ⟨Bq0,Rq0⟩
   have Bd0:Hid (Below w5.heap.size w5 q0.drew):=hid (Bq0.o.trans ((Below.refl _ _).drew.mono Bq0.o.size))
   have Rd0:Hid (q0.drew.heap[rN]? =X6.heap[rN]?):=hid Rq0.o
   obtain ⟨VD,hVD⟩:=ex_eq q0.drew
   rw [hVD] at Bd0 Rd0
   cases D
   ·have HFLB:Hid (∀V,Below w5.heap.size w5 V→Calls Tryz.prog 32 #[.agg #[.int .i64 holB,.int .i64 vltB,.string strB,.int .i64 ixB,.int .i64 szB,.int .i64 dayB,.int .i64 serB,.int .i64 (L:Int),.int .i64 (k:Int),.string root,.slice ap n1 c1,.int .i64 si,.slice aq n2 c2,.slice ar n3 c3],.agg #[.int .i64 hol,.int .i64 vlt,.string str,.int .i64 ix,.int .i64 sz,.int .i64 day,.int .i64 ser,.int .i64 (L:Int),.int .i64 (k:Int),.string root,.slice ap n1 c1,.int .i64 si,.slice aq n2 c2,.slice ar n3 c3]] V fun e w'=>e= .returned (.bool false)∧Below V.heap.size V w'):=hid (fun V _=>HFL.o V)
    refine Kit.wp_region_hplan (fun V=>(V.cell? ⟨N,0,none⟩=some (.int .i64 (b:Int))∧V.cell? ⟨N,1,none⟩=some (.int .i64 (t:Int)))∧(V.cell? ⟨rN,0,none⟩=some (.int .i64 holB)∧V.cell? ⟨rN,1,none⟩=some (.int .i64 vltB)∧V.cell? ⟨rN,2,none⟩=some (.string strB)∧V.cell? ⟨rN,3,none⟩=some (.int .i64 ixB)∧V.cell? ⟨rN,4,none⟩=some (.int .i64 szB)∧V.cell? ⟨rN,5,none⟩=some (.int .i64 dayB)∧V.cell? ⟨rN,6,none⟩=some (.int .i64 serB)∧V.cell? ⟨rN,7,none⟩=some (.int .i64 (L:Int))∧V.cell? ⟨rN,8,none⟩=some (.int .i64 (k:Int))∧V.cell? ⟨rN,9,none⟩=some (.string root)∧V.cell? ⟨rN,10,none⟩=some (.slice ap n1 c1)∧V.cell? ⟨rN,11,none⟩=some (.int .i64 si)∧V.cell? ⟨rN,12,none⟩=some (.slice aq n2 c2)∧V.cell? ⟨rN,13,none⟩=some (.slice ar n3 c3))∧V.cell? ⟨bo,k*14,none⟩=some (.int .i64 hol)∧V.cell? ⟨bo,k*14+1,none⟩=some (.int .i64 vlt)∧V.cell? ⟨bo,k*14+2,none⟩=some (.string str)∧V.cell? ⟨bo,k*14+3,none⟩=some (.int .i64 ix)∧V.cell? ⟨bo,k*14+4,none⟩=some (.int .i64 sz)∧V.cell? ⟨bo,k*14+5,none⟩=some (.int .i64 day)∧V.cell? ⟨bo,k*14+6,none⟩=some (.int .i64 ser)∧V.cell? ⟨bo,k*14+7,none⟩=some (.int .i64 (L:Int))∧V.cell? ⟨bo,k*14+8,none⟩=some (.int .i64 (k:Int))∧V.cell? ⟨bo,k*14+9,none⟩=some (.string root)∧V.cell? ⟨bo,k*14+10,none⟩=some (.slice ap n1 c1)∧V.cell? ⟨bo,k*14+11,none⟩=some (.int .i64 si)∧V.cell? ⟨bo,k*14+12,none⟩=some (.slice aq n2 c2)∧V.cell? ⟨bo,k*14+13,none⟩=some (.slice ar n3 c3)) [(true,0),(true,1),(true,2),(true,3),(true,4),(false,5),(true,6),(true,7),(true,9),(true,10),(false,8),(false,11),(true,12),(true,13)] (by kernel_rfl) (by kernel_rfl) (by kernel_rfl) (by kernel_rfl) (by rw [hVD];exact HCR.o _ Bd0.o Rd0.o) ?_
    rw [hVD]
    clear hVD
    obtain ⟨⟨c0,c1x⟩,⟨z0,z1,z2,z3,z4,z5,z6,z7,z8,z9,z10,z11,z12,z13⟩,r0,r1,r2,r3,r4,r5,r6,r7,r8,r9,r10,r11,r12,r13⟩:=HCR.o _ Bd0.o Rd0.o
    iterate 5 (refine Kit.hhd (h:= ?_))
    clear c0 c1x z0 r0 z1 r1 z2 r2 z3 r3 z4 r4 z5 r5 z6 r6 z7 r7 z8 r8 z9 r9 z10 r10 z11 r11 z12 r12 z13 r13
    refine Kit.hplan_op (by rfl) (by rfl) fun K' hK'=> ?_
    go_simp
    go_at_call 32
    with_reducible refine (HFLB.o VD Bd0.o).mono ?_
    rintro e v1 ⟨rfl,hb⟩
    have Bv1:Hid (Below w5.heap.size w5 v1):=hid (Bd0.o.trans (hb.mono Bd0.o.size))
    have Rv1:Hid (v1.heap[rN]? =X6.heap[rN]?):=hid ((hb.block rN (by have:=Rd0.o;have:=HGX6.o;have h:=HLR.o VD Rd0.o;exact h)).trans Rd0.o)
    clear hb
    refine hK' _ _ (HCR.o v1 Bv1.o Rv1.o) ?_
    clear hK' K'
    iterate 2 (refine Kit.hhd (h:= ?_))
    obtain ⟨⟨c0,c1x⟩,⟨z0,z1,z2,z3,z4,z5,z6,z7,z8,z9,z10,z11,z12,z13⟩,r0,r1,r2,r3,r4,r5,r6,r7,r8,r9,r10,r11,r12,r13⟩:=HCR.o v1 Bv1.o Rv1.o
    iterate 2 (refine Kit.hhd (h:= ?_))
    clear c0 c1x z0 r0 z1 r1 z2 r2 z3 r3 z4 r4 z5 r5 z6 r6 z7 r7 z8 r8 z9 r9 z10 r10 z11 r11 z12 r12 z13 r13
    refine Kit.hplan_op (by rfl) (by rfl) fun K' hK'=> ?_
    go_simp
    go_at_call 24
    with_reducible refine (HPU.o v1 Bv1.o).mono ?_
    rintro e v2 ⟨rfl,hb⟩
    have Bv2:Hid (Below w5.heap.size w5 v2):=hid (Bv1.o.trans (hb.mono Bv1.o.size))
    have Rv2:Hid (v2.heap[rN]? =X6.heap[rN]?):=hid ((hb.block rN (by have:=Rv1.o;have:=HGX6.o;have h:=HLR.o v1 Rv1.o;exact h)).trans Rv1.o)
    clear hb
    refine hK' _ _ (HCR.o v2 Bv2.o Rv2.o) ?_
    clear hK' K'
    refine Kit.hplan_op (by rfl) (by rfl) fun K' hK'=> ?_
    go_simp
    go_at_call 23
    with_reducible refine (HVF.o v2 Bv2.o).mono ?_
    rintro e v3 ⟨rfl,hb⟩
    have Bv3:Hid (Below w5.heap.size w5 v3):=hid (Bv2.o.trans (hb.mono Bv2.o.size))
    have Rv3:Hid (v3.heap[rN]? =X6.heap[rN]?):=hid ((hb.block rN (by have:=Rv2.o;have:=HGX6.o;have h:=HLR.o v2 Rv2.o;exact h)).trans Rv2.o)
    clear hb
    refine hK' _ _ (HCR.o v3 Bv3.o Rv3.o) ?_
    clear hK' K'
    iterate 2 (refine Kit.hhd (h:= ?_))
    refine Kit.hdn (h:=?_)
    cases F
    ·go_wp2_with fail
     go_ret
     exact ⟨rfl,Hw5.o.trans (Bv3.o.mono Hw5.o.size)⟩
    ·have HV1:=hid (HFT.o rfl)
     have HD1:Hid (∀V,Below w5.heap.size w5 V→Calls Tryz.prog 28 #[.agg #[.int .i64 holB,.int .i64 vltB,.string strB,.int .i64 ixB,.int .i64 szB,.int .i64 dayB,.int .i64 serB,.int .i64 (L:Int),.int .i64 (k:Int),.string root,.slice ap n1 c1,.int .i64 si,.slice aq n2 c2,.slice ar n3 c3]] V fun e w'=> ∃u:ByteArray,(e= .returned (.tuple #[.string u,.int .i64 0])∧nb u=leafR ⟨holB,vltB,strB,ixB,szB,dayB,serB,(L:Int),(k:Int),root,pa,si,pt,sq⟩∧u.size=32)∧Below V.heap.size V w'):=hid (fun V hb=>by
      refine (digestR_ok holB vltB strB ixB szB dayB serB (L:Int) (k:Int) root ap n1 c1 si aq n2 c2 ar n3 c3 pa pt sq V HLN.o.1 HOX.o.1 ((HOX.o.2.2.2.1).later hb) HLN.o.2.1 HOX.o.2.1 ((HOX.o.2.2.2.2.1).later hb) HLN.o.2.2 HOX.o.2.2.1 ((HOX.o.2.2.2.2.2).later hb) HV1.o.1 _ rfl (HLV.o V hb)).mono ?_
      rintro e w' ⟨u,h1,h2,h3,h4⟩
      exact ⟨u,⟨h1,h2,h3⟩,h4⟩)
     have HD2:Hid (∀V,Below w5.heap.size w5 V→Calls Tryz.prog 28 #[.agg #[.int .i64 hol,.int .i64 vlt,.string str,.int .i64 ix,.int .i64 sz,.int .i64 day,.int .i64 ser,.int .i64 (L:Int),.int .i64 (k:Int),.string root,.slice ap n1 c1,.int .i64 si,.slice aq n2 c2,.slice ar n3 c3]] V fun e w'=> ∃u:ByteArray,(e= .returned (.tuple #[.string u,.int .i64 0])∧nb u=leafR ⟨hol,vlt,str,ix,sz,day,ser,(L:Int),(k:Int),root,pa,si,pt,sq⟩∧u.size=32)∧Below V.heap.size V w'):=hid (fun V hb=>by
      refine (digestR_ok hol vlt str ix sz day ser (L:Int) (k:Int) root ap n1 c1 si aq n2 c2 ar n3 c3 pa pt sq V HLN.o.1 HOX.o.1 ((HOX.o.2.2.2.1).later hb) HLN.o.2.1 HOX.o.2.1 ((HOX.o.2.2.2.2.1).later hb) HLN.o.2.2 HOX.o.2.2.1 ((HOX.o.2.2.2.2.2).later hb) HVX.o _ rfl (HLV.o V hb)).mono ?_
      rintro e w' ⟨u,h1,h2,h3,h4⟩
      exact ⟨u,⟨h1,h2,h3⟩,h4⟩)
     have HMV:Hid (∀u:ByteArray,u.size=32→Mrk.climbM (nb u) k L (pa.map nb)=some (nb root)→ ∀V,Below w5.heap.size w5 V→Calls Tryz.prog 33 #[.string u,.int .i64 (k:Int),.int .i64 (L:Int),.slice ap n1 c1,.string root] V fun e w'=>e= .returned (.bool true)∧Below V.heap.size V w'):=hid (fun u hu hc V hb=>by
      have hk:=HKL.o
      have h:=verifyM_ok u hu k L (by omega) (by omega) hk.1 ap c1 n1 pa HLN.o.1 HC1.o (by have:=HVX.o.pn;have:=HLN.o.1;simp only at*;omega) HVX.o.ps root HVX.o.rt V (HOX.o.2.2.2.1.later hb) (HLV.o V hb)
      rw [decide_eq_true hc] at h
      exact h)
     obtain ⟨⟨c0,c1x⟩,⟨z0,z1,z2,z3,z4,z5,z6,z7,z8,z9,z10,z11,z12,z13⟩,r0,r1,r2,r3,r4,r5,r6,r7,r8,r9,r10,r11,r12,r13⟩:=HCR.o v3 Bv3.o Rv3.o
     go_wp2_with fail
     with_reducible refine (HD1.o v3 Bv3.o).mono ?_
     rintro e v4 ⟨u,⟨rfl,hu,hz⟩,hb⟩
     have Bv4:Hid (Below w5.heap.size w5 v4):=hid (Bv3.o.trans (hb.mono Bv3.o.size))
     have Rv4:Hid (v4.heap[rN]? =X6.heap[rN]?):=hid ((hb.block rN (HLR.o v3 Rv3.o)).trans Rv3.o)
     clear hb
     clear c0 c1x z0 r0 z1 r1 z2 r2 z3 r3 z4 r4 z5 r5 z6 r6 z7 r7 z8 r8 z9 r9 z10 r10 z11 r11 z12 r12 z13 r13
     have HU1:=hid (And.intro hu hz)
     clear hu hz
     obtain ⟨⟨c0,c1x⟩,⟨z0,z1,z2,z3,z4,z5,z6,z7,z8,z9,z10,z11,z12,z13⟩,r0,r1,r2,r3,r4,r5,r6,r7,r8,r9,r10,r11,r12,r13⟩:=HCR.o v4 Bv4.o Rv4.o
     go_wp2_with fail
     with_reducible refine (HD2.o v4 Bv4.o).mono ?_
     rintro e v5 ⟨u2,⟨rfl,hu,hz⟩,hb⟩
     have Bv5:Hid (Below w5.heap.size w5 v5):=hid (Bv4.o.trans (hb.mono Bv4.o.size))
     have Rv5:Hid (v5.heap[rN]? =X6.heap[rN]?):=hid ((hb.block rN (HLR.o v4 Rv4.o)).trans Rv4.o)
     clear hb
     clear c0 c1x z0 r0 z1 r1 z2 r2 z3 r3 z4 r4 z5 r5 z6 r6 z7 r7 z8 r8 z9 r9 z10 r10 z11 r11 z12 r12 z13 r13
     have HU2:=hid (And.intro hu hz)
     clear hu hz
     obtain ⟨⟨c0,c1x⟩,⟨z0,z1,z2,z3,z4,z5,z6,z7,z8,z9,z10,z11,z12,z13⟩,r0,r1,r2,r3,r4,r5,r6,r7,r8,r9,r10,r11,r12,r13⟩:=HCR.o v5 Bv5.o Rv5.o
     by_cases he:u=u2
     ·have hq:(u.toList==u2.toList)=true:=by rw [eq_str];exact decide_eq_true (congrArg nb he)
      clear he
      go_wp2_with fail
      go_ret
      exact ⟨by first | rfl | simp,Hw5.o.trans (Bv5.o.mono Hw5.o.size)⟩
     ·have hq:(u.toList==u2.toList)=false:=by rw [eq_str];exact decide_eq_false (fun h=>he (nb_inj h))
      clear he
      go_wp2_with fail
      with_reducible refine (HMV.o u HU1.o.2 (by rw [HU1.o.1];exact HV1.o.2) v5 Bv5.o).mono ?_
      rintro e v6 ⟨rfl,hb⟩
      have Bv6:Hid (Below w5.heap.size w5 v6):=hid (Bv5.o.trans (hb.mono Bv5.o.size))
      have Rv6:Hid (v6.heap[rN]? =X6.heap[rN]?):=hid ((hb.block rN (HLR.o v5 Rv5.o)).trans Rv5.o)
      clear hb
      clear c0 c1x z0 r0 z1 r1 z2 r2 z3 r3 z4 r4 z5 r5 z6 r6 z7 r7 z8 r8 z9 r9 z10 r10 z11 r11 z12 r12 z13 r13
      obtain ⟨⟨c0,c1x⟩,⟨z0,z1,z2,z3,z4,z5,z6,z7,z8,z9,z10,z11,z12,z13⟩,r0,r1,r2,r3,r4,r5,r6,r7,r8,r9,r10,r11,r12,r13⟩:=HCR.o v6 Bv6.o Rv6.o
      go_wp2_with fail
      with_reducible refine (HMV.o u2 HU2.o.2 (by rw [HU2.o.1];exact HCX.o) v6 Bv6.o).mono ?_
      rintro e v7 ⟨rfl,hb⟩
      have Bv7:Hid (Below w5.heap.size w5 v7):=hid (Bv6.o.trans (hb.mono Bv6.o.size))
      have Rv7:Hid (v7.heap[rN]? =X6.heap[rN]?):=hid ((hb.block rN (HLR.o v6 Rv6.o)).trans Rv6.o)
      clear hb
      clear c0 c1x z0 r0 z1 r1 z2 r2 z3 r3 z4 r4 z5 r5 z6 r6 z7 r7 z8 r8 z9 r9 z10 r10 z11 r11 z12 r12 z13 r13
      obtain ⟨⟨c0,c1x⟩,⟨z0,z1,z2,z3,z4,z5,z6,z7,z8,z9,z10,z11,z12,z13⟩,r0,r1,r2,r3,r4,r5,r6,r7,r8,r9,r10,r11,r12,r13⟩:=HCR.o v7 Bv7.o Rv7.o
      go_wp2_with fail
      go_ret
      exact ⟨by first | rfl | simp,Hw5.o.trans (Bv7.o.mono Hw5.o.size)⟩
   ·have HFLB:Hid (∀V,Below w5.heap.size w5 V→Calls Tryz.prog 32 #[.agg #[.int .i64 holB,.int .i64 vltB,.string strB,.int .i64 ixB,.int .i64 szB,.int .i64 dayB,.int .i64 serB,.int .i64 (L:Int),.int .i64 (k:Int),.string root,.slice ap n1 c1,.int .i64 si,.slice aq n2 c2,.slice ar n3 c3],.agg #[.int .i64 hol,.int .i64 vlt,.string str,.int .i64 ix,.int .i64 sz,.int .i64 day,.int .i64 ser,.int .i64 (L:Int),.int .i64 (k:Int),.string root,.slice ap n1 c1,.int .i64 si,.slice aq n2 c2,.slice ar n3 c3]] V fun e w'=>e= .returned (.bool true)∧Below V.heap.size V w'):=hid (fun V _=>HFL.o V)
    refine Kit.wp_region_hplan (fun V=>(V.cell? ⟨N,0,none⟩=some (.int .i64 (b:Int))∧V.cell? ⟨N,1,none⟩=some (.int .i64 (t:Int)))∧(V.cell? ⟨rN,0,none⟩=some (.int .i64 holB)∧V.cell? ⟨rN,1,none⟩=some (.int .i64 vltB)∧V.cell? ⟨rN,2,none⟩=some (.string strB)∧V.cell? ⟨rN,3,none⟩=some (.int .i64 ixB)∧V.cell? ⟨rN,4,none⟩=some (.int .i64 szB)∧V.cell? ⟨rN,5,none⟩=some (.int .i64 dayB)∧V.cell? ⟨rN,6,none⟩=some (.int .i64 serB)∧V.cell? ⟨rN,7,none⟩=some (.int .i64 (L:Int))∧V.cell? ⟨rN,8,none⟩=some (.int .i64 (k:Int))∧V.cell? ⟨rN,9,none⟩=some (.string root)∧V.cell? ⟨rN,10,none⟩=some (.slice ap n1 c1)∧V.cell? ⟨rN,11,none⟩=some (.int .i64 si)∧V.cell? ⟨rN,12,none⟩=some (.slice aq n2 c2)∧V.cell? ⟨rN,13,none⟩=some (.slice ar n3 c3))∧V.cell? ⟨bo,k*14,none⟩=some (.int .i64 hol)∧V.cell? ⟨bo,k*14+1,none⟩=some (.int .i64 vlt)∧V.cell? ⟨bo,k*14+2,none⟩=some (.string str)∧V.cell? ⟨bo,k*14+3,none⟩=some (.int .i64 ix)∧V.cell? ⟨bo,k*14+4,none⟩=some (.int .i64 sz)∧V.cell? ⟨bo,k*14+5,none⟩=some (.int .i64 day)∧V.cell? ⟨bo,k*14+6,none⟩=some (.int .i64 ser)∧V.cell? ⟨bo,k*14+7,none⟩=some (.int .i64 (L:Int))∧V.cell? ⟨bo,k*14+8,none⟩=some (.int .i64 (k:Int))∧V.cell? ⟨bo,k*14+9,none⟩=some (.string root)∧V.cell? ⟨bo,k*14+10,none⟩=some (.slice ap n1 c1)∧V.cell? ⟨bo,k*14+11,none⟩=some (.int .i64 si)∧V.cell? ⟨bo,k*14+12,none⟩=some (.slice aq n2 c2)∧V.cell? ⟨bo,k*14+13,none⟩=some (.slice ar n3 c3)) [(true,0),(true,1),(true,2),(true,3),(true,4),(false,5),(true,6),(true,7),(true,9),(true,10),(false,8),(false,11),(true,12),(true,13)] (by kernel_rfl) (by kernel_rfl) (by kernel_rfl) (by kernel_rfl) (by rw [hVD];exact HCR.o _ Bd0.o Rd0.o) ?_
    rw [hVD]
    clear hVD
    obtain ⟨⟨c0,c1x⟩,⟨z0,z1,z2,z3,z4,z5,z6,z7,z8,z9,z10,z11,z12,z13⟩,r0,r1,r2,r3,r4,r5,r6,r7,r8,r9,r10,r11,r12,r13⟩:=HCR.o _ Bd0.o Rd0.o
    iterate 5 (refine Kit.hhd (h:= ?_))
    clear c0 c1x z0 r0 z1 r1 z2 r2 z3 r3 z4 r4 z5 r5 z6 r6 z7 r7 z8 r8 z9 r9 z10 r10 z11 r11 z12 r12 z13 r13
    refine Kit.hplan_op (by rfl) (by rfl) fun K' hK'=> ?_
    go_simp
    go_at_call 32
    with_reducible refine (HFLB.o VD Bd0.o).mono ?_
    rintro e v1 ⟨rfl,hb⟩
    have Bv1:Hid (Below w5.heap.size w5 v1):=hid (Bd0.o.trans (hb.mono Bd0.o.size))
    have Rv1:Hid (v1.heap[rN]? =X6.heap[rN]?):=hid ((hb.block rN (by have:=Rd0.o;have:=HGX6.o;have h:=HLR.o VD Rd0.o;exact h)).trans Rd0.o)
    clear hb
    refine hK' _ _ (HCR.o v1 Bv1.o Rv1.o) ?_
    clear hK' K'
    iterate 4 (refine Kit.hhd (h:= ?_))
    refine Kit.hsk (h:=?_)
    refine Kit.hsk (h:=?_)
    iterate 2 (refine Kit.hhd (h:= ?_))
    refine Kit.hdn (h:=?_)
    go_wp2_with fail
    go_ret
    exact ⟨rfl,Hw5.o.trans (Bv1.o.mono Hw5.o.size)⟩
   done
end Go.Proofs.YtndlihclgdkpaaaGreatDoor
