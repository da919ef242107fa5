/- The law ReceiptEncodes. -/
import Derived.Test.YtndlihclgdkpaaaGreatDoorGi
import Derived.Test.YtndlihclgdkpaaaGreatDoorGj
import Derived.Test.YtndlihclgdkpaaaGreatDoorGk
import Derived.Test.YtndlihclgdkpaaaGreatDoorGp
import Derived.Test.YtndlihclgdkpaaaGreatDoorQaw
import Derived.Test.YtndlihclgdkpaaaGreatDoorQde
import Derived.Test.YtndlihclgdkpaaaGreatDoorQer
set_option linter.unusedVariables false
set_option linter.unusedSimpArgs false
open Go.Lib (hid)
namespace Go.Proofs.YtndlihclgdkpaaaGreatDoor
open Go.RowKit
open Kit (Chg)
open Sha (v)
open Go.Proofs.YtndlihclgdkpaaaGreatDoor.One

set_option maxRecDepth 100000 in
set_option maxHeartbeats 4000000 in
theorem walk_ReceiptEncodes (hol vlt:Int) (str:ByteArray) (ix sz day ser cnt pl:Int) (root:ByteArray) (ap:Option Addr) (n1 c1:Nat) (si:Int) (aq:Option Addr) (n2 c2:Nat) (ar:Option Addr) (n3 c3:Nat) (pa pt sq:List ByteArray) (w:World) (h1:pa.length=n1) (k1:n1<9223372036854775808) (s1:StrsAt w ap pa) (h2:pt.length=n2) (k2:n2<9223372036854775808) (s2:StrsAt w aq pt) (h3:sq.length=n3) (k3:n3<9223372036854775808) (s3:StrsAt w ar sq) (hL:Laid w):
    Calls Tryz.prog 7 #[.agg #[.int .i64 hol,.int .i64 vlt,.string str,.int .i64 ix,.int .i64 sz,.int .i64 day,.int .i64 ser,.int .i64 cnt,.int .i64 pl,.string root,.slice ap n1 c1,.int .i64 si,.slice aq n2 c2,.slice ar n3 c3]] w fun e w'=>e= .returned (.bool true)∧Below w.heap.size w w':=by
 have HL:=hid hL
 have H3:=hid (Laid.low3' hL)
 have HLN:Hid (pa.length=n1∧pt.length=n2∧sq.length=n3):=hid ⟨h1,h2,h3⟩
 have HKN:Hid (n1<9223372036854775808∧n2<9223372036854775808∧n3<9223372036854775808):=hid ⟨k1,k2,k3⟩
 have HSS0:Hid (∀V,Below w.heap.size w V→StrsAt V ap pa∧StrsAt V aq pt∧StrsAt V ar sq):=hid (fun V h=>⟨s1.later h,s2.later h,s3.later h⟩)
 clear h1 h2 h3 k1 k2 k3 s1 s2 s3 hL
 go_enter Tryz.func7,Tryz.ntmps7
 go_upto_region 1 with fail
 refine wp_over (fun W=>Hid (W.heap[w.heap.size]? =some (.cells #[.int .i64 hol,.int .i64 vlt,.string str,.int .i64 ix,.int .i64 sz,.int .i64 day,.int .i64 ser,.int .i64 cnt,.int .i64 pl,.string root,.slice ap n1 c1,.int .i64 si,.slice aq n2 c2,.slice ar n3 c3] 47 (0,0)))∧Hid (Below w.heap.size w W)) ⟨heap_alloc_new _ _,(Below.refl _ _).alloc (Nat.le_refl _) _⟩ ?_
 rintro W ⟨HG,HB⟩
 obtain ⟨N,hN⟩:=ex_eq w.heap.size
 rw [hN] at HG ⊢
 clear hN
 have HLT:Hid (N<W.heap.size):=hid (gS HG.o).1
 have HCL:Hid (∀V,Below W.heap.size W V→V.cell? ⟨N,0,none⟩=some (.int .i64 hol)∧V.cell? ⟨N,1,none⟩=some (.int .i64 vlt)∧V.cell? ⟨N,2,none⟩=some (.string str)∧V.cell? ⟨N,3,none⟩=some (.int .i64 ix)∧V.cell? ⟨N,4,none⟩=some (.int .i64 sz)∧V.cell? ⟨N,5,none⟩=some (.int .i64 day)∧V.cell? ⟨N,6,none⟩=some (.int .i64 ser)∧V.cell? ⟨N,7,none⟩=some (.int .i64 cnt)∧V.cell? ⟨N,8,none⟩=some (.int .i64 pl)∧V.cell? ⟨N,9,none⟩=some (.string root)∧V.cell? ⟨N,10,none⟩=some (.slice ap n1 c1)∧V.cell? ⟨N,11,none⟩=some (.int .i64 si)∧V.cell? ⟨N,12,none⟩=some (.slice aq n2 c2)∧V.cell? ⟨N,13,none⟩=some (.slice ar n3 c3)):=hid (fun V hb=>row14 ((hb.block N HLT.o).trans HG.o))
 have HAW:=hid (awake43 W (HL.o.low HB.o H3.o) (by have:=HB.o.size;have:=H3.o;omega))
 go_wp2_with fail
 with_reducible refine HAW.o.mono ?_
 rintro e w1 ⟨rfl,hb1⟩
 have Gw1:=hid hb1
 have Hw1:Hid (Below w.heap.size w w1):=hid (HB.o.trans (hb1.mono HB.o.size))
 clear hb1 HAW
 obtain ⟨q0,q1,q2,q3,q4,q5,q6,q7,q8,q9,q10,q11,q12,q13⟩:=HCL.o w1 Gw1.o
 by_cases g1:(20:Int)<(n1:Int)
 ·go_wp2_with fail
  go_ret
  exact ⟨by first | rfl | simp,Hw1.o⟩
 by_cases g2:(400:Int)<(n2:Int)
 ·go_wp2_with fail
  go_ret
  exact ⟨by first | rfl | simp,Hw1.o⟩
 by_cases g3:(20:Int)<(n3:Int)
 ·go_wp2_with fail
  go_ret
  exact ⟨by first | rfl | simp,Hw1.o⟩
 have HM:Hid (n1≤20∧n2≤400∧n3≤20):=hid (by omega)
 cases hv:validR ⟨hol,vlt,str,ix,sz,day,ser,cnt,pl,root,pa,si,pt,sq⟩ with
 | false=>
   have HEN:=hid (encodeR_bad hol vlt str ix sz day ser cnt pl root ap n1 c1 si aq n2 c2 ar n3 c3 pa pt sq w1 HLN.o.1 HKN.o.1 (HSS0.o _ Hw1.o).1 HLN.o.2.1 HKN.o.2.1 (HSS0.o _ Hw1.o).2.1 HLN.o.2.2 HKN.o.2.2 (HSS0.o _ Hw1.o).2.2 hv)
   have HVL:Hid (∀V,Below w.heap.size w V→Calls Tryz.prog 29 #[.agg #[.int .i64 hol,.int .i64 vlt,.string str,.int .i64 ix,.int .i64 sz,.int .i64 day,.int .i64 ser,.int .i64 cnt,.int .i64 pl,.string root,.slice ap n1 c1,.int .i64 si,.slice aq n2 c2,.slice ar n3 c3]] V fun e w'=>e= .returned (.bool false)∧Below V.heap.size V w'):=hid (fun V hb=>by
    have h:=refValidR_any hol vlt str ix sz day ser cnt pl root ap n1 c1 si aq n2 c2 ar n3 c3 pa pt sq V HLN.o.1 HKN.o.1 (HSS0.o _ hb).1 HLN.o.2.1 HKN.o.2.1 (HSS0.o _ hb).2.1 HLN.o.2.2 HKN.o.2.2 (HSS0.o _ hb).2.2
    rwa [hv] at h)
   clear hv
   go_wp2_with fail
   with_reducible refine HEN.o.mono ?_
   rintro e w2 ⟨rfl,hb⟩
   have Hw2:Hid (Below w.heap.size w w2):=hid (Hw1.o.trans (hb.mono Hw1.o.size))
   have Gw2:Hid (Below W.heap.size W w2):=hid (Gw1.o.trans (hb.mono Gw1.o.size))
   clear hb
   clear q0 q1 q2 q3 q4 q5 q6 q7 q8 q9 q10 q11 q12 q13
   obtain ⟨q0,q1,q2,q3,q4,q5,q6,q7,q8,q9,q10,q11,q12,q13⟩:=HCL.o w2 Gw2.o
   go_wp2_with fail
   with_reducible refine (HVL.o w2 Hw2.o).mono ?_
   rintro e w3 ⟨rfl,hb⟩
   have Hw3:Hid (Below w.heap.size w w3):=hid (Hw2.o.trans (hb.mono Hw2.o.size))
   have Gw3:Hid (Below W.heap.size W w3):=hid (Gw2.o.trans (hb.mono Gw2.o.size))
   clear hb
   go_wp2_with fail
   go_ret
   exact ⟨by first | rfl | simp,Hw3.o⟩
 | true=>
   have HVX:Hid (ValidR ⟨hol,vlt,str,ix,sz,day,ser,cnt,pl,root,pa,si,pt,sq⟩):=hid (validR_iff.1 hv)
   obtain ⟨T,hT⟩:=ex_eq (encR ⟨hol,vlt,str,ix,sz,day,ser,cnt,pl,root,pa,si,pt,sq⟩)
   have HEN:=hid (encodeR_ok hol vlt str ix sz day ser cnt pl root ap n1 c1 si aq n2 c2 ar n3 c3 pa pt sq w1 HLN.o.1 HKN.o.1 (HSS0.o _ Hw1.o).1 HLN.o.2.1 HKN.o.2.1 (HSS0.o _ Hw1.o).2.1 HLN.o.2.2 HKN.o.2.2 (HSS0.o _ Hw1.o).2.2 HVX.o T hT)
   have HVL:Hid (∀V,Below w.heap.size w V→Calls Tryz.prog 29 #[.agg #[.int .i64 hol,.int .i64 vlt,.string str,.int .i64 ix,.int .i64 sz,.int .i64 day,.int .i64 ser,.int .i64 cnt,.int .i64 pl,.string root,.slice ap n1 c1,.int .i64 si,.slice aq n2 c2,.slice ar n3 c3]] V fun e w'=>e= .returned (.bool true)∧Below V.heap.size V w'):=hid (fun V hb=>by
    have h:=refValidR_any hol vlt str ix sz day ser cnt pl root ap n1 c1 si aq n2 c2 ar n3 c3 pa pt sq V HLN.o.1 HKN.o.1 (HSS0.o _ hb).1 HLN.o.2.1 HKN.o.2.1 (HSS0.o _ hb).2.1 HLN.o.2.2 HKN.o.2.2 (HSS0.o _ hb).2.2
    rwa [hv] at h)
   have HRE:Hid (∀V,Below w.heap.size w V→Calls Tryz.prog 34 #[.agg #[.int .i64 hol,.int .i64 vlt,.string str,.int .i64 ix,.int .i64 sz,.int .i64 day,.int .i64 ser,.int .i64 cnt,.int .i64 pl,.string root,.slice ap n1 c1,.int .i64 si,.slice aq n2 c2,.slice ar n3 c3]] V fun e w'=> ∃ad L cap,e= .returned (.slice ad L cap)∧T.length=L∧BytesAt w' ad T∧Below V.heap.size V w'):=hid (fun V hb=>refEncodeR_ok hol vlt str ix sz day ser cnt pl root ap n1 c1 si aq n2 c2 ar n3 c3 pa pt sq V HLN.o.1 HKN.o.1 (HSS0.o _ hb).1 HLN.o.2.1 HKN.o.2.1 (HSS0.o _ hb).2.1 HLN.o.2.2 HKN.o.2.2 (HSS0.o _ hb).2.2 HVX.o T hT)
   have HTL:Hid (T.length≤10000000):=hid (by rw [← hT];have:=encR_len HVX.o;omega)
   obtain ⟨q,hq,hr⟩:=rdAll_enc ⟨hol,vlt,str,ix,sz,day,ser,cnt,pl,root,pa,si,pt,sq⟩ HVX.o
   rw [hT] at hq
   have HQ:Hid ((rdAll (some T)).2=some []∧rcOf (rdAll (some T)).1=⟨hol,vlt,str,ix,sz,day,ser,cnt,pl,root,pa,si,pt,sq⟩):=hid (by rw [hq];exact ⟨rfl,hr⟩)
   clear hv hT hq hr
   go_wp2_with fail
   with_reducible refine HEN.o.mono ?_
   rintro e w2 ⟨ax,LL,cap,rfl,hL2,hc2,hb2,hn2,hg2,hb⟩
   have Hw2:Hid (Below w.heap.size w w2):=hid (Hw1.o.trans (hb.mono Hw1.o.size))
   have Gw2:Hid (Below W.heap.size W w2):=hid (Gw1.o.trans (hb.mono Gw1.o.size))
   have HL2:=hid hL2
   have HB2:=hid hb2
   have HN2:=hid hn2
   clear hb hL2 hc2 hb2 hn2 hg2 HEN
   clear q0 q1 q2 q3 q4 q5 q6 q7 q8 q9 q10 q11 q12 q13
   obtain ⟨q0,q1,q2,q3,q4,q5,q6,q7,q8,q9,q10,q11,q12,q13⟩:=HCL.o w2 Gw2.o
   go_wp2_with fail
   with_reducible refine (HVL.o w2 Hw2.o).mono ?_
   rintro e w3 ⟨rfl,hb⟩
   have Hw3:Hid (Below w.heap.size w w3):=hid (Hw2.o.trans (hb.mono Hw2.o.size))
   have Gw3:Hid (Below W.heap.size W w3):=hid (Gw2.o.trans (hb.mono Gw2.o.size))
   have HB3:=hid (HB2.o.later hb)
   clear hb HB2 HVL
   clear q0 q1 q2 q3 q4 q5 q6 q7 q8 q9 q10 q11 q12 q13
   have HDE:=hid (decodeR_any ax LL cap T HL2.o (by have:=HL2.o;have:=HTL.o;omega) HN2.o w3 HB3.o)
   go_wp2_with fail
   with_reducible refine HDE.o.mono ?_
   rintro e w4 ⟨hout,hb⟩
   have Hw4:Hid (Below w.heap.size w w4):=hid (Hw3.o.trans (hb.mono Hw3.o.size))
   have Gw4:Hid (Below W.heap.size W w4):=hid (Gw3.o.trans (hb.mono Gw3.o.size))
   have HB4:=hid (HB3.o.later hb)
   clear hb HDE HB3
   rcases hout with ⟨_,_,⟨xr,a6,d6,a7,d7,a8,d8⟩,hx,hok,he⟩ | ⟨hno,_⟩
   rotate_left
   ·exact absurd ⟨HQ.o.1,by rw [HQ.o.2];exact validR_iff.2 HVX.o⟩ hno
   have hx2:xr=⟨hol,vlt,str,ix,sz,day,ser,cnt,pl,root,pa,si,pt,sq⟩:=Eq.trans hx HQ.o.2
   clear hx
   subst hx2
   simp only [RcV.cells,HLN.o.1,HLN.o.2.1,HLN.o.2.2] at he
   subst he
   have HOK4:=hid hok
   clear hok
   go_upto_region 9 with fail
   refine wp_over (fun V=>Hid (V.heap[w4.heap.size]? =some (.cells #[.int .i64 hol,.int .i64 vlt,.string str,.int .i64 ix,.int .i64 sz,.int .i64 day,.int .i64 ser,.int .i64 cnt,.int .i64 pl,.string root,.slice a6 n1 d6,.int .i64 si,.slice a7 n2 d7,.slice a8 n3 d8] 47 (0,0)))∧Hid (Below w4.heap.size w4 V)) ⟨heap_alloc_new _ _,(Below.refl _ _).alloc (Nat.le_refl _) _⟩ ?_
   rintro X ⟨HG5,HB5⟩
   have HX:Hid (Below w.heap.size w X):=hid (Hw4.o.trans (HB5.o.mono Hw4.o.size))
   have GX:Hid (Below W.heap.size W X):=hid (Gw4.o.trans (HB5.o.mono Gw4.o.size))
   have HOK5:=hid (HOK4.o.later HB5.o)
   have HBX:=hid (HB4.o.later HB5.o)
   obtain ⟨rM,hrM⟩:=ex_eq w4.heap.size
   rw [hrM] at HG5 ⊢
   clear hrM HB5 HOK4 HB4
   have HON:Hid (n1≤1000000∧n2≤1000000∧n3≤1000000∧StrsAt X a6 pa∧StrsAt X a7 pt∧StrsAt X a8 sq):=hid (by
    obtain ⟨_,_,_,o4,o5,o6⟩:=HOK5.o
    have h:=HM.o
    exact ⟨by omega,by omega,by omega,o4,o5,o6⟩)
   have HSM:Hid (∀V,Below X.heap.size X V→Calls Tryz.prog 27 #[.agg #[.int .i64 hol,.int .i64 vlt,.string str,.int .i64 ix,.int .i64 sz,.int .i64 day,.int .i64 ser,.int .i64 cnt,.int .i64 pl,.string root,.slice a6 n1 d6,.int .i64 si,.slice a7 n2 d7,.slice a8 n3 d8],.agg #[.int .i64 hol,.int .i64 vlt,.string str,.int .i64 ix,.int .i64 sz,.int .i64 day,.int .i64 ser,.int .i64 cnt,.int .i64 pl,.string root,.slice ap n1 c1,.int .i64 si,.slice aq n2 c2,.slice ar n3 c3]] V fun e w'=>e= .returned (.bool true)∧Below V.heap.size V w'):=hid (fun V hb=>by
    have h:=refSame43_any hol vlt str ix sz day ser cnt pl root a6 n1 d6 si a7 n2 d7 a8 n3 d8 pa pt sq hol vlt str ix sz day ser cnt pl root ap n1 c1 si aq n2 c2 ar n3 c3 pa pt sq V HLN.o.1 HKN.o.1 (HON.o.2.2.2.1.later hb) HLN.o.2.1 HKN.o.2.1 (HON.o.2.2.2.2.1.later hb) HLN.o.2.2 HKN.o.2.2 (HON.o.2.2.2.2.2.later hb) HLN.o.1 HKN.o.1 (HSS0.o _ (HX.o.trans (hb.mono HX.o.size))).1 HLN.o.2.1 HKN.o.2.1 (HSS0.o _ (HX.o.trans (hb.mono HX.o.size))).2.1 HLN.o.2.2 HKN.o.2.2 (HSS0.o _ (HX.o.trans (hb.mono HX.o.size))).2.2 HON.o.1 HON.o.2.1 HON.o.2.2.1
    rwa [sameR_iff.2 rfl] at h)
   obtain ⟨z,hz⟩:=ex_eq (strB T)
   have HCV:Hid (∀V ad c' L',T.length=L'→BytesAt V ad T→(convert 52 9 (.slice ad L' c')).run Tryz.prog V= .ok (.string z) V):=hid (fun V ad c' L' h hB=>by subst h;rw [← hz];exact conv_bytes hB c')
   clear hz
   have HSP:Hid (∀V,Below X.heap.size X V→(V.cell? ⟨N,0,none⟩=some (.int .i64 hol)∧V.cell? ⟨N,1,none⟩=some (.int .i64 vlt)∧V.cell? ⟨N,2,none⟩=some (.string str)∧V.cell? ⟨N,3,none⟩=some (.int .i64 ix)∧V.cell? ⟨N,4,none⟩=some (.int .i64 sz)∧V.cell? ⟨N,5,none⟩=some (.int .i64 day)∧V.cell? ⟨N,6,none⟩=some (.int .i64 ser)∧V.cell? ⟨N,7,none⟩=some (.int .i64 cnt)∧V.cell? ⟨N,8,none⟩=some (.int .i64 pl)∧V.cell? ⟨N,9,none⟩=some (.string root)∧V.cell? ⟨N,10,none⟩=some (.slice ap n1 c1)∧V.cell? ⟨N,11,none⟩=some (.int .i64 si)∧V.cell? ⟨N,12,none⟩=some (.slice aq n2 c2)∧V.cell? ⟨N,13,none⟩=some (.slice ar n3 c3))∧(V.cell? ⟨rM,0,none⟩=some (.int .i64 hol)∧V.cell? ⟨rM,1,none⟩=some (.int .i64 vlt)∧V.cell? ⟨rM,2,none⟩=some (.string str)∧V.cell? ⟨rM,3,none⟩=some (.int .i64 ix)∧V.cell? ⟨rM,4,none⟩=some (.int .i64 sz)∧V.cell? ⟨rM,5,none⟩=some (.int .i64 day)∧V.cell? ⟨rM,6,none⟩=some (.int .i64 ser)∧V.cell? ⟨rM,7,none⟩=some (.int .i64 cnt)∧V.cell? ⟨rM,8,none⟩=some (.int .i64 pl)∧V.cell? ⟨rM,9,none⟩=some (.string root)∧V.cell? ⟨rM,10,none⟩=some (.slice a6 n1 d6)∧V.cell? ⟨rM,11,none⟩=some (.int .i64 si)∧V.cell? ⟨rM,12,none⟩=some (.slice a7 n2 d7)∧V.cell? ⟨rM,13,none⟩=some (.slice a8 n3 d8))∧(convert 52 9 (.slice ax LL cap)).run Tryz.prog V= .ok (.string z) V):=hid (fun V h=>⟨HCL.o V (GX.o.trans (h.mono GX.o.size)),row14 ((h.block rM (gS HG5.o).1).trans HG5.o),HCV.o V ax cap LL HL2.o (HBX.o.later h)⟩)
   go_upto_region 9 with fail
   have HDX:Hid (Below X.heap.size X X.drew):=hid (Below.refl _ _).drew
   obtain ⟨VD,hVD⟩:=ex_eq X.drew
   rw [hVD] at HDX
   refine Kit.wp_region_gplan (fun V=>(V.cell? ⟨N,0,none⟩=some (.int .i64 hol)∧V.cell? ⟨N,1,none⟩=some (.int .i64 vlt)∧V.cell? ⟨N,2,none⟩=some (.string str)∧V.cell? ⟨N,3,none⟩=some (.int .i64 ix)∧V.cell? ⟨N,4,none⟩=some (.int .i64 sz)∧V.cell? ⟨N,5,none⟩=some (.int .i64 day)∧V.cell? ⟨N,6,none⟩=some (.int .i64 ser)∧V.cell? ⟨N,7,none⟩=some (.int .i64 cnt)∧V.cell? ⟨N,8,none⟩=some (.int .i64 pl)∧V.cell? ⟨N,9,none⟩=some (.string root)∧V.cell? ⟨N,10,none⟩=some (.slice ap n1 c1)∧V.cell? ⟨N,11,none⟩=some (.int .i64 si)∧V.cell? ⟨N,12,none⟩=some (.slice aq n2 c2)∧V.cell? ⟨N,13,none⟩=some (.slice ar n3 c3))∧(V.cell? ⟨rM,0,none⟩=some (.int .i64 hol)∧V.cell? ⟨rM,1,none⟩=some (.int .i64 vlt)∧V.cell? ⟨rM,2,none⟩=some (.string str)∧V.cell? ⟨rM,3,none⟩=some (.int .i64 ix)∧V.cell? ⟨rM,4,none⟩=some (.int .i64 sz)∧V.cell? ⟨rM,5,none⟩=some (.int .i64 day)∧V.cell? ⟨rM,6,none⟩=some (.int .i64 ser)∧V.cell? ⟨rM,7,none⟩=some (.int .i64 cnt)∧V.cell? ⟨rM,8,none⟩=some (.int .i64 pl)∧V.cell? ⟨rM,9,none⟩=some (.string root)∧V.cell? ⟨rM,10,none⟩=some (.slice a6 n1 d6)∧V.cell? ⟨rM,11,none⟩=some (.int .i64 si)∧V.cell? ⟨rM,12,none⟩=some (.slice a7 n2 d7)∧V.cell? ⟨rM,13,none⟩=some (.slice a8 n3 d8))∧(convert 52 9 (.slice ax LL cap)).run Tryz.prog V= .ok (.string z) V) [(true,0),(true,1),(true,2),(true,3),(true,4),(true,5),(false,6),(false,7),(true,8),(true,9),(true,10),(true,11),(true,12),(true,13),(true,14),(true,15),(true,16),(false,17),(true,18),(true,19)] (by kernel_rfl) (by kernel_rfl) (by kernel_rfl) (by kernel_rfl) (by rw [hVD];exact HSP.o _ HDX.o) ?_
   rw [hVD]
   clear hVD
   iterate 6 (refine Kit.ghd (h:= ?_))
   refine Kit.gplan_op (by rfl) (by rfl) fun K' hK'=> ?_
   go_simp
   go_at_call 34
   with_reducible refine (HRE.o _ (HX.o.trans (HDX.o.mono HX.o.size))).mono ?_
   rintro e v1 ⟨af,Lf,cf,rfl,hlf,hbf,hb⟩
   have HV1:Hid (Below X.heap.size X v1):=hid (HDX.o.trans (hb.mono HDX.o.size))
   have hcv1:=HCV.o v1 af cf Lf hlf hbf
   clear hlf hbf hb
   refine hK' _ _ (HSP.o _ HV1.o) ?_
   clear hK' K'
   refine Kit.gplan_op (by rfl) (by rfl) fun K' hK'=> ?_
   go_simp
   refine hK' _ _ (HSP.o _ HV1.o) ?_
   clear hK' K' hcv1
   iterate 9 (refine Kit.ghd (h:= ?_))
   refine Kit.gplan_op (by rfl) (by rfl) fun K' hK'=> ?_
   go_simp
   go_at_call 27
   with_reducible refine (HSM.o _ HV1.o).mono ?_
   rintro e v2 ⟨rfl,hb⟩
   have HV2:Hid (Below X.heap.size X v2):=hid (HV1.o.trans (hb.mono HV1.o.size))
   clear hb
   refine hK' _ _ (HSP.o _ HV2.o) ?_
   clear hK' K'
   iterate 2 (refine Kit.ghd (h:= ?_))
   refine Kit.gdn (h:=?_)
   go_wp2_with fail
   go_ret
   exact ⟨by first | rfl | simp,HX.o.trans (HV2.o.mono HX.o.size)⟩
end Go.Proofs.YtndlihclgdkpaaaGreatDoor
