/- The law ReceiptIssues. -/
import Derived.Test.YtndlihclgdkpaaaGreatDoorGf
import Derived.Test.YtndlihclgdkpaaaGreatDoorGi
import Derived.Test.YtndlihclgdkpaaaGreatDoorGk
import Derived.Test.YtndlihclgdkpaaaGreatDoorGp
import Derived.Test.YtndlihclgdkpaaaGreatDoorQaw
import Derived.Test.YtndlihclgdkpaaaGreatDoorQri
set_option linter.unusedVariables false
set_option linter.unusedSimpArgs false
open Go.Lib (hid)
namespace Go.Proofs.YtndlihclgdkpaaaGreatDoor
open Go.RowKit
open Kit (Chg)
open Sha (v)
open Go.Proofs.YtndlihclgdkpaaaGreatDoor.One

set_option maxRecDepth 100000 in
set_option maxHeartbeats 4000000 in
theorem walk_ReceiptIssues (B H:Int) (seed:ByteArray) (sk hol0 day0 ser0:Int) (al:Option Addr) (cl L:Nat) (ps:List Pr) (w:World) (hLe:ps.length=L) (hL9:L≤9223372036854775807) (hP:PrsAt w al ps) (hL:Laid w):
    Calls Tryz.prog 3 #[.agg #[.int .i64 B,.int .i64 H],.string seed,.int .i64 sk,.int .i64 hol0,.int .i64 day0,.int .i64 ser0,.slice al L cl] w fun e w'=>e= .returned (.bool true)∧Below w.heap.size w w':=by
 obtain ⟨CB,hCB⟩:=ex_eq (cheapB B H)
 have HCB:=hid hCB
 have HL:=hid hL
 have H3:=hid (Laid.low3' hL)
 have HLE:=hid hLe
 have HP:=hid hP
 have HCH:Hid (∀V,Calls Tryz.prog 15 #[.agg #[.int .i64 B,.int .i64 H]] V fun e w'=>e= .returned (.bool CB)∧Below V.heap.size V w'):=hid (fun V=>by
  have h:=cheap_any B H V
  rw [hCB] at h
  exact h)
 clear hL hCB hLe hP hL9
 go_enter Tryz.func3,Tryz.ntmps3
 go_upto_region 1 with fail
 refine wp_over (fun W=>Hid (W.heap[w.heap.size]? =some (.cells #[.int .i64 B,.int .i64 H] 23 (0,0)))∧Hid (Below w.heap.size w W)) ⟨heap_alloc_new _ _,(Below.refl _ _).alloc (Nat.le_refl _) _⟩ ?_
 rintro W ⟨HG,HB⟩
 obtain ⟨N,hN⟩:=ex_eq w.heap.size
 have HN:=hid hN
 rw [hN] at HG ⊢
 clear hN
 have HLT:Hid (N<W.heap.size):=hid (gS HG.o).1
 have HCL:Hid (∀V,Below W.heap.size W V→V.cell? ⟨N,0,none⟩=some (.int .i64 B)∧V.cell? ⟨N,1,none⟩=some (.int .i64 H)):=hid (fun V hb=>row2' ((hb.block N HLT.o).trans HG.o))
 have HAW:=hid (awake43 W (HL.o.low HB.o H3.o) (by have:=HB.o.size;have:=H3.o;omega))
 go_wp2_with fail
 with_reducible refine HAW.o.mono ?_
 rintro e w1 ⟨rfl,hb1⟩
 have Gw1:=hid hb1
 have Hw1:Hid (Below w.heap.size w w1):=hid (HB.o.trans (hb1.mono HB.o.size))
 clear hb1
 obtain ⟨c0,c1x⟩:=HCL.o w1 Gw1.o
 go_wp2_with fail
 with_reducible refine (HCH.o w1).mono ?_
 rintro e w2 ⟨rfl,hb⟩
 have Hw2:Hid (Below w.heap.size w w2):=hid (Hw1.o.trans (hb.mono Hw1.o.size))
 have Gw2:Hid (Below W.heap.size W w2):=hid (Gw1.o.trans (hb.mono Gw1.o.size))
 clear hb c0 c1x
 obtain ⟨c0,c1x⟩:=HCL.o w2 Gw2.o
 cases CB
 ·go_wp2_with fail
  go_ret
  exact ⟨by first | rfl | simp,Hw2.o⟩
 by_cases hs:(seed.size:Int)=32
 rotate_left
 ·have hs': ¬(seed.size:Int)=32:=hs
  go_wp2_with fail
  go_ret
  exact ⟨by first | rfl | simp,Hw2.o⟩
 have HS32:Hid (seed.size=32):=hid (by omega)
 by_cases g1:(12:Int)<(L:Int)∧(L:Int)≤256
 ·obtain ⟨g1a,g1b⟩:=g1
  go_wp2_with fail
  go_ret
  exact ⟨by first | rfl | simp,Hw2.o⟩
 have hg1: ¬(12:Int)<(L:Int)∨((12:Int)<(L:Int)∧ ¬(L:Int)≤256):=by omega
 by_cases g2:(300:Int)<(L:Int)
 ·have g1a:(12:Int)<(L:Int):=by omega
  have g1b: ¬(L:Int)≤256:=by omega
  go_wp2_with fail
  go_ret
  exact ⟨by first | rfl | simp,Hw2.o⟩
 by_cases g3:sk<0
 ·rcases hg1 with g1a | ⟨g1a,g1b⟩
  ·go_wp2_with fail
   go_ret
   exact ⟨by first | rfl | simp,Hw2.o⟩
  ·go_wp2_with fail
   go_ret
   exact ⟨by first | rfl | simp,Hw2.o⟩
 obtain ⟨n,rfl⟩: ∃n:Nat,sk=(n:Int):=⟨sk.toNat,by omega⟩
 have HKL:Hid (L≤300):=hid (by omega)
 obtain ⟨HSV,HT1⟩:=cheapB_sv HCB.o
 obtain ⟨b,t,rfl,rfl,hb0,hb4,ht8⟩:=sv_of HSV
 have HBT:=hid (And.intro hb0 (And.intro hb4 ht8))
 clear HSV HT1 hb0 hb4 ht8 HCB HCH
 obtain ⟨hshl,hP8⟩:=fit_pow (t:=t) HBT.o.2.2
 have hshl0:wrap64 ((2:Int) ^ t)=((2 ^ t:Nat):Int):=by
  rw [show (2:Int) ^ t=((2 ^ t:Nat):Int) from (Int.natCast_pow 2 t).symm]
  obtain ⟨q,hq⟩:=ex_eq (2 ^ t)
  rw [hq] at hP8 ⊢
  exact IntWalk.wrap64_in _ ⟨by omega,by omega⟩
 have hmin:min t 64=t:=by have:=HBT.o.2.2;omega
 obtain ⟨P,hP⟩:=ex_eq (2 ^ t)
 rw [hP] at hshl hshl0 hP8
 have HPT:=hid hP
 clear hP
 have HP8:=hid hP8
 have hn0: ¬(n:Int)<0:=g3
 by_cases g4:(P:Int)<(n:Int)
 ·rcases hg1 with g1a | ⟨g1a,g1b⟩
  ·go_wp2_with fail
   go_ret
   exact ⟨by first | rfl | simp,Hw2.o⟩
  ·go_wp2_with fail
   go_ret
   exact ⟨by first | rfl | simp,Hw2.o⟩
 have HNP:Hid (n≤P):=hid (by omega)
 have hgp: ¬(P:Int)<(n:Int):=g4
 rcases hg1 with g1a | ⟨g1a,g1b⟩
 all_goals (
  go_wp2_with fail
  with_reducible refine (signerNew_ok b t HBT.o.1 HBT.o.2.1 HBT.o.2.2 seed HS32.o w2 (HL.o.low Hw2.o H3.o)).mono ?_
  rintro e w3 ⟨g,pk,rfl,hsg,hb⟩
  have Hw3:Hid (Below w.heap.size w w3):=hid (Hw2.o.trans (hb.mono Hw2.o.size))
  have Gw3:Hid (Below W.heap.size W w3):=hid (Gw2.o.trans (hb.mono Gw2.o.size))
  have HSG:=hid hsg
  have HGB:Hid (W.heap.size≤g∧w.heap.size≤g):=hid (by have:=hsg.base;have:=Gw2.o.size;have:=Hw2.o.size;omega)
  clear hsg hb c0 c1x
  go_wp2_with fail
  with_reducible refine (signerSkip_ok n (Nat.zero_le _) (by rw [HPT.o];exact HNP.o) w3 HSG.o).mono ?_
  rintro e w4a ⟨rfl,hsg,hc⟩
  have Hw4a:Hid (Below w.heap.size w w4a):=hid (Hw3.o.trans (hc.below Hw3.o.size (fun q i hq h=>by have:=HGB.o;have:=h.1;omega)))
  have Gw4a:Hid (Below W.heap.size W w4a):=hid (Gw3.o.trans (hc.below Gw3.o.size (fun q i hq h=>by have:=HGB.o;have:=h.1;omega)))
  have HSGa:=hid hsg
  clear hsg hc
  go_wp2_with fail
  with_reducible refine (promises_any al cl L ps HLE.o (by have:=HKL.o;omega) w4a (HP.o.later Hw4a.o)).mono ?_
  rintro e w4 ⟨_,rfl,ap4,cp4,rfl,hp4,hb⟩
  have Hw4:Hid (Below w.heap.size w w4):=hid (Hw4a.o.trans (hb.mono Hw4a.o.size))
  have Gw4:Hid (Below W.heap.size W w4):=hid (Gw4a.o.trans (hb.mono Gw4a.o.size))
  have HP4:=hid hp4
  have HSG4:=hid (HSGa.o.later hb)
  clear hp4 hb HSG
  have HRI:Hid (∀V,Below w.heap.size w V→Calls Tryz.prog 20 #[.agg #[.int .i64 (b:Int),.int .i64 (t:Int)],.string seed,.int .i64 (n:Int),.int .i64 hol0,.int .i64 day0,.int .i64 ser0,.slice al L cl] V fun e w'=>IssO b t (nb seed) n hol0 day0 ser0 L ps e w'∧Below V.heap.size V w'):=hid (fun V hb=>refIssue43_any HBT.o.1 HBT.o.2.2 seed HS32.o n (by have:=HNP.o;have:=HP8.o;omega) hol0 day0 ser0 al cl L ps HLE.o HKL.o V (HL.o.low hb H3.o) (HP.o.later hb))
  cases hok:issOk hol0 day0 ser0 L ps with
  | false=>
    have HOK:=hid hok
    have HII:=hid (issue_bad g hol0 day0 ser0 ap4 cp4 L ps HLE.o (by have:=HKL.o;omega) w4 HP4.o hok)
    clear hok
    go_wp2_with fail
    with_reducible refine HII.o.mono ?_
    rintro e w5 ⟨rfl,hb⟩
    have Hw5:Hid (Below w.heap.size w w5):=hid (Hw4.o.trans (hb.mono Hw4.o.size))
    have Gw5:Hid (Below W.heap.size W w5):=hid (Gw4.o.trans (hb.mono Gw4.o.size))
    have HSG5:=hid (HSG4.o.later hb)
    clear hb HII
    obtain ⟨c0,c1x⟩:=HCL.o w5 Gw5.o
    go_wp2_with fail
    with_reducible refine (HRI.o w5 Hw5.o).mono ?_
    rintro e w6 ⟨hio,hb⟩
    have Hw6:Hid (Below w.heap.size w w6):=hid (Hw5.o.trans (hb.mono Hw5.o.size))
    have Gw6:Hid (Below W.heap.size W w6):=hid (Gw5.o.trans (hb.mono Gw5.o.size))
    have HSG6:=hid (HSG5.o.later hb)
    clear hb c0 c1x
    rcases hio with ⟨_,he⟩ | ⟨h0,_⟩ | ⟨h0,_⟩
    rotate_left
    ·rw [HOK.o] at h0;cases h0
    ·rw [HOK.o] at h0;cases h0
    subst he
    have HSN:Hid (∀V,Calls Tryz.prog 21 #[.slice none 0 0,.slice none 0 0] V fun e w'=>e= .returned (.bool true)∧Below V.heap.size V w'):=hid (fun V=>refSameAll_ok none 0 0 [] rfl none 0 [] rfl rfl (by decide) (fun x hx=>by cases hx) V ⟨.inl rfl,fun x hx=>by cases hx⟩ ⟨.inl rfl,fun x hx=>by cases hx⟩)
    go_wp2_with fail
    with_reducible refine (HSN.o w6).mono ?_
    rintro e w7 ⟨rfl,hb⟩
    have Hw7:Hid (Below w.heap.size w w7):=hid (Hw6.o.trans (hb.mono Hw6.o.size))
    have Gw7:Hid (Below W.heap.size W w7):=hid (Gw6.o.trans (hb.mono Gw6.o.size))
    have HSG7:=hid (HSG6.o.later hb)
    clear hb
    go_wp2_with fail
    with_reducible refine (signerNext_any w7 HSG7.o).mono ?_
    rintro e w8 ⟨rfl,hb⟩
    subst hb
    go_wp2_with fail
    go_ret
    exact ⟨by first | rfl | simp,Hw7.o⟩
  | true=>
    have HOK:=hid hok
    by_cases hne:n=P
    ·have HNE:=hid hne
     have HII:=hid (issue_spent hol0 day0 ser0 ap4 cp4 L ps HLE.o w4 HSG4.o HP4.o hok (by rw [HPT.o];exact hne))
     clear hok hne
     go_wp2_with fail
     with_reducible refine HII.o.mono ?_
     rintro e w5 ⟨rfl,hb⟩
     have Hw5:Hid (Below w.heap.size w w5):=hid (Hw4.o.trans (hb.mono Hw4.o.size))
     have Gw5:Hid (Below W.heap.size W w5):=hid (Gw4.o.trans (hb.mono Gw4.o.size))
     have HSG5:=hid (HSG4.o.later hb)
     clear hb HII
     obtain ⟨c0,c1x⟩:=HCL.o w5 Gw5.o
     go_wp2_with fail
     with_reducible refine (HRI.o w5 Hw5.o).mono ?_
     rintro e w6 ⟨hio,hb⟩
     have Hw6:Hid (Below w.heap.size w w6):=hid (Hw5.o.trans (hb.mono Hw5.o.size))
     have Gw6:Hid (Below W.heap.size W w6):=hid (Gw5.o.trans (hb.mono Gw5.o.size))
     have HSG6:=hid (HSG5.o.later hb)
     clear hb c0 c1x
     rcases hio with ⟨h0,_⟩ | ⟨_,_,he⟩ | ⟨_,h0,_⟩
     ·rw [HOK.o] at h0;cases h0
     rotate_left
     ·exact absurd h0 (by have h1:=HNE.o;have h2:=HPT.o;omega)
     subst he
     have HSN:Hid (∀V,Calls Tryz.prog 21 #[.slice none 0 0,.slice none 0 0] V fun e w'=>e= .returned (.bool true)∧Below V.heap.size V w'):=hid (fun V=>refSameAll_ok none 0 0 [] rfl none 0 [] rfl rfl (by decide) (fun x hx=>by cases hx) V ⟨.inl rfl,fun x hx=>by cases hx⟩ ⟨.inl rfl,fun x hx=>by cases hx⟩)
     go_wp2_with fail
     with_reducible refine (HSN.o w6).mono ?_
     rintro e w7 ⟨rfl,hb⟩
     have Hw7:Hid (Below w.heap.size w w7):=hid (Hw6.o.trans (hb.mono Hw6.o.size))
     have Gw7:Hid (Below W.heap.size W w7):=hid (Gw6.o.trans (hb.mono Gw6.o.size))
     have HSG7:=hid (HSG6.o.later hb)
     clear hb
     go_wp2_with fail
     with_reducible refine (signerNext_any w7 HSG7.o).mono ?_
     rintro e w8 ⟨rfl,hb⟩
     subst hb
     go_wp2_with fail
     go_ret
     exact ⟨by first | rfl | simp,Hw7.o⟩
    have HNE:Hid (n<2 ^ t):=hid (by rw [HPT.o];have:=HNP.o;omega)
    obtain ⟨⟨p1,p2⟩,⟨p3,p4⟩,p5,⟨p6,p7⟩,p8,hgd⟩:=issOk_iff hok
    have HII:=hid (issue_ok hol0.toNat day0.toNat ser0.toNat ap4 cp4 L ps HLE.o p6 p7 (by omega) (by omega) (by omega) hgd HNE.o (by have:=HGB.o;have:=H3.o;omega) w4 HSG4.o (HL.o.low Hw4.o H3.o) HP4.o)
    rw [Int.toNat_of_nonneg p1,Int.toNat_of_nonneg p3,Int.toNat_of_nonneg p5] at HII
    have HPS:Hid (∀r ∈ batchP b t (nb seed) n hol0.toNat day0.toNat ser0.toNat ps,ValidR r):=hid (fun r hr=>by
     rw [batchP_out] at hr
     obtain ⟨k,hk,rfl⟩:=List.mem_map.1 hr
     rw [List.mem_range] at hk
     exact outP_valid HBT.o.1 HBT.o.2.2 (nb seed) hk (by rw [HLE.o];exact p7) (by omega) (by omega) (by rw [HLE.o];omega) HNE.o hgd)
    clear hok hne p1 p2 p3 p4 p5 p6 p7 p8 hgd
    go_wp2_with fail
    with_reducible refine HII.o.mono ?_
    rintro e w5 ⟨bo,xs,rfl,hbo,hxs,hxo,hrow,hsg,hc⟩
    have Hw5:Hid (Below w.heap.size w w5):=hid (Hw4.o.trans (hc.below Hw4.o.size (fun q i hq h=>by have:=HGB.o;have:=h.1;omega)))
    have Gw5:Hid (Below W.heap.size W w5):=hid (Gw4.o.trans (hc.below Gw4.o.size (fun q i hq h=>by have:=HGB.o;have:=h.1;omega)))
    have HXS:=hid hxs
    have HXR:=hid (hrow.rcsAll (fun x hx=>(hxo x hx).1))
    have HSG5:=hid hsg
    clear hbo hxs hxo hrow hsg hc HII HSG4 HP4
    obtain ⟨c0,c1x⟩:=HCL.o w5 Gw5.o
    go_wp2_with fail
    with_reducible refine (HRI.o w5 Hw5.o).mono ?_
    rintro e w6 ⟨hio,hb⟩
    have Hw6:Hid (Below w.heap.size w w6):=hid (Hw5.o.trans (hb.mono Hw5.o.size))
    have Gw6:Hid (Below W.heap.size W w6):=hid (Gw5.o.trans (hb.mono Gw5.o.size))
    have HSG6:=hid (HSG5.o.later hb)
    have HXR6:=hid (HXR.o.later hb)
    clear hb c0 c1x
    rcases hio with ⟨h0,_⟩ | ⟨_,h0,_⟩ | ⟨_,_,ay,cy,ys,he,hym,hyl,hyr⟩
    ·rw [HOK.o] at h0;cases h0
    ·exact absurd h0 (by have:=HNE.o;omega)
    subst he
    have HXL:Hid (xs.length=L):=hid (by
     have h:=congrArg List.length (HXS.o.trans hym.symm)
     rw [List.length_map,List.length_map,hyl] at h
     exact h)
    have HSA:=hid (refSameAll_ok (some ⟨bo,0,none⟩) L L xs HXL.o ay cy ys hyl (HXS.o.trans hym.symm) (by have:=HKL.o;omega) (fun x hx=>by
     have hv:=HPS.o x.r (by rw [← HXS.o];exact List.mem_map_of_mem hx)
     have h1:=hv.pn
     have h2:=hv.an
     have h3:=hv.qn
     omega) w6 HXR6.o hyr)
    clear hym hyl hyr HPS
    have hwn:IntKind.i64.wrap ((n:Int)+1)=((n+1:Nat):Int):=by rw [IntKind.wrap_i64];have:=HNP.o;have:=HP8.o;omega
    go_wp2_with fail
    with_reducible refine HSA.o.mono ?_
    rintro e w7 ⟨rfl,hb⟩
    have Hw7:Hid (Below w.heap.size w w7):=hid (Hw6.o.trans (hb.mono Hw6.o.size))
    have Gw7:Hid (Below W.heap.size W w7):=hid (Gw6.o.trans (hb.mono Gw6.o.size))
    have HSG7:=hid (HSG6.o.later hb)
    clear hb
    go_wp2_with fail
    with_reducible refine (signerNext_any w7 HSG7.o).mono ?_
    rintro e w8 ⟨rfl,hb⟩
    subst hb
    go_wp2_with fail
    go_ret
    exact ⟨by first | rfl | simp,Hw7.o⟩)
end Go.Proofs.YtndlihclgdkpaaaGreatDoor
