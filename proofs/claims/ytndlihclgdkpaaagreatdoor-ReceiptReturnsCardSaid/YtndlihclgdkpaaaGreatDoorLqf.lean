/- The law ReceiptReturns. -/
import Derived.Test.YtndlihclgdkpaaaGreatDoorGj
import Derived.Test.YtndlihclgdkpaaaGreatDoorGk
import Derived.Test.YtndlihclgdkpaaaGreatDoorLqc
import Derived.Test.YtndlihclgdkpaaaGreatDoorQde
set_option linter.unusedVariables false
set_option linter.unusedSimpArgs false
open Go.Lib (hid)
namespace Go.Proofs.YtndlihclgdkpaaaGreatDoor
open Go.RowKit
open Kit (Chg)
open Sha (v)
open Go.Proofs.YtndlihclgdkpaaaGreatDoor.One

theorem neq_piece_same (s:ByteArray) (i:Int) (w:World):(binOp .neq 42 (.agg #[.string s,.int .i64 i]) (.agg #[.string s,.int .i64 i])).run Tryz.prog w= .ok (.bool false) w:=by
 rw [run_neq_struct,show (10000:Nat)=9998+1+1 from rfl,Tryz.eqIn_piece,decide_eq_true rfl,decide_eq_true rfl]
 rfl
set_option maxRecDepth 100000 in
set_option maxHeartbeats 4000000 in
theorem walk_ReceiptReturns (B H:Int) (seed:ByteArray) (hol0 day0 ser0:Int) (al:Option Addr) (cl L:Nat) (ps:List Pr) (w:World) (hLe:ps.length=L) (hL9:L≤9223372036854775807) (hP:PrsAt w al ps) (hL:Laid w):
    Calls Tryz.prog 4 #[.agg #[.int .i64 B,.int .i64 H],.string seed,.int .i64 hol0,.int .i64 day0,.int .i64 ser0,.slice al L cl] w fun e w'=>e= .returned (.bool true)∧Below w.heap.size w w':=by
 obtain ⟨CB,hCB⟩:=ex_eq (cheapB B H)
 have HCB:=hid hCB
 have HL:=hid hL
 have H3:=hid (Laid.low3' hL)
 have HLE:=hid hLe
 have HP:=hid hP
 have HCH:Hid (∀V,Calls Tryz.prog 15 #[.agg #[.int .i64 B,.int .i64 H]] V fun e w'=>e= .returned (.bool CB)∧Below V.heap.size V w'):=hid (fun V=>by
  have h:=cheap_any B H V
  rw [hCB] at h
  exact h)
 clear hL hCB hLe hP hL9
 go_enter Tryz.func4,Tryz.ntmps4
 go_upto_region 1 with fail
 refine wp_over (fun W=>Hid (W.heap[w.heap.size]? =some (.cells #[.int .i64 B,.int .i64 H] 23 (0,0)))∧Hid (Below w.heap.size w W)) ⟨heap_alloc_new _ _,(Below.refl _ _).alloc (Nat.le_refl _) _⟩ ?_
 rintro W ⟨HG,HB⟩
 obtain ⟨N,hN⟩:=ex_eq w.heap.size
 have HN:=hid hN
 rw [hN] at HG ⊢
 clear hN
 have HLT:Hid (N<W.heap.size):=hid (gS HG.o).1
 have HCL:Hid (∀V,Below W.heap.size W V→V.cell? ⟨N,0,none⟩=some (.int .i64 B)∧V.cell? ⟨N,1,none⟩=some (.int .i64 H)):=hid (fun V hb=>row2' ((hb.block N HLT.o).trans HG.o))
 have HAW:=hid (awake43 W (HL.o.low HB.o H3.o) (by have:=HB.o.size;have:=H3.o;omega))
 go_wp2_with fail
 with_reducible refine HAW.o.mono ?_
 rintro e w1 ⟨rfl,hb1⟩
 have Gw1:=hid hb1
 have Hw1:Hid (Below w.heap.size w w1):=hid (HB.o.trans (hb1.mono HB.o.size))
 clear hb1
 obtain ⟨c0,c1x⟩:=HCL.o w1 Gw1.o
 go_wp2_with fail
 with_reducible refine (HCH.o w1).mono ?_
 rintro e w2 ⟨rfl,hb⟩
 have Hw2:Hid (Below w.heap.size w w2):=hid (Hw1.o.trans (hb.mono Hw1.o.size))
 have Gw2:Hid (Below W.heap.size W w2):=hid (Gw1.o.trans (hb.mono Gw1.o.size))
 clear hb c0 c1x
 obtain ⟨c0,c1x⟩:=HCL.o w2 Gw2.o
 cases CB
 ·go_wp2_with fail
  go_ret
  exact ⟨by first | rfl | simp,Hw2.o⟩
 by_cases hs:(seed.size:Int)=32
 rotate_left
 ·have hs': ¬(seed.size:Int)=32:=hs
  go_wp2_with fail
  go_ret
  exact ⟨by first | rfl | simp,Hw2.o⟩
 have HS32:Hid (seed.size=32):=hid (by omega)
 by_cases g1:(12:Int)<(L:Int)
 ·go_wp2_with fail
  go_ret
  exact ⟨by first | rfl | simp,Hw2.o⟩
 have HKL:Hid (L≤12):=hid (by omega)
 obtain ⟨HSV,HT1⟩:=cheapB_sv HCB.o
 obtain ⟨b,t,rfl,rfl,hb0,hb4,ht8⟩:=sv_of HSV
 have HBT:=hid (And.intro hb0 (And.intro hb4 ht8))
 clear HSV HT1 hb0 hb4 ht8 HCB HCH
 go_wp2_with fail
 with_reducible refine (signerNew_ok b t HBT.o.1 HBT.o.2.1 HBT.o.2.2 seed HS32.o w2 (HL.o.low Hw2.o H3.o)).mono ?_
 rintro e w3 ⟨g,pk,rfl,hsg,hb⟩
 have Hw3:Hid (Below w.heap.size w w3):=hid (Hw2.o.trans (hb.mono Hw2.o.size))
 have Gw3:Hid (Below W.heap.size W w3):=hid (Gw2.o.trans (hb.mono Gw2.o.size))
 have HSG:=hid hsg
 have HGB:Hid (W.heap.size≤g∧w.heap.size≤g):=hid (by have:=hsg.base;have:=Gw2.o.size;have:=Hw2.o.size;omega)
 clear hsg hb c0 c1x
 go_wp2_with fail
 with_reducible refine (promises_any al cl L ps HLE.o (by have:=HKL.o;omega) w3 (HP.o.later Hw3.o)).mono ?_
 rintro e w4 ⟨_,rfl,ap4,cp4,rfl,hp4,hb⟩
 have Hw4:Hid (Below w.heap.size w w4):=hid (Hw3.o.trans (hb.mono Hw3.o.size))
 have Gw4:Hid (Below W.heap.size W w4):=hid (Gw3.o.trans (hb.mono Gw3.o.size))
 have HP4:=hid hp4
 have HSG4:=hid (HSG.o.later hb)
 clear hp4 hb HSG
 cases hok:issOk hol0 day0 ser0 L ps with
 | false=>
   have HIB:=hid (issue_bad g hol0 day0 ser0 ap4 cp4 L ps HLE.o (by have:=HKL.o;omega) w4 HP4.o hok)
   clear hok
   go_wp2_with fail
   with_reducible refine HIB.o.mono ?_
   rintro e w5 ⟨rfl,hb⟩
   have Hw5:Hid (Below w.heap.size w w5):=hid (Hw4.o.trans (hb.mono Hw4.o.size))
   have Gw5:Hid (Below W.heap.size W w5):=hid (Gw4.o.trans (hb.mono Gw4.o.size))
   have HSG5:=hid (HSG4.o.later hb)
   clear hb
   go_wp2_with fail
   with_reducible refine (signerNext_any w5 HSG5.o).mono ?_
   rintro e w6 ⟨rfl,hb⟩
   subst hb
   go_wp2_with fail
   go_ret
   exact ⟨by first | rfl | simp,Hw5.o⟩
 | true=>
   have HOK:=hid hok
   have HII:=hid (issue_new HBT.o.1 HBT.o.2.1 HBT.o.2.2 hol0 day0 ser0 ap4 cp4 L ps HLE.o (by have:=HKL.o;omega) (by have:=HGB.o;have:=H3.o;omega) w4 HSG4.o (HL.o.low Hw4.o H3.o) HP4.o hok)
   clear hok
   go_wp2_with fail
   with_reducible refine HII.o.mono ?_
   rintro e w5 ⟨bo,xs,rfl,hbo,hxs,hok,hrow,hsg,hc⟩
   have Hw5:Hid (Below w.heap.size w w5):=hid (Hw4.o.trans (hc.below Hw4.o.size (fun q i hq h=>by have:=HGB.o;have:=h.1;omega)))
   have Gw5:Hid (Below W.heap.size W w5):=hid (Gw4.o.trans (hc.below Gw4.o.size (fun q i hq h=>by have:=HGB.o;have:=h.1;omega)))
   have HXS:=hid hxs
   have HXK:=hid hok
   have HROW:=hid hrow
   have HSG5:=hid hsg
   clear hbo hxs hok hrow hsg hc HII HSG4 HP4
   have hL12:L≤12:=HKL.o
   go_upto_region 14 with fail
   go_loopw [17] (fun z wr=> ∃k:Nat,k≤L∧z= .int .i64 (k:Int)∧Hid (Below w5.heap.size w5 wr)) (fun z _=>L - (intOf z).toNat)
   case atStart=>exact ⟨0,Nat.zero_le _,rfl,hid (Below.refl _ _)⟩
   case round=>
    obtain ⟨k,hk,rfl,HBR⟩:=hrel
    have Hwr:Hid (Below w.heap.size w wr):=hid (Hw5.o.trans (HBR.o.mono Hw5.o.size))
    have Gwr:Hid (Below W.heap.size W wr):=hid (Gw5.o.trans (HBR.o.mono Gw5.o.size))
    by_cases hlt:k<L
    rotate_left
    ·have hki: ¬(k:Int)<(L:Int):=by omega
     go_wp2_with fail
     go_ret
     exact ⟨rfl,Hwr.o⟩
    have hki:(k:Int)<(L:Int):=by omega
    have HXL:Hid (k<xs.length):=hid (by
     have h:=congrArg List.length HXS.o
     rw [List.length_map,List.length_map,List.length_range] at h
     omega)
    have hce:=(HROW.o.cells RcV.len k HXL.o).1
    have HXO:=hid (HXK.o _ (List.getElem_mem HXL.o))
    have HXE:Hid ((xs[k]'HXL.o).r=outP b t (nb seed) 0 hol0.toNat day0.toNat ser0.toNat ps k):=hid (by
     have h:=congrArg (fun l=>l[k]?) HXS.o
     simp only [List.getElem?_map,lE HXL.o,Option.map_some] at h
     rw [List.getElem?_range hlt] at h
     exact Option.some.inj h)
    obtain ⟨x,hx⟩:=ex_eq (xs[k]'HXL.o)
    rw [hx] at hce HXO HXE
    clear hx
    obtain ⟨⟨hol,vlt,str,ix,sz,day,ser,cnt,pl,root,pa,si,pt,sq⟩,ap,c1,aq,c2,ar,c3⟩:=x
    obtain ⟨⟨p1,p2⟩,⟨p3,p4⟩,p5,⟨p6,p7⟩,p8,hgd⟩:=issOk_iff HOK.o
    have hkp:k<ps.length:=by rw [HLE.o];exact hlt
    have hgt:ps.getD k zeroPr=ps[k]:=by rw [lD,lE hkp];rfl
    obtain ⟨bp,op,rfl,hp0,hp1,hp2,hp3⟩:=(HP.o.later Hwr.o).one k hkp
    obtain ⟨p,hpk⟩:=ex_eq (ps[k]'hkp)
    rw [hpk] at hp0 hp1 hp2 hp3 hgt
    obtain rfl:hol=hol0:=by
     have h:=congrArg Rc.hol HXE.o
     have h2:(⟨hol,vlt,str,ix,sz,day,ser,cnt,pl,root,pa,si,pt,sq⟩:Rc).hol=((hol0.toNat:Nat):Int):=h
     exact h2.trans (Int.toNat_of_nonneg p1)
    obtain rfl:day=day0:=by
     have h:=congrArg Rc.day HXE.o
     have h2:day=((day0.toNat:Nat):Int):=h
     exact h2.trans (Int.toNat_of_nonneg p3)
    have hsr:ser=ser0+(k:Int):=by
     have h:=congrArg Rc.ser HXE.o
     have h2:ser=((ser0.toNat+k:Nat):Int):=h
     rw [h2];omega
    obtain rfl:vlt=p.v:=by
     have h:=congrArg Rc.vlt HXE.o
     have h2:vlt=(ps.getD k zeroPr).v:=h
     rw [h2,hgt]
    obtain rfl:str=p.s:=by
     have h:=congrArg Rc.str HXE.o
     have h2:str=(ps.getD k zeroPr).s:=h
     rw [h2,hgt]
    obtain rfl:ix=p.i:=by
     have h:=congrArg Rc.ix HXE.o
     have h2:ix=(ps.getD k zeroPr).i:=h
     rw [h2,hgt]
    obtain rfl:sz=p.z:=by
     have h:=congrArg Rc.sz HXE.o
     have h2:sz=(ps.getD k zeroPr).z:=h
     rw [h2,hgt]
    obtain ⟨n1,e1⟩:=ex_eq pa.length
    obtain ⟨n2,e2⟩:=ex_eq pt.length
    obtain ⟨n3,e3⟩:=ex_eq sq.length
    simp only [RcV.cells] at hce
    rw [e1,e2,e3] at hce
    have HLN:Hid (pa.length=n1∧pt.length=n2∧sq.length=n3):=hid ⟨e1,e2,e3⟩
    have HPC:Hid (∀V,Below wr.heap.size wr V→V.cell? ⟨bp,op+k*4,none⟩=some (.int .i64 p.v)∧V.cell? ⟨bp,op+k*4+1,none⟩=some (.string p.s)∧V.cell? ⟨bp,op+k*4+2,none⟩=some (.int .i64 p.i)∧V.cell? ⟨bp,op+k*4+3,none⟩=some (.int .i64 p.z)):=hid (fun V h=>by
     have f: ∀{ad:Addr} {u:Value},wr.cell? ad=some u→V.cell? ad=some u:=fun hu=>(h.cell (World.block_lt_of_cell? _ _ hu)).trans hu
     exact ⟨f hp0,f hp1,f hp2,f hp3⟩)
    have HXE2:Hid ((⟨hol,p.v,p.s,p.i,p.z,day,ser,cnt,pl,root,pa,si,pt,sq⟩:Rc)=outP b t (nb seed) 0 hol.toNat day.toNat ser0.toNat ps k):=HXE
    have HVX:Hid (ValidR (⟨hol,p.v,p.s,p.i,p.z,day,ser,cnt,pl,root,pa,si,pt,sq⟩:Rc)):=hid (by
     rw [HXE2.o]
     exact outP_valid HBT.o.1 HBT.o.2.2 (nb seed) hkp (by rw [HLE.o];exact p7) (by omega) (by omega) (by rw [HLE.o];omega) (Nat.pos_of_ne_zero (by simp)) hgd)
    have HVY:Hid (verR (b:Int) (t:Int) (nb pk) (⟨hol,p.v,p.s,p.i,p.z,day,ser,cnt,pl,root,pa,si,pt,sq⟩:Rc)=true):=hid (by
     rw [HXE2.o,HSG5.o.pk]
     exact outP_verified HBT.o.1 HBT.o.2.1 HBT.o.2.2 (nb seed) hkp (by rw [HLE.o];exact p7) (by omega) (by omega) (by rw [HLE.o];omega) (Nat.pos_of_ne_zero (by simp)) hgd)
    have hws:IntKind.i64.wrap (ser0+(k:Int))=ser:=by rw [IntKind.wrap_i64,hsr];omega
    have r0:wr.cell? ⟨bo,k*14,none⟩=some (.int .i64 hol):=(HBR.o.cell (World.block_lt_of_cell? _ _ (hce 0 (by decide)))).trans (hce 0 (by decide))
    have r1:wr.cell? ⟨bo,k*14+1,none⟩=some (.int .i64 p.v):=(HBR.o.cell (World.block_lt_of_cell? _ _ (hce 1 (by decide)))).trans (hce 1 (by decide))
    have r2:wr.cell? ⟨bo,k*14+2,none⟩=some (.string p.s):=(HBR.o.cell (World.block_lt_of_cell? _ _ (hce 2 (by decide)))).trans (hce 2 (by decide))
    have r3:wr.cell? ⟨bo,k*14+3,none⟩=some (.int .i64 p.i):=(HBR.o.cell (World.block_lt_of_cell? _ _ (hce 3 (by decide)))).trans (hce 3 (by decide))
    have r4:wr.cell? ⟨bo,k*14+4,none⟩=some (.int .i64 p.z):=(HBR.o.cell (World.block_lt_of_cell? _ _ (hce 4 (by decide)))).trans (hce 4 (by decide))
    have r5:wr.cell? ⟨bo,k*14+5,none⟩=some (.int .i64 day):=(HBR.o.cell (World.block_lt_of_cell? _ _ (hce 5 (by decide)))).trans (hce 5 (by decide))
    have r6:wr.cell? ⟨bo,k*14+6,none⟩=some (.int .i64 ser):=(HBR.o.cell (World.block_lt_of_cell? _ _ (hce 6 (by decide)))).trans (hce 6 (by decide))
    have r7:wr.cell? ⟨bo,k*14+7,none⟩=some (.int .i64 cnt):=(HBR.o.cell (World.block_lt_of_cell? _ _ (hce 7 (by decide)))).trans (hce 7 (by decide))
    have r8:wr.cell? ⟨bo,k*14+8,none⟩=some (.int .i64 pl):=(HBR.o.cell (World.block_lt_of_cell? _ _ (hce 8 (by decide)))).trans (hce 8 (by decide))
    have r9:wr.cell? ⟨bo,k*14+9,none⟩=some (.string root):=(HBR.o.cell (World.block_lt_of_cell? _ _ (hce 9 (by decide)))).trans (hce 9 (by decide))
    have r10:wr.cell? ⟨bo,k*14+10,none⟩=some (.slice ap n1 c1):=(HBR.o.cell (World.block_lt_of_cell? _ _ (hce 10 (by decide)))).trans (hce 10 (by decide))
    have r11:wr.cell? ⟨bo,k*14+11,none⟩=some (.int .i64 si):=(HBR.o.cell (World.block_lt_of_cell? _ _ (hce 11 (by decide)))).trans (hce 11 (by decide))
    have r12:wr.cell? ⟨bo,k*14+12,none⟩=some (.slice aq n2 c2):=(HBR.o.cell (World.block_lt_of_cell? _ _ (hce 12 (by decide)))).trans (hce 12 (by decide))
    have r13:wr.cell? ⟨bo,k*14+13,none⟩=some (.slice ar n3 c3):=(HBR.o.cell (World.block_lt_of_cell? _ _ (hce 13 (by decide)))).trans (hce 13 (by decide))
    clear hce e1 e2 e3 p1 p2 p3 p4 p5 p6 p7 p8 hgd hgt hp0 hp1 hp2 hp3 hpk hsr
    go_upto_region 17 with fail
    refine wp_over (fun X=>Hid (X.heap[wr.heap.size]? =some (.cells #[.int .i64 hol,.int .i64 p.v,.string p.s,.int .i64 p.i,.int .i64 p.z,.int .i64 day,.int .i64 ser,.int .i64 cnt,.int .i64 pl,.string root,.slice ap n1 c1,.int .i64 si,.slice aq n2 c2,.slice ar n3 c3] 47 (0,0)))∧Hid (Below wr.heap.size wr X)) ⟨heap_alloc_new _ _,(Below.refl _ _).alloc (Nat.le_refl _) _⟩ ?_
    rintro X ⟨HGX,HBX⟩
    clear r0 r1 r2 r3 r4 r5 r6 r7 r8 r9 r10 r11 r12 r13
    obtain ⟨rN,hrN⟩:=ex_eq wr.heap.size
    have HRX:Hid (rN<X.heap.size):=hid (by rw [← hrN];exact (gS HGX.o).1)
    have Bx:Hid (Below w5.heap.size w5 X):=hid (HBR.o.trans (HBX.o.mono HBR.o.size))
    have Wx:Hid (Below w.heap.size w X):=hid (Hw5.o.trans (Bx.o.mono Hw5.o.size))
    have Gx:Hid (Below W.heap.size W X):=hid (Gw5.o.trans (Bx.o.mono Gw5.o.size))
    have HCR:Hid (∀V,Below X.heap.size X V→(V.cell? ⟨N,0,none⟩=some (.int .i64 (b:Int))∧V.cell? ⟨N,1,none⟩=some (.int .i64 (t:Int)))∧(V.cell? ⟨bp,op+k*4,none⟩=some (.int .i64 p.v)∧V.cell? ⟨bp,op+k*4+1,none⟩=some (.string p.s)∧V.cell? ⟨bp,op+k*4+2,none⟩=some (.int .i64 p.i)∧V.cell? ⟨bp,op+k*4+3,none⟩=some (.int .i64 p.z))∧V.cell? ⟨rN,0,none⟩=some (.int .i64 hol)∧V.cell? ⟨rN,1,none⟩=some (.int .i64 p.v)∧V.cell? ⟨rN,2,none⟩=some (.string p.s)∧V.cell? ⟨rN,3,none⟩=some (.int .i64 p.i)∧V.cell? ⟨rN,4,none⟩=some (.int .i64 p.z)∧V.cell? ⟨rN,5,none⟩=some (.int .i64 day)∧V.cell? ⟨rN,6,none⟩=some (.int .i64 ser)∧V.cell? ⟨rN,7,none⟩=some (.int .i64 cnt)∧V.cell? ⟨rN,8,none⟩=some (.int .i64 pl)∧V.cell? ⟨rN,9,none⟩=some (.string root)∧V.cell? ⟨rN,10,none⟩=some (.slice ap n1 c1)∧V.cell? ⟨rN,11,none⟩=some (.int .i64 si)∧V.cell? ⟨rN,12,none⟩=some (.slice aq n2 c2)∧V.cell? ⟨rN,13,none⟩=some (.slice ar n3 c3)):=hid (fun V h=>by
     refine ⟨HCL.o V (Gx.o.trans (h.mono Gx.o.size)),HPC.o V (HBX.o.trans (h.mono HBX.o.size)),?_⟩
     rw [← hrN]
     exact row14 ((h.block wr.heap.size (by rw [hrN];exact HRX.o)).trans HGX.o))
    rw [hrN] at HGX ⊢
    clear hrN HBX HPC
    have HOX:Hid (n1<9223372036854775808∧n2<9223372036854775808∧n3<9223372036854775808∧StrsAt X ap pa∧StrsAt X aq pt∧StrsAt X ar sq):=hid (by
     obtain ⟨⟨o1,o2,o3,o4,o5,o6⟩,_⟩:=HXO.o
     have p1:pa.length<9223372036854775808:=o1
     have p2:pt.length<9223372036854775808:=o2
     have p3:sq.length<9223372036854775808:=o3
     have:=HLN.o
     exact ⟨by omega,by omega,by omega,o4.later Bx.o,o5.later Bx.o,o6.later Bx.o⟩)
    have HC1:Hid (n1≤c1):=hid (by have h:=HXO.o.2.2.2.2;have:=HLN.o;simp only at h;omega)
    as_aux_lemma=>
     have HPU:Hid (∀V,Below X.heap.size X V→Calls Tryz.prog 24 #[.pointer (some ⟨g,0,none⟩)] V fun e w'=>e= .returned (.string pk)∧Below V.heap.size V w'):=hid (fun V hb=>by
      refine (signerPublic_any V ((HSG5.o.later Bx.o).later hb)).mono ?_
      rintro e w' ⟨rfl,rfl⟩
      exact ⟨rfl,Below.refl _ _⟩)
     have HLV:Hid (∀V,Below X.heap.size X V→Laid V):=hid (fun V hb=>HL.o.low (Wx.o.trans (hb.mono Wx.o.size)) H3.o)
     have HVF:Hid (∀V,Below X.heap.size X V→Calls Tryz.prog 23 #[.string pk,.agg #[.int .i64 (b:Int),.int .i64 (t:Int)],.agg #[.int .i64 hol,.int .i64 p.v,.string p.s,.int .i64 p.i,.int .i64 p.z,.int .i64 day,.int .i64 ser,.int .i64 cnt,.int .i64 pl,.string root,.slice ap n1 c1,.int .i64 si,.slice aq n2 c2,.slice ar n3 c3]] V fun e w'=>e= .returned (.bool true)∧Below V.heap.size V w'):=hid (fun V hb=>by
      have h:=receiptVerify_any pk (b:Int) (t:Int) hol p.v p.s p.i p.z day ser cnt pl root ap n1 c1 si aq n2 c2 ar n3 c3 pa pt sq V HLN.o.1 HOX.o.1 (HOX.o.2.2.2.1.later hb) HLN.o.2.1 HOX.o.2.1 (HOX.o.2.2.2.2.1.later hb) HLN.o.2.2 HOX.o.2.2.1 (HOX.o.2.2.2.2.2.later hb) HC1.o (HLV.o V hb)
      rwa [HVY.o] at h)
     have hnp:=neq_piece_same p.s p.i
     go_upto_region 17 with fail
     have HDX:Hid (Below X.heap.size X X.drew):=hid (Below.refl _ _).drew
     obtain ⟨VD,hVD⟩:=ex_eq X.drew
     rw [hVD] at HDX
     refine Kit.wp_region_gplan (fun V=>(V.cell? ⟨N,0,none⟩=some (.int .i64 (b:Int))∧V.cell? ⟨N,1,none⟩=some (.int .i64 (t:Int)))∧(V.cell? ⟨bp,op+k*4,none⟩=some (.int .i64 p.v)∧V.cell? ⟨bp,op+k*4+1,none⟩=some (.string p.s)∧V.cell? ⟨bp,op+k*4+2,none⟩=some (.int .i64 p.i)∧V.cell? ⟨bp,op+k*4+3,none⟩=some (.int .i64 p.z))∧V.cell? ⟨rN,0,none⟩=some (.int .i64 hol)∧V.cell? ⟨rN,1,none⟩=some (.int .i64 p.v)∧V.cell? ⟨rN,2,none⟩=some (.string p.s)∧V.cell? ⟨rN,3,none⟩=some (.int .i64 p.i)∧V.cell? ⟨rN,4,none⟩=some (.int .i64 p.z)∧V.cell? ⟨rN,5,none⟩=some (.int .i64 day)∧V.cell? ⟨rN,6,none⟩=some (.int .i64 ser)∧V.cell? ⟨rN,7,none⟩=some (.int .i64 cnt)∧V.cell? ⟨rN,8,none⟩=some (.int .i64 pl)∧V.cell? ⟨rN,9,none⟩=some (.string root)∧V.cell? ⟨rN,10,none⟩=some (.slice ap n1 c1)∧V.cell? ⟨rN,11,none⟩=some (.int .i64 si)∧V.cell? ⟨rN,12,none⟩=some (.slice aq n2 c2)∧V.cell? ⟨rN,13,none⟩=some (.slice ar n3 c3)) [(true,0),(true,2),(true,3),(false,1),(false,4),(true,5),(true,6),(true,7),(true,8),(true,9),(true,10),(true,11),(true,12),(true,13),(true,14),(true,15),(true,16),(true,17),(true,18),(true,19),(true,20),(true,21),(true,22),(true,23),(true,24),(true,25),(true,26),(true,27),(true,28),(true,29),(true,30),(true,31),(true,32),(true,33),(true,34),(true,35),(true,36),(true,37),(true,38),(true,39),(true,40),(true,41),(true,42),(true,43),(true,44),(true,45),(true,46),(true,47),(true,48),(true,49),(true,50),(true,51),(true,52),(true,53),(true,54),(true,55)] (by kernel_rfl) (by kernel_rfl) (by kernel_rfl) (by kernel_rfl) (by rw [hVD];exact HCR.o _ HDX.o) ?_
     rw [hVD]
     clear hVD
     iterate 3 (refine Kit.ghd (h:= ?_))
     refine Kit.gplan_op (by rfl) (by rfl) fun K' hK'=> ?_
     go_simp
     go_at_call 24
     with_reducible refine (HPU.o _ HDX.o).mono ?_
     rintro e v1 ⟨rfl,hb⟩
     have HV1:Hid (Below X.heap.size X v1):=hid (HDX.o.trans (hb.mono HDX.o.size))
     clear hb
     refine hK' _ _ (HCR.o _ HV1.o) ?_
     clear hK' K'
     refine Kit.gplan_op (by rfl) (by rfl) fun K' hK'=> ?_
     go_simp
     go_at_call 23
     with_reducible refine (HVF.o _ HV1.o).mono ?_
     rintro e v2 ⟨rfl,hb⟩
     have HV2:Hid (Below X.heap.size X v2):=hid (HV1.o.trans (hb.mono HV1.o.size))
     clear hb
     refine hK' _ _ (HCR.o _ HV2.o) ?_
     clear hK' K'
     iterate 51 (refine Kit.ghd (h:= ?_))
     refine Kit.gdn (h:=?_)
     clear HPU HVF HV1 HDX
     obtain ⟨_,_,r0,r1,r2,r3,r4,r5,r6,r7,r8,r9,r10,r11,r12,r13⟩:=HCR.o _ HV2.o
     have HEN:=hid (encodeR_ok hol p.v p.s p.i p.z day ser cnt pl root ap n1 c1 si aq n2 c2 ar n3 c3 pa pt sq v2 HLN.o.1 HOX.o.1 (HOX.o.2.2.2.1.later HV2.o) HLN.o.2.1 HOX.o.2.1 (HOX.o.2.2.2.2.1.later HV2.o) HLN.o.2.2 HOX.o.2.2.1 (HOX.o.2.2.2.2.2.later HV2.o) HVX.o _ rfl)
     obtain ⟨T,hT⟩:=ex_eq (encR (⟨hol,p.v,p.s,p.i,p.z,day,ser,cnt,pl,root,pa,si,pt,sq⟩:Rc))
     have HT:=hid hT
     rw [hT] at HEN
     clear hT
     have HTL:Hid (T.length≤10000000):=hid (by rw [← HT.o];have:=encR_len HVX.o;omega)
     obtain ⟨q,hq,hr⟩:=rdAll_enc (⟨hol,p.v,p.s,p.i,p.z,day,ser,cnt,pl,root,pa,si,pt,sq⟩:Rc) HVX.o
     rw [HT.o] at hq
     have HQ:Hid ((rdAll (some T)).2=some []∧rcOf (rdAll (some T)).1=(⟨hol,p.v,p.s,p.i,p.z,day,ser,cnt,pl,root,pa,si,pt,sq⟩:Rc)):=hid (by rw [hq];exact ⟨rfl,hr⟩)
     clear hq hr
     go_upto_region 20 with (first
      | (go_at_call 25
         (with_reducible refine HEN.o.mono ?_)
         rintro e v3 ⟨ax,LL,cap,rfl,hL3,hc3,hb3,hn3,hg3,h3⟩
         have HL3:=hid hL3
         have HB3:=hid hb3
         have HN3:=hid hn3
         have HV3:Hid (Below X.heap.size X v3):=hid (HV2.o.trans (h3.mono HV2.o.size))
         clear hL3 hc3 hb3 hn3 hg3 h3 r0 r1 r2 r3 r4 r5 r6 r7 r8 r9 r10 r11 r12 r13))
     have HDE:=hid (decodeR_any ax LL cap T HL3.o (by have:=HL3.o;have:=HTL.o;omega) HN3.o v3 HB3.o)
     go_upto_region 21 with fail
     go_at_call 26
     with_reducible refine HDE.o.mono ?_
     rintro e v4 ⟨hout,h4⟩
     have HV4:Hid (Below X.heap.size X v4):=hid (HV3.o.trans (h4.mono HV3.o.size))
     clear h4
     rcases hout with ⟨_,_,⟨xr,a6,d6,a7,d7,a8,d8⟩,hx,hok,he⟩ | ⟨hno,_⟩
     rotate_left
     ·exact absurd ⟨HQ.o.1,by rw [HQ.o.2];exact validR_iff.2 HVX.o⟩ hno
     have hx2:xr=(⟨hol,p.v,p.s,p.i,p.z,day,ser,cnt,pl,root,pa,si,pt,sq⟩:Rc):=Eq.trans hx HQ.o.2
     clear hx
     subst hx2
     simp only [RcV.cells,HLN.o.1,HLN.o.2.1,HLN.o.2.2] at he
     subst he
     have HOK4:=hid hok
     clear hok HEN HDE HB3
     go_upto_region 21 with fail
     refine wp_over (fun V=>Hid (V.heap[v4.heap.size]? =some (.cells #[.int .i64 hol,.int .i64 p.v,.string p.s,.int .i64 p.i,.int .i64 p.z,.int .i64 day,.int .i64 ser,.int .i64 cnt,.int .i64 pl,.string root,.slice a6 n1 d6,.int .i64 si,.slice a7 n2 d7,.slice a8 n3 d8] 47 (0,0)))∧Hid (Below v4.heap.size v4 V)) ⟨heap_alloc_new _ _,(Below.refl _ _).alloc (Nat.le_refl _) _⟩ ?_
     rintro V5 ⟨HG5,HB5⟩
     have HV5:Hid (Below X.heap.size X V5):=hid (HV4.o.trans (HB5.o.mono HV4.o.size))
     have HOK5:=hid (HOK4.o.later HB5.o)
     obtain ⟨rM,hrM⟩:=ex_eq v4.heap.size
     rw [hrM] at HG5 ⊢
     clear hrM HB5 HOK4
     have HON:Hid (n1≤1000000∧n2≤1000000∧n3≤1000000∧StrsAt V5 a6 pa∧StrsAt V5 a7 pt∧StrsAt V5 a8 sq):=hid (by
      obtain ⟨_,_,_,o4,o5,o6⟩:=HOK5.o
      have h1:=HVX.o.pn
      have h2:=HVX.o.an
      have h3:=HVX.o.qn
      have h:=HLN.o
      simp only at h1 h2 h3
      exact ⟨by omega,by omega,by omega,o4,o5,o6⟩)
     have HSM:Hid (Calls Tryz.prog 27 #[.agg #[.int .i64 hol,.int .i64 p.v,.string p.s,.int .i64 p.i,.int .i64 p.z,.int .i64 day,.int .i64 ser,.int .i64 cnt,.int .i64 pl,.string root,.slice a6 n1 d6,.int .i64 si,.slice a7 n2 d7,.slice a8 n3 d8],.agg #[.int .i64 hol,.int .i64 p.v,.string p.s,.int .i64 p.i,.int .i64 p.z,.int .i64 day,.int .i64 ser,.int .i64 cnt,.int .i64 pl,.string root,.slice ap n1 c1,.int .i64 si,.slice aq n2 c2,.slice ar n3 c3]] V5 fun e w'=>e= .returned (.bool true)∧Below V5.heap.size V5 w'):=hid (by
      have h:=refSame43_any hol p.v p.s p.i p.z day ser cnt pl root a6 n1 d6 si a7 n2 d7 a8 n3 d8 pa pt sq hol p.v p.s p.i p.z day ser cnt pl root ap n1 c1 si aq n2 c2 ar n3 c3 pa pt sq V5 HLN.o.1 (by have:=HON.o;omega) HON.o.2.2.2.1 HLN.o.2.1 (by have:=HON.o;omega) HON.o.2.2.2.2.1 HLN.o.2.2 (by have:=HON.o;omega) HON.o.2.2.2.2.2 HLN.o.1 HOX.o.1 (HOX.o.2.2.2.1.later HV5.o) HLN.o.2.1 HOX.o.2.1 (HOX.o.2.2.2.2.1.later HV5.o) HLN.o.2.2 HOX.o.2.2.1 (HOX.o.2.2.2.2.2.later HV5.o) HON.o.1 HON.o.2.1 HON.o.2.2.1
      rwa [sameR_iff.2 rfl] at h)
     obtain ⟨_,_,r0,r1,r2,r3,r4,r5,r6,r7,r8,r9,r10,r11,r12,r13⟩:=HCR.o _ HV5.o
     obtain ⟨m0,m1,m2,m3,m4,m5,m6,m7,m8,m9,m10,m11,m12,m13⟩:=row14 HG5.o
     go_upto_region 15 with (first
      | (go_at_call 27
         (with_reducible refine HSM.o.mono ?_)
         rintro e v6 ⟨rfl,h6⟩
         have HV6:Hid (Below X.heap.size X v6):=hid (HV5.o.trans (h6.mono HV5.o.size))
         clear h6 r0 m0 r1 m1 r2 m2 r3 m3 r4 m4 r5 m5 r6 m6 r7 m7 r8 m8 r9 m9 r10 m10 r11 m11 r12 m12 r13 m13))
     go_wp2_with fail
     go_roundw
     case rel=>exact ⟨k+1,hlt,by go_num,hid (Bx.o.trans (HV6.o.mono Bx.o.size))⟩
     case measure=>simp [intOf];omega
end Go.Proofs.YtndlihclgdkpaaaGreatDoor
