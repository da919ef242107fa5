/- The document's Path and Sign of a signer. -/
import Derived.Test.YtndlihclgdkpaaaGreatDoorGd
import Derived.Test.YtndlihclgdkpaaaGreatDoorGf
import Derived.Test.YtndlihclgdkpaaaGreatDoorRpt
set_option linter.unusedVariables false
set_option linter.unusedSimpArgs false
open Go.Lib (hid)
set_option maxHeartbeats 2000000
namespace Go.Proofs.YtndlihclgdkpaaaGreatDoor
open Go.RowKit
open Kit (Chg)
open Sha (v)
open Go.Proofs.YtndlihclgdkpaaaGreatDoor.One

theorem refPath_ok (h:Nat) (hh:h≤8) (a:Option Addr) (cap L:Nat) (ss:List ByteArray) (hLe:ss.length=L) (hP:2 ^ h=L) (hcap:L≤cap) (h32: ∀s ∈ ss,s.size=32) (i:Nat) (hi:i<L) (w:World) (hS:StrsAt w a ss):
    Calls Tryz.prog 100 #[.slice a L cap,.int .i64 (i:Int)] w fun e w'=> ∃(x:Value) (n:Nat) (vs:List ByteArray),e= .returned (.tuple #[x,.int .i64 0])∧n=h∧vs.map nb=Mrk.path h i (ss.map nb)∧w'.ownsRow w.heap.size 9 1 x n (strV vs)∧(∀s ∈ vs,s.size=32)∧Below w.heap.size w w':=by
 have HPI:=hid (refPathI_ok h hh a cap L ss hLe hP hcap h32 i hi w hS)
 have h1: ¬(i:Int)<0:=by omega
 have h2: ¬(L:Int)≤(i:Int):=by omega
 clear hLe hP hcap h32 hi hS
 go_enter Tryz.func100,Tryz.ntmps100
 go_wp2_with (first
  | (go_at_call 197
     (refine HPI.o.mono ?_)
     rintro e w2 ⟨x2,n2,vs,rfl,hn2,hv2,ho2,hz2,h2⟩
     have HN2:=hid hn2
     have HV2:=hid hv2
     have HO2:=hid ho2
     have HZ2:=hid hz2
     have H2:=hid h2
     clear hn2 hv2 ho2 hz2 h2))
 go_ret2
 exact ⟨_,_,vs,rfl,HN2.o,HV2.o,HO2.o,HZ2.o,H2.o⟩
set_option maxRecDepth 100000 in
theorem refSigSign_ok (b t i:Nat) (hB:Bits b) (ht:t≤8) (hi:i<2 ^ t) (seed:ByteArray) (hs:seed.size=32) (dg:ByteArray) (hd:dg.size=32) (w:World):
    Calls Tryz.prog 98 #[.agg #[.int .i64 (b:Int),.int .i64 (t:Int)],.string seed,.string dg,.int .i64 (i:Int)] w fun e w'=> ∃x ps qs,e= .returned x∧SigAt w' x i ps qs∧ps.map nb=sigParts b (nb seed) i (nb dg)∧qs.map nb=sigPath b (nb seed) t i∧Below w.heap.size w w':=by
 have hP8:2 ^ t≤256:=Nat.pow_le_pow_right (n:=2) (by decide) ht
 have HLV:=hid (fun w=>refLeaves_ok b t hB ht seed hs w)
 have HPT:=hid (fun a cap L ss h1 h2 h3 h4 hi w hS=>refPath_ok t ht a cap L ss h1 h2 h3 h4 i hi w hS)
 have HKS:=hid (fun w=>refKeySeed_ok seed hs i (by omega) w)
 have HSN:=hid (fun (u:ByteArray) hu w=>by
  have h:=refSign_ok b dg hB (by rw [hd];decide) (by rw [hd];decide) u hu w
  rw [hd] at h
  exact h)
 have HI:=hid hi
 clear hB hs hd hi hP8
 go_enter Tryz.func98,Tryz.ntmps98
 go_upto_region 1 with fail
 refine wp_over (fun W=>Hid (W.heap[w.heap.size]? =some (.cells #[.int .i64 (b:Int),.int .i64 (t:Int)] 23 (0,0)))∧Hid (W.heap[w.heap.size+1]? =some (.cells #[.int .i64 0,.slice none 0 0,.slice none 0 0] 45 (0,0)))∧Hid (Below w.heap.size w W)∧Hid (W.heap.size=w.heap.size+2)) ⟨?_,?_,?_,?_⟩ ?_
 ·exact (Below.heap_alloc _ _ _ (by simp)).trans (heap_alloc_new _ _)
 ·have h:=heap_alloc_new (w.alloc (.cells #[.int .i64 (b:Int),.int .i64 (t:Int)] 23)) (.cells #[.int .i64 0,.slice none 0 0,.slice none 0 0] 45)
  rwa [World.size_alloc] at h
 ·exact ((Below.refl _ _).alloc (Nat.le_refl _) _).alloc (by simp) _
 ·show _=_
  simp
 rintro W ⟨HG1,HG2,HB,HWN⟩
 obtain ⟨N,hN⟩:=ex_eq w.heap.size
 rw [hN] at HG1 HG2 HB HWN ⊢
 have HN:=hid hN
 clear hN
 have HCE:Hid (∀V,Below (N+2) W V→V.cell? ⟨N,0,none⟩=some (.int .i64 (b:Int))∧V.cell? ⟨N,1,none⟩=some (.int .i64 (t:Int))):=hid (fun V h=>by
  have e1:=(h.block N (by omega)).trans HG1.o
  exact ⟨cr e1,cr e1⟩)
 have HRO:Hid (∀V,Below (N+2) W V→V.heap[N+1]? =some (.cells #[.int .i64 0,.slice none 0 0,.slice none 0 0] 45 (0,0))):=hid (fun V h=>(h.block (N+1) (by omega)).trans HG2.o)
 have HST:Hid (∀V V',Below (N+2) W V→Below V.heap.size V V'→Below (N+2) W V'):=hid (fun V V' h h'=>h.trans (h'.mono (by have:=h.size;have:=HWN.o;omega)))
 have HEND:Hid (∀V,Below (N+2) W V→Below w.heap.size w V):=hid (fun V h=>by rw [HN.o];exact HB.o.trans (h.mono (by omega)))
 have HR0:Hid (Below (N+2) W W):=hid (Below.refl _ _)
 obtain ⟨f0,f1⟩:=HCE.o _ HR0.o
 go_upto_region 2 with (first
  | (go_at_call 193
     (refine (HLV.o _).mono ?_)
     rintro e w2 ⟨x2,n2,vs,rfl,hn2,hv2,ho2,hz2,h2⟩
     obtain ⟨a2,cp2,rfl,hl2,hc2,hS2,_,_⟩:=strs_of_own ho2
     have HN2:=hid hn2
     have HV2:=hid hv2
     have HZ2:=hid hz2
     have HL2:=hid hl2
     have HC2:Hid (n2≤cp2):=hid (by rw [← hl2];exact hc2)
     have HS2:=hid hS2
     have H2:=hid (HST.o _ _ HR0.o h2)
     clear hn2 hv2 hz2 hl2 hc2 hS2 h2 ho2)
  | (go_at_call 100
     (refine (HPT.o a2 cp2 n2 vs HL2.o HN2.o.symm HC2.o HZ2.o (by rw [HN2.o];exact HI.o) _ HS2.o).mono ?_)
     rintro e w3 ⟨x3,n3,qs,rfl,hn3,hv3,ho3,hz3,h3⟩
     obtain ⟨a3,cp3,rfl,hl3,hc3,hS3,_,_⟩:=strs_of_own ho3
     have HL3:=hid hl3
     have HS3:=hid hS3
     have HV3:Hid (qs.map nb=sigPath b (nb seed) t i):=hid (by rw [hv3,HV2.o];rfl)
     have H3:=hid (HST.o _ _ H2.o h3)
     clear hn3 hv3 ho3 hz3 h3 hl3 hc3 hS3))
 clear f0 f1
 obtain ⟨f0,f1⟩:=HCE.o _ H3.o
 go_upto_region 3 with (first
  | (go_at_call 195
     (refine (refParams_any (b:Int) (t:Int) _).mono ?_)
     rintro e w4 ⟨rfl,h4⟩
     have H4:=hid (HST.o _ _ H3.o h4)
     have HS4:=hid (HS3.o.later h4)
     clear h4 f0 f1)
  | (go_at_call 196
     (refine (HKS.o _).mono ?_)
     rintro e w5 ⟨u5,rfl,hu5,hz5,h5⟩
     have HU5:=hid hu5
     have HZ5:=hid hz5
     have H5:=hid (HST.o _ _ H4.o h5)
     have HS5:=hid (HS4.o.later h5)
     clear hu5 hz5 h5)
  | (go_at_call 194
     (refine (HSN.o u5 HZ5.o _).mono ?_)
     rintro e w6 ⟨x6,n6,ps,rfl,hn6,hv6,ho6,h6⟩
     obtain ⟨a6,cp6,rfl,hl6,hc6,hS6,_,_⟩:=strs_of_own ho6
     have HL6:=hid hl6
     have HP6:=hid hS6
     have HV6:Hid (ps.map nb=sigParts b (nb seed) i (nb dg)):=hid (by rw [hv6,HU5.o];rfl)
     have H6:=hid (HST.o _ _ H5.o h6)
     have HS6:=hid (HS5.o.later h6)
     have HR6:=hid (HRO.o _ H6.o)
     obtain ⟨r0,r1,r2⟩:w6.cell? ⟨N+1,0,none⟩=some (.int .i64 0)∧w6.cell? ⟨N+1,1,none⟩=some (.slice none 0 0)∧w6.cell? ⟨N+1,2,none⟩=some (.slice none 0 0):=
      ⟨cr HR6.o,cr HR6.o,cr HR6.o⟩
     have rf: ∀i,w6.frozen? ⟨N+1,i,none⟩=false:=fun i=>frozen_of_row _ _ _ _ _ HR6.o
     clear hn6 hv6 ho6 h6 hl6 hc6 hS6))
 go_wp2_with fail
 have HR:=row3 (x0:= .int .i64 (i:Int)) (x1:= .slice a6 n6 cp6) (x2:= .slice a3 n3 cp3) HR6.o
 refine bodyPost_ret (results_cell_row (p:=8) rfl _ _ (N+1) 45 _ (0,0) _ (by rfl) HR Tryz.underlying45 rfl (by kernel_rfl)) rfl ⟨_,ps,qs,rfl,⟨_,_,_,_,_,_,rfl,HL6.o,strs3 HP6.o HR6.o,HL3.o,strs3 HS6.o HR6.o⟩,HV6.o,HV3.o,below3 (HEND.o _ H6.o) (by rw [HN.o];omega)⟩
end Go.Proofs.YtndlihclgdkpaaaGreatDoor
