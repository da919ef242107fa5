/- receipt: Verify. -/
import Derived.Test.YtndlihclgdkpaaaGreatDoorGf
import Derived.Test.YtndlihclgdkpaaaGreatDoorQct
import Derived.Test.YtndlihclgdkpaaaGreatDoorQen
import Derived.Test.YtndlihclgdkpaaaGreatDoorQmv
set_option linter.unusedVariables false
set_option linter.unusedSimpArgs false
open Go.Lib (hid)
namespace Go.Proofs.YtndlihclgdkpaaaGreatDoor
open Go.RowKit
open Kit (Chg)
open Sha (v)
open Go.Proofs.YtndlihclgdkpaaaGreatDoor.One

def verR (B H:Int) (pk:List Nat) (r:Rc):Bool:=validR r && (decide (Mrk.climbM (leafR r) r.pl.toNat r.cnt.toNat (r.path.map nb)=some (nb r.root)) && decide (SigAcc B H pk (batchR (nb r.root) r.cnt.toNat) r.si (r.parts.map nb) (r.sp.map nb)))
set_option maxRecDepth 100000 in
set_option maxHeartbeats 4000000 in
theorem receiptVerify_any (pk:ByteArray) (B H:Int) (hol vlt:Int) (str:ByteArray) (ix sz day ser cnt pl:Int) (root:ByteArray) (ap:Option Addr) (n1 c1:Nat) (si:Int) (aq:Option Addr) (n2 c2:Nat) (ar:Option Addr) (n3 c3:Nat) (pa pt sq:List ByteArray) (w:World) (h1:pa.length=n1) (k1:n1<9223372036854775808) (s1:StrsAt w ap pa) (h2:pt.length=n2) (k2:n2<9223372036854775808) (s2:StrsAt w aq pt) (h3:sq.length=n3) (k3:n3<9223372036854775808) (s3:StrsAt w ar sq) (hc1:n1≤c1) (hLd:Laid w):Calls Tryz.prog 23 #[.string pk,.agg #[.int .i64 B,.int .i64 H],.agg #[.int .i64 hol,.int .i64 vlt,.string str,.int .i64 ix,.int .i64 sz,.int .i64 day,.int .i64 ser,.int .i64 cnt,.int .i64 pl,.string root,.slice ap n1 c1,.int .i64 si,.slice aq n2 c2,.slice ar n3 c3]] w fun e w'=>e= .returned (.bool (verR B H (nb pk) ⟨hol,vlt,str,ix,sz,day,ser,cnt,pl,root,pa,si,pt,sq⟩))∧Below w.heap.size w w':=by
 obtain ⟨VA,hVA⟩:=ex_eq (validR ⟨hol,vlt,str,ix,sz,day,ser,cnt,pl,root,pa,si,pt,sq⟩)
 have HVA:Hid (∀V,Below w.heap.size w V→Calls Tryz.prog 101 #[.agg #[.int .i64 hol,.int .i64 vlt,.string str,.int .i64 ix,.int .i64 sz,.int .i64 day,.int .i64 ser,.int .i64 cnt,.int .i64 pl,.string root,.slice ap n1 c1,.int .i64 si,.slice aq n2 c2,.slice ar n3 c3]] V fun e w'=>e= .returned (.bool VA)∧Below V.heap.size V w'):=hid (fun V h=>by
  have h0:=validR_any hol vlt str ix sz day ser cnt pl root ap n1 c1 si aq n2 c2 ar n3 c3 pa pt sq V h1 k1 (s1.later h) h2 k2 (s2.later h) h3 k3 (s3.later h)
  rw [hVA] at h0
  exact h0)
 obtain ⟨D1,hD1⟩:=ex_eq (decide (Mrk.climbM (leafR ⟨hol,vlt,str,ix,sz,day,ser,cnt,pl,root,pa,si,pt,sq⟩) pl.toNat cnt.toNat (pa.map nb)=some (nb root)))
 obtain ⟨D2,hD2⟩:=ex_eq (decide (SigAcc B H (nb pk) (batchR (nb root) cnt.toNat) si (pt.map nb) (sq.map nb)))
 have HF0:Hid (verR B H (nb pk) ⟨hol,vlt,str,ix,sz,day,ser,cnt,pl,root,pa,si,pt,sq⟩=(VA && (D1 && D2))):=hid (by
  unfold verR
  rw [hVA,← hD1,← hD2])
 have HVT:Hid (VA=true→ValidR ⟨hol,vlt,str,ix,sz,day,ser,cnt,pl,root,pa,si,pt,sq⟩):=hid (fun h=>validR_iff.1 (by rw [hVA,h]))
 have HD1:=hid hD1
 have HD2:=hid hD2
 obtain ⟨F,hF⟩:=ex_eq (verR B H (nb pk) ⟨hol,vlt,str,ix,sz,day,ser,cnt,pl,root,pa,si,pt,sq⟩)
 rw [hF] at HF0 ⊢
 have HH1:=hid h1
 have HH2:=hid h2
 have HH3:=hid h3
 have HK1:=hid k1
 have HK2:=hid k2
 have HK3:=hid k3
 have HS1:=hid s1
 have HS2:=hid s2
 have HS3:=hid s3
 have HC1:=hid hc1
 have HLD:=hid hLd
 clear hF hVA hD1 hD2 hc1 hLd h1 h2 h3 k1 k2 k3 s1 s2 s3
 go_enter Tryz.func23,Tryz.ntmps23
 go_upto_region 1 with fail
 refine wp_over (fun W=>Hid (W.heap[w.heap.size]? =some (.cells #[.int .i64 B,.int .i64 H] 23 (0,0)))∧Hid (W.heap[w.heap.size+1]? =some (.cells #[.int .i64 hol,.int .i64 vlt,.string str,.int .i64 ix,.int .i64 sz,.int .i64 day,.int .i64 ser,.int .i64 cnt,.int .i64 pl,.string root,.slice ap n1 c1,.int .i64 si,.slice aq n2 c2,.slice ar n3 c3] 47 (0,0)))∧Hid (Below w.heap.size w W)∧Hid (W.heap.size=w.heap.size+2)) ⟨two_rows1,two_rows2,two_below,two_size⟩ ?_
 rintro W ⟨HG,HG2,HB,HWS⟩
 have HBW0:Hid (∀V,Below (w.heap.size+1+1) W V→Below w.heap.size w V):=hid (fun V h=>HB.o.trans (h.mono (by omega)))
 obtain ⟨N,hN⟩:=ex_eq w.heap.size
 obtain ⟨N1,hN1⟩:=ex_eq (w.heap.size+1)
 have HBW:Hid (∀V,Below (N1+1) W V→Below w.heap.size w V):=hid (fun V h=>HBW0.o V (by rw [hN1];exact h))
 have HNN:Hid (N1=N+1):=hid (by omega)
 have HWS:Hid (W.heap.size=N1+1):=hid (by have:=HWS.o;omega)
 rw [hN1] at HG2 ⊢
 rw [hN] at HG HB ⊢
 clear hN hN1 HBW0
 have HCC:Hid (∀V,Below (N1+1) W V→(V.cell? ⟨N,0,none⟩=some (.int .i64 B)∧V.cell? ⟨N,1,none⟩=some (.int .i64 H))∧V.cell? ⟨N1,0,none⟩=some (.int .i64 hol)∧V.cell? ⟨N1,1,none⟩=some (.int .i64 vlt)∧V.cell? ⟨N1,2,none⟩=some (.string str)∧V.cell? ⟨N1,3,none⟩=some (.int .i64 ix)∧V.cell? ⟨N1,4,none⟩=some (.int .i64 sz)∧V.cell? ⟨N1,5,none⟩=some (.int .i64 day)∧V.cell? ⟨N1,6,none⟩=some (.int .i64 ser)∧V.cell? ⟨N1,7,none⟩=some (.int .i64 cnt)∧V.cell? ⟨N1,8,none⟩=some (.int .i64 pl)∧V.cell? ⟨N1,9,none⟩=some (.string root)∧V.cell? ⟨N1,10,none⟩=some (.slice ap n1 c1)∧V.cell? ⟨N1,11,none⟩=some (.int .i64 si)∧V.cell? ⟨N1,12,none⟩=some (.slice aq n2 c2)∧V.cell? ⟨N1,13,none⟩=some (.slice ar n3 c3)):=hid (fun V h=>by
  have hr:=(h.block N (by have:=HNN.o;omega)).trans HG.o
  exact ⟨⟨cr hr,cr hr⟩,row14 ((h.block N1 (Nat.lt_succ_self _)).trans HG2.o)⟩)
 have HST:Hid (∀V V',Below (N1+1) W V→Below V.heap.size V V'→Below (N1+1) W V'):=hid (fun V V' h h'=>h.trans (h'.mono (by have:=h.size;have:=HWS.o;omega)))
 have HDR:Hid (Below (N1+1) W W.drew):=hid (Below.refl _ _).drew
 clear HG HG2 HB
 obtain ⟨VD,hVD⟩:=ex_eq W.drew
 rw [hVD] at HDR
 cases VA
 ·have HF:Hid (F=false):=hid (by rw [HF0.o];rfl)
  refine Kit.wp_region_hplan (fun V=>(V.cell? ⟨N,0,none⟩=some (.int .i64 B)∧V.cell? ⟨N,1,none⟩=some (.int .i64 H))∧V.cell? ⟨N1,0,none⟩=some (.int .i64 hol)∧V.cell? ⟨N1,1,none⟩=some (.int .i64 vlt)∧V.cell? ⟨N1,2,none⟩=some (.string str)∧V.cell? ⟨N1,3,none⟩=some (.int .i64 ix)∧V.cell? ⟨N1,4,none⟩=some (.int .i64 sz)∧V.cell? ⟨N1,5,none⟩=some (.int .i64 day)∧V.cell? ⟨N1,6,none⟩=some (.int .i64 ser)∧V.cell? ⟨N1,7,none⟩=some (.int .i64 cnt)∧V.cell? ⟨N1,8,none⟩=some (.int .i64 pl)∧V.cell? ⟨N1,9,none⟩=some (.string root)∧V.cell? ⟨N1,10,none⟩=some (.slice ap n1 c1)∧V.cell? ⟨N1,11,none⟩=some (.int .i64 si)∧V.cell? ⟨N1,12,none⟩=some (.slice aq n2 c2)∧V.cell? ⟨N1,13,none⟩=some (.slice ar n3 c3)) [(true,0),(false,1),(true,2),(true,3),(true,5),(true,6),(true,7),(true,8),(true,9),(true,10),(true,11),(true,12),(false,4),(false,13),(true,14),(true,15),(true,16),(true,17),(true,18),(true,19),(true,20),(true,21),(true,23),(true,24),(false,22),(false,25),(true,26),(true,27)] (by kernel_rfl) (by kernel_rfl) (by kernel_rfl) (by kernel_rfl) (by rw [hVD];exact HCC.o _ HDR.o) ?_
  rw [hVD]
  clear hVD
  iterate 1 (refine Kit.hhd (h:= ?_))
  refine Kit.hplan_op (by rfl) (by rfl) fun K hK=> ?_
  go_simp
  go_at_call 101
  with_reducible refine (HVA.o _ (HBW.o _ HDR.o)).mono ?_
  rintro e w2 ⟨rfl,h2⟩
  have H1:Hid (Below (N1+1) W w2):=hid (HST.o _ _ HDR.o h2)
  clear h2
  refine hK _ _ (HCC.o _ H1.o) ?_
  clear hK K
  iterate 10 (refine Kit.hhd (h:= ?_))
  refine Kit.hsk (h:=?_)
  refine Kit.hsk (h:=?_)
  iterate 10 (refine Kit.hhd (h:= ?_))
  refine Kit.hsk (h:=?_)
  refine Kit.hsk (h:=?_)
  iterate 2 (refine Kit.hhd (h:= ?_))
  refine Kit.hdn (h:=?_)
  (try go_wp2_with fail)
  go_ret
  exact ⟨by rw [HF.o];first | rfl | simp,HBW.o _ H1.o⟩
 have HVR:=hid (HVT.o rfl)
 have HLF:Hid (∀V,Below w.heap.size w V→Calls Tryz.prog 89 #[.agg #[.int .i64 hol,.int .i64 vlt,.string str,.int .i64 ix,.int .i64 sz,.int .i64 day,.int .i64 ser,.int .i64 cnt,.int .i64 pl,.string root,.slice ap n1 c1,.int .i64 si,.slice aq n2 c2,.slice ar n3 c3]] V fun e w'=> ∃u:ByteArray,e= .returned (.string u)∧nb u=leafR ⟨hol,vlt,str,ix,sz,day,ser,cnt,pl,root,pa,si,pt,sq⟩∧u.size=32∧Below V.heap.size V w'):=hid (fun V h=>leafR_ok hol vlt str ix sz day ser cnt pl root ap n1 c1 si aq n2 c2 ar n3 c3 pa pt sq HVR.o.sgv _ rfl V (HLD.o.later h (Nat.le_refl _)))
 obtain ⟨e6,he6⟩: ∃n:Nat,cnt=(n:Int):=⟨cnt.toNat,by have:=HVR.o.c0;simp only at this;omega⟩
 obtain ⟨e7,he7⟩: ∃n:Nat,pl=(n:Int):=⟨pl.toNat,by have:=HVR.o.p0;simp only at this;omega⟩
 have HE:Hid (1≤e6∧e6≤256∧e7<e6):=hid ⟨by have:=HVR.o.c0;simp only at this;omega,by have:=HVR.o.c1;simp only at this;omega,by have:=HVR.o.p1;simp only at this;omega⟩
 have HT6:Hid (cnt.toNat=e6∧pl.toNat=e7):=hid ⟨by omega,by omega⟩
 have HMV:Hid (∀(u:ByteArray),nb u=leafR ⟨hol,vlt,str,ix,sz,day,ser,cnt,pl,root,pa,si,pt,sq⟩→u.size=32→ ∀V,Below w.heap.size w V→Calls Tryz.prog 33 #[.string u,.int .i64 (e7:Int),.int .i64 (e6:Int),.slice ap n1 c1,.string root] V fun e w'=>e= .returned (.bool D1)∧Below V.heap.size V w'):=hid (fun u hu hz V h=>by
  have h0:=verifyM_ok u hz e7 e6 HE.o.1 HE.o.2.1 HE.o.2.2 ap c1 n1 pa HH1.o HC1.o (by have:=HVR.o.pn;have:=HH1.o;simp only at*;omega) HVR.o.ps root HVR.o.rt V (HS1.o.later h) (HLD.o.later h (Nat.le_refl _))
  rw [hu,← HT6.o.1,← HT6.o.2,HD1.o,HT6.o.1,HT6.o.2] at h0
  exact h0)
 have HBD:Hid (∀V,Below w.heap.size w V→Calls Tryz.prog 92 #[.string root,.int .i64 (e6:Int)] V fun e w'=> ∃u:ByteArray,e= .returned (.string u)∧nb u=batchR (nb root) e6∧u.size=32∧Below V.heap.size V w'):=hid (fun V h=>batch_ok root HVR.o.rt e6 (by have:=HE.o.2.1;omega) _ rfl V (HLD.o.later h (Nat.le_refl _)))
 have HSV:Hid (∀(u2:ByteArray),nb u2=batchR (nb root) e6→ ∀V,Below w.heap.size w V→Calls Tryz.prog 102 #[.agg #[.int .i64 B,.int .i64 H],.string pk,.string u2,.agg #[.int .i64 si,.slice aq n2 c2,.slice ar n3 c3]] V fun e w'=>e= .returned (.bool D2)∧Below V.heap.size V w'):=hid (fun u2 hu V h=>by
  have h0:=sigVerify_any B H pk u2 si (.agg #[.int .i64 si,.slice aq n2 c2,.slice ar n3 c3]) pt sq (by rw [HH2.o];exact HK2.o) (by rw [HH3.o];exact HK3.o) V ⟨aq,n2,c2,ar,n3,c3,rfl,HH2.o,HS2.o.later h,HH3.o,HS3.o.later h⟩ (HLD.o.later h (Nat.le_refl _))
  rw [hu,← HT6.o.1,HD2.o] at h0
  exact h0)
 clear HD1 HD2 HVT
 subst he6 he7
 cases D1
 ·have HF:Hid (F=false):=hid (by rw [HF0.o];rfl)
  refine Kit.wp_region_hplan (fun V=>(V.cell? ⟨N,0,none⟩=some (.int .i64 B)∧V.cell? ⟨N,1,none⟩=some (.int .i64 H))∧V.cell? ⟨N1,0,none⟩=some (.int .i64 hol)∧V.cell? ⟨N1,1,none⟩=some (.int .i64 vlt)∧V.cell? ⟨N1,2,none⟩=some (.string str)∧V.cell? ⟨N1,3,none⟩=some (.int .i64 ix)∧V.cell? ⟨N1,4,none⟩=some (.int .i64 sz)∧V.cell? ⟨N1,5,none⟩=some (.int .i64 day)∧V.cell? ⟨N1,6,none⟩=some (.int .i64 ser)∧V.cell? ⟨N1,7,none⟩=some (.int .i64 (e6:Int))∧V.cell? ⟨N1,8,none⟩=some (.int .i64 (e7:Int))∧V.cell? ⟨N1,9,none⟩=some (.string root)∧V.cell? ⟨N1,10,none⟩=some (.slice ap n1 c1)∧V.cell? ⟨N1,11,none⟩=some (.int .i64 si)∧V.cell? ⟨N1,12,none⟩=some (.slice aq n2 c2)∧V.cell? ⟨N1,13,none⟩=some (.slice ar n3 c3)) [(true,0),(false,1),(true,2),(true,3),(true,5),(true,6),(true,7),(true,8),(true,9),(true,10),(true,11),(true,12),(false,4),(false,13),(true,14),(true,15),(true,16),(true,17),(true,18),(true,19),(true,20),(true,21),(true,23),(true,24),(false,22),(false,25),(true,26),(true,27)] (by kernel_rfl) (by kernel_rfl) (by kernel_rfl) (by kernel_rfl) (by rw [hVD];exact HCC.o _ HDR.o) ?_
  rw [hVD]
  clear hVD
  iterate 1 (refine Kit.hhd (h:= ?_))
  refine Kit.hplan_op (by rfl) (by rfl) fun K hK=> ?_
  go_simp
  go_at_call 101
  with_reducible refine (HVA.o _ (HBW.o _ HDR.o)).mono ?_
  rintro e w2 ⟨rfl,h2⟩
  have H1:Hid (Below (N1+1) W w2):=hid (HST.o _ _ HDR.o h2)
  clear h2
  refine hK _ _ (HCC.o _ H1.o) ?_
  clear hK K
  iterate 10 (refine Kit.hhd (h:= ?_))
  refine Kit.hplan_op (by rfl) (by rfl) fun K hK=> ?_
  go_simp
  go_at_call 89
  with_reducible refine (HLF.o _ (HBW.o _ H1.o)).mono ?_
  rintro e w2 ⟨u,rfl,hu,hz,h2⟩
  have HU:=hid hu
  have HZ:=hid hz
  clear hu hz
  have H2:Hid (Below (N1+1) W w2):=hid (HST.o _ _ H1.o h2)
  clear h2
  refine hK _ _ (HCC.o _ H2.o) ?_
  clear hK K
  refine Kit.hplan_op (by rfl) (by rfl) fun K hK=> ?_
  go_simp
  go_at_call 33
  with_reducible refine (HMV.o u HU.o HZ.o _ (HBW.o _ H2.o)).mono ?_
  rintro e w2 ⟨rfl,h2⟩
  have H3:Hid (Below (N1+1) W w2):=hid (HST.o _ _ H2.o h2)
  clear h2
  refine hK _ _ (HCC.o _ H3.o) ?_
  clear hK K
  iterate 10 (refine Kit.hhd (h:= ?_))
  refine Kit.hsk (h:=?_)
  refine Kit.hsk (h:=?_)
  iterate 2 (refine Kit.hhd (h:= ?_))
  refine Kit.hdn (h:=?_)
  (try go_wp2_with fail)
  go_ret
  exact ⟨by rw [HF.o];first | rfl | simp,HBW.o _ H3.o⟩
 have HF:Hid (F=D2):=hid (by rw [HF0.o];rfl)
 refine Kit.wp_region_hplan (fun V=>(V.cell? ⟨N,0,none⟩=some (.int .i64 B)∧V.cell? ⟨N,1,none⟩=some (.int .i64 H))∧V.cell? ⟨N1,0,none⟩=some (.int .i64 hol)∧V.cell? ⟨N1,1,none⟩=some (.int .i64 vlt)∧V.cell? ⟨N1,2,none⟩=some (.string str)∧V.cell? ⟨N1,3,none⟩=some (.int .i64 ix)∧V.cell? ⟨N1,4,none⟩=some (.int .i64 sz)∧V.cell? ⟨N1,5,none⟩=some (.int .i64 day)∧V.cell? ⟨N1,6,none⟩=some (.int .i64 ser)∧V.cell? ⟨N1,7,none⟩=some (.int .i64 (e6:Int))∧V.cell? ⟨N1,8,none⟩=some (.int .i64 (e7:Int))∧V.cell? ⟨N1,9,none⟩=some (.string root)∧V.cell? ⟨N1,10,none⟩=some (.slice ap n1 c1)∧V.cell? ⟨N1,11,none⟩=some (.int .i64 si)∧V.cell? ⟨N1,12,none⟩=some (.slice aq n2 c2)∧V.cell? ⟨N1,13,none⟩=some (.slice ar n3 c3)) [(true,0),(false,1),(true,2),(true,3),(true,5),(true,6),(true,7),(true,8),(true,9),(true,10),(true,11),(true,12),(false,4),(false,13),(true,14),(true,15),(true,16),(true,17),(true,18),(true,19),(true,20),(true,21),(true,23),(true,24),(false,22),(false,25),(true,26),(true,27)] (by kernel_rfl) (by kernel_rfl) (by kernel_rfl) (by kernel_rfl) (by rw [hVD];exact HCC.o _ HDR.o) ?_
 rw [hVD]
 clear hVD
 iterate 1 (refine Kit.hhd (h:= ?_))
 refine Kit.hplan_op (by rfl) (by rfl) fun K hK=> ?_
 go_simp
 go_at_call 101
 with_reducible refine (HVA.o _ (HBW.o _ HDR.o)).mono ?_
 rintro e w2 ⟨rfl,h2⟩
 have H1:Hid (Below (N1+1) W w2):=hid (HST.o _ _ HDR.o h2)
 clear h2
 refine hK _ _ (HCC.o _ H1.o) ?_
 clear hK K
 iterate 10 (refine Kit.hhd (h:= ?_))
 refine Kit.hplan_op (by rfl) (by rfl) fun K hK=> ?_
 go_simp
 go_at_call 89
 with_reducible refine (HLF.o _ (HBW.o _ H1.o)).mono ?_
 rintro e w2 ⟨u,rfl,hu,hz,h2⟩
 have HU:=hid hu
 have HZ:=hid hz
 clear hu hz
 have H2:Hid (Below (N1+1) W w2):=hid (HST.o _ _ H1.o h2)
 clear h2
 refine hK _ _ (HCC.o _ H2.o) ?_
 clear hK K
 refine Kit.hplan_op (by rfl) (by rfl) fun K hK=> ?_
 go_simp
 go_at_call 33
 with_reducible refine (HMV.o u HU.o HZ.o _ (HBW.o _ H2.o)).mono ?_
 rintro e w2 ⟨rfl,h2⟩
 have H3:Hid (Below (N1+1) W w2):=hid (HST.o _ _ H2.o h2)
 clear h2
 refine hK _ _ (HCC.o _ H3.o) ?_
 clear hK K
 iterate 10 (refine Kit.hhd (h:= ?_))
 refine Kit.hplan_op (by rfl) (by rfl) fun K hK=> ?_
 go_simp
 go_at_call 92
 with_reducible refine (HBD.o _ (HBW.o _ H3.o)).mono ?_
 rintro e w2 ⟨u2,rfl,hu2,hz2,h2⟩
 have HU2:=hid hu2
 clear hu2 hz2
 have H4:Hid (Below (N1+1) W w2):=hid (HST.o _ _ H3.o h2)
 clear h2
 refine hK _ _ (HCC.o _ H4.o) ?_
 clear hK K
 refine Kit.hplan_op (by rfl) (by rfl) fun K hK=> ?_
 go_simp
 go_at_call 102
 with_reducible refine (HSV.o u2 HU2.o _ (HBW.o _ H4.o)).mono ?_
 rintro e w2 ⟨rfl,h2⟩
 have H5:Hid (Below (N1+1) W w2):=hid (HST.o _ _ H4.o h2)
 clear h2
 refine hK _ _ (HCC.o _ H5.o) ?_
 clear hK K
 iterate 2 (refine Kit.hhd (h:= ?_))
 refine Kit.hdn (h:=?_)
 (try go_wp2_with fail)
 go_ret
 exact ⟨by rw [HF.o];first | rfl | simp,HBW.o _ H5.o⟩
end Go.Proofs.YtndlihclgdkpaaaGreatDoor
