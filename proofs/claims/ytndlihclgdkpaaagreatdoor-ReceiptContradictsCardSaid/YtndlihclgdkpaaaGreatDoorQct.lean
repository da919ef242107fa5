/- receipt: signedOf, Contradiction. -/
import Derived.Test.YtndlihclgdkpaaaGreatDoorGg
import Derived.Test.YtndlihclgdkpaaaGreatDoorQsg
import Derived.Test.YtndlihclgdkpaaaGreatDoorVcw
set_option linter.unusedVariables false
set_option linter.unusedSimpArgs false
open Go.Lib (hid)
set_option maxHeartbeats 4000000
set_option maxRecDepth 100000
namespace Go.Proofs.YtndlihclgdkpaaaGreatDoor
open Go.RowKit
open Kit (Chg)
open Sha (v)
open Go.Proofs.YtndlihclgdkpaaaGreatDoor.One

theorem row7 {w:World} {N:Nat} {x0 x1 x2 x3 x4 x5 x6:Value} {T:TypeId} {f:Nat × Nat} (hg:w.heap[N]? =some (.cells #[x0,x1,x2,x3,x4,x5,x6] T f)):w.cell? ⟨N,0,none⟩=some x0∧w.cell? ⟨N,1,none⟩=some x1∧w.cell? ⟨N,2,none⟩=some x2∧w.cell? ⟨N,3,none⟩=some x3∧w.cell? ⟨N,4,none⟩=some x4∧w.cell? ⟨N,5,none⟩=some x5∧w.cell? ⟨N,6,none⟩=some x6:=
 ⟨cr hg,cr hg,cr hg,cr hg,cr hg,cr hg,cr hg⟩
theorem signedOf_any (hol vlt:Int) (str:ByteArray) (ix sz day ser cnt pl:Int) (root:ByteArray) (ap:Option Addr) (n1 c1:Nat) (si:Int) (aq:Option Addr) (n2 c2:Nat) (ar:Option Addr) (n3 c3:Nat) (pa pt sq:List ByteArray) (w:World):Calls Tryz.prog 128 #[.agg #[.int .i64 hol,.int .i64 vlt,.string str,.int .i64 ix,.int .i64 sz,.int .i64 day,.int .i64 ser,.int .i64 cnt,.int .i64 pl,.string root,.slice ap n1 c1,.int .i64 si,.slice aq n2 c2,.slice ar n3 c3]] w fun e w'=>e= .returned (.agg #[.int .i64 hol,.int .i64 vlt,.int .i64 sz,.int .i64 day,.int .i64 ser,.string str,.int .i64 ix])∧Below w.heap.size w w':=by
 go_enter Tryz.func128,Tryz.ntmps128
 go_upto_region 1 with fail
 refine wp_over (fun W=>Hid (W.heap[w.heap.size]? =some (.cells #[.int .i64 hol,.int .i64 vlt,.string str,.int .i64 ix,.int .i64 sz,.int .i64 day,.int .i64 ser,.int .i64 cnt,.int .i64 pl,.string root,.slice ap n1 c1,.int .i64 si,.slice aq n2 c2,.slice ar n3 c3] 47 (0,0)))∧Hid (W.heap[w.heap.size+1]? =some (.cells #[.int .i64 0,.int .i64 0,.int .i64 0,.int .i64 0,.int .i64 0,.string ByteArray.empty,.int .i64 0] 193 (0,0)))∧Hid (Below w.heap.size w W)) ⟨two_rows1,two_rows2,two_below⟩ ?_
 rintro W ⟨HG,HZ,HB⟩
 obtain ⟨N,hN⟩:=ex_eq w.heap.size
 rw [hN] at HG HZ HB ⊢
 have HN:=hid hN
 clear hN
 obtain ⟨q0,q1,q2,q3,q4,q5,q6,q7,q8,q9,q10,q11,q12,q13⟩:=row14 HG.o
 obtain ⟨z0,z1,z2,z3,z4,z5,z6⟩:=row7 HZ.o
 have fz: ∀i,W.frozen? ⟨N+1,i,none⟩=false:=fun i=>frozen_of_row _ _ _ _ _ HZ.o
 go_wp2_with fail
 refine bodyPost_ret (results_cell_row (p:=2) rfl _ _ (N+1) 193 #[.int .i64 hol,.int .i64 vlt,.int .i64 sz,.int .i64 day,.int .i64 ser,.string str,.int .i64 ix] (0,0) _ (by rfl) (putL_full (cur:=[.int .i64 0,.int .i64 0,.int .i64 0,.int .i64 0,.int .i64 0,.string ByteArray.empty,.int .i64 0]) (vs:=[.int .i64 hol,.int .i64 vlt,.int .i64 sz,.int .i64 day,.int .i64 ser,.string str,.int .i64 ix]) HZ.o rfl) Tryz.underlying193 rfl (by kernel_rfl)) rfl ?_
 exact ⟨rfl,by rw [HN.o];exact putL_below (Nat.le_succ N) [.int .i64 hol,.int .i64 vlt,.int .i64 sz,.int .i64 day,.int .i64 ser,.string str,.int .i64 ix] 0 W HB.o⟩
theorem contraR_any (hol vlt:Int) (str:ByteArray) (ix sz day ser cnt pl:Int) (root:ByteArray) (ap:Option Addr) (n1 c1:Nat) (si:Int) (aq:Option Addr) (n2 c2:Nat) (ar:Option Addr) (n3 c3:Nat) (pa pt sq:List ByteArray) (holB vltB:Int) (strB:ByteArray) (ixB szB dayB serB cntB plB:Int) (rootB:ByteArray) (apB:Option Addr) (n1B c1B:Nat) (siB:Int) (aqB:Option Addr) (n2B c2B:Nat) (arB:Option Addr) (n3B c3B:Nat) (paB ptB sqB:List ByteArray) (w:World) (h1:pa.length=n1) (k1:n1<9223372036854775808) (s1:StrsAt w ap pa) (h2:pt.length=n2) (k2:n2<9223372036854775808) (s2:StrsAt w aq pt) (h3:sq.length=n3) (k3:n3<9223372036854775808) (s3:StrsAt w ar sq) (h1B:paB.length=n1B) (k1B:n1B<9223372036854775808) (s1B:StrsAt w apB paB) (h2B:ptB.length=n2B) (k2B:n2B<9223372036854775808) (s2B:StrsAt w aqB ptB) (h3B:sqB.length=n3B) (k3B:n3B<9223372036854775808) (s3B:StrsAt w arB sqB):Calls Tryz.prog 35 #[.agg #[.int .i64 hol,.int .i64 vlt,.string str,.int .i64 ix,.int .i64 sz,.int .i64 day,.int .i64 ser,.int .i64 cnt,.int .i64 pl,.string root,.slice ap n1 c1,.int .i64 si,.slice aq n2 c2,.slice ar n3 c3],.agg #[.int .i64 holB,.int .i64 vltB,.string strB,.int .i64 ixB,.int .i64 szB,.int .i64 dayB,.int .i64 serB,.int .i64 cntB,.int .i64 plB,.string rootB,.slice apB n1B c1B,.int .i64 siB,.slice aqB n2B c2B,.slice arB n3B c3B]] w fun e w'=>e= .returned (.bool (contraR ⟨hol,vlt,str,ix,sz,day,ser,cnt,pl,root,pa,si,pt,sq⟩ ⟨holB,vltB,strB,ixB,szB,dayB,serB,cntB,plB,rootB,paB,siB,ptB,sqB⟩))∧Below w.heap.size w w':=by
 obtain ⟨VA,hVA⟩:=ex_eq (validR ⟨hol,vlt,str,ix,sz,day,ser,cnt,pl,root,pa,si,pt,sq⟩)
 obtain ⟨VB,hVB⟩:=ex_eq (validR ⟨holB,vltB,strB,ixB,szB,dayB,serB,cntB,plB,rootB,paB,siB,ptB,sqB⟩)
 have HVA:Hid (∀V,Below w.heap.size w V→Calls Tryz.prog 101 #[.agg #[.int .i64 hol,.int .i64 vlt,.string str,.int .i64 ix,.int .i64 sz,.int .i64 day,.int .i64 ser,.int .i64 cnt,.int .i64 pl,.string root,.slice ap n1 c1,.int .i64 si,.slice aq n2 c2,.slice ar n3 c3]] V fun e w'=>e= .returned (.bool VA)∧Below V.heap.size V w'):=hid (fun V h=>by
  have h0:=validR_any hol vlt str ix sz day ser cnt pl root ap n1 c1 si aq n2 c2 ar n3 c3 pa pt sq V h1 k1 (s1.later h) h2 k2 (s2.later h) h3 k3 (s3.later h)
  rw [hVA] at h0
  exact h0)
 have HVB:Hid (∀V,Below w.heap.size w V→Calls Tryz.prog 101 #[.agg #[.int .i64 holB,.int .i64 vltB,.string strB,.int .i64 ixB,.int .i64 szB,.int .i64 dayB,.int .i64 serB,.int .i64 cntB,.int .i64 plB,.string rootB,.slice apB n1B c1B,.int .i64 siB,.slice aqB n2B c2B,.slice arB n3B c3B]] V fun e w'=>e= .returned (.bool VB)∧Below V.heap.size V w'):=hid (fun V h=>by
  have h0:=validR_any holB vltB strB ixB szB dayB serB cntB plB rootB apB n1B c1B siB aqB n2B c2B arB n3B c3B paB ptB sqB V h1B k1B (s1B.later h) h2B k2B (s2B.later h) h3B k3B (s3B.later h)
  rw [hVB] at h0
  exact h0)
 have HSA:=hid (fun w=>signedOf_any hol vlt str ix sz day ser cnt pl root ap n1 c1 si aq n2 c2 ar n3 c3 pa pt sq w)
 have HSB:=hid (fun w=>signedOf_any holB vltB strB ixB szB dayB serB cntB plB rootB apB n1B c1B siB aqB n2B c2B arB n3B c3B paB ptB sqB w)
 obtain ⟨D,hD⟩:=ex_eq (decide ((⟨hol,vlt,sz,day,ser,str,ix⟩:Sg)=(⟨holB,vltB,szB,dayB,serB,strB,ixB⟩:Sg)))
 have hneq:=fun w=>neq_signed hol vlt sz day ser str ix holB vltB szB dayB serB strB ixB w
 have HF0:Hid (contraR ⟨hol,vlt,str,ix,sz,day,ser,cnt,pl,root,pa,si,pt,sq⟩ ⟨holB,vltB,strB,ixB,szB,dayB,serB,cntB,plB,rootB,paB,siB,ptB,sqB⟩=(VA && (VB && (decide (hol=holB) && (decide (ser=serB) && !D))))):=hid (by
  unfold contraR
  rw [hVA,hVB,← hD]
  rfl)
 rw [hD] at hneq
 obtain ⟨F,hF⟩:=ex_eq (contraR ⟨hol,vlt,str,ix,sz,day,ser,cnt,pl,root,pa,si,pt,sq⟩ ⟨holB,vltB,strB,ixB,szB,dayB,serB,cntB,plB,rootB,paB,siB,ptB,sqB⟩)
 rw [hF] at HF0 ⊢
 clear hF hVA hVB hD h1 h2 h3 k1 k2 k3 s1 s2 s3 h1B h2B h3B k1B k2B k3B s1B s2B s3B
 go_enter Tryz.func35,Tryz.ntmps35
 go_upto_region 1 with fail
 refine wp_over (fun W=>Hid (W.heap[w.heap.size]? =some (.cells #[.int .i64 hol,.int .i64 vlt,.string str,.int .i64 ix,.int .i64 sz,.int .i64 day,.int .i64 ser,.int .i64 cnt,.int .i64 pl,.string root,.slice ap n1 c1,.int .i64 si,.slice aq n2 c2,.slice ar n3 c3] 47 (0,0)))∧Hid (W.heap[w.heap.size+1]? =some (.cells #[.int .i64 holB,.int .i64 vltB,.string strB,.int .i64 ixB,.int .i64 szB,.int .i64 dayB,.int .i64 serB,.int .i64 cntB,.int .i64 plB,.string rootB,.slice apB n1B c1B,.int .i64 siB,.slice aqB n2B c2B,.slice arB n3B c3B] 47 (0,0)))∧Hid (Below w.heap.size w W)∧Hid (W.heap.size=w.heap.size+2)) ⟨two_rows1,two_rows2,two_below,two_size⟩ ?_
 rintro W ⟨HG,HG2,HB,HWS⟩
 have HBW0:Hid (∀V,Below (w.heap.size+1+1) W V→Below w.heap.size w V):=hid (fun V h=>HB.o.trans (h.mono (by omega)))
 obtain ⟨N,hN⟩:=ex_eq w.heap.size
 obtain ⟨N1,hN1⟩:=ex_eq (w.heap.size+1)
 have HBW:Hid (∀V,Below (N1+1) W V→Below w.heap.size w V):=hid (fun V h=>HBW0.o V (by rw [hN1];exact h))
 have HNN:Hid (N1=N+1):=hid (by omega)
 have HWS:Hid (W.heap.size=N1+1):=hid (by have:=HWS.o;omega)
 rw [hN1] at HG2 ⊢
 rw [hN] at HG HB ⊢
 clear hN hN1 HBW0
 have HCC:Hid (∀V,Below (N1+1) W V→(V.cell? ⟨N,0,none⟩=some (.int .i64 hol)∧V.cell? ⟨N,1,none⟩=some (.int .i64 vlt)∧V.cell? ⟨N,2,none⟩=some (.string str)∧V.cell? ⟨N,3,none⟩=some (.int .i64 ix)∧V.cell? ⟨N,4,none⟩=some (.int .i64 sz)∧V.cell? ⟨N,5,none⟩=some (.int .i64 day)∧V.cell? ⟨N,6,none⟩=some (.int .i64 ser)∧V.cell? ⟨N,7,none⟩=some (.int .i64 cnt)∧V.cell? ⟨N,8,none⟩=some (.int .i64 pl)∧V.cell? ⟨N,9,none⟩=some (.string root)∧V.cell? ⟨N,10,none⟩=some (.slice ap n1 c1)∧V.cell? ⟨N,11,none⟩=some (.int .i64 si)∧V.cell? ⟨N,12,none⟩=some (.slice aq n2 c2)∧V.cell? ⟨N,13,none⟩=some (.slice ar n3 c3))∧V.cell? ⟨N1,0,none⟩=some (.int .i64 holB)∧V.cell? ⟨N1,1,none⟩=some (.int .i64 vltB)∧V.cell? ⟨N1,2,none⟩=some (.string strB)∧V.cell? ⟨N1,3,none⟩=some (.int .i64 ixB)∧V.cell? ⟨N1,4,none⟩=some (.int .i64 szB)∧V.cell? ⟨N1,5,none⟩=some (.int .i64 dayB)∧V.cell? ⟨N1,6,none⟩=some (.int .i64 serB)∧V.cell? ⟨N1,7,none⟩=some (.int .i64 cntB)∧V.cell? ⟨N1,8,none⟩=some (.int .i64 plB)∧V.cell? ⟨N1,9,none⟩=some (.string rootB)∧V.cell? ⟨N1,10,none⟩=some (.slice apB n1B c1B)∧V.cell? ⟨N1,11,none⟩=some (.int .i64 siB)∧V.cell? ⟨N1,12,none⟩=some (.slice aqB n2B c2B)∧V.cell? ⟨N1,13,none⟩=some (.slice arB n3B c3B)):=hid (fun V h=>⟨row14 ((h.block N (by have:=HNN.o;omega)).trans HG.o),row14 ((h.block N1 (Nat.lt_succ_self _)).trans HG2.o)⟩)
 have HST:Hid (∀V V',Below (N1+1) W V→Below V.heap.size V V'→Below (N1+1) W V'):=hid (fun V V' h h'=>h.trans (h'.mono (by have:=h.size;have:=HWS.o;omega)))
 have HDR:Hid (Below (N1+1) W W.drew):=hid (Below.refl _ _).drew
 clear HG HG2 HB
 obtain ⟨VD,hVD⟩:=ex_eq W.drew
 rw [hVD] at HDR
 cases VA
 ·have HF:Hid (F=false):=hid (by rw [HF0.o];rfl)
  refine Kit.wp_region_hplan (fun V=>(V.cell? ⟨N,0,none⟩=some (.int .i64 hol)∧V.cell? ⟨N,1,none⟩=some (.int .i64 vlt)∧V.cell? ⟨N,2,none⟩=some (.string str)∧V.cell? ⟨N,3,none⟩=some (.int .i64 ix)∧V.cell? ⟨N,4,none⟩=some (.int .i64 sz)∧V.cell? ⟨N,5,none⟩=some (.int .i64 day)∧V.cell? ⟨N,6,none⟩=some (.int .i64 ser)∧V.cell? ⟨N,7,none⟩=some (.int .i64 cnt)∧V.cell? ⟨N,8,none⟩=some (.int .i64 pl)∧V.cell? ⟨N,9,none⟩=some (.string root)∧V.cell? ⟨N,10,none⟩=some (.slice ap n1 c1)∧V.cell? ⟨N,11,none⟩=some (.int .i64 si)∧V.cell? ⟨N,12,none⟩=some (.slice aq n2 c2)∧V.cell? ⟨N,13,none⟩=some (.slice ar n3 c3))∧V.cell? ⟨N1,0,none⟩=some (.int .i64 holB)∧V.cell? ⟨N1,1,none⟩=some (.int .i64 vltB)∧V.cell? ⟨N1,2,none⟩=some (.string strB)∧V.cell? ⟨N1,3,none⟩=some (.int .i64 ixB)∧V.cell? ⟨N1,4,none⟩=some (.int .i64 szB)∧V.cell? ⟨N1,5,none⟩=some (.int .i64 dayB)∧V.cell? ⟨N1,6,none⟩=some (.int .i64 serB)∧V.cell? ⟨N1,7,none⟩=some (.int .i64 cntB)∧V.cell? ⟨N1,8,none⟩=some (.int .i64 plB)∧V.cell? ⟨N1,9,none⟩=some (.string rootB)∧V.cell? ⟨N1,10,none⟩=some (.slice apB n1B c1B)∧V.cell? ⟨N1,11,none⟩=some (.int .i64 siB)∧V.cell? ⟨N1,12,none⟩=some (.slice aqB n2B c2B)∧V.cell? ⟨N1,13,none⟩=some (.slice arB n3B c3B)) [(true,0),(false,1),(true,2),(true,3),(false,4),(true,5),(true,6),(true,7),(true,8),(true,9),(true,10),(true,11),(true,12),(true,13),(true,14),(true,15),(true,16),(true,17),(true,18),(true,19),(true,20),(true,21),(true,23),(false,22),(false,24),(true,25),(true,26),(true,27)] (by kernel_rfl) (by kernel_rfl) (by kernel_rfl) (by kernel_rfl) (by rw [hVD];exact HCC.o _ HDR.o) ?_
  rw [hVD]
  clear hVD
  iterate 1 (refine Kit.hhd (h:= ?_))
  refine Kit.hplan_op (by rfl) (by rfl) fun K hK=> ?_
  go_simp
  go_at_call 101
  with_reducible refine (HVA.o _ (HBW.o _ HDR.o)).mono ?_
  rintro e w2 ⟨rfl,h2⟩
  have H1:Hid (Below (N1+1) W w2):=hid (HST.o _ _ HDR.o h2)
  clear h2
  refine hK _ _ (HCC.o _ H1.o) ?_
  clear hK K
  iterate 2 (refine Kit.hhd (h:= ?_))
  refine Kit.hsk (h:=?_)
  iterate 18 (refine Kit.hhd (h:= ?_))
  refine Kit.hsk (h:=?_)
  refine Kit.hsk (h:=?_)
  iterate 3 (refine Kit.hhd (h:= ?_))
  refine Kit.hdn (h:=?_)
  (try go_wp2_with fail)
  go_ret
  exact ⟨by rw [HF.o];first | rfl | simp,HBW.o _ H1.o⟩
 cases VB
 ·have HF:Hid (F=false):=hid (by rw [HF0.o];rfl)
  refine Kit.wp_region_hplan (fun V=>(V.cell? ⟨N,0,none⟩=some (.int .i64 hol)∧V.cell? ⟨N,1,none⟩=some (.int .i64 vlt)∧V.cell? ⟨N,2,none⟩=some (.string str)∧V.cell? ⟨N,3,none⟩=some (.int .i64 ix)∧V.cell? ⟨N,4,none⟩=some (.int .i64 sz)∧V.cell? ⟨N,5,none⟩=some (.int .i64 day)∧V.cell? ⟨N,6,none⟩=some (.int .i64 ser)∧V.cell? ⟨N,7,none⟩=some (.int .i64 cnt)∧V.cell? ⟨N,8,none⟩=some (.int .i64 pl)∧V.cell? ⟨N,9,none⟩=some (.string root)∧V.cell? ⟨N,10,none⟩=some (.slice ap n1 c1)∧V.cell? ⟨N,11,none⟩=some (.int .i64 si)∧V.cell? ⟨N,12,none⟩=some (.slice aq n2 c2)∧V.cell? ⟨N,13,none⟩=some (.slice ar n3 c3))∧V.cell? ⟨N1,0,none⟩=some (.int .i64 holB)∧V.cell? ⟨N1,1,none⟩=some (.int .i64 vltB)∧V.cell? ⟨N1,2,none⟩=some (.string strB)∧V.cell? ⟨N1,3,none⟩=some (.int .i64 ixB)∧V.cell? ⟨N1,4,none⟩=some (.int .i64 szB)∧V.cell? ⟨N1,5,none⟩=some (.int .i64 dayB)∧V.cell? ⟨N1,6,none⟩=some (.int .i64 serB)∧V.cell? ⟨N1,7,none⟩=some (.int .i64 cntB)∧V.cell? ⟨N1,8,none⟩=some (.int .i64 plB)∧V.cell? ⟨N1,9,none⟩=some (.string rootB)∧V.cell? ⟨N1,10,none⟩=some (.slice apB n1B c1B)∧V.cell? ⟨N1,11,none⟩=some (.int .i64 siB)∧V.cell? ⟨N1,12,none⟩=some (.slice aqB n2B c2B)∧V.cell? ⟨N1,13,none⟩=some (.slice arB n3B c3B)) [(true,0),(false,1),(true,2),(true,3),(false,4),(true,5),(true,6),(true,7),(true,8),(true,9),(true,10),(true,11),(true,12),(true,13),(true,14),(true,15),(true,16),(true,17),(true,18),(true,19),(true,20),(true,21),(true,23),(false,22),(false,24),(true,25),(true,26),(true,27)] (by kernel_rfl) (by kernel_rfl) (by kernel_rfl) (by kernel_rfl) (by rw [hVD];exact HCC.o _ HDR.o) ?_
  rw [hVD]
  clear hVD
  iterate 1 (refine Kit.hhd (h:= ?_))
  refine Kit.hplan_op (by rfl) (by rfl) fun K hK=> ?_
  go_simp
  go_at_call 101
  with_reducible refine (HVA.o _ (HBW.o _ HDR.o)).mono ?_
  rintro e w2 ⟨rfl,h2⟩
  have H1:Hid (Below (N1+1) W w2):=hid (HST.o _ _ HDR.o h2)
  clear h2
  refine hK _ _ (HCC.o _ H1.o) ?_
  clear hK K
  iterate 2 (refine Kit.hhd (h:= ?_))
  refine Kit.hplan_op (by rfl) (by rfl) fun K hK=> ?_
  go_simp
  go_at_call 101
  with_reducible refine (HVB.o _ (HBW.o _ H1.o)).mono ?_
  rintro e w2 ⟨rfl,h2⟩
  have H2:Hid (Below (N1+1) W w2):=hid (HST.o _ _ H1.o h2)
  clear h2
  refine hK _ _ (HCC.o _ H2.o) ?_
  clear hK K
  iterate 18 (refine Kit.hhd (h:= ?_))
  refine Kit.hsk (h:=?_)
  refine Kit.hsk (h:=?_)
  iterate 3 (refine Kit.hhd (h:= ?_))
  refine Kit.hdn (h:=?_)
  (try go_wp2_with fail)
  go_ret
  exact ⟨by rw [HF.o];first | rfl | simp,HBW.o _ H2.o⟩
 by_cases he:hol=holB
 rotate_left
 ·have hq1:(hol==holB)=false:=by rw [beq_eq_false_iff_ne];exact he
  have HF:Hid (F=false):=hid (by rw [HF0.o,decide_eq_false he];rfl)
  clear he
  refine Kit.wp_region_hplan (fun V=>(V.cell? ⟨N,0,none⟩=some (.int .i64 hol)∧V.cell? ⟨N,1,none⟩=some (.int .i64 vlt)∧V.cell? ⟨N,2,none⟩=some (.string str)∧V.cell? ⟨N,3,none⟩=some (.int .i64 ix)∧V.cell? ⟨N,4,none⟩=some (.int .i64 sz)∧V.cell? ⟨N,5,none⟩=some (.int .i64 day)∧V.cell? ⟨N,6,none⟩=some (.int .i64 ser)∧V.cell? ⟨N,7,none⟩=some (.int .i64 cnt)∧V.cell? ⟨N,8,none⟩=some (.int .i64 pl)∧V.cell? ⟨N,9,none⟩=some (.string root)∧V.cell? ⟨N,10,none⟩=some (.slice ap n1 c1)∧V.cell? ⟨N,11,none⟩=some (.int .i64 si)∧V.cell? ⟨N,12,none⟩=some (.slice aq n2 c2)∧V.cell? ⟨N,13,none⟩=some (.slice ar n3 c3))∧V.cell? ⟨N1,0,none⟩=some (.int .i64 holB)∧V.cell? ⟨N1,1,none⟩=some (.int .i64 vltB)∧V.cell? ⟨N1,2,none⟩=some (.string strB)∧V.cell? ⟨N1,3,none⟩=some (.int .i64 ixB)∧V.cell? ⟨N1,4,none⟩=some (.int .i64 szB)∧V.cell? ⟨N1,5,none⟩=some (.int .i64 dayB)∧V.cell? ⟨N1,6,none⟩=some (.int .i64 serB)∧V.cell? ⟨N1,7,none⟩=some (.int .i64 cntB)∧V.cell? ⟨N1,8,none⟩=some (.int .i64 plB)∧V.cell? ⟨N1,9,none⟩=some (.string rootB)∧V.cell? ⟨N1,10,none⟩=some (.slice apB n1B c1B)∧V.cell? ⟨N1,11,none⟩=some (.int .i64 siB)∧V.cell? ⟨N1,12,none⟩=some (.slice aqB n2B c2B)∧V.cell? ⟨N1,13,none⟩=some (.slice arB n3B c3B)) [(true,0),(false,1),(true,2),(true,3),(false,4),(true,5),(true,6),(true,7),(true,8),(true,9),(true,10),(true,11),(true,12),(true,13),(true,14),(true,15),(true,16),(true,17),(true,18),(true,19),(true,20),(true,21),(true,23),(false,22),(false,24),(true,25),(true,26),(true,27)] (by kernel_rfl) (by kernel_rfl) (by kernel_rfl) (by kernel_rfl) (by rw [hVD];exact HCC.o _ HDR.o) ?_
  rw [hVD]
  clear hVD
  iterate 1 (refine Kit.hhd (h:= ?_))
  refine Kit.hplan_op (by rfl) (by rfl) fun K hK=> ?_
  go_simp
  go_at_call 101
  with_reducible refine (HVA.o _ (HBW.o _ HDR.o)).mono ?_
  rintro e w2 ⟨rfl,h2⟩
  have H1:Hid (Below (N1+1) W w2):=hid (HST.o _ _ HDR.o h2)
  clear h2
  refine hK _ _ (HCC.o _ H1.o) ?_
  clear hK K
  iterate 2 (refine Kit.hhd (h:= ?_))
  refine Kit.hplan_op (by rfl) (by rfl) fun K hK=> ?_
  go_simp
  go_at_call 101
  with_reducible refine (HVB.o _ (HBW.o _ H1.o)).mono ?_
  rintro e w2 ⟨rfl,h2⟩
  have H2:Hid (Below (N1+1) W w2):=hid (HST.o _ _ H1.o h2)
  clear h2
  refine hK _ _ (HCC.o _ H2.o) ?_
  clear hK K
  iterate 18 (refine Kit.hhd (h:= ?_))
  refine Kit.hsk (h:=?_)
  refine Kit.hsk (h:=?_)
  iterate 3 (refine Kit.hhd (h:= ?_))
  refine Kit.hdn (h:=?_)
  (try go_wp2_with fail)
  go_ret
  exact ⟨by rw [HF.o];first | rfl | simp,HBW.o _ H2.o⟩
 have hq1:(hol==holB)=true:=by rw [beq_iff_eq];exact he
 have HE1:=hid he
 clear he
 by_cases he:ser=serB
 rotate_left
 ·have hq2:(ser==serB)=false:=by rw [beq_eq_false_iff_ne];exact he
  have HF:Hid (F=false):=hid (by rw [HF0.o,decide_eq_false he];simp)
  clear he
  refine Kit.wp_region_hplan (fun V=>(V.cell? ⟨N,0,none⟩=some (.int .i64 hol)∧V.cell? ⟨N,1,none⟩=some (.int .i64 vlt)∧V.cell? ⟨N,2,none⟩=some (.string str)∧V.cell? ⟨N,3,none⟩=some (.int .i64 ix)∧V.cell? ⟨N,4,none⟩=some (.int .i64 sz)∧V.cell? ⟨N,5,none⟩=some (.int .i64 day)∧V.cell? ⟨N,6,none⟩=some (.int .i64 ser)∧V.cell? ⟨N,7,none⟩=some (.int .i64 cnt)∧V.cell? ⟨N,8,none⟩=some (.int .i64 pl)∧V.cell? ⟨N,9,none⟩=some (.string root)∧V.cell? ⟨N,10,none⟩=some (.slice ap n1 c1)∧V.cell? ⟨N,11,none⟩=some (.int .i64 si)∧V.cell? ⟨N,12,none⟩=some (.slice aq n2 c2)∧V.cell? ⟨N,13,none⟩=some (.slice ar n3 c3))∧V.cell? ⟨N1,0,none⟩=some (.int .i64 holB)∧V.cell? ⟨N1,1,none⟩=some (.int .i64 vltB)∧V.cell? ⟨N1,2,none⟩=some (.string strB)∧V.cell? ⟨N1,3,none⟩=some (.int .i64 ixB)∧V.cell? ⟨N1,4,none⟩=some (.int .i64 szB)∧V.cell? ⟨N1,5,none⟩=some (.int .i64 dayB)∧V.cell? ⟨N1,6,none⟩=some (.int .i64 serB)∧V.cell? ⟨N1,7,none⟩=some (.int .i64 cntB)∧V.cell? ⟨N1,8,none⟩=some (.int .i64 plB)∧V.cell? ⟨N1,9,none⟩=some (.string rootB)∧V.cell? ⟨N1,10,none⟩=some (.slice apB n1B c1B)∧V.cell? ⟨N1,11,none⟩=some (.int .i64 siB)∧V.cell? ⟨N1,12,none⟩=some (.slice aqB n2B c2B)∧V.cell? ⟨N1,13,none⟩=some (.slice arB n3B c3B)) [(true,0),(false,1),(true,2),(true,3),(false,4),(true,5),(true,6),(true,7),(true,8),(true,9),(true,10),(true,11),(true,12),(true,13),(true,14),(true,15),(true,16),(true,17),(true,18),(true,19),(true,20),(true,21),(true,23),(false,22),(false,24),(true,25),(true,26),(true,27)] (by kernel_rfl) (by kernel_rfl) (by kernel_rfl) (by kernel_rfl) (by rw [hVD];exact HCC.o _ HDR.o) ?_
  rw [hVD]
  clear hVD
  iterate 1 (refine Kit.hhd (h:= ?_))
  refine Kit.hplan_op (by rfl) (by rfl) fun K hK=> ?_
  go_simp
  go_at_call 101
  with_reducible refine (HVA.o _ (HBW.o _ HDR.o)).mono ?_
  rintro e w2 ⟨rfl,h2⟩
  have H1:Hid (Below (N1+1) W w2):=hid (HST.o _ _ HDR.o h2)
  clear h2
  refine hK _ _ (HCC.o _ H1.o) ?_
  clear hK K
  iterate 2 (refine Kit.hhd (h:= ?_))
  refine Kit.hplan_op (by rfl) (by rfl) fun K hK=> ?_
  go_simp
  go_at_call 101
  with_reducible refine (HVB.o _ (HBW.o _ H1.o)).mono ?_
  rintro e w2 ⟨rfl,h2⟩
  have H2:Hid (Below (N1+1) W w2):=hid (HST.o _ _ H1.o h2)
  clear h2
  refine hK _ _ (HCC.o _ H2.o) ?_
  clear hK K
  iterate 18 (refine Kit.hhd (h:= ?_))
  refine Kit.hsk (h:=?_)
  refine Kit.hsk (h:=?_)
  iterate 3 (refine Kit.hhd (h:= ?_))
  refine Kit.hdn (h:=?_)
  (try go_wp2_with fail)
  go_ret
  exact ⟨by rw [HF.o];first | rfl | simp,HBW.o _ H2.o⟩
 have hq2:(ser==serB)=true:=by rw [beq_iff_eq];exact he
 have HF:Hid (F= !D):=hid (by rw [HF0.o,decide_eq_true he,decide_eq_true HE1.o];rfl)
 clear he
 refine Kit.wp_region_hplan (fun V=>(V.cell? ⟨N,0,none⟩=some (.int .i64 hol)∧V.cell? ⟨N,1,none⟩=some (.int .i64 vlt)∧V.cell? ⟨N,2,none⟩=some (.string str)∧V.cell? ⟨N,3,none⟩=some (.int .i64 ix)∧V.cell? ⟨N,4,none⟩=some (.int .i64 sz)∧V.cell? ⟨N,5,none⟩=some (.int .i64 day)∧V.cell? ⟨N,6,none⟩=some (.int .i64 ser)∧V.cell? ⟨N,7,none⟩=some (.int .i64 cnt)∧V.cell? ⟨N,8,none⟩=some (.int .i64 pl)∧V.cell? ⟨N,9,none⟩=some (.string root)∧V.cell? ⟨N,10,none⟩=some (.slice ap n1 c1)∧V.cell? ⟨N,11,none⟩=some (.int .i64 si)∧V.cell? ⟨N,12,none⟩=some (.slice aq n2 c2)∧V.cell? ⟨N,13,none⟩=some (.slice ar n3 c3))∧V.cell? ⟨N1,0,none⟩=some (.int .i64 holB)∧V.cell? ⟨N1,1,none⟩=some (.int .i64 vltB)∧V.cell? ⟨N1,2,none⟩=some (.string strB)∧V.cell? ⟨N1,3,none⟩=some (.int .i64 ixB)∧V.cell? ⟨N1,4,none⟩=some (.int .i64 szB)∧V.cell? ⟨N1,5,none⟩=some (.int .i64 dayB)∧V.cell? ⟨N1,6,none⟩=some (.int .i64 serB)∧V.cell? ⟨N1,7,none⟩=some (.int .i64 cntB)∧V.cell? ⟨N1,8,none⟩=some (.int .i64 plB)∧V.cell? ⟨N1,9,none⟩=some (.string rootB)∧V.cell? ⟨N1,10,none⟩=some (.slice apB n1B c1B)∧V.cell? ⟨N1,11,none⟩=some (.int .i64 siB)∧V.cell? ⟨N1,12,none⟩=some (.slice aqB n2B c2B)∧V.cell? ⟨N1,13,none⟩=some (.slice arB n3B c3B)) [(true,0),(false,1),(true,2),(true,3),(false,4),(true,5),(true,6),(true,7),(true,8),(true,9),(true,10),(true,11),(true,12),(true,13),(true,14),(true,15),(true,16),(true,17),(true,18),(true,19),(true,20),(true,21),(true,23),(false,22),(false,24),(true,25),(true,26),(true,27)] (by kernel_rfl) (by kernel_rfl) (by kernel_rfl) (by kernel_rfl) (by rw [hVD];exact HCC.o _ HDR.o) ?_
 rw [hVD]
 clear hVD
 iterate 1 (refine Kit.hhd (h:= ?_))
 refine Kit.hplan_op (by rfl) (by rfl) fun K hK=> ?_
 go_simp
 go_at_call 101
 with_reducible refine (HVA.o _ (HBW.o _ HDR.o)).mono ?_
 rintro e w2 ⟨rfl,h2⟩
 have H1:Hid (Below (N1+1) W w2):=hid (HST.o _ _ HDR.o h2)
 clear h2
 refine hK _ _ (HCC.o _ H1.o) ?_
 clear hK K
 iterate 2 (refine Kit.hhd (h:= ?_))
 refine Kit.hplan_op (by rfl) (by rfl) fun K hK=> ?_
 go_simp
 go_at_call 101
 with_reducible refine (HVB.o _ (HBW.o _ H1.o)).mono ?_
 rintro e w2 ⟨rfl,h2⟩
 have H2:Hid (Below (N1+1) W w2):=hid (HST.o _ _ H1.o h2)
 clear h2
 refine hK _ _ (HCC.o _ H2.o) ?_
 clear hK K
 iterate 18 (refine Kit.hhd (h:= ?_))
 refine Kit.hplan_op (by rfl) (by rfl) fun K hK=> ?_
 go_simp
 go_at_call 128
 with_reducible refine (HSA.o _).mono ?_
 rintro e w2 ⟨rfl,h2⟩
 have H3:Hid (Below (N1+1) W w2):=hid (HST.o _ _ H2.o h2)
 clear h2
 refine hK _ _ (HCC.o _ H3.o) ?_
 clear hK K
 refine Kit.hplan_op (by rfl) (by rfl) fun K hK=> ?_
 go_simp
 go_at_call 128
 with_reducible refine (HSB.o _).mono ?_
 rintro e w2 ⟨rfl,h2⟩
 have H4:Hid (Below (N1+1) W w2):=hid (HST.o _ _ H3.o h2)
 clear h2
 refine hK _ _ (HCC.o _ H4.o) ?_
 clear hK K
 iterate 3 (refine Kit.hhd (h:= ?_))
 refine Kit.hdn (h:=?_)
 (try go_wp2_with fail)
 go_ret
 exact ⟨by rw [HF.o];first | rfl | simp,HBW.o _ H4.o⟩
end Go.Proofs.YtndlihclgdkpaaaGreatDoor
