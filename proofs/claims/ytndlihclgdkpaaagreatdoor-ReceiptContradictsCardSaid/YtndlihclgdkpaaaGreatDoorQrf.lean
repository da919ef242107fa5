/- The document's Fields, Contradiction, texts, Same for receipts. -/
import Derived.Test.YtndlihclgdkpaaaGreatDoorGf
import Derived.Test.YtndlihclgdkpaaaGreatDoorQct
set_option linter.unusedVariables false
set_option linter.unusedSimpArgs false
open Go.Lib (hid)
set_option maxHeartbeats 4000000
set_option maxRecDepth 100000
namespace Go.Proofs.YtndlihclgdkpaaaGreatDoor
open Go.RowKit
open Kit (Chg)
open Sha (v)
open Go.Proofs.YtndlihclgdkpaaaGreatDoor.One

theorem refFields_any (hol vlt:Int) (str:ByteArray) (ix sz day ser cnt pl:Int) (root:ByteArray) (ap:Option Addr) (n1 c1:Nat) (si:Int) (aq:Option Addr) (n2 c2:Nat) (ar:Option Addr) (n3 c3:Nat) (pa pt sq:List ByteArray) (holB vltB:Int) (strB:ByteArray) (ixB szB dayB serB cntB plB:Int) (rootB:ByteArray) (apB:Option Addr) (n1B c1B:Nat) (siB:Int) (aqB:Option Addr) (n2B c2B:Nat) (arB:Option Addr) (n3B c3B:Nat) (paB ptB sqB:List ByteArray) (w:World):Calls Tryz.prog 32 #[.agg #[.int .i64 hol,.int .i64 vlt,.string str,.int .i64 ix,.int .i64 sz,.int .i64 day,.int .i64 ser,.int .i64 cnt,.int .i64 pl,.string root,.slice ap n1 c1,.int .i64 si,.slice aq n2 c2,.slice ar n3 c3],.agg #[.int .i64 holB,.int .i64 vltB,.string strB,.int .i64 ixB,.int .i64 szB,.int .i64 dayB,.int .i64 serB,.int .i64 cntB,.int .i64 plB,.string rootB,.slice apB n1B c1B,.int .i64 siB,.slice aqB n2B c2B,.slice arB n3B c3B]] w fun e w'=>e= .returned (.bool (decide ((⟨hol,vlt,sz,day,ser,str,ix⟩:Sg)=(⟨holB,vltB,szB,dayB,serB,strB,ixB⟩:Sg))))∧Below w.heap.size w w':=by
 obtain ⟨D1,hD1⟩: ∃d,(hol==holB)=d:=⟨_,rfl⟩
 obtain ⟨D2,hD2⟩: ∃d,(vlt==vltB)=d:=⟨_,rfl⟩
 obtain ⟨D4,hD4⟩: ∃d,(sz==szB)=d:=⟨_,rfl⟩
 obtain ⟨D5,hD5⟩: ∃d,(day==dayB)=d:=⟨_,rfl⟩
 obtain ⟨D6,hD6⟩: ∃d,(ser==serB)=d:=⟨_,rfl⟩
 have hep:=fun w=>eq_piece str strB ix ixB w
 obtain ⟨D3,hD3⟩:=ex_eq (decide (str=strB) && decide (ix=ixB))
 rw [hD3] at hep
 have HF:Hid (decide ((⟨hol,vlt,sz,day,ser,str,ix⟩:Sg)=(⟨holB,vltB,szB,dayB,serB,strB,ixB⟩:Sg))=(D1 && (D2 && (D3 && (D4 && (D5 && D6)))))):=hid (by
  rw [← hD1,← hD2,← hD3,← hD4,← hD5,← hD6]
  simp only [int_beq]
  rw [Bool.eq_iff_iff]
  simp only [decide_eq_true_eq,Bool.and_eq_true,Sg.mk.injEq]
  constructor
  ·rintro ⟨a,b,c,d,e,f,g⟩;exact ⟨a,b,⟨f,g⟩,c,d,e⟩
  ·rintro ⟨a,b,⟨f,g⟩,c,d,e⟩;exact ⟨a,b,c,d,e,f,g⟩)
 obtain ⟨F,hF⟩:=ex_eq (decide ((⟨hol,vlt,sz,day,ser,str,ix⟩:Sg)=(⟨holB,vltB,szB,dayB,serB,strB,ixB⟩:Sg)))
 rw [hF] at HF ⊢
 clear hF hD3
 go_enter Tryz.func32,Tryz.ntmps32
 go_upto_region 1 with fail
 refine wp_over (fun W=>Hid (W.heap[w.heap.size]? =some (.cells #[.int .i64 hol,.int .i64 vlt,.string str,.int .i64 ix,.int .i64 sz,.int .i64 day,.int .i64 ser,.int .i64 cnt,.int .i64 pl,.string root,.slice ap n1 c1,.int .i64 si,.slice aq n2 c2,.slice ar n3 c3] 47 (0,0)))∧Hid (W.heap[w.heap.size+1]? =some (.cells #[.int .i64 holB,.int .i64 vltB,.string strB,.int .i64 ixB,.int .i64 szB,.int .i64 dayB,.int .i64 serB,.int .i64 cntB,.int .i64 plB,.string rootB,.slice apB n1B c1B,.int .i64 siB,.slice aqB n2B c2B,.slice arB n3B c3B] 47 (0,0)))∧Hid (Below w.heap.size w W)∧Hid (W.heap.size=w.heap.size+2)) ⟨two_rows1,two_rows2,two_below,two_size⟩ ?_
 rintro W ⟨HG,HG2,HB,HWS⟩
 have HBW0:Hid (∀V,Below (w.heap.size+1+1) W V→Below w.heap.size w V):=hid (fun V h=>HB.o.trans (h.mono (by omega)))
 obtain ⟨N,hN⟩:=ex_eq w.heap.size
 obtain ⟨N1,hN1⟩:=ex_eq (w.heap.size+1)
 have HBW:Hid (∀V,Below (N1+1) W V→Below w.heap.size w V):=hid (fun V h=>HBW0.o V (by rw [hN1];exact h))
 have HNN:Hid (N1=N+1):=hid (by omega)
 have HWS:Hid (W.heap.size=N1+1):=hid (by have:=HWS.o;omega)
 rw [hN1] at HG2 ⊢
 rw [hN] at HG HB ⊢
 clear hN hN1 HBW0
 have HCC:Hid (∀V,Below (N1+1) W V→(V.cell? ⟨N,0,none⟩=some (.int .i64 hol)∧V.cell? ⟨N,1,none⟩=some (.int .i64 vlt)∧V.cell? ⟨N,2,none⟩=some (.string str)∧V.cell? ⟨N,3,none⟩=some (.int .i64 ix)∧V.cell? ⟨N,4,none⟩=some (.int .i64 sz)∧V.cell? ⟨N,5,none⟩=some (.int .i64 day)∧V.cell? ⟨N,6,none⟩=some (.int .i64 ser)∧V.cell? ⟨N,7,none⟩=some (.int .i64 cnt)∧V.cell? ⟨N,8,none⟩=some (.int .i64 pl)∧V.cell? ⟨N,9,none⟩=some (.string root)∧V.cell? ⟨N,10,none⟩=some (.slice ap n1 c1)∧V.cell? ⟨N,11,none⟩=some (.int .i64 si)∧V.cell? ⟨N,12,none⟩=some (.slice aq n2 c2)∧V.cell? ⟨N,13,none⟩=some (.slice ar n3 c3))∧V.cell? ⟨N1,0,none⟩=some (.int .i64 holB)∧V.cell? ⟨N1,1,none⟩=some (.int .i64 vltB)∧V.cell? ⟨N1,2,none⟩=some (.string strB)∧V.cell? ⟨N1,3,none⟩=some (.int .i64 ixB)∧V.cell? ⟨N1,4,none⟩=some (.int .i64 szB)∧V.cell? ⟨N1,5,none⟩=some (.int .i64 dayB)∧V.cell? ⟨N1,6,none⟩=some (.int .i64 serB)∧V.cell? ⟨N1,7,none⟩=some (.int .i64 cntB)∧V.cell? ⟨N1,8,none⟩=some (.int .i64 plB)∧V.cell? ⟨N1,9,none⟩=some (.string rootB)∧V.cell? ⟨N1,10,none⟩=some (.slice apB n1B c1B)∧V.cell? ⟨N1,11,none⟩=some (.int .i64 siB)∧V.cell? ⟨N1,12,none⟩=some (.slice aqB n2B c2B)∧V.cell? ⟨N1,13,none⟩=some (.slice arB n3B c3B)):=hid (fun V h=>⟨row14 ((h.block N (by have:=HNN.o;omega)).trans HG.o),row14 ((h.block N1 (Nat.lt_succ_self _)).trans HG2.o)⟩)
 have HST:Hid (∀V V',Below (N1+1) W V→Below V.heap.size V V'→Below (N1+1) W V'):=hid (fun V V' h h'=>h.trans (h'.mono (by have:=h.size;have:=HWS.o;omega)))
 clear HG HG2 HB
 have HL:Hid (Below (N1+1) W W):=hid (Below.refl _ _)
 obtain ⟨⟨q0,q1,q2,q3,q4,q5,q6,q7,q8,q9,q10,q11,q12,q13⟩,⟨r0,r1,r2,r3,r4,r5,r6,r7,r8,r9,r10,r11,r12,r13⟩⟩:=HCC.o _ HL.o
 cases D1
 rotate_left
 cases D2
 rotate_left
 cases D3
 rotate_left
 cases D4
 rotate_left
 cases D5
 rotate_left
 cases D6
 all_goals (
  go_wp2_with fail
  go_ret
  exact ⟨by rw [HF.o];first | rfl | simp,HBW.o _ HL.o⟩)
theorem refContraR_any (hol vlt:Int) (str:ByteArray) (ix sz day ser cnt pl:Int) (root:ByteArray) (ap:Option Addr) (n1 c1:Nat) (si:Int) (aq:Option Addr) (n2 c2:Nat) (ar:Option Addr) (n3 c3:Nat) (pa pt sq:List ByteArray) (holB vltB:Int) (strB:ByteArray) (ixB szB dayB serB cntB plB:Int) (rootB:ByteArray) (apB:Option Addr) (n1B c1B:Nat) (siB:Int) (aqB:Option Addr) (n2B c2B:Nat) (arB:Option Addr) (n3B c3B:Nat) (paB ptB sqB:List ByteArray) (w:World) (h1:pa.length=n1) (k1:n1<9223372036854775808) (s1:StrsAt w ap pa) (h2:pt.length=n2) (k2:n2<9223372036854775808) (s2:StrsAt w aq pt) (h3:sq.length=n3) (k3:n3<9223372036854775808) (s3:StrsAt w ar sq) (h1B:paB.length=n1B) (k1B:n1B<9223372036854775808) (s1B:StrsAt w apB paB) (h2B:ptB.length=n2B) (k2B:n2B<9223372036854775808) (s2B:StrsAt w aqB ptB) (h3B:sqB.length=n3B) (k3B:n3B<9223372036854775808) (s3B:StrsAt w arB sqB):Calls Tryz.prog 36 #[.agg #[.int .i64 hol,.int .i64 vlt,.string str,.int .i64 ix,.int .i64 sz,.int .i64 day,.int .i64 ser,.int .i64 cnt,.int .i64 pl,.string root,.slice ap n1 c1,.int .i64 si,.slice aq n2 c2,.slice ar n3 c3],.agg #[.int .i64 holB,.int .i64 vltB,.string strB,.int .i64 ixB,.int .i64 szB,.int .i64 dayB,.int .i64 serB,.int .i64 cntB,.int .i64 plB,.string rootB,.slice apB n1B c1B,.int .i64 siB,.slice aqB n2B c2B,.slice arB n3B c3B]] w fun e w'=>e= .returned (.bool (contraR ⟨hol,vlt,str,ix,sz,day,ser,cnt,pl,root,pa,si,pt,sq⟩ ⟨holB,vltB,strB,ixB,szB,dayB,serB,cntB,plB,rootB,paB,siB,ptB,sqB⟩))∧Below w.heap.size w w':=by
 obtain ⟨VA,hVA⟩:=ex_eq (validR ⟨hol,vlt,str,ix,sz,day,ser,cnt,pl,root,pa,si,pt,sq⟩)
 obtain ⟨VB,hVB⟩:=ex_eq (validR ⟨holB,vltB,strB,ixB,szB,dayB,serB,cntB,plB,rootB,paB,siB,ptB,sqB⟩)
 have HVA:Hid (∀V,Below w.heap.size w V→Calls Tryz.prog 29 #[.agg #[.int .i64 hol,.int .i64 vlt,.string str,.int .i64 ix,.int .i64 sz,.int .i64 day,.int .i64 ser,.int .i64 cnt,.int .i64 pl,.string root,.slice ap n1 c1,.int .i64 si,.slice aq n2 c2,.slice ar n3 c3]] V fun e w'=>e= .returned (.bool VA)∧Below V.heap.size V w'):=hid (fun V h=>by
  have h0:=refValidR_any hol vlt str ix sz day ser cnt pl root ap n1 c1 si aq n2 c2 ar n3 c3 pa pt sq V h1 k1 (s1.later h) h2 k2 (s2.later h) h3 k3 (s3.later h)
  rw [hVA] at h0
  exact h0)
 have HVB:Hid (∀V,Below w.heap.size w V→Calls Tryz.prog 29 #[.agg #[.int .i64 holB,.int .i64 vltB,.string strB,.int .i64 ixB,.int .i64 szB,.int .i64 dayB,.int .i64 serB,.int .i64 cntB,.int .i64 plB,.string rootB,.slice apB n1B c1B,.int .i64 siB,.slice aqB n2B c2B,.slice arB n3B c3B]] V fun e w'=>e= .returned (.bool VB)∧Below V.heap.size V w'):=hid (fun V h=>by
  have h0:=refValidR_any holB vltB strB ixB szB dayB serB cntB plB rootB apB n1B c1B siB aqB n2B c2B arB n3B c3B paB ptB sqB V h1B k1B (s1B.later h) h2B k2B (s2B.later h) h3B k3B (s3B.later h)
  rw [hVB] at h0
  exact h0)
 obtain ⟨D,hD⟩:=ex_eq (decide ((⟨hol,vlt,sz,day,ser,str,ix⟩:Sg)=(⟨holB,vltB,szB,dayB,serB,strB,ixB⟩:Sg)))
 have HFD:Hid (∀V,Below w.heap.size w V→Calls Tryz.prog 32 #[.agg #[.int .i64 hol,.int .i64 vlt,.string str,.int .i64 ix,.int .i64 sz,.int .i64 day,.int .i64 ser,.int .i64 cnt,.int .i64 pl,.string root,.slice ap n1 c1,.int .i64 si,.slice aq n2 c2,.slice ar n3 c3],.agg #[.int .i64 holB,.int .i64 vltB,.string strB,.int .i64 ixB,.int .i64 szB,.int .i64 dayB,.int .i64 serB,.int .i64 cntB,.int .i64 plB,.string rootB,.slice apB n1B c1B,.int .i64 siB,.slice aqB n2B c2B,.slice arB n3B c3B]] V fun e w'=>e= .returned (.bool D)∧Below V.heap.size V w'):=hid (fun V h=>by
  have h0:=refFields_any hol vlt str ix sz day ser cnt pl root ap n1 c1 si aq n2 c2 ar n3 c3 pa pt sq holB vltB strB ixB szB dayB serB cntB plB rootB apB n1B c1B siB aqB n2B c2B arB n3B c3B paB ptB sqB V
  rw [hD] at h0
  exact h0)
 obtain ⟨D1,hD1⟩: ∃d,(hol==holB)=d:=⟨_,rfl⟩
 obtain ⟨D2,hD2⟩: ∃d,(ser==serB)=d:=⟨_,rfl⟩
 have HF:Hid (contraR ⟨hol,vlt,str,ix,sz,day,ser,cnt,pl,root,pa,si,pt,sq⟩ ⟨holB,vltB,strB,ixB,szB,dayB,serB,cntB,plB,rootB,paB,siB,ptB,sqB⟩=(VA && (VB && (D1 && (D2 && !D))))):=hid (by
  unfold contraR
  rw [hVA,hVB,← hD,← hD1,← hD2,int_beq,int_beq]
  rfl)
 obtain ⟨F,hF⟩:=ex_eq (contraR ⟨hol,vlt,str,ix,sz,day,ser,cnt,pl,root,pa,si,pt,sq⟩ ⟨holB,vltB,strB,ixB,szB,dayB,serB,cntB,plB,rootB,paB,siB,ptB,sqB⟩)
 rw [hF] at HF ⊢
 clear hF hVA hVB hD h1 h2 h3 k1 k2 k3 s1 s2 s3 h1B h2B h3B k1B k2B k3B s1B s2B s3B
 go_enter Tryz.func36,Tryz.ntmps36
 go_upto_region 1 with fail
 refine wp_over (fun W=>Hid (W.heap[w.heap.size]? =some (.cells #[.int .i64 hol,.int .i64 vlt,.string str,.int .i64 ix,.int .i64 sz,.int .i64 day,.int .i64 ser,.int .i64 cnt,.int .i64 pl,.string root,.slice ap n1 c1,.int .i64 si,.slice aq n2 c2,.slice ar n3 c3] 47 (0,0)))∧Hid (W.heap[w.heap.size+1]? =some (.cells #[.int .i64 holB,.int .i64 vltB,.string strB,.int .i64 ixB,.int .i64 szB,.int .i64 dayB,.int .i64 serB,.int .i64 cntB,.int .i64 plB,.string rootB,.slice apB n1B c1B,.int .i64 siB,.slice aqB n2B c2B,.slice arB n3B c3B] 47 (0,0)))∧Hid (Below w.heap.size w W)∧Hid (W.heap.size=w.heap.size+2)) ⟨two_rows1,two_rows2,two_below,two_size⟩ ?_
 rintro W ⟨HG,HG2,HB,HWS⟩
 have HBW0:Hid (∀V,Below (w.heap.size+1+1) W V→Below w.heap.size w V):=hid (fun V h=>HB.o.trans (h.mono (by omega)))
 obtain ⟨N,hN⟩:=ex_eq w.heap.size
 obtain ⟨N1,hN1⟩:=ex_eq (w.heap.size+1)
 have HBW:Hid (∀V,Below (N1+1) W V→Below w.heap.size w V):=hid (fun V h=>HBW0.o V (by rw [hN1];exact h))
 have HNN:Hid (N1=N+1):=hid (by omega)
 have HWS:Hid (W.heap.size=N1+1):=hid (by have:=HWS.o;omega)
 rw [hN1] at HG2 ⊢
 rw [hN] at HG HB ⊢
 clear hN hN1 HBW0
 have HCC:Hid (∀V,Below (N1+1) W V→(V.cell? ⟨N,0,none⟩=some (.int .i64 hol)∧V.cell? ⟨N,1,none⟩=some (.int .i64 vlt)∧V.cell? ⟨N,2,none⟩=some (.string str)∧V.cell? ⟨N,3,none⟩=some (.int .i64 ix)∧V.cell? ⟨N,4,none⟩=some (.int .i64 sz)∧V.cell? ⟨N,5,none⟩=some (.int .i64 day)∧V.cell? ⟨N,6,none⟩=some (.int .i64 ser)∧V.cell? ⟨N,7,none⟩=some (.int .i64 cnt)∧V.cell? ⟨N,8,none⟩=some (.int .i64 pl)∧V.cell? ⟨N,9,none⟩=some (.string root)∧V.cell? ⟨N,10,none⟩=some (.slice ap n1 c1)∧V.cell? ⟨N,11,none⟩=some (.int .i64 si)∧V.cell? ⟨N,12,none⟩=some (.slice aq n2 c2)∧V.cell? ⟨N,13,none⟩=some (.slice ar n3 c3))∧V.cell? ⟨N1,0,none⟩=some (.int .i64 holB)∧V.cell? ⟨N1,1,none⟩=some (.int .i64 vltB)∧V.cell? ⟨N1,2,none⟩=some (.string strB)∧V.cell? ⟨N1,3,none⟩=some (.int .i64 ixB)∧V.cell? ⟨N1,4,none⟩=some (.int .i64 szB)∧V.cell? ⟨N1,5,none⟩=some (.int .i64 dayB)∧V.cell? ⟨N1,6,none⟩=some (.int .i64 serB)∧V.cell? ⟨N1,7,none⟩=some (.int .i64 cntB)∧V.cell? ⟨N1,8,none⟩=some (.int .i64 plB)∧V.cell? ⟨N1,9,none⟩=some (.string rootB)∧V.cell? ⟨N1,10,none⟩=some (.slice apB n1B c1B)∧V.cell? ⟨N1,11,none⟩=some (.int .i64 siB)∧V.cell? ⟨N1,12,none⟩=some (.slice aqB n2B c2B)∧V.cell? ⟨N1,13,none⟩=some (.slice arB n3B c3B)):=hid (fun V h=>⟨row14 ((h.block N (by have:=HNN.o;omega)).trans HG.o),row14 ((h.block N1 (Nat.lt_succ_self _)).trans HG2.o)⟩)
 have HST:Hid (∀V V',Below (N1+1) W V→Below V.heap.size V V'→Below (N1+1) W V'):=hid (fun V V' h h'=>h.trans (h'.mono (by have:=h.size;have:=HWS.o;omega)))
 clear HG HG2 HB
 have HL:Hid (Below (N1+1) W W):=hid (Below.refl _ _)
 obtain ⟨⟨q0,q1,q2,q3,q4,q5,q6,q7,q8,q9,q10,q11,q12,q13⟩,⟨r0,r1,r2,r3,r4,r5,r6,r7,r8,r9,r10,r11,r12,r13⟩⟩:=HCC.o _ HL.o
 cases VA
 rotate_left
 cases VB
 rotate_left
 cases D1
 rotate_left
 cases D2
 all_goals (
  go_wp2_with (first
   | (go_at_call 29
      (with_reducible refine (HVA.o _ (HBW.o _ HL.o)).mono ?_)
      rintro e w2 ⟨rfl,h2⟩
      have HM:Hid (Below (N1+1) W w2):=hid (HST.o _ _ HL.o h2)
      clear h2 HL q0 r0 q1 r1 q2 r2 q3 r3 q4 r4 q5 r5 q6 r6 q7 r7 q8 r8 q9 r9 q10 r10 q11 r11 q12 r12 q13 r13
      have HL:=HM
      clear HM
      obtain ⟨⟨q0,q1,q2,q3,q4,q5,q6,q7,q8,q9,q10,q11,q12,q13⟩,⟨r0,r1,r2,r3,r4,r5,r6,r7,r8,r9,r10,r11,r12,r13⟩⟩:=HCC.o _ HL.o)
   | (go_at_call 29
      (with_reducible refine (HVB.o _ (HBW.o _ HL.o)).mono ?_)
      rintro e w2 ⟨rfl,h2⟩
      have HM:Hid (Below (N1+1) W w2):=hid (HST.o _ _ HL.o h2)
      clear h2 HL q0 r0 q1 r1 q2 r2 q3 r3 q4 r4 q5 r5 q6 r6 q7 r7 q8 r8 q9 r9 q10 r10 q11 r11 q12 r12 q13 r13
      have HL:=HM
      clear HM
      obtain ⟨⟨q0,q1,q2,q3,q4,q5,q6,q7,q8,q9,q10,q11,q12,q13⟩,⟨r0,r1,r2,r3,r4,r5,r6,r7,r8,r9,r10,r11,r12,r13⟩⟩:=HCC.o _ HL.o)
   | (go_at_call 32
      (with_reducible refine (HFD.o _ (HBW.o _ HL.o)).mono ?_)
      rintro e w2 ⟨rfl,h2⟩
      have HM:Hid (Below (N1+1) W w2):=hid (HST.o _ _ HL.o h2)
      clear h2 HL q0 r0 q1 r1 q2 r2 q3 r3 q4 r4 q5 r5 q6 r6 q7 r7 q8 r8 q9 r9 q10 r10 q11 r11 q12 r12 q13 r13
      have HL:=HM
      clear HM
      obtain ⟨⟨q0,q1,q2,q3,q4,q5,q6,q7,q8,q9,q10,q11,q12,q13⟩,⟨r0,r1,r2,r3,r4,r5,r6,r7,r8,r9,r10,r11,r12,r13⟩⟩:=HCC.o _ HL.o))
  go_ret
  exact ⟨by rw [HF.o];first | rfl | simp,HBW.o _ HL.o⟩)
end Go.Proofs.YtndlihclgdkpaaaGreatDoor
