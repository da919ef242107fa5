/- The document's before; Add of its Book. -/
import Derived.Test.YtndlihclgdkpaaaGreatDoorGk
import Derived.Test.YtndlihclgdkpaaaGreatDoorQfa
import Derived.Test.YtndlihclgdkpaaaGreatDoorQva
set_option linter.unusedVariables false
set_option linter.unusedSimpArgs false
open Go.Lib (hid)
set_option maxHeartbeats 4000000
set_option maxRecDepth 100000
namespace Go.Proofs.YtndlihclgdkpaaaGreatDoor
open Go.RowKit
open Kit (Chg)
open Sha (v)
open Go.Proofs.YtndlihclgdkpaaaGreatDoor.One

theorem refBefore_any (hol vlt:Int) (str:ByteArray) (ix sz day ser cnt pl:Int) (root:ByteArray) (ap:Option Addr) (n1 c1:Nat) (si:Int) (aq:Option Addr) (n2 c2:Nat) (ar:Option Addr) (n3 c3:Nat) (pa pt sq:List ByteArray) (holB vltB:Int) (strB:ByteArray) (ixB szB dayB serB cntB plB:Int) (rootB:ByteArray) (apB:Option Addr) (n1B c1B:Nat) (siB:Int) (aqB:Option Addr) (n2B c2B:Nat) (arB:Option Addr) (n3B c3B:Nat) (paB ptB sqB:List ByteArray) (w:World):Calls Tryz.prog 129 #[.agg #[.int .i64 hol,.int .i64 vlt,.string str,.int .i64 ix,.int .i64 sz,.int .i64 day,.int .i64 ser,.int .i64 cnt,.int .i64 pl,.string root,.slice ap n1 c1,.int .i64 si,.slice aq n2 c2,.slice ar n3 c3],.agg #[.int .i64 holB,.int .i64 vltB,.string strB,.int .i64 ixB,.int .i64 szB,.int .i64 dayB,.int .i64 serB,.int .i64 cntB,.int .i64 plB,.string rootB,.slice apB n1B c1B,.int .i64 siB,.slice aqB n2B c2B,.slice arB n3B c3B]] w fun e w'=>e= .returned (.bool (befR ⟨hol,vlt,str,ix,sz,day,ser,cnt,pl,root,pa,si,pt,sq⟩ ⟨holB,vltB,strB,ixB,szB,dayB,serB,cntB,plB,rootB,paB,siB,ptB,sqB⟩))∧Below w.heap.size w w':=by
 go_enter Tryz.func129,Tryz.ntmps129
 go_upto_region 1 with fail
 refine wp_over (fun W=>Hid (W.heap[w.heap.size]? =some (.cells #[.int .i64 hol,.int .i64 vlt,.string str,.int .i64 ix,.int .i64 sz,.int .i64 day,.int .i64 ser,.int .i64 cnt,.int .i64 pl,.string root,.slice ap n1 c1,.int .i64 si,.slice aq n2 c2,.slice ar n3 c3] 47 (0,0)))∧Hid (W.heap[w.heap.size+1]? =some (.cells #[.int .i64 holB,.int .i64 vltB,.string strB,.int .i64 ixB,.int .i64 szB,.int .i64 dayB,.int .i64 serB,.int .i64 cntB,.int .i64 plB,.string rootB,.slice apB n1B c1B,.int .i64 siB,.slice aqB n2B c2B,.slice arB n3B c3B] 47 (0,0)))∧Hid (Below w.heap.size w W)) ⟨two_rows1,two_rows2,two_below⟩ ?_
 rintro W ⟨HG,HZ,HB⟩
 obtain ⟨N,hN⟩:=ex_eq w.heap.size
 obtain ⟨N1,hN1⟩:=ex_eq (N+1)
 rw [hN] at HG HZ HB ⊢
 rw [hN1] at HZ ⊢
 have HN:=hid hN
 clear hN hN1
 obtain ⟨q0,_,_,_,_,q5,q6,_⟩:=row14 HG.o
 obtain ⟨z0,_,_,_,_,z5,z6,_⟩:=row14 HZ.o
 by_cases e1:day=dayB
 rotate_left
 ·have hb:(day != dayB)=true:=by rw [bne_iff_ne];exact e1
  have HR:Hid (befR ⟨hol,vlt,str,ix,sz,day,ser,cnt,pl,root,pa,si,pt,sq⟩ ⟨holB,vltB,strB,ixB,szB,dayB,serB,cntB,plB,rootB,paB,siB,ptB,sqB⟩=decide (day<dayB)):=hid (by
   rw [Bool.eq_iff_iff,befR_iff,decide_eq_true_eq]
   simp only
   omega)
  clear e1
  go_wp2_with fail
  go_ret
  exact ⟨by rw [HR.o];try rfl,by rw [HN.o];exact HB.o⟩
 have hb:(day != dayB)=false:=by rw [e1,bne_self_eq_false]
 by_cases e2:hol=holB
 rotate_left
 ·have hb2:(hol != holB)=true:=by rw [bne_iff_ne];exact e2
  have HR:Hid (befR ⟨hol,vlt,str,ix,sz,day,ser,cnt,pl,root,pa,si,pt,sq⟩ ⟨holB,vltB,strB,ixB,szB,dayB,serB,cntB,plB,rootB,paB,siB,ptB,sqB⟩=decide (hol<holB)):=hid (by
   rw [Bool.eq_iff_iff,befR_iff,decide_eq_true_eq]
   simp only
   omega)
  clear e1 e2
  go_wp2_with fail
  go_ret
  exact ⟨by rw [HR.o];try rfl,by rw [HN.o];exact HB.o⟩
 have hb2:(hol != holB)=false:=by rw [e2,bne_self_eq_false]
 have HR:Hid (befR ⟨hol,vlt,str,ix,sz,day,ser,cnt,pl,root,pa,si,pt,sq⟩ ⟨holB,vltB,strB,ixB,szB,dayB,serB,cntB,plB,rootB,paB,siB,ptB,sqB⟩=decide (ser<serB)):=hid (by
  rw [Bool.eq_iff_iff,befR_iff,decide_eq_true_eq]
  simp only
  omega)
 clear e1 e2
 go_wp2_with fail
 go_ret
 exact ⟨by rw [HR.o];try rfl,by rw [HN.o];exact HB.o⟩
theorem refAdd_any (a0:Option Addr) (c L:Nat) (xs:List RcV) (hLe:xs.length=L) (hL:L≤1000) (hcp:L≤c) (hnil:a0=none→c=0) (hol vlt:Int) (str:ByteArray) (ix sz day ser cnt pl:Int) (root:ByteArray) (ap:Option Addr) (n1 c1:Nat) (si:Int) (aq:Option Addr) (n2 c2:Nat) (ar:Option Addr) (n3 c3:Nat) (pa pt sq:List ByteArray) (w:World) (h1:pa.length=n1) (k1:n1<9223372036854775808) (s1:StrsAt w ap pa) (h2:pt.length=n2) (k2:n2<9223372036854775808) (s2:StrsAt w aq pt) (h3:sq.length=n3) (k3:n3<9223372036854775808) (s3:StrsAt w ar sq) (hX:RcsAt w a0 xs):
    Calls Tryz.prog 41 #[.slice a0 L c,.agg #[.int .i64 hol,.int .i64 vlt,.string str,.int .i64 ix,.int .i64 sz,.int .i64 day,.int .i64 ser,.int .i64 cnt,.int .i64 pl,.string root,.slice ap n1 c1,.int .i64 si,.slice aq n2 c2,.slice ar n3 c3]] w fun e w'=> ∃a' n' c' ys,e= .returned (.tuple #[.slice a' n' c',.int .i64 (addB (xs.map RcV.r) ⟨hol,vlt,str,ix,sz,day,ser,cnt,pl,root,pa,si,pt,sq⟩).2])∧ys.length=n'∧ys.map RcV.r=(addB (xs.map RcV.r) ⟨hol,vlt,str,ix,sz,day,ser,cnt,pl,root,pa,si,pt,sq⟩).1∧RcsAt w' a' ys∧n'≤c'∧(a'=none→c'=0)∧(∀y ∈ ys,y ∈ xs∨y=⟨⟨hol,vlt,str,ix,sz,day,ser,cnt,pl,root,pa,si,pt,sq⟩,ap,c1,aq,c2,ar,c3⟩)∧(a'=a0∨ ∃ad,a'=some ad∧w.heap.size≤ad.block∧ad.block<w'.heap.size)∧Below w.heap.size w w':=by
 have HX:=hid hX
 have HLE:=hid hLe
 have HCP:=hid (And.intro hcp hnil)
 have HLN:Hid (pa.length=n1∧pt.length=n2∧sq.length=n3):=hid ⟨h1,h2,h3⟩
 have HKN:Hid (n1<9223372036854775808∧n2<9223372036854775808∧n3<9223372036854775808):=hid ⟨k1,k2,k3⟩
 have HSS0:Hid (∀V,Below w.heap.size w V→StrsAt V ap pa∧StrsAt V aq pt∧StrsAt V ar sq):=hid (fun V h=>⟨s1.later h,s2.later h,s3.later h⟩)
 clear h1 h2 h3 k1 k2 k3 s1 s2 s3 hLe hcp hnil hX
 go_enter Tryz.func41,Tryz.ntmps41
 go_upto_region 1 with fail
 refine wp_over (fun W=>Hid (W.heap[w.heap.size]? =some (.cells #[.int .i64 hol,.int .i64 vlt,.string str,.int .i64 ix,.int .i64 sz,.int .i64 day,.int .i64 ser,.int .i64 cnt,.int .i64 pl,.string root,.slice ap n1 c1,.int .i64 si,.slice aq n2 c2,.slice ar n3 c3] 47 (0,0)))∧Hid (Below w.heap.size w W)∧Hid (W.heap.size=w.heap.size+1)) ⟨heap_alloc_new _ _,(Below.refl _ _).alloc (Nat.le_refl _) _,by show _=_;simp⟩ ?_
 rintro W ⟨HG,HB,HWS⟩
 obtain ⟨N,hN⟩:=ex_eq w.heap.size
 have HN:=hid hN
 have HBW:Hid (∀V,Below (N+1) W V→Below w.heap.size w V):=hid (fun V h=>HB.o.trans (h.mono (by omega)))
 rw [hN] at HG HB HWS ⊢
 clear hN
 have HXW:Hid (∀V,Below (N+1) W V→RcsAt V a0 xs):=hid (fun V h=>HX.o.later (HBW.o V h))
 have HSZ:Hid (∀V,Below (N+1) W V→N+1≤V.heap.size):=hid (fun V h=>by have:=h.size;have:=HWS.o;omega)
 have HST:Hid (∀V V',Below (N+1) W V→Below V.heap.size V V'→Below (N+1) W V'):=hid (fun V V' h h'=>h.trans (h'.mono (HSZ.o _ h)))
 have HCN:Hid (∀V,Below (N+1) W V→V.cell? ⟨N,0,none⟩=some (.int .i64 hol)∧V.cell? ⟨N,1,none⟩=some (.int .i64 vlt)∧V.cell? ⟨N,2,none⟩=some (.string str)∧V.cell? ⟨N,3,none⟩=some (.int .i64 ix)∧V.cell? ⟨N,4,none⟩=some (.int .i64 sz)∧V.cell? ⟨N,5,none⟩=some (.int .i64 day)∧V.cell? ⟨N,6,none⟩=some (.int .i64 ser)∧V.cell? ⟨N,7,none⟩=some (.int .i64 cnt)∧V.cell? ⟨N,8,none⟩=some (.int .i64 pl)∧V.cell? ⟨N,9,none⟩=some (.string root)∧V.cell? ⟨N,10,none⟩=some (.slice ap n1 c1)∧V.cell? ⟨N,11,none⟩=some (.int .i64 si)∧V.cell? ⟨N,12,none⟩=some (.slice aq n2 c2)∧V.cell? ⟨N,13,none⟩=some (.slice ar n3 c3)):=hid (fun V h=>row14 ((h.block N (Nat.lt_succ_self N)).trans HG.o))
 have HW0:Hid (Below (N+1) W W):=hid (Below.refl _ _)
 obtain ⟨VA,hVA⟩:=ex_eq (validR ⟨hol,vlt,str,ix,sz,day,ser,cnt,pl,root,pa,si,pt,sq⟩)
 have HVA:=hid hVA
 have HVL:=hid (refValidR_any hol vlt str ix sz day ser cnt pl root ap n1 c1 si aq n2 c2 ar n3 c3 pa pt sq W HLN.o.1 HKN.o.1 (HSS0.o _ (HBW.o _ HW0.o)).1 HLN.o.2.1 HKN.o.2.1 (HSS0.o _ (HBW.o _ HW0.o)).2.1 HLN.o.2.2 HKN.o.2.2 (HSS0.o _ (HBW.o _ HW0.o)).2.2)
 rw [hVA] at HVL
 clear hVA
 obtain ⟨q0,q1,q2,q3,q4,q5,q6,q7,q8,q9,q10,q11,q12,q13⟩:=HCN.o W HW0.o
 go_wp2_with fail
 with_reducible refine HVL.o.mono ?_
 rintro e w2 ⟨rfl,hb⟩
 have H2:Hid (Below (N+1) W w2):=hid (HST.o _ _ HW0.o hb)
 clear hb HVL q0 q1 q2 q3 q4 q5 q6 q7 q8 q9 q10 q11 q12 q13
 cases VA
 ·have HAD:Hid (addB (xs.map RcV.r) ⟨hol,vlt,str,ix,sz,day,ser,cnt,pl,root,pa,si,pt,sq⟩=(xs.map RcV.r,1)):=hid (by unfold addB;rw [HVA.o];rfl)
  go_wp2_with fail
  go_ret2
  exact ⟨a0,L,c,xs,by rw [HAD.o];try rfl,HLE.o,by rw [HAD.o];try rfl,HXW.o _ H2.o,HCP.o.1,HCP.o.2,fun y hy=> .inl hy,.inl rfl,by first | exact HBW.o _ H2.o | (rw [HN.o];exact HBW.o _ H2.o)⟩
 go_upto_region 4 with fail
 go_loopw [6] (fun y wr=> ∃k:Nat,k≤L∧y= .int .i64 (k:Int)∧Hid (∀j (h:j<xs.length),j<k→xs[j].r.sg≠(⟨hol,vlt,str,ix,sz,day,ser,cnt,pl,root,pa,si,pt,sq⟩:Rc).sg)∧Hid (Below (N+1) W wr)) (fun y _=>L - (intOf y).toNat)
 case atStart=>exact ⟨0,Nat.zero_le _,rfl,hid (fun j _ h=>absurd h (Nat.not_lt_zero j)),H2⟩
 case round=>
  obtain ⟨k,hk,rfl,HNE,HRB⟩:=hrel
  by_cases hlt:k<L
  rotate_left
  ·have hki: ¬(k:Int)<(L:Int):=by omega
   have hke:k=L:=by omega
   rw [hke] at HNE
   have HAN:Hid ((xs.map RcV.r).any (fun x=>decide (x.sg=(⟨hol,vlt,str,ix,sz,day,ser,cnt,pl,root,pa,si,pt,sq⟩:Rc).sg))=false):=hid (by
    rw [List.any_eq_false]
    rintro x hx
    obtain ⟨y,hy,rfl⟩:=List.mem_map.1 hx
    obtain ⟨j,hj,rfl⟩:=List.mem_iff_getElem.1 hy
    have h:=HNE.o j hj (by rw [← HLE.o];exact hj)
    simpa using h)
   clear HNE hke hlt hk
   go_upto_region 10 with fail
   go_loopw [7,8] (fun x7 y wr=> ∃k P:Nat,k≤L∧y= .int .i64 (k:Int)∧x7= .int .i64 (P:Int)∧Hid (P=posB ((xs.take k).map RcV.r) ⟨hol,vlt,str,ix,sz,day,ser,cnt,pl,root,pa,si,pt,sq⟩)∧Hid (∀j (h:j<xs.length),j<k→contraR xs[j].r ⟨hol,vlt,str,ix,sz,day,ser,cnt,pl,root,pa,si,pt,sq⟩=false)∧Hid (Below (N+1) W wr)) (fun _ y _=>L - (intOf y).toNat)
   case atStart=>exact ⟨0,0,Nat.zero_le _,rfl,rfl,hid rfl,hid (fun j _ h=>absurd h (Nat.not_lt_zero j)),HRB⟩
   case round=>
    clear HRB
    obtain ⟨k,P,hk,rfl,rfl,HPE,HNC,HRB⟩:=hrel
    by_cases hlt:k<L
    rotate_left
    ·have hki: ¬(k:Int)<(L:Int):=by omega
     have hke:k=L:=by omega
     rw [hke] at HPE HNC
     have HPL:Hid (P≤L∧P=posB (xs.map RcV.r) (⟨hol,vlt,str,ix,sz,day,ser,cnt,pl,root,pa,si,pt,sq⟩:Rc)):=hid (by
      have e:=HPE.o
      rw [List.take_of_length_le (by rw [HLE.o];exact Nat.le_refl _)] at e
      refine ⟨?_,e⟩
      rw [e]
      unfold posB
      have h1:=(List.dropWhile_suffix (l:=(xs.map RcV.r).reverse) (fun x=> !befR x (⟨hol,vlt,str,ix,sz,day,ser,cnt,pl,root,pa,si,pt,sq⟩:Rc))).length_le
      rw [List.length_reverse,List.length_map,HLE.o] at h1
      exact h1)
     have hPL:P≤L:=HPL.o.1
     have HCT:Hid ((xs.map RcV.r).any (fun x=>contraR x (⟨hol,vlt,str,ix,sz,day,ser,cnt,pl,root,pa,si,pt,sq⟩:Rc))=false):=hid (by
      rw [List.any_eq_false]
      rintro x hx
      obtain ⟨y,hy,rfl⟩:=List.mem_map.1 hx
      obtain ⟨j,hj,rfl⟩:=List.mem_iff_getElem.1 hy
      rw [HNC.o j hj (by rw [← HLE.o];exact hj)]
      decide)
     have HAD:Hid (addB (xs.map RcV.r) (⟨hol,vlt,str,ix,sz,day,ser,cnt,pl,root,pa,si,pt,sq⟩:Rc)=((xs.map RcV.r).take P++(⟨hol,vlt,str,ix,sz,day,ser,cnt,pl,root,pa,si,pt,sq⟩:Rc)::(xs.map RcV.r).drop P,0)):=hid (by
      unfold addB
      rw [if_pos HVA.o,HAN.o,HCT.o,← HPL.o.2]
      rfl)
     have HP1:Hid (∀V,Below (N+1) W V→SrcAt V (sub14 a0 0 c) P c 14 (rcv (xs.take P))):=hid (fun V h=>by
      have h1:=(HXW.o V h).part (by rw [HLE.o];exact HCP.o.1) HCP.o.2 0 P (by rw [HLE.o];omega)
      rwa [List.drop_zero] at h1)
     have HP3:Hid (∀V,Below (N+1) W V→SrcAt V (sub14 a0 P c) (L - P) (c - P) 14 (rcv (xs.drop P))):=hid (fun V h=>by
      have h1:=(HXW.o V h).part (by rw [HLE.o];exact HCP.o.1) HCP.o.2 P (L - P) (by rw [HLE.o];omega)
      rwa [List.take_of_length_le (by rw [List.length_drop,HLE.o];exact Nat.le_refl _)] at h1)
     have HP2:Hid (∀(q:Nat) (V:World),V.heap[q]? =some (.cells #[.int .i64 hol,.int .i64 vlt,.string str,.int .i64 ix,.int .i64 sz,.int .i64 day,.int .i64 ser,.int .i64 cnt,.int .i64 pl,.string root,.slice ap n1 c1,.int .i64 si,.slice aq n2 c2,.slice ar n3 c3] 47 (0,0))→SrcAt V (some ⟨q,0,none⟩) 1 1 14 (rcv [(⟨⟨hol,vlt,str,ix,sz,day,ser,cnt,pl,root,pa,si,pt,sq⟩,ap,c1,aq,c2,ar,c3⟩:RcV)])):=hid (fun q V hq=> .inr ⟨rfl,_,rfl,fun j u hu=>by
      have l:=HLN.o
      obtain ⟨rfl,rfl,rfl⟩:=l
      rw [add_none,Nat.zero_add]
      rw [rcv_single] at hu
      exact (cell_of_row _ _ _ _ _ _ hq).trans (by rw [← hu];simp [RcV.cells])⟩)
     have hs1:=fun W=>sliceBk_h a0 L c P (by have:=HCP.o;omega) W
     have hs2:=fun W=>sliceBk_l a0 L c P hPL W
     go_upto_region 16 with fail
     have HWD:Hid (Below (N+1) W wr.drew):=hid HRB.o.drew
     apply joinI (F:=(fun n v m u x V=>Hid (V.ownsRow (N+1) 47 14 x (P+1+(L - P)) (rcv (xs.take P++[(⟨⟨hol,vlt,str,ix,sz,day,ser,cnt,pl,root,pa,si,pt,sq⟩,ap,c1,aq,c2,ar,c3⟩:RcV)]++xs.drop P)))∧Hid (Below (N+1) W V)))
     case main=>
      intro HJ
      refine Kit.wp_region_tplan (fun V=>V.cell? ⟨N,0,none⟩=some (.int .i64 hol)∧V.cell? ⟨N,1,none⟩=some (.int .i64 vlt)∧V.cell? ⟨N,2,none⟩=some (.string str)∧V.cell? ⟨N,3,none⟩=some (.int .i64 ix)∧V.cell? ⟨N,4,none⟩=some (.int .i64 sz)∧V.cell? ⟨N,5,none⟩=some (.int .i64 day)∧V.cell? ⟨N,6,none⟩=some (.int .i64 ser)∧V.cell? ⟨N,7,none⟩=some (.int .i64 cnt)∧V.cell? ⟨N,8,none⟩=some (.int .i64 pl)∧V.cell? ⟨N,9,none⟩=some (.string root)∧V.cell? ⟨N,10,none⟩=some (.slice ap n1 c1)∧V.cell? ⟨N,11,none⟩=some (.int .i64 si)∧V.cell? ⟨N,12,none⟩=some (.slice aq n2 c2)∧V.cell? ⟨N,13,none⟩=some (.slice ar n3 c3)) (.heads [1,2,3,5,8,9,10] (.op2 0 (.op2 4 (.op1 6 (.op1 7 (.op1 11 (.head 12 (.head 13 .done))))) 6 (.op1 4 (.op1 7 (.op1 11 (.head 12 (.head 13 .done)))))) 6 (.op1 0 (.op1 4 (.op1 7 (.op1 11 (.head 12 (.head 13 .done)))))))) (by kernel_rfl) (by kernel_rfl) (by kernel_rfl) (by kernel_rfl) (HCN.o _ HWD.o) ?_
      iterate 7 (refine Kit.thd (h:= ?_))
      obtain ⟨w0,hw0⟩:=ex_eq wr.drew
      rw [hw0] at HWD
      rw [hw0]
      clear hw0
      have Hw0:=HWD
      clear HWD
      refine Kit.tplan_op2 ?_ ?_
      rotate_left
      focus (
       refine Kit.tplan_op1 (by rfl) (by rfl) fun K' hK'=> ?_
       go_simp
       have hgb:=heap_alloc_new w0 (.cells #[.int .i64 hol,.int .i64 vlt,.string str,.int .i64 ix,.int .i64 sz,.int .i64 day,.int .i64 ser,.int .i64 cnt,.int .i64 pl,.string root,.slice ap n1 c1,.int .i64 si,.slice aq n2 c2,.slice ar n3 c3] 47)
       obtain ⟨wB,hwB⟩:=ex_eq (w0.alloc (.cells #[.int .i64 hol,.int .i64 vlt,.string str,.int .i64 ix,.int .i64 sz,.int .i64 day,.int .i64 ser,.int .i64 cnt,.int .i64 pl,.string root,.slice ap n1 c1,.int .i64 si,.slice aq n2 c2,.slice ar n3 c3] 47))
       have HWB:Hid (Below (N+1) W wB):=hid (by rw [← hwB];exact Hw0.o.alloc (HSZ.o _ Hw0.o) _)
       have HBB:Hid (Below w0.heap.size w0 wB):=hid (by rw [← hwB];exact (Below.refl _ _).alloc (Nat.le_refl _) _)
       rw [hwB] at hgb ⊢
       obtain ⟨mB,hmB⟩:=ex_eq w0.heap.size
       have HMB:=hid hmB
       rw [hmB] at hgb ⊢
       have HGB:=hid hgb
       clear hgb hwB hmB
       refine hK' _ _ (HCN.o _ HWB.o) ?_
       clear hK' K'
       refine Kit.tplan_op1 (by rfl) (by rfl) fun K' hK'=> ?_
       go_simp
       obtain ⟨wA,hwA⟩:=ex_eq (wB.alloc (.cells #[] 47))
       have hoa:(wB.alloc (.cells #[] 47)).ownsRow (N+1) 47 14 (.slice (some ⟨wB.heap.size,0,none⟩) 0 0) 0 (rcv []):=own_emptyB (HSZ.o _ HWB.o)
       have HWA:Hid (Below (N+1) W wA):=hid (by rw [← hwA];exact HWB.o.alloc (HSZ.o _ HWB.o) _)
       have HBA:Hid (Below wB.heap.size wB wA):=hid (by rw [← hwA];exact (Below.refl _ _).alloc (Nat.le_refl _) _)
       rw [hwA] at hoa ⊢
       obtain ⟨nA,hnA⟩:=ex_eq wB.heap.size
       have HNA:=hid hnA
       rw [hnA] at hoa ⊢
       have HOA:=hid hoa
       have HGBx:Hid (wA.heap[mB]? =some (.cells #[.int .i64 hol,.int .i64 vlt,.string str,.int .i64 ix,.int .i64 sz,.int .i64 day,.int .i64 ser,.int .i64 cnt,.int .i64 pl,.string root,.slice ap n1 c1,.int .i64 si,.slice aq n2 c2,.slice ar n3 c3] 47 (0,0))):=hid ((HBA.o.block mB (gS HGB.o).1).trans HGB.o)
       have HNE2:Hid (mB<nA):=hid (by have h1:=(gS HGB.o).1;rw [← hnA];exact h1)
       clear hoa hwA hnA
       refine hK' _ _ (HCN.o _ HWA.o) ?_
       clear hK' K'
       refine Kit.tplan_op1 (by rfl) (by rfl) fun K' hK'=> ?_
       refine wp_app_rs 71 Tryz.underlying71 _ _ (by rfl) (N+1) _ 0 [] (by rfl) HOA.o (HSZ.o _ HWA.o) (by decide) (sub14 a0 0 c) P c (xs.take P) (by rfl) (HP1.o _ HWA.o) (by have:=HPL.o;omega) ?_
       intro v1 w1 ho hb hg
       have HO1:Hid (w1.ownsRow (N+1) 47 14 v1 (P) (rcv (xs.take P))):=hid (by rw [List.nil_append,Nat.zero_add] at ho;exact ho)
       have HW1:Hid (Below (N+1) W w1):=hid (HWA.o.trans hb)
       have HGB1:Hid (w1.heap[mB]? =some (.cells #[.int .i64 hol,.int .i64 vlt,.string str,.int .i64 ix,.int .i64 sz,.int .i64 day,.int .i64 ser,.int .i64 cnt,.int .i64 pl,.string root,.slice ap n1 c1,.int .i64 si,.slice aq n2 c2,.slice ar n3 c3] 47 (0,0))):=hid (((Chg.of_grown (M:=fun q _=>q=nA) hg (fun k i e=>by injection e with e;exact e.symm)).other mB (gS HGBx.o).1 (fun i e=>by have h1:mB=nA:=e;have:=HNE2.o;omega)).trans HGBx.o)
       clear ho hb hg
       refine hK' _ _ (HCN.o _ HW1.o) ?_
       clear hK' K'
       refine Kit.tplan_op1 (by rfl) (by rfl) fun K' hK'=> ?_
       refine wp_app_rs 71 Tryz.underlying71 _ _ (by rfl) (N+1) v1 P (xs.take P) (by rfl) HO1.o (HSZ.o _ HW1.o) (by have:=HPL.o;omega) (some ⟨mB,0,none⟩) 1 1 [(⟨⟨hol,vlt,str,ix,sz,day,ser,cnt,pl,root,pa,si,pt,sq⟩,ap,c1,aq,c2,ar,c3⟩:RcV)] (by rfl) (HP2.o mB _ HGB1.o) (by decide) ?_
       intro v2 w2 ho hb hg
       have HO2:Hid (w2.ownsRow (N+1) 47 14 v2 (P+1) (rcv (xs.take P++[(⟨⟨hol,vlt,str,ix,sz,day,ser,cnt,pl,root,pa,si,pt,sq⟩,ap,c1,aq,c2,ar,c3⟩:RcV)]))):=hid ho
       have HW2:Hid (Below (N+1) W w2):=hid (HW1.o.trans hb)
       clear ho hb hg
       refine hK' _ _ (HCN.o _ HW2.o) ?_
       clear hK' K'
       refine Kit.tplan_op1 (by rfl) (by rfl) fun K' hK'=> ?_
       refine wp_app_rs 71 Tryz.underlying71 _ _ (by rfl) (N+1) v2 (P+1) (xs.take P++[(⟨⟨hol,vlt,str,ix,sz,day,ser,cnt,pl,root,pa,si,pt,sq⟩,ap,c1,aq,c2,ar,c3⟩:RcV)]) (by rfl) HO2.o (HSZ.o _ HW2.o) (by have:=HPL.o;omega) (sub14 a0 P c) (L - P) (c - P) (xs.drop P) (by rfl) (HP3.o _ HW2.o) (by omega) ?_
       intro v3 w3 ho hb hg
       have HO3:Hid (w3.ownsRow (N+1) 47 14 v3 (P+1+(L - P)) (rcv (xs.take P++[(⟨⟨hol,vlt,str,ix,sz,day,ser,cnt,pl,root,pa,si,pt,sq⟩,ap,c1,aq,c2,ar,c3⟩:RcV)]++xs.drop P))):=hid ho
       have HW3:Hid (Below (N+1) W w3):=hid (HW2.o.trans hb)
       clear ho hb hg
       refine hK' _ _ (HCN.o _ HW3.o) ?_
       clear hK' K'
       iterate 2 (refine Kit.thd (h:= ?_))
       refine Kit.tplan_done ?_
       (try simp only [Act.put,List.setIfInBounds_toArray,List.set_cons_zero,List.set_cons_succ])
       exact HJ nA v1 mB v2 v3 w3 ⟨HO3,HW3⟩)
      refine Kit.tplan_op1 (by rfl) (by rfl) fun K' hK'=> ?_
      go_simp
      obtain ⟨wA,hwA⟩:=ex_eq (w0.alloc (.cells #[] 47))
      have hoa:(w0.alloc (.cells #[] 47)).ownsRow (N+1) 47 14 (.slice (some ⟨w0.heap.size,0,none⟩) 0 0) 0 (rcv []):=own_emptyB (HSZ.o _ Hw0.o)
      have HWA:Hid (Below (N+1) W wA):=hid (by rw [← hwA];exact Hw0.o.alloc (HSZ.o _ Hw0.o) _)
      have HBA:Hid (Below w0.heap.size w0 wA):=hid (by rw [← hwA];exact (Below.refl _ _).alloc (Nat.le_refl _) _)
      rw [hwA] at hoa ⊢
      obtain ⟨nA,hnA⟩:=ex_eq w0.heap.size
      have HNA:=hid hnA
      rw [hnA] at hoa ⊢
      have HOA:=hid hoa
      clear hoa hwA hnA
      refine hK' _ _ (HCN.o _ HWA.o) ?_
      clear hK' K'
      refine Kit.tplan_op2 ?_ ?_
      focus (
       refine Kit.tplan_op1 (by rfl) (by rfl) fun K' hK'=> ?_
       refine wp_app_rs 71 Tryz.underlying71 _ _ (by rfl) (N+1) _ 0 [] (by rfl) HOA.o (HSZ.o _ HWA.o) (by decide) (sub14 a0 0 c) P c (xs.take P) (by rfl) (HP1.o _ HWA.o) (by have:=HPL.o;omega) ?_
       intro v1 w1 ho hb hg
       have HO1:Hid (w1.ownsRow (N+1) 47 14 v1 (P) (rcv (xs.take P))):=hid (by rw [List.nil_append,Nat.zero_add] at ho;exact ho)
       have HW1:Hid (Below (N+1) W w1):=hid (HWA.o.trans hb)
       clear ho hb hg
       refine hK' _ _ (HCN.o _ HW1.o) ?_
       clear hK' K'
       refine Kit.tplan_op1 (by rfl) (by rfl) fun K' hK'=> ?_
       go_simp
       have hgb:=heap_alloc_new w1 (.cells #[.int .i64 hol,.int .i64 vlt,.string str,.int .i64 ix,.int .i64 sz,.int .i64 day,.int .i64 ser,.int .i64 cnt,.int .i64 pl,.string root,.slice ap n1 c1,.int .i64 si,.slice aq n2 c2,.slice ar n3 c3] 47)
       obtain ⟨wB,hwB⟩:=ex_eq (w1.alloc (.cells #[.int .i64 hol,.int .i64 vlt,.string str,.int .i64 ix,.int .i64 sz,.int .i64 day,.int .i64 ser,.int .i64 cnt,.int .i64 pl,.string root,.slice ap n1 c1,.int .i64 si,.slice aq n2 c2,.slice ar n3 c3] 47))
       have HWB:Hid (Below (N+1) W wB):=hid (by rw [← hwB];exact HW1.o.alloc (HSZ.o _ HW1.o) _)
       have HBB:Hid (Below w1.heap.size w1 wB):=hid (by rw [← hwB];exact (Below.refl _ _).alloc (Nat.le_refl _) _)
       rw [hwB] at hgb ⊢
       obtain ⟨mB,hmB⟩:=ex_eq w1.heap.size
       have HMB:=hid hmB
       rw [hmB] at hgb ⊢
       have HGB:=hid hgb
       have HO1b:Hid (wB.ownsRow (N+1) 47 14 v1 (P) (rcv (xs.take P))):=hid (own_later HO1.o HBB.o)
       clear hgb hwB hmB
       refine hK' _ _ (HCN.o _ HWB.o) ?_
       clear hK' K'
       refine Kit.tplan_op1 (by rfl) (by rfl) fun K' hK'=> ?_
       refine wp_app_rs 71 Tryz.underlying71 _ _ (by rfl) (N+1) v1 P (xs.take P) (by rfl) HO1b.o (HSZ.o _ HWB.o) (by have:=HPL.o;omega) (some ⟨mB,0,none⟩) 1 1 [(⟨⟨hol,vlt,str,ix,sz,day,ser,cnt,pl,root,pa,si,pt,sq⟩,ap,c1,aq,c2,ar,c3⟩:RcV)] (by rfl) (HP2.o mB _ HGB.o) (by decide) ?_
       intro v2 w2 ho hb hg
       have HO2:Hid (w2.ownsRow (N+1) 47 14 v2 (P+1) (rcv (xs.take P++[(⟨⟨hol,vlt,str,ix,sz,day,ser,cnt,pl,root,pa,si,pt,sq⟩,ap,c1,aq,c2,ar,c3⟩:RcV)]))):=hid ho
       have HW2:Hid (Below (N+1) W w2):=hid (HWB.o.trans hb)
       clear ho hb hg
       refine hK' _ _ (HCN.o _ HW2.o) ?_
       clear hK' K'
       refine Kit.tplan_op1 (by rfl) (by rfl) fun K' hK'=> ?_
       refine wp_app_rs 71 Tryz.underlying71 _ _ (by rfl) (N+1) v2 (P+1) (xs.take P++[(⟨⟨hol,vlt,str,ix,sz,day,ser,cnt,pl,root,pa,si,pt,sq⟩,ap,c1,aq,c2,ar,c3⟩:RcV)]) (by rfl) HO2.o (HSZ.o _ HW2.o) (by have:=HPL.o;omega) (sub14 a0 P c) (L - P) (c - P) (xs.drop P) (by rfl) (HP3.o _ HW2.o) (by omega) ?_
       intro v3 w3 ho hb hg
       have HO3:Hid (w3.ownsRow (N+1) 47 14 v3 (P+1+(L - P)) (rcv (xs.take P++[(⟨⟨hol,vlt,str,ix,sz,day,ser,cnt,pl,root,pa,si,pt,sq⟩,ap,c1,aq,c2,ar,c3⟩:RcV)]++xs.drop P))):=hid ho
       have HW3:Hid (Below (N+1) W w3):=hid (HW2.o.trans hb)
       clear ho hb hg
       refine hK' _ _ (HCN.o _ HW3.o) ?_
       clear hK' K'
       iterate 2 (refine Kit.thd (h:= ?_))
       refine Kit.tplan_done ?_
       (try simp only [Act.put,List.setIfInBounds_toArray,List.set_cons_zero,List.set_cons_succ])
       exact HJ nA v1 mB v2 v3 w3 ⟨HO3,HW3⟩)
      focus (
       refine Kit.tplan_op1 (by rfl) (by rfl) fun K' hK'=> ?_
       go_simp
       have hgb:=heap_alloc_new wA (.cells #[.int .i64 hol,.int .i64 vlt,.string str,.int .i64 ix,.int .i64 sz,.int .i64 day,.int .i64 ser,.int .i64 cnt,.int .i64 pl,.string root,.slice ap n1 c1,.int .i64 si,.slice aq n2 c2,.slice ar n3 c3] 47)
       obtain ⟨wB,hwB⟩:=ex_eq (wA.alloc (.cells #[.int .i64 hol,.int .i64 vlt,.string str,.int .i64 ix,.int .i64 sz,.int .i64 day,.int .i64 ser,.int .i64 cnt,.int .i64 pl,.string root,.slice ap n1 c1,.int .i64 si,.slice aq n2 c2,.slice ar n3 c3] 47))
       have HWB:Hid (Below (N+1) W wB):=hid (by rw [← hwB];exact HWA.o.alloc (HSZ.o _ HWA.o) _)
       have HBB:Hid (Below wA.heap.size wA wB):=hid (by rw [← hwB];exact (Below.refl _ _).alloc (Nat.le_refl _) _)
       rw [hwB] at hgb ⊢
       obtain ⟨mB,hmB⟩:=ex_eq wA.heap.size
       have HMB:=hid hmB
       rw [hmB] at hgb ⊢
       have HGB:=hid hgb
       have HOA2:Hid (wB.ownsRow (N+1) 47 14 (.slice (some ⟨nA,0,none⟩) 0 0) (0) (rcv ([]))):=hid (own_later HOA.o HBB.o)
       have HGBx:=HGB
       have HNE2:Hid (nA<mB):=hid (by have h1:=own_lt HOA.o (g:=nA) rfl;have:=HMB.o;omega)
       clear hgb hwB hmB
       refine hK' _ _ (HCN.o _ HWB.o) ?_
       clear hK' K'
       refine Kit.tplan_op1 (by rfl) (by rfl) fun K' hK'=> ?_
       refine wp_app_rs 71 Tryz.underlying71 _ _ (by rfl) (N+1) _ 0 [] (by rfl) HOA2.o (HSZ.o _ HWB.o) (by decide) (sub14 a0 0 c) P c (xs.take P) (by rfl) (HP1.o _ HWB.o) (by have:=HPL.o;omega) ?_
       intro v1 w1 ho hb hg
       have HO1:Hid (w1.ownsRow (N+1) 47 14 v1 (P) (rcv (xs.take P))):=hid (by rw [List.nil_append,Nat.zero_add] at ho;exact ho)
       have HW1:Hid (Below (N+1) W w1):=hid (HWB.o.trans hb)
       have HGB1:Hid (w1.heap[mB]? =some (.cells #[.int .i64 hol,.int .i64 vlt,.string str,.int .i64 ix,.int .i64 sz,.int .i64 day,.int .i64 ser,.int .i64 cnt,.int .i64 pl,.string root,.slice ap n1 c1,.int .i64 si,.slice aq n2 c2,.slice ar n3 c3] 47 (0,0))):=hid (((Chg.of_grown (M:=fun q _=>q=nA) hg (fun k i e=>by injection e with e;exact e.symm)).other mB (gS HGBx.o).1 (fun i e=>by have h1:mB=nA:=e;have:=HNE2.o;omega)).trans HGBx.o)
       clear ho hb hg
       refine hK' _ _ (HCN.o _ HW1.o) ?_
       clear hK' K'
       refine Kit.tplan_op1 (by rfl) (by rfl) fun K' hK'=> ?_
       refine wp_app_rs 71 Tryz.underlying71 _ _ (by rfl) (N+1) v1 P (xs.take P) (by rfl) HO1.o (HSZ.o _ HW1.o) (by have:=HPL.o;omega) (some ⟨mB,0,none⟩) 1 1 [(⟨⟨hol,vlt,str,ix,sz,day,ser,cnt,pl,root,pa,si,pt,sq⟩,ap,c1,aq,c2,ar,c3⟩:RcV)] (by rfl) (HP2.o mB _ HGB1.o) (by decide) ?_
       intro v2 w2 ho hb hg
       have HO2:Hid (w2.ownsRow (N+1) 47 14 v2 (P+1) (rcv (xs.take P++[(⟨⟨hol,vlt,str,ix,sz,day,ser,cnt,pl,root,pa,si,pt,sq⟩,ap,c1,aq,c2,ar,c3⟩:RcV)]))):=hid ho
       have HW2:Hid (Below (N+1) W w2):=hid (HW1.o.trans hb)
       clear ho hb hg
       refine hK' _ _ (HCN.o _ HW2.o) ?_
       clear hK' K'
       refine Kit.tplan_op1 (by rfl) (by rfl) fun K' hK'=> ?_
       refine wp_app_rs 71 Tryz.underlying71 _ _ (by rfl) (N+1) v2 (P+1) (xs.take P++[(⟨⟨hol,vlt,str,ix,sz,day,ser,cnt,pl,root,pa,si,pt,sq⟩,ap,c1,aq,c2,ar,c3⟩:RcV)]) (by rfl) HO2.o (HSZ.o _ HW2.o) (by have:=HPL.o;omega) (sub14 a0 P c) (L - P) (c - P) (xs.drop P) (by rfl) (HP3.o _ HW2.o) (by omega) ?_
       intro v3 w3 ho hb hg
       have HO3:Hid (w3.ownsRow (N+1) 47 14 v3 (P+1+(L - P)) (rcv (xs.take P++[(⟨⟨hol,vlt,str,ix,sz,day,ser,cnt,pl,root,pa,si,pt,sq⟩,ap,c1,aq,c2,ar,c3⟩:RcV)]++xs.drop P))):=hid ho
       have HW3:Hid (Below (N+1) W w3):=hid (HW2.o.trans hb)
       clear ho hb hg
       refine hK' _ _ (HCN.o _ HW3.o) ?_
       clear hK' K'
       iterate 2 (refine Kit.thd (h:= ?_))
       refine Kit.tplan_done ?_
       (try simp only [Act.put,List.setIfInBounds_toArray,List.set_cons_zero,List.set_cons_succ])
       exact HJ nA v1 mB v2 v3 w3 ⟨HO3,HW3⟩)
     case rest=>
      rintro nA v1 mB v2 v3 w3 ⟨HO3,HW3⟩
      obtain ⟨bx,capx,rfl⟩:=own_some HO3.o (by omega)
      have HRN:=hid (RowN.of RcV.len HO3.o (by rw [List.length_append,List.length_append,List.length_take,List.length_drop,HLE.o,Nat.min_eq_left hPL];rfl)).1
      have HCX:Hid (P+1+(L - P)≤capx):=hid (by
       rcases HO3.o.2 with ⟨h,_⟩ | ⟨g,cap,cur,e,_,_,h1,_⟩
       ·cases h
       ·injection e with _ _ e
        rw [e];exact h1)
      have HBX:Hid (w.heap.size≤bx∧bx<w3.heap.size):=hid (by have h1:=own_lt HO3.o (g:=bx) rfl;have h2:=HN.o;omega)
      go_wp2_with fail
      go_ret2
      refine ⟨some ⟨bx,0,none⟩,P+1+(L - P),capx,by rw [HAD.o];try rfl,xs.take P++[(⟨⟨hol,vlt,str,ix,sz,day,ser,cnt,pl,root,pa,si,pt,sq⟩,ap,c1,aq,c2,ar,c3⟩:RcV)]++xs.drop P,?_,?_,HRN.o.rcsAll (fun x hx=> ?_),HCX.o,(fun e=>by cases e),(fun y hy=> ?_),.inr ⟨_,rfl,HBX.o.1,HBX.o.2⟩,by first | exact HBW.o _ HW3.o | (rw [HN.o];exact HBW.o _ HW3.o)⟩
      ·rw [List.length_append,List.length_append,List.length_take,List.length_drop,HLE.o,Nat.min_eq_left hPL];rfl
      ·rw [HAD.o,List.map_append,List.map_append,List.map_take,List.map_drop,List.append_assoc];rfl
      ·rcases List.mem_append.1 hx with hx | hx
       ·rcases List.mem_append.1 hx with hx | hx
        ·exact (HXW.o _ HW3.o).2 x (List.mem_of_mem_take hx)
        ·rw [List.mem_singleton.1 hx]
         have hl:=HLN.o
         have hk:=HKN.o
         have hs:=HSS0.o _ (HBW.o _ HW3.o)
         exact ⟨by show pa.length<_;omega,by show pt.length<_;omega,by show sq.length<_;omega,hs.1,hs.2.1,hs.2.2⟩
       ·exact (HXW.o _ HW3.o).2 x (List.mem_of_mem_drop hx)
      ·rcases List.mem_append.1 hy with hy | hy
       ·rcases List.mem_append.1 hy with hy | hy
        ·exact .inl (List.mem_of_mem_take hy)
        ·exact .inr (List.mem_singleton.1 hy)
       ·exact .inl (List.mem_of_mem_drop hy)
    have hki:(k:Int)<(L:Int):=by omega
    have HK1:Hid (k<xs.length):=hid (by rw [HLE.o];exact hlt)
    obtain ⟨b1,o1,rfl,hc1⟩:=(HXW.o _ HRB.o).one k HK1.o
    have HOX:=hid ((HXW.o _ HRB.o).2 _ (List.getElem_mem HK1.o))
    obtain ⟨x,hx⟩:=ex_eq (xs[k]'HK1.o)
    rw [hx] at hc1 HOX
    obtain ⟨⟨holX,vltX,strX,ixX,szX,dayX,serX,cntX,plX,rootX,paX,siX,ptX,sqX⟩,apX,c1X,aqX,c2X,arX,c3X⟩:=x
    simp only [RcV.cells] at hc1
    obtain ⟨n1X,h1X⟩:=ex_eq paX.length
    obtain ⟨n2X,h2X⟩:=ex_eq ptX.length
    obtain ⟨n3X,h3X⟩:=ex_eq sqX.length
    have g1:=HOX.o
    obtain ⟨k1X,k2X,k3X,s1X,s2X,s3X⟩:=g1
    simp only at k1X k2X k3X s1X s2X s3X
    rw [h1X,h2X,h3X] at hc1
    rw [h1X] at k1X
    rw [h2X] at k2X
    rw [h3X] at k3X
    have HLX:Hid (paX.length=n1X∧ptX.length=n2X∧sqX.length=n3X∧n1X<9223372036854775808∧n2X<9223372036854775808∧n3X<9223372036854775808):=hid ⟨h1X,h2X,h3X,k1X,k2X,k3X⟩
    have HSX:Hid (∀V,Below wr.heap.size wr V→StrsAt V apX paX∧StrsAt V aqX ptX∧StrsAt V arX sqX):=hid (fun V h=>⟨s1X.later h,s2X.later h,s3X.later h⟩)
    have HXE:Hid ((xs[k]'HK1.o).r=⟨holX,vltX,strX,ixX,szX,dayX,serX,cntX,plX,rootX,paX,siX,ptX,sqX⟩):=hid (by rw [hx])
    have HSP:Hid (∀V,Below wr.heap.size wr V→V.cell? ⟨b1,o1+k*14,none⟩=some (.int .i64 holX)∧V.cell? ⟨b1,o1+k*14+1,none⟩=some (.int .i64 vltX)∧V.cell? ⟨b1,o1+k*14+2,none⟩=some (.string strX)∧V.cell? ⟨b1,o1+k*14+3,none⟩=some (.int .i64 ixX)∧V.cell? ⟨b1,o1+k*14+4,none⟩=some (.int .i64 szX)∧V.cell? ⟨b1,o1+k*14+5,none⟩=some (.int .i64 dayX)∧V.cell? ⟨b1,o1+k*14+6,none⟩=some (.int .i64 serX)∧V.cell? ⟨b1,o1+k*14+7,none⟩=some (.int .i64 cntX)∧V.cell? ⟨b1,o1+k*14+8,none⟩=some (.int .i64 plX)∧V.cell? ⟨b1,o1+k*14+9,none⟩=some (.string rootX)∧V.cell? ⟨b1,o1+k*14+10,none⟩=some (.slice apX n1X c1X)∧V.cell? ⟨b1,o1+k*14+11,none⟩=some (.int .i64 siX)∧V.cell? ⟨b1,o1+k*14+12,none⟩=some (.slice aqX n2X c2X)∧V.cell? ⟨b1,o1+k*14+13,none⟩=some (.slice arX n3X c3X)∧V.cell? ⟨N,0,none⟩=some (.int .i64 hol)∧V.cell? ⟨N,1,none⟩=some (.int .i64 vlt)∧V.cell? ⟨N,2,none⟩=some (.string str)∧V.cell? ⟨N,3,none⟩=some (.int .i64 ix)∧V.cell? ⟨N,4,none⟩=some (.int .i64 sz)∧V.cell? ⟨N,5,none⟩=some (.int .i64 day)∧V.cell? ⟨N,6,none⟩=some (.int .i64 ser)∧V.cell? ⟨N,7,none⟩=some (.int .i64 cnt)∧V.cell? ⟨N,8,none⟩=some (.int .i64 pl)∧V.cell? ⟨N,9,none⟩=some (.string root)∧V.cell? ⟨N,10,none⟩=some (.slice ap n1 c1)∧V.cell? ⟨N,11,none⟩=some (.int .i64 si)∧V.cell? ⟨N,12,none⟩=some (.slice aq n2 c2)∧V.cell? ⟨N,13,none⟩=some (.slice ar n3 c3)):=hid (fun V h=>by
     have f: ∀{ad:Addr} {u:Value},wr.cell? ad=some u→V.cell? ad=some u:=fun hu=>(h.cell (World.block_lt_of_cell? _ _ hu)).trans hu
     obtain ⟨q0,q1,q2,q3,q4,q5,q6,q7,q8,q9,q10,q11,q12,q13⟩:=HCN.o V (HRB.o.trans (h.mono (HSZ.o _ HRB.o)))
     exact ⟨f (hc1 0 (by decide)),f (hc1 1 (by decide)),f (hc1 2 (by decide)),f (hc1 3 (by decide)),f (hc1 4 (by decide)),f (hc1 5 (by decide)),f (hc1 6 (by decide)),f (hc1 7 (by decide)),f (hc1 8 (by decide)),f (hc1 9 (by decide)),f (hc1 10 (by decide)),f (hc1 11 (by decide)),f (hc1 12 (by decide)),f (hc1 13 (by decide)),q0,q1,q2,q3,q4,q5,q6,q7,q8,q9,q10,q11,q12,q13⟩)
    clear hc1 HOX hx h1X h2X h3X k1X k2X k3X s1X s2X s3X
    obtain ⟨D,hD⟩:=ex_eq (contraR ⟨holX,vltX,strX,ixX,szX,dayX,serX,cntX,plX,rootX,paX,siX,ptX,sqX⟩ ⟨hol,vlt,str,ix,sz,day,ser,cnt,pl,root,pa,si,pt,sq⟩)
    have HD:=hid hD
    have HCT:Hid (∀V,Below wr.heap.size wr V→Calls Tryz.prog 36 #[.agg #[.int .i64 holX,.int .i64 vltX,.string strX,.int .i64 ixX,.int .i64 szX,.int .i64 dayX,.int .i64 serX,.int .i64 cntX,.int .i64 plX,.string rootX,.slice apX n1X c1X,.int .i64 siX,.slice aqX n2X c2X,.slice arX n3X c3X],.agg #[.int .i64 hol,.int .i64 vlt,.string str,.int .i64 ix,.int .i64 sz,.int .i64 day,.int .i64 ser,.int .i64 cnt,.int .i64 pl,.string root,.slice ap n1 c1,.int .i64 si,.slice aq n2 c2,.slice ar n3 c3]] V fun e w'=>e= .returned (.bool D)∧Below V.heap.size V w'):=hid (fun V hb=>by
     have h:=refContraR_any holX vltX strX ixX szX dayX serX cntX plX rootX apX n1X c1X siX aqX n2X c2X arX n3X c3X paX ptX sqX hol vlt str ix sz day ser cnt pl root ap n1 c1 si aq n2 c2 ar n3 c3 pa pt sq V HLX.o.1 HLX.o.2.2.2.1 (HSX.o _ hb).1 HLX.o.2.1 HLX.o.2.2.2.2.1 (HSX.o _ hb).2.1 HLX.o.2.2.1 HLX.o.2.2.2.2.2 (HSX.o _ hb).2.2 HLN.o.1 HKN.o.1 (HSS0.o _ (HBW.o _ (HST.o _ _ HRB.o hb))).1 HLN.o.2.1 HKN.o.2.1 (HSS0.o _ (HBW.o _ (HST.o _ _ HRB.o hb))).2.1 HLN.o.2.2 HKN.o.2.2 (HSS0.o _ (HBW.o _ (HST.o _ _ HRB.o hb))).2.2
     rw [← hD]
     exact h)
    clear hD
    obtain ⟨E,hE⟩:=ex_eq (befR ⟨holX,vltX,strX,ixX,szX,dayX,serX,cntX,plX,rootX,paX,siX,ptX,sqX⟩ ⟨hol,vlt,str,ix,sz,day,ser,cnt,pl,root,pa,si,pt,sq⟩)
    have HE:=hid hE
    have HBF:Hid (∀V,Calls Tryz.prog 129 #[.agg #[.int .i64 holX,.int .i64 vltX,.string strX,.int .i64 ixX,.int .i64 szX,.int .i64 dayX,.int .i64 serX,.int .i64 cntX,.int .i64 plX,.string rootX,.slice apX n1X c1X,.int .i64 siX,.slice aqX n2X c2X,.slice arX n3X c3X],.agg #[.int .i64 hol,.int .i64 vlt,.string str,.int .i64 ix,.int .i64 sz,.int .i64 day,.int .i64 ser,.int .i64 cnt,.int .i64 pl,.string root,.slice ap n1 c1,.int .i64 si,.slice aq n2 c2,.slice ar n3 c3]] V fun e w'=>e= .returned (.bool E)∧Below V.heap.size V w'):=hid (fun V=>by
     have h:=refBefore_any holX vltX strX ixX szX dayX serX cntX plX rootX apX n1X c1X siX aqX n2X c2X arX n3X c3X paX ptX sqX hol vlt str ix sz day ser cnt pl root ap n1 c1 si aq n2 c2 ar n3 c3 pa pt sq V
     rw [← hE]
     exact h)
    clear hE
    go_upto_region 12 with fail
    have HDR:Hid (Below wr.heap.size wr wr.drew):=hid (Below.refl _ _).drew
    obtain ⟨VD,hVD⟩:=ex_eq wr.drew
    rw [hVD] at HDR
    refine Kit.wp_region_gplan (fun V=>V.cell? ⟨b1,o1+k*14,none⟩=some (.int .i64 holX)∧V.cell? ⟨b1,o1+k*14+1,none⟩=some (.int .i64 vltX)∧V.cell? ⟨b1,o1+k*14+2,none⟩=some (.string strX)∧V.cell? ⟨b1,o1+k*14+3,none⟩=some (.int .i64 ixX)∧V.cell? ⟨b1,o1+k*14+4,none⟩=some (.int .i64 szX)∧V.cell? ⟨b1,o1+k*14+5,none⟩=some (.int .i64 dayX)∧V.cell? ⟨b1,o1+k*14+6,none⟩=some (.int .i64 serX)∧V.cell? ⟨b1,o1+k*14+7,none⟩=some (.int .i64 cntX)∧V.cell? ⟨b1,o1+k*14+8,none⟩=some (.int .i64 plX)∧V.cell? ⟨b1,o1+k*14+9,none⟩=some (.string rootX)∧V.cell? ⟨b1,o1+k*14+10,none⟩=some (.slice apX n1X c1X)∧V.cell? ⟨b1,o1+k*14+11,none⟩=some (.int .i64 siX)∧V.cell? ⟨b1,o1+k*14+12,none⟩=some (.slice aqX n2X c2X)∧V.cell? ⟨b1,o1+k*14+13,none⟩=some (.slice arX n3X c3X)∧V.cell? ⟨N,0,none⟩=some (.int .i64 hol)∧V.cell? ⟨N,1,none⟩=some (.int .i64 vlt)∧V.cell? ⟨N,2,none⟩=some (.string str)∧V.cell? ⟨N,3,none⟩=some (.int .i64 ix)∧V.cell? ⟨N,4,none⟩=some (.int .i64 sz)∧V.cell? ⟨N,5,none⟩=some (.int .i64 day)∧V.cell? ⟨N,6,none⟩=some (.int .i64 ser)∧V.cell? ⟨N,7,none⟩=some (.int .i64 cnt)∧V.cell? ⟨N,8,none⟩=some (.int .i64 pl)∧V.cell? ⟨N,9,none⟩=some (.string root)∧V.cell? ⟨N,10,none⟩=some (.slice ap n1 c1)∧V.cell? ⟨N,11,none⟩=some (.int .i64 si)∧V.cell? ⟨N,12,none⟩=some (.slice aq n2 c2)∧V.cell? ⟨N,13,none⟩=some (.slice ar n3 c3)) [(true,0),(true,1),(true,2),(true,3),(true,4),(false,5)] (by kernel_rfl) (by kernel_rfl) (by kernel_rfl) (by kernel_rfl) (by rw [hVD];exact HSP.o _ HDR.o) ?_
    rw [hVD]
    clear hVD
    iterate 5 (refine Kit.ghd (h:= ?_))
    refine Kit.gplan_op (by rfl) (by rfl) fun K' hK'=> ?_
    go_simp
    go_at_call 36
    with_reducible refine (HCT.o _ HDR.o).mono ?_
    rintro e y1 ⟨rfl,hb⟩
    have Hy1:Hid (Below wr.heap.size wr y1):=hid (HDR.o.trans (hb.mono HDR.o.size))
    clear hb HDR
    refine hK' _ _ (HSP.o _ Hy1.o) ?_
    clear hK' K'
    refine Kit.gdn (h:=?_)
    have HY1:Hid (Below (N+1) W y1):=hid (HST.o _ _ HRB.o Hy1.o)
    cases D
    rotate_left
    ·have HAD:Hid (addB (xs.map RcV.r) ⟨hol,vlt,str,ix,sz,day,ser,cnt,pl,root,pa,si,pt,sq⟩=(xs.map RcV.r,13)):=hid (by
        unfold addB
        rw [if_pos HVA.o,HAN.o,if_neg (by decide),if_pos]
        rw [List.any_eq_true]
        exact ⟨_,List.mem_map_of_mem (List.getElem_mem HK1.o),by rw [HXE.o];exact HD.o⟩)
     go_wp2_with fail
     go_ret2
     exact ⟨_,L,c,xs,by rw [HAD.o];try rfl,HLE.o,by rw [HAD.o];try rfl,HXW.o _ HY1.o,HCP.o.1,HCP.o.2,fun y hy=> .inl hy,.inl rfl,by first | exact HBW.o _ HY1.o | (rw [HN.o];exact HBW.o _ HY1.o)⟩
    go_upto_region 14 with fail
    have HDR:Hid (Below wr.heap.size wr y1.drew):=hid Hy1.o.drew
    obtain ⟨VD,hVD⟩:=ex_eq y1.drew
    rw [hVD] at HDR
    refine Kit.wp_region_gplan (fun V=>V.cell? ⟨b1,o1+k*14,none⟩=some (.int .i64 holX)∧V.cell? ⟨b1,o1+k*14+1,none⟩=some (.int .i64 vltX)∧V.cell? ⟨b1,o1+k*14+2,none⟩=some (.string strX)∧V.cell? ⟨b1,o1+k*14+3,none⟩=some (.int .i64 ixX)∧V.cell? ⟨b1,o1+k*14+4,none⟩=some (.int .i64 szX)∧V.cell? ⟨b1,o1+k*14+5,none⟩=some (.int .i64 dayX)∧V.cell? ⟨b1,o1+k*14+6,none⟩=some (.int .i64 serX)∧V.cell? ⟨b1,o1+k*14+7,none⟩=some (.int .i64 cntX)∧V.cell? ⟨b1,o1+k*14+8,none⟩=some (.int .i64 plX)∧V.cell? ⟨b1,o1+k*14+9,none⟩=some (.string rootX)∧V.cell? ⟨b1,o1+k*14+10,none⟩=some (.slice apX n1X c1X)∧V.cell? ⟨b1,o1+k*14+11,none⟩=some (.int .i64 siX)∧V.cell? ⟨b1,o1+k*14+12,none⟩=some (.slice aqX n2X c2X)∧V.cell? ⟨b1,o1+k*14+13,none⟩=some (.slice arX n3X c3X)∧V.cell? ⟨N,0,none⟩=some (.int .i64 hol)∧V.cell? ⟨N,1,none⟩=some (.int .i64 vlt)∧V.cell? ⟨N,2,none⟩=some (.string str)∧V.cell? ⟨N,3,none⟩=some (.int .i64 ix)∧V.cell? ⟨N,4,none⟩=some (.int .i64 sz)∧V.cell? ⟨N,5,none⟩=some (.int .i64 day)∧V.cell? ⟨N,6,none⟩=some (.int .i64 ser)∧V.cell? ⟨N,7,none⟩=some (.int .i64 cnt)∧V.cell? ⟨N,8,none⟩=some (.int .i64 pl)∧V.cell? ⟨N,9,none⟩=some (.string root)∧V.cell? ⟨N,10,none⟩=some (.slice ap n1 c1)∧V.cell? ⟨N,11,none⟩=some (.int .i64 si)∧V.cell? ⟨N,12,none⟩=some (.slice aq n2 c2)∧V.cell? ⟨N,13,none⟩=some (.slice ar n3 c3)) [(true,0),(true,1),(true,2),(true,3),(true,4),(false,5)] (by kernel_rfl) (by kernel_rfl) (by kernel_rfl) (by kernel_rfl) (by rw [hVD];exact HSP.o _ HDR.o) ?_
    rw [hVD]
    clear hVD
    iterate 5 (refine Kit.ghd (h:= ?_))
    refine Kit.gplan_op (by rfl) (by rfl) fun K' hK'=> ?_
    go_simp
    go_at_call 129
    with_reducible refine (HBF.o VD).mono ?_
    rintro e y2 ⟨rfl,hb⟩
    have Hy2:Hid (Below wr.heap.size wr y2):=hid (HDR.o.trans (hb.mono HDR.o.size))
    clear hb HDR
    refine hK' _ _ (HSP.o _ Hy2.o) ?_
    clear hK' K'
    refine Kit.gdn (h:=?_)
    have HY2:Hid (Below (N+1) W y2):=hid (HST.o _ _ HRB.o Hy2.o)
    have HNC2:Hid (∀j (h:j<xs.length),j<k+1→contraR xs[j].r ⟨hol,vlt,str,ix,sz,day,ser,cnt,pl,root,pa,si,pt,sq⟩=false):=hid (fun j h hj=>by
     by_cases e:j=k
     ·subst e;rw [HXE.o];exact HD.o
     ·exact HNC.o j h (by omega))
    have HPS:Hid (posB ((xs.take (k+1)).map RcV.r) ⟨hol,vlt,str,ix,sz,day,ser,cnt,pl,root,pa,si,pt,sq⟩=if E then k+1 else P):=hid (by
     rw [List.take_succ_eq_append_getElem HK1.o,List.map_append,List.map_singleton,posB_snoc,HXE.o,HE.o,List.length_map,List.length_take,HLE.o,Nat.min_eq_left hk,← HPE.o])
    cases E
    ·go_wp2_with fail
     go_roundw
     case rel=>exact ⟨k+1,P,hlt,by go_num,rfl,hid (by rw [HPS.o];rfl),HNC2,HY2⟩
     case measure=>simp [intOf];omega
    ·go_wp2_with fail
     go_roundw
     case rel=>exact ⟨k+1,k+1,hlt,by go_num,by go_num,hid (by rw [HPS.o];rfl),HNC2,HY2⟩
     case measure=>simp [intOf];omega
  have hki:(k:Int)<(L:Int):=by omega
  have HK1:Hid (k<xs.length):=hid (by rw [HLE.o];exact hlt)
  obtain ⟨b1,o1,rfl,hc1⟩:=(HXW.o _ HRB.o).one k HK1.o
  have HOX:=hid ((HXW.o _ HRB.o).2 _ (List.getElem_mem HK1.o))
  obtain ⟨x,hx⟩:=ex_eq (xs[k]'HK1.o)
  rw [hx] at hc1 HOX
  obtain ⟨⟨holX,vltX,strX,ixX,szX,dayX,serX,cntX,plX,rootX,paX,siX,ptX,sqX⟩,apX,c1X,aqX,c2X,arX,c3X⟩:=x
  simp only [RcV.cells] at hc1
  obtain ⟨n1X,h1X⟩:=ex_eq paX.length
  obtain ⟨n2X,h2X⟩:=ex_eq ptX.length
  obtain ⟨n3X,h3X⟩:=ex_eq sqX.length
  have g1:=HOX.o
  obtain ⟨k1X,k2X,k3X,s1X,s2X,s3X⟩:=g1
  simp only at k1X k2X k3X s1X s2X s3X
  rw [h1X,h2X,h3X] at hc1
  rw [h1X] at k1X
  rw [h2X] at k2X
  rw [h3X] at k3X
  have HLX:Hid (paX.length=n1X∧ptX.length=n2X∧sqX.length=n3X∧n1X<9223372036854775808∧n2X<9223372036854775808∧n3X<9223372036854775808):=hid ⟨h1X,h2X,h3X,k1X,k2X,k3X⟩
  have HSX:Hid (∀V,Below wr.heap.size wr V→StrsAt V apX paX∧StrsAt V aqX ptX∧StrsAt V arX sqX):=hid (fun V h=>⟨s1X.later h,s2X.later h,s3X.later h⟩)
  have HXE:Hid ((xs[k]'HK1.o).r=⟨holX,vltX,strX,ixX,szX,dayX,serX,cntX,plX,rootX,paX,siX,ptX,sqX⟩):=hid (by rw [hx])
  have HSP:Hid (∀V,Below wr.heap.size wr V→V.cell? ⟨b1,o1+k*14,none⟩=some (.int .i64 holX)∧V.cell? ⟨b1,o1+k*14+1,none⟩=some (.int .i64 vltX)∧V.cell? ⟨b1,o1+k*14+2,none⟩=some (.string strX)∧V.cell? ⟨b1,o1+k*14+3,none⟩=some (.int .i64 ixX)∧V.cell? ⟨b1,o1+k*14+4,none⟩=some (.int .i64 szX)∧V.cell? ⟨b1,o1+k*14+5,none⟩=some (.int .i64 dayX)∧V.cell? ⟨b1,o1+k*14+6,none⟩=some (.int .i64 serX)∧V.cell? ⟨b1,o1+k*14+7,none⟩=some (.int .i64 cntX)∧V.cell? ⟨b1,o1+k*14+8,none⟩=some (.int .i64 plX)∧V.cell? ⟨b1,o1+k*14+9,none⟩=some (.string rootX)∧V.cell? ⟨b1,o1+k*14+10,none⟩=some (.slice apX n1X c1X)∧V.cell? ⟨b1,o1+k*14+11,none⟩=some (.int .i64 siX)∧V.cell? ⟨b1,o1+k*14+12,none⟩=some (.slice aqX n2X c2X)∧V.cell? ⟨b1,o1+k*14+13,none⟩=some (.slice arX n3X c3X)∧V.cell? ⟨N,0,none⟩=some (.int .i64 hol)∧V.cell? ⟨N,1,none⟩=some (.int .i64 vlt)∧V.cell? ⟨N,2,none⟩=some (.string str)∧V.cell? ⟨N,3,none⟩=some (.int .i64 ix)∧V.cell? ⟨N,4,none⟩=some (.int .i64 sz)∧V.cell? ⟨N,5,none⟩=some (.int .i64 day)∧V.cell? ⟨N,6,none⟩=some (.int .i64 ser)∧V.cell? ⟨N,7,none⟩=some (.int .i64 cnt)∧V.cell? ⟨N,8,none⟩=some (.int .i64 pl)∧V.cell? ⟨N,9,none⟩=some (.string root)∧V.cell? ⟨N,10,none⟩=some (.slice ap n1 c1)∧V.cell? ⟨N,11,none⟩=some (.int .i64 si)∧V.cell? ⟨N,12,none⟩=some (.slice aq n2 c2)∧V.cell? ⟨N,13,none⟩=some (.slice ar n3 c3)):=hid (fun V h=>by
   have f: ∀{ad:Addr} {u:Value},wr.cell? ad=some u→V.cell? ad=some u:=fun hu=>(h.cell (World.block_lt_of_cell? _ _ hu)).trans hu
   obtain ⟨q0,q1,q2,q3,q4,q5,q6,q7,q8,q9,q10,q11,q12,q13⟩:=HCN.o V (HRB.o.trans (h.mono (HSZ.o _ HRB.o)))
   exact ⟨f (hc1 0 (by decide)),f (hc1 1 (by decide)),f (hc1 2 (by decide)),f (hc1 3 (by decide)),f (hc1 4 (by decide)),f (hc1 5 (by decide)),f (hc1 6 (by decide)),f (hc1 7 (by decide)),f (hc1 8 (by decide)),f (hc1 9 (by decide)),f (hc1 10 (by decide)),f (hc1 11 (by decide)),f (hc1 12 (by decide)),f (hc1 13 (by decide)),q0,q1,q2,q3,q4,q5,q6,q7,q8,q9,q10,q11,q12,q13⟩)
  clear hc1 HOX hx h1X h2X h3X k1X k2X k3X s1X s2X s3X
  obtain ⟨D,hD⟩:=ex_eq (decide ((⟨holX,vltX,strX,ixX,szX,dayX,serX,cntX,plX,rootX,paX,siX,ptX,sqX⟩:Rc).sg=(⟨hol,vlt,str,ix,sz,day,ser,cnt,pl,root,pa,si,pt,sq⟩:Rc).sg))
  have HFD:Hid (∀V,Calls Tryz.prog 32 #[.agg #[.int .i64 holX,.int .i64 vltX,.string strX,.int .i64 ixX,.int .i64 szX,.int .i64 dayX,.int .i64 serX,.int .i64 cntX,.int .i64 plX,.string rootX,.slice apX n1X c1X,.int .i64 siX,.slice aqX n2X c2X,.slice arX n3X c3X],.agg #[.int .i64 hol,.int .i64 vlt,.string str,.int .i64 ix,.int .i64 sz,.int .i64 day,.int .i64 ser,.int .i64 cnt,.int .i64 pl,.string root,.slice ap n1 c1,.int .i64 si,.slice aq n2 c2,.slice ar n3 c3]] V fun e w'=>e= .returned (.bool D)∧Below V.heap.size V w'):=hid (fun V=>by
   have h:=refFields_any holX vltX strX ixX szX dayX serX cntX plX rootX apX n1X c1X siX aqX n2X c2X arX n3X c3X paX ptX sqX hol vlt str ix sz day ser cnt pl root ap n1 c1 si aq n2 c2 ar n3 c3 pa pt sq V
   rw [← hD]
   exact h)
  have HD:=hid hD
  clear hD
  go_upto_region 6 with fail
  have HDR:Hid (Below wr.heap.size wr wr.drew):=hid (Below.refl _ _).drew
  obtain ⟨VD,hVD⟩:=ex_eq wr.drew
  rw [hVD] at HDR
  refine Kit.wp_region_gplan (fun V=>V.cell? ⟨b1,o1+k*14,none⟩=some (.int .i64 holX)∧V.cell? ⟨b1,o1+k*14+1,none⟩=some (.int .i64 vltX)∧V.cell? ⟨b1,o1+k*14+2,none⟩=some (.string strX)∧V.cell? ⟨b1,o1+k*14+3,none⟩=some (.int .i64 ixX)∧V.cell? ⟨b1,o1+k*14+4,none⟩=some (.int .i64 szX)∧V.cell? ⟨b1,o1+k*14+5,none⟩=some (.int .i64 dayX)∧V.cell? ⟨b1,o1+k*14+6,none⟩=some (.int .i64 serX)∧V.cell? ⟨b1,o1+k*14+7,none⟩=some (.int .i64 cntX)∧V.cell? ⟨b1,o1+k*14+8,none⟩=some (.int .i64 plX)∧V.cell? ⟨b1,o1+k*14+9,none⟩=some (.string rootX)∧V.cell? ⟨b1,o1+k*14+10,none⟩=some (.slice apX n1X c1X)∧V.cell? ⟨b1,o1+k*14+11,none⟩=some (.int .i64 siX)∧V.cell? ⟨b1,o1+k*14+12,none⟩=some (.slice aqX n2X c2X)∧V.cell? ⟨b1,o1+k*14+13,none⟩=some (.slice arX n3X c3X)∧V.cell? ⟨N,0,none⟩=some (.int .i64 hol)∧V.cell? ⟨N,1,none⟩=some (.int .i64 vlt)∧V.cell? ⟨N,2,none⟩=some (.string str)∧V.cell? ⟨N,3,none⟩=some (.int .i64 ix)∧V.cell? ⟨N,4,none⟩=some (.int .i64 sz)∧V.cell? ⟨N,5,none⟩=some (.int .i64 day)∧V.cell? ⟨N,6,none⟩=some (.int .i64 ser)∧V.cell? ⟨N,7,none⟩=some (.int .i64 cnt)∧V.cell? ⟨N,8,none⟩=some (.int .i64 pl)∧V.cell? ⟨N,9,none⟩=some (.string root)∧V.cell? ⟨N,10,none⟩=some (.slice ap n1 c1)∧V.cell? ⟨N,11,none⟩=some (.int .i64 si)∧V.cell? ⟨N,12,none⟩=some (.slice aq n2 c2)∧V.cell? ⟨N,13,none⟩=some (.slice ar n3 c3)) [(true,0),(true,1),(true,2),(true,3),(true,4),(false,5)] (by kernel_rfl) (by kernel_rfl) (by kernel_rfl) (by kernel_rfl) (by rw [hVD];exact HSP.o _ HDR.o) ?_
  rw [hVD]
  clear hVD
  iterate 5 (refine Kit.ghd (h:= ?_))
  refine Kit.gplan_op (by rfl) (by rfl) fun K' hK'=> ?_
  go_simp
  go_at_call 32
  with_reducible refine (HFD.o VD).mono ?_
  rintro e y1 ⟨rfl,hb⟩
  have Hy1:Hid (Below wr.heap.size wr y1):=hid (HDR.o.trans (hb.mono HDR.o.size))
  clear hb HDR
  refine hK' _ _ (HSP.o _ Hy1.o) ?_
  clear hK' K'
  refine Kit.gdn (h:=?_)
  have HY1:Hid (Below (N+1) W y1):=hid (HST.o _ _ HRB.o Hy1.o)
  cases D
  ·go_wp2_with fail
   go_roundw
   case rel=>exact ⟨k+1,hlt,by go_num,hid (fun j h hj=>by
    by_cases e:j=k
    ·subst e;rw [HXE.o];exact of_decide_eq_false HD.o
    ·exact HNE.o j h (by omega)),HY1⟩
   case measure=>simp [intOf];omega
  ·have HAD:Hid (addB (xs.map RcV.r) ⟨hol,vlt,str,ix,sz,day,ser,cnt,pl,root,pa,si,pt,sq⟩=(xs.map RcV.r,5)):=hid (by
      unfold addB
      rw [if_pos HVA.o,if_pos]
      rw [List.any_eq_true]
      exact ⟨_,List.mem_map_of_mem (List.getElem_mem HK1.o),by rw [HXE.o];exact HD.o⟩)
   go_wp2_with fail
   go_ret2
   exact ⟨_,L,c,xs,by rw [HAD.o];try rfl,HLE.o,by rw [HAD.o];try rfl,HXW.o _ HY1.o,HCP.o.1,HCP.o.2,fun y hy=> .inl hy,.inl rfl,by first | exact HBW.o _ HY1.o | (rw [HN.o];exact HBW.o _ HY1.o)⟩
end Go.Proofs.YtndlihclgdkpaaaGreatDoor
