/- The document's Holder. -/
import Derived.Deep.CutRange
import Derived.Test.YtndlihclgdkpaaaGreatDoorGn
import Derived.Test.YtndlihclgdkpaaaGreatDoorQfb
import Derived.Test.YtndlihclgdkpaaaGreatDoorQfa
import Derived.Test.YtndlihclgdkpaaaGreatDoorQcm
set_option linter.unusedVariables false
set_option linter.unusedSimpArgs false
open Go.Lib (hid)
namespace Go.Proofs.YtndlihclgdkpaaaGreatDoor
open Go.RowKit
open Kit (Chg)
open Sha (v)
open Go.Proofs.YtndlihclgdkpaaaGreatDoor.One

theorem isCur_same {m:List Rc} (hg:GoodB m) {h:Int} {x r:Rc} (hx:x ∈ m) (hc:curB m x.pc=some r):isCur m h x=(decide (r.hol=h) && sameR r x):=by
 unfold isCur
 rw [hc]
 cases hs:sameR r x with
 | true=>
   have e:=sameR_iff.1 hs
   subst e
   simp [sameN_iff.2 ⟨rfl,rfl⟩]
 | false=>
   have h2:sameN r x=false:=by
    cases h2:sameN r x with
    | false=>rfl
    | true=>
      have h3:=hg.uniq (curB_some hc).1 hx (sameN_iff.1 h2)
      rw [h3,sameR_iff.2 rfl] at hs
      cases hs
   simp [h2]
theorem curB_mem {m:List Rc} {x:Rc} (hx:x ∈ m): ∃r,curB m x.pc=some r:=by
 unfold curB
 cases hl:(ofB m x.pc).getLast? with
 | some r=>exact ⟨r,rfl⟩
 | none=>
   exfalso
   have h1:x ∈ ofB m x.pc:=List.mem_filter.2 ⟨hx,by simp [isPc]⟩
   rw [List.getLast?_eq_none_iff.1 hl] at h1
   cases h1
theorem take_filt (p:Rc→Bool) (m:List Rc) (k:Nat) (hk:k<m.length) (b:Bool) (h:p m[k]=b):(m.take (k+1)).filter p=(m.take k).filter p++(if b then [m[k]] else []):=by
 rw [List.take_add_one,lE hk,List.filter_append]
 show _++List.filter p [m[k]]=_
 rw [List.filter_cons,List.filter_nil,h]
theorem insP_at (x:Rc): ∀(l:List Rc) (P:Nat),P≤l.length→(∀i (h:i<l.length),i<P→ltP l[i] x=true)→(∀h:P<l.length,ltP l[P] x=false)→insP l x=l.take P++x::l.drop P
 | [],P,hP,_,_=>by
   have:P=0:=by simpa using hP
   subst this
   rfl
 | y::l,0,_,_,h2=>by
   have h3:=h2 (Nat.succ_pos _)
   simp only [List.getElem_cons_zero] at h3
   unfold insP
   rw [List.takeWhile_cons,List.dropWhile_cons,h3]
   rfl
 | y::l,P+1,hP,h1,h2=>by
   have h3:=h1 0 (Nat.succ_pos _) (Nat.succ_pos _)
   simp only [List.getElem_cons_zero] at h3
   have ih:=insP_at x l P (by simpa using hP) (fun i h hi=>by
    have h4:=h1 (i+1) (by simpa using h) (by omega)
    rwa [List.getElem_cons_succ] at h4) (fun h=>by
    have h4:=h2 (by simpa using h)
    rwa [List.getElem_cons_succ] at h4)
   unfold insP at ih ⊢
   rw [List.takeWhile_cons,List.dropWhile_cons,h3]
   simp only [if_true,List.cons_append,List.take_succ_cons,List.drop_succ_cons]
   rw [ih]
theorem DocRc.rcs2 {w:World} {B n:Nat} {v:Value} {ys:List RcV} (h:DocRc w B v n ys): ∃a cap,v= .slice a n cap∧RcsAt w a ys∧n≤cap∧(a=none→cap=0):=by
 obtain ⟨a,cap,rfl,h1,h2⟩:=h.rcs
 refine ⟨a,cap,rfl,h1,?_,h2⟩
 rcases h.1.2 with ⟨h3,h4⟩ | ⟨g,c,cur,e,_,_,h5,_⟩
 ·omega
 ·injection e with _ _ e
  omega
set_option maxRecDepth 100000 in
set_option maxHeartbeats 4000000 in
theorem refHolder_any (a:Option Addr) (c L:Nat) (xs:List RcV) (hLe:xs.length=L) (hL:L≤1000) (hg:GoodB (xs.map RcV.r)) (hm: ∀x ∈ xs,x.r.path.length≤1000000∧x.r.parts.length≤1000000∧x.r.sp.length≤1000000) (h:Int) (w:World) (hX:RcsAt w a xs):
    Calls Tryz.prog 135 #[.slice a L c,.int .i64 h] w fun e w'=> ∃v,e= .returned v∧ ∃n ys,DocRc w' w.heap.size v n ys∧ys.map RcV.r=holdB (xs.map RcV.r) h∧(∀y ∈ ys,y ∈ xs)∧n≤L∧Below w.heap.size w w':=by
 have HX:=hid hX
 have HLE:=hid hLe
 have HMX:=hid hm
 obtain ⟨N,hN⟩:=ex_eq w.heap.size
 have HN:=hid hN
 have HL:=hid hL
 have HXW:Hid (∀V,Below N w V→RcsAt V a xs):=hid (fun V h=>HX.o.later (by rw [HN.o];exact h))
 have HSZ:Hid (∀V,Below N w V→N≤V.heap.size):=hid (fun V h=>by have:=h.size;have:=HN.o;omega)
 obtain ⟨m,hm2⟩:=ex_eq (xs.map RcV.r)
 have HM:=hid hm2
 rw [hm2] at hg
 have HG:=hid hg
 have HML:Hid (m.length=L):=hid (by rw [← hm2,List.length_map];exact hLe)
 clear hLe hX hN hm hm2 hg
 go_enter Tryz.func135,Tryz.ntmps135
 go_upto_region 2 with fail
 refine wp_over (fun V=>Hid (V.ownsRow N 47 14 (.slice (some ⟨w.heap.size,0,none⟩) 0 0) 0 (rcv []))∧Hid (Below N w V)) ⟨hid (own_emptyB (by have:=HN.o;omega)),hid ((Below.refl _ _).alloc (by have:=HN.o;omega) _)⟩ ?_
 rintro Y ⟨HY,HYB⟩
 go_upto_region 3 with fail
 go_loopw [5,6] (fun v y wr=> ∃(k n:Nat) (ys:List RcV),k≤L∧y= .int .i64 (k:Int)∧Hid (DocRc wr N v n ys)∧Hid (n≤k∧ys.map RcV.r=((m.take k).filter (isCur m h)).foldl insP []∧ ∀y ∈ ys,y ∈ xs)∧Hid (Below N w wr)) (fun _ y _=>L - (intOf y).toNat)
 case atStart=>exact ⟨0,0,[],Nat.zero_le _,rfl,hid ⟨HY.o,rfl,fun y hy=>by simp at hy⟩,hid ⟨Nat.le_refl _,by rw [List.take_zero];rfl,fun y hy=>by simp at hy⟩,HYB⟩
 case round=>
  obtain ⟨k,n,ys,hk,rfl,HDC,HF,HR⟩:=hrel
  by_cases hlt:k<L
  rotate_left
  ·have hki: ¬(k:Int)<(L:Int):=by omega
   have hke:k=L:=by omega
   have HFE:Hid (ys.map RcV.r=holdB m h):=hid (by have h1:=HF.o.2.1;rwa [hke,List.take_of_length_le (Nat.le_of_eq HML.o)] at h1)
   go_wp2_with fail
   go_ret
   rw [HM.o]
   exact ⟨_,rfl,n,ys,by rw [HN.o];exact HDC.o,HFE.o,HF.o.2.2,by have:=HF.o.1;omega,by rw [HN.o];exact HR.o⟩
  have hki:(k:Int)<(L:Int):=by omega
  have HK1:Hid (k<xs.length):=hid (by rw [HLE.o];exact hlt)
  obtain ⟨b1,o1,rfl,hc1⟩:=(HXW.o _ HR.o).one k HK1.o
  have HOX:=hid (HX.o.2 _ (List.getElem_mem HK1.o))
  have HMM:=HMX.o _ (List.getElem_mem HK1.o)
  obtain ⟨x,hx⟩:=ex_eq (xs[k]'HK1.o)
  rw [hx] at hc1 HOX HMM
  obtain ⟨⟨holX,vltX,strX,ixX,szX,dayX,serX,cntX,plX,rootX,paX,siX,ptX,sqX⟩,apX,c1X,aqX,c2X,arX,c3X⟩:=x
  simp only [RcV.cells] at hc1
  obtain ⟨n1X,h1X⟩:=ex_eq paX.length
  obtain ⟨n2X,h2X⟩:=ex_eq ptX.length
  obtain ⟨n3X,h3X⟩:=ex_eq sqX.length
  have g1:=HOX.o
  obtain ⟨k1X,k2X,k3X,s1X,s2X,s3X⟩:=g1
  simp only at k1X k2X k3X s1X s2X s3X HMM
  rw [h1X,h2X,h3X] at hc1
  rw [h1X] at k1X
  rw [h2X] at k2X
  rw [h3X] at k3X
  have HLX:Hid (paX.length=n1X∧ptX.length=n2X∧sqX.length=n3X∧n1X<9223372036854775808∧n2X<9223372036854775808∧n3X<9223372036854775808):=hid ⟨h1X,h2X,h3X,k1X,k2X,k3X⟩
  have HSX:Hid (∀V,Below w.heap.size w V→StrsAt V apX paX∧StrsAt V aqX ptX∧StrsAt V arX sqX):=hid (fun V h=>⟨s1X.later h,s2X.later h,s3X.later h⟩)
  have HMK:Hid (m[k]'(by rw [HML.o];exact hlt)=⟨holX,vltX,strX,ixX,szX,dayX,serX,cntX,plX,rootX,paX,siX,ptX,sqX⟩):=hid (by
   have h1:(xs.map RcV.r)[k]'(by rw [List.length_map];exact HK1.o)=m[k]'(by rw [HML.o];exact hlt):=List.getElem_of_eq HM.o _
   rw [← h1,List.getElem_map,hx])
  have HXM:Hid (⟨holX,vltX,strX,ixX,szX,dayX,serX,cntX,plX,rootX,paX,siX,ptX,sqX⟩ ∈ m):=hid (by rw [← HMK.o];exact List.getElem_mem _)
  have HCX:Hid (∀V,Below wr.heap.size wr V→V.cell? ⟨b1,o1+k*14,none⟩=some (.int .i64 holX)∧V.cell? ⟨b1,o1+k*14+1,none⟩=some (.int .i64 vltX)∧V.cell? ⟨b1,o1+k*14+2,none⟩=some (.string strX)∧V.cell? ⟨b1,o1+k*14+3,none⟩=some (.int .i64 ixX)∧V.cell? ⟨b1,o1+k*14+4,none⟩=some (.int .i64 szX)∧V.cell? ⟨b1,o1+k*14+5,none⟩=some (.int .i64 dayX)∧V.cell? ⟨b1,o1+k*14+6,none⟩=some (.int .i64 serX)∧V.cell? ⟨b1,o1+k*14+7,none⟩=some (.int .i64 cntX)∧V.cell? ⟨b1,o1+k*14+8,none⟩=some (.int .i64 plX)∧V.cell? ⟨b1,o1+k*14+9,none⟩=some (.string rootX)∧V.cell? ⟨b1,o1+k*14+10,none⟩=some (.slice apX n1X c1X)∧V.cell? ⟨b1,o1+k*14+11,none⟩=some (.int .i64 siX)∧V.cell? ⟨b1,o1+k*14+12,none⟩=some (.slice aqX n2X c2X)∧V.cell? ⟨b1,o1+k*14+13,none⟩=some (.slice arX n3X c3X)):=hid (fun V h=>by
   have f: ∀{ad:Addr} {u:Value},wr.cell? ad=some u→V.cell? ad=some u:=fun hu=>(h.cell (World.block_lt_of_cell? _ _ hu)).trans hu
   exact ⟨f (hc1 0 (by decide)),f (hc1 1 (by decide)),f (hc1 2 (by decide)),f (hc1 3 (by decide)),f (hc1 4 (by decide)),f (hc1 5 (by decide)),f (hc1 6 (by decide)),f (hc1 7 (by decide)),f (hc1 8 (by decide)),f (hc1 9 (by decide)),f (hc1 10 (by decide)),f (hc1 11 (by decide)),f (hc1 12 (by decide)),f (hc1 13 (by decide))⟩)
  clear hc1 HOX hx h1X h2X h3X k1X k2X k3X s1X s2X s3X HMM
  obtain ⟨r,hcu⟩:=curB_mem HXM.o
  have HIC:=hid (isCur_same HG.o (h:=h) HXM.o hcu)
  obtain ⟨hol,vlt,str,ix,sz,day,ser,cnt,pl,root,pa,si,pt,sq⟩:=r
  obtain ⟨n1,e1⟩:=ex_eq pa.length
  obtain ⟨n2,e2⟩:=ex_eq pt.length
  obtain ⟨n3,e3⟩:=ex_eq sq.length
  have HLR:Hid (pa.length=n1∧pt.length=n2∧sq.length=n3):=hid ⟨e1,e2,e3⟩
  have HCU:=hid (refCurrent_some (some ⟨b1,o1,none⟩) c L xs HLE.o (Nat.le_trans HL.o (by decide)) strX ixX hol vlt str ix sz day ser cnt pl root si pa pt sq n1 n2 n3 e1 e2 e3 (by rw [HM.o];exact hcu) wr (HXW.o _ HR.o))
  clear hcu e1 e2 e3
  obtain ⟨q0,q1,q2,q3,q4,q5,q6,q7,q8,q9,q10,q11,q12,q13⟩:=HCX.o wr (Below.refl _ _)
  go_upto_region 6 with fail
  go_at_call 45
  with_reducible refine HCU.o.mono ?_
  rintro e w2 ⟨ap,c1,aq,c2,ar,c3,rfl,hmem,hb⟩
  have HRM:=hid hmem
  have HB2:=hid hb
  clear hb hmem HCU q0 q1 q2 q3 q4 q5 q6 q7 q8 q9 q10 q11 q12 q13
  go_upto_region 6 with fail
  refine wp_over (fun V=>Hid (V.heap[w2.heap.size]? =some (.cells #[.int .i64 hol,.int .i64 vlt,.string str,.int .i64 ix,.int .i64 sz,.int .i64 day,.int .i64 ser,.int .i64 cnt,.int .i64 pl,.string root,.slice ap n1 c1,.int .i64 si,.slice aq n2 c2,.slice ar n3 c3] 47 (0,0)))∧Hid (Below w2.heap.size w2 V)∧Hid (V.heap.size=w2.heap.size+1)) ⟨heap_alloc_new _ _,(Below.refl _ _).alloc (Nat.le_refl _) _,by show _=_;simp⟩ ?_
  rintro X ⟨HGR,HXB,HXS⟩
  have HBX:Hid (Below wr.heap.size wr X):=hid (HB2.o.trans (HXB.o.mono HB2.o.size))
  have HD2:Hid (DocRc X N u5 n ys):=hid (HDC.o.later HBX.o)
  have H2:Hid (Below N w X):=hid (HR.o.trans (HBX.o.mono (HSZ.o _ HR.o)))
  obtain ⟨D,hD⟩:=ex_eq w2.heap.size
  rw [hD] at HGR HXS ⊢
  have HDW:Hid (wr.heap.size≤D∧X.heap.size=D+1):=hid ⟨by rw [← hD];exact HB2.o.size,HXS.o⟩
  clear hD HXB HXS HB2
  have HSR:Hid (∀V,Below N w V→StrsAt V ap pa∧StrsAt V aq pt∧StrsAt V ar sq):=hid (fun V h=>by
   obtain ⟨_,_,_,g1,g2,g3⟩:=(HXW.o V h).2 _ HRM.o
   exact ⟨g1,g2,g3⟩)
  have HKR:Hid (n1<9223372036854775808∧n2<9223372036854775808∧n3<9223372036854775808):=hid (by
   obtain ⟨g1,g2,g3,_⟩:=HX.o.2 _ HRM.o
   have l:=HLR.o
   obtain ⟨rfl,rfl,rfl⟩:=l
   exact ⟨g1,g2,g3⟩)
  have HSP:Hid (∀V,Below X.heap.size X V→(V.cell? ⟨b1,o1+k*14,none⟩=some (.int .i64 holX)∧V.cell? ⟨b1,o1+k*14+1,none⟩=some (.int .i64 vltX)∧V.cell? ⟨b1,o1+k*14+2,none⟩=some (.string strX)∧V.cell? ⟨b1,o1+k*14+3,none⟩=some (.int .i64 ixX)∧V.cell? ⟨b1,o1+k*14+4,none⟩=some (.int .i64 szX)∧V.cell? ⟨b1,o1+k*14+5,none⟩=some (.int .i64 dayX)∧V.cell? ⟨b1,o1+k*14+6,none⟩=some (.int .i64 serX)∧V.cell? ⟨b1,o1+k*14+7,none⟩=some (.int .i64 cntX)∧V.cell? ⟨b1,o1+k*14+8,none⟩=some (.int .i64 plX)∧V.cell? ⟨b1,o1+k*14+9,none⟩=some (.string rootX)∧V.cell? ⟨b1,o1+k*14+10,none⟩=some (.slice apX n1X c1X)∧V.cell? ⟨b1,o1+k*14+11,none⟩=some (.int .i64 siX)∧V.cell? ⟨b1,o1+k*14+12,none⟩=some (.slice aqX n2X c2X)∧V.cell? ⟨b1,o1+k*14+13,none⟩=some (.slice arX n3X c3X))∧V.cell? ⟨D,0,none⟩=some (.int .i64 hol)∧V.cell? ⟨D,1,none⟩=some (.int .i64 vlt)∧V.cell? ⟨D,2,none⟩=some (.string str)∧V.cell? ⟨D,3,none⟩=some (.int .i64 ix)∧V.cell? ⟨D,4,none⟩=some (.int .i64 sz)∧V.cell? ⟨D,5,none⟩=some (.int .i64 day)∧V.cell? ⟨D,6,none⟩=some (.int .i64 ser)∧V.cell? ⟨D,7,none⟩=some (.int .i64 cnt)∧V.cell? ⟨D,8,none⟩=some (.int .i64 pl)∧V.cell? ⟨D,9,none⟩=some (.string root)∧V.cell? ⟨D,10,none⟩=some (.slice ap n1 c1)∧V.cell? ⟨D,11,none⟩=some (.int .i64 si)∧V.cell? ⟨D,12,none⟩=some (.slice aq n2 c2)∧V.cell? ⟨D,13,none⟩=some (.slice ar n3 c3)):=hid (fun V h=>⟨HCX.o V (HBX.o.trans (h.mono HBX.o.size)),row14 ((h.block D (by have:=HDW.o;omega)).trans HGR.o)⟩)
  have HNW:Hid (∀V,Below X.heap.size X V→Below N w V):=hid (fun V h=>H2.o.trans (h.mono (HSZ.o _ H2.o)))
  have HLM:Hid (n1≤1000000∧n2≤1000000∧n3≤1000000):=hid (by
   have l:=HLR.o
   obtain ⟨rfl,rfl,rfl⟩:=l
   exact HMX.o _ HRM.o)
  go_upto_region 6 with fail
  by_cases eh:hol=h
  rotate_left
  ·have hq1:(hol != h)=true:=by rw [bne_iff_ne];exact eh
   have HFS:=hid (take_filt (isCur m h) m k (by rw [HML.o];exact hlt) false (by rw [HMK.o,HIC.o,decide_eq_false eh];rfl))
   clear eh HIC
   have HDR:Hid (Below X.heap.size X X.drew):=hid (Below.refl _ _).drew
   obtain ⟨VD,hVD⟩:=ex_eq X.drew
   rw [hVD] at HDR
   refine Kit.wp_region_hplan (fun V=>(V.cell? ⟨b1,o1+k*14,none⟩=some (.int .i64 holX)∧V.cell? ⟨b1,o1+k*14+1,none⟩=some (.int .i64 vltX)∧V.cell? ⟨b1,o1+k*14+2,none⟩=some (.string strX)∧V.cell? ⟨b1,o1+k*14+3,none⟩=some (.int .i64 ixX)∧V.cell? ⟨b1,o1+k*14+4,none⟩=some (.int .i64 szX)∧V.cell? ⟨b1,o1+k*14+5,none⟩=some (.int .i64 dayX)∧V.cell? ⟨b1,o1+k*14+6,none⟩=some (.int .i64 serX)∧V.cell? ⟨b1,o1+k*14+7,none⟩=some (.int .i64 cntX)∧V.cell? ⟨b1,o1+k*14+8,none⟩=some (.int .i64 plX)∧V.cell? ⟨b1,o1+k*14+9,none⟩=some (.string rootX)∧V.cell? ⟨b1,o1+k*14+10,none⟩=some (.slice apX n1X c1X)∧V.cell? ⟨b1,o1+k*14+11,none⟩=some (.int .i64 siX)∧V.cell? ⟨b1,o1+k*14+12,none⟩=some (.slice aqX n2X c2X)∧V.cell? ⟨b1,o1+k*14+13,none⟩=some (.slice arX n3X c3X))∧V.cell? ⟨D,0,none⟩=some (.int .i64 hol)∧V.cell? ⟨D,1,none⟩=some (.int .i64 vlt)∧V.cell? ⟨D,2,none⟩=some (.string str)∧V.cell? ⟨D,3,none⟩=some (.int .i64 ix)∧V.cell? ⟨D,4,none⟩=some (.int .i64 sz)∧V.cell? ⟨D,5,none⟩=some (.int .i64 day)∧V.cell? ⟨D,6,none⟩=some (.int .i64 ser)∧V.cell? ⟨D,7,none⟩=some (.int .i64 cnt)∧V.cell? ⟨D,8,none⟩=some (.int .i64 pl)∧V.cell? ⟨D,9,none⟩=some (.string root)∧V.cell? ⟨D,10,none⟩=some (.slice ap n1 c1)∧V.cell? ⟨D,11,none⟩=some (.int .i64 si)∧V.cell? ⟨D,12,none⟩=some (.slice aq n2 c2)∧V.cell? ⟨D,13,none⟩=some (.slice ar n3 c3)) [(true,0),(true,1),(true,2),(true,3),(true,4),(true,5),(true,6),(true,7),(true,8),(true,9),(false,10),(true,11),(true,12)] (by kernel_rfl) (by kernel_rfl) (by kernel_rfl) (by kernel_rfl) (by rw [hVD];exact HSP.o _ HDR.o) ?_
   rw [hVD]
   clear hVD
   iterate 10 (refine Kit.hhd (h:= ?_))
   refine Kit.hsk (h:=?_)
   iterate 2 (refine Kit.hhd (h:= ?_))
   refine Kit.hdn (h:=?_)
   go_wp2_with fail
   go_roundw
   case rel=>exact ⟨k+1,n,ys,hlt,by go_num,hid (HD2.o.later HDR.o),hid ⟨Nat.le_succ_of_le HF.o.1,by rw [HFS.o,if_neg (by decide),List.append_nil];exact HF.o.2.1,HF.o.2.2⟩,hid (H2.o.trans (HDR.o.mono (HSZ.o _ H2.o)))⟩
   case measure=>simp [intOf];omega
  have hq1:(hol != h)=false:=by rw [eh,bne_self_eq_false]
  rw [decide_eq_true eh,Bool.true_and] at HIC
  obtain ⟨F,hF⟩:=ex_eq (sameR ⟨hol,vlt,str,ix,sz,day,ser,cnt,pl,root,pa,si,pt,sq⟩ ⟨holX,vltX,strX,ixX,szX,dayX,serX,cntX,plX,rootX,paX,siX,ptX,sqX⟩)
  have HSM:Hid (∀V,Below X.heap.size X V→Calls Tryz.prog 27 #[.agg #[.int .i64 hol,.int .i64 vlt,.string str,.int .i64 ix,.int .i64 sz,.int .i64 day,.int .i64 ser,.int .i64 cnt,.int .i64 pl,.string root,.slice ap n1 c1,.int .i64 si,.slice aq n2 c2,.slice ar n3 c3],.agg #[.int .i64 holX,.int .i64 vltX,.string strX,.int .i64 ixX,.int .i64 szX,.int .i64 dayX,.int .i64 serX,.int .i64 cntX,.int .i64 plX,.string rootX,.slice apX n1X c1X,.int .i64 siX,.slice aqX n2X c2X,.slice arX n3X c3X]] V fun e w'=>e= .returned (.bool F)∧Below V.heap.size V w'):=hid (fun V h=>by
   have hb:=HNW.o V h
   have hb2:Below w.heap.size w V:=by rw [HN.o];exact hb
   have h1:=refSame43_any hol vlt str ix sz day ser cnt pl root ap n1 c1 si aq n2 c2 ar n3 c3 pa pt sq holX vltX strX ixX szX dayX serX cntX plX rootX apX n1X c1X siX aqX n2X c2X arX n3X c3X paX ptX sqX V HLR.o.1 HKR.o.1 (HSR.o V hb).1 HLR.o.2.1 HKR.o.2.1 (HSR.o V hb).2.1 HLR.o.2.2 HKR.o.2.2 (HSR.o V hb).2.2 HLX.o.1 HLX.o.2.2.2.1 (HSX.o V hb2).1 HLX.o.2.1 HLX.o.2.2.2.2.1 (HSX.o V hb2).2.1 HLX.o.2.2.1 HLX.o.2.2.2.2.2 (HSX.o V hb2).2.2 HLM.o.1 HLM.o.2.1 HLM.o.2.2
   rw [hF] at h1
   exact h1)
  rw [hF] at HIC
  have HFF:=hid hF
  have HFS:=hid (take_filt (isCur m h) m k (by rw [HML.o];exact hlt) F (by rw [HMK.o,HIC.o]))
  clear hF HIC eh
  have HDR:Hid (Below X.heap.size X X.drew):=hid (Below.refl _ _).drew
  obtain ⟨VD,hVD⟩:=ex_eq X.drew
  rw [hVD] at HDR
  refine Kit.wp_region_hplan (fun V=>(V.cell? ⟨b1,o1+k*14,none⟩=some (.int .i64 holX)∧V.cell? ⟨b1,o1+k*14+1,none⟩=some (.int .i64 vltX)∧V.cell? ⟨b1,o1+k*14+2,none⟩=some (.string strX)∧V.cell? ⟨b1,o1+k*14+3,none⟩=some (.int .i64 ixX)∧V.cell? ⟨b1,o1+k*14+4,none⟩=some (.int .i64 szX)∧V.cell? ⟨b1,o1+k*14+5,none⟩=some (.int .i64 dayX)∧V.cell? ⟨b1,o1+k*14+6,none⟩=some (.int .i64 serX)∧V.cell? ⟨b1,o1+k*14+7,none⟩=some (.int .i64 cntX)∧V.cell? ⟨b1,o1+k*14+8,none⟩=some (.int .i64 plX)∧V.cell? ⟨b1,o1+k*14+9,none⟩=some (.string rootX)∧V.cell? ⟨b1,o1+k*14+10,none⟩=some (.slice apX n1X c1X)∧V.cell? ⟨b1,o1+k*14+11,none⟩=some (.int .i64 siX)∧V.cell? ⟨b1,o1+k*14+12,none⟩=some (.slice aqX n2X c2X)∧V.cell? ⟨b1,o1+k*14+13,none⟩=some (.slice arX n3X c3X))∧V.cell? ⟨D,0,none⟩=some (.int .i64 hol)∧V.cell? ⟨D,1,none⟩=some (.int .i64 vlt)∧V.cell? ⟨D,2,none⟩=some (.string str)∧V.cell? ⟨D,3,none⟩=some (.int .i64 ix)∧V.cell? ⟨D,4,none⟩=some (.int .i64 sz)∧V.cell? ⟨D,5,none⟩=some (.int .i64 day)∧V.cell? ⟨D,6,none⟩=some (.int .i64 ser)∧V.cell? ⟨D,7,none⟩=some (.int .i64 cnt)∧V.cell? ⟨D,8,none⟩=some (.int .i64 pl)∧V.cell? ⟨D,9,none⟩=some (.string root)∧V.cell? ⟨D,10,none⟩=some (.slice ap n1 c1)∧V.cell? ⟨D,11,none⟩=some (.int .i64 si)∧V.cell? ⟨D,12,none⟩=some (.slice aq n2 c2)∧V.cell? ⟨D,13,none⟩=some (.slice ar n3 c3)) [(true,0),(true,1),(true,2),(true,3),(true,4),(true,5),(true,6),(true,7),(true,8),(true,9),(false,10),(true,11),(true,12)] (by kernel_rfl) (by kernel_rfl) (by kernel_rfl) (by kernel_rfl) (by rw [hVD];exact HSP.o _ HDR.o) ?_
  rw [hVD]
  clear hVD
  iterate 10 (refine Kit.hhd (h:= ?_))
  refine Kit.hplan_op (by rfl) (by rfl) fun K hK=> ?_
  go_simp
  go_at_call 27
  with_reducible refine (HSM.o _ HDR.o).mono ?_
  rintro e y1 ⟨rfl,hb⟩
  have Hy1:Hid (Below X.heap.size X y1):=hid (HDR.o.trans (hb.mono HDR.o.size))
  clear hb HDR
  refine hK _ _ (HSP.o _ Hy1.o) ?_
  clear hK K
  iterate 2 (refine Kit.hhd (h:= ?_))
  refine Kit.hdn (h:=?_)
  cases F
  ·go_wp2_with fail
   go_roundw
   case rel=>exact ⟨k+1,n,ys,hlt,by go_num,hid (HD2.o.later Hy1.o),hid ⟨Nat.le_succ_of_le HF.o.1,by rw [HFS.o,if_neg (by decide),List.append_nil];exact HF.o.2.1,HF.o.2.2⟩,hid (H2.o.trans (Hy1.o.mono (HSZ.o _ H2.o)))⟩
   case measure=>simp [intOf];omega
  have HXR:Hid ((⟨hol,vlt,str,ix,sz,day,ser,cnt,pl,root,pa,si,pt,sq⟩:Rc)=⟨holX,vltX,strX,ixX,szX,dayX,serX,cntX,plX,rootX,paX,siX,ptX,sqX⟩):=hid (sameR_iff.1 HFF.o)
  have HD3:Hid (DocRc y1 N u5 n ys):=hid (HD2.o.later Hy1.o)
  have HW1:Hid (Below N w y1):=hid (HNW.o _ Hy1.o)
  obtain ⟨ao,cp,rfl,hrc,hnc,hnil⟩:=HD3.o.rcs2
  have HLY:Hid (ys.length=n):=hid HD3.o.2.1
  obtain ⟨B2,hB2⟩:=ex_eq y1.heap.size
  have HB2:=hid hB2
  have HNB:Hid (N≤B2):=hid (by rw [← hB2];exact HSZ.o _ HW1.o)
  have HRY:Hid (∀V,Below B2 y1 V→RcsAt V ao ys):=hid (fun V h=>hrc.later (by rw [hB2];exact h))
  have HNC:=hid (And.intro hnc hnil)
  have HSZ2:Hid (∀V,Below B2 y1 V→B2≤V.heap.size):=hid (fun V h=>by have:=h.size;have:=HB2.o;omega)
  have HCD:Hid (∀V,Below B2 y1 V→V.cell? ⟨D,0,none⟩=some (.int .i64 hol)∧V.cell? ⟨D,1,none⟩=some (.int .i64 vlt)∧V.cell? ⟨D,2,none⟩=some (.string str)∧V.cell? ⟨D,3,none⟩=some (.int .i64 ix)∧V.cell? ⟨D,4,none⟩=some (.int .i64 sz)∧V.cell? ⟨D,5,none⟩=some (.int .i64 day)∧V.cell? ⟨D,6,none⟩=some (.int .i64 ser)∧V.cell? ⟨D,7,none⟩=some (.int .i64 cnt)∧V.cell? ⟨D,8,none⟩=some (.int .i64 pl)∧V.cell? ⟨D,9,none⟩=some (.string root)∧V.cell? ⟨D,10,none⟩=some (.slice ap n1 c1)∧V.cell? ⟨D,11,none⟩=some (.int .i64 si)∧V.cell? ⟨D,12,none⟩=some (.slice aq n2 c2)∧V.cell? ⟨D,13,none⟩=some (.slice ar n3 c3)):=hid (fun V h=>(HSP.o V (Hy1.o.trans (h.mono (by rw [← HB2.o];exact Hy1.o.size)))).2)
  have HWV:Hid (∀V,Below B2 y1 V→Below N w V):=hid (fun V h=>HW1.o.trans (h.mono HNB.o))
  clear hrc hnc hnil hB2
  have hnL:n≤1000:=by have:=HF.o.1;omega
  go_upto_region 7 with fail
  go_upto_region 8 with fail
  go_loopw [9] (fun y wr=> ∃j:Nat,j≤n∧y= .int .i64 (j:Int)∧Hid (∀i (h:i<ys.length),i<j→ltP ys[i].r ⟨hol,vlt,str,ix,sz,day,ser,cnt,pl,root,pa,si,pt,sq⟩=true)∧Hid (Below B2 y1 wr)) (fun y _=>n - (intOf y).toNat)
  case atStart=>exact ⟨0,Nat.zero_le _,rfl,hid (fun i _ h=>absurd h (Nat.not_lt_zero i)),hid (Below.refl _ _)⟩
  case round=>
   obtain ⟨j,hj,rfl,HLT,HRI⟩:=hrel
   have HSW:Hid (∀V,Below wr.heap.size wr V→Below B2 y1 V):=hid (fun V h=>HRI.o.trans (h.mono (HSZ2.o _ HRI.o)))
   obtain ⟨B,hB⟩:=ex_eq ((ys[j]?).any fun y=>ltP y.r ⟨hol,vlt,str,ix,sz,day,ser,cnt,pl,root,pa,si,pt,sq⟩)
   have HB:=hid hB
   clear hB
   go_upto_region 8 with fail
   go_cut [79] from 40 to 81 (fun c wx=>c= .bool B∧Hid (Below B2 y1 wx))
   case first=>
    by_cases hjn:j<n
    rotate_left
    ·have hji: ¬(j:Int)<(n:Int):=by omega
     have HBF:Hid (B=false):=hid (by rw [← HB.o,List.getElem?_eq_none (by rw [HLY.o];omega)];rfl)
     have HDR:Hid (Below wr.heap.size wr wr.drew):=hid (Below.refl _ _).drew
     obtain ⟨VD,hVD⟩:=ex_eq wr.drew
     rw [hVD] at HDR
     refine Kit.wp_region_hplan (fun V=>V.cell? ⟨D,0,none⟩=some (.int .i64 hol)∧V.cell? ⟨D,1,none⟩=some (.int .i64 vlt)∧V.cell? ⟨D,2,none⟩=some (.string str)∧V.cell? ⟨D,3,none⟩=some (.int .i64 ix)∧V.cell? ⟨D,4,none⟩=some (.int .i64 sz)∧V.cell? ⟨D,5,none⟩=some (.int .i64 day)∧V.cell? ⟨D,6,none⟩=some (.int .i64 ser)∧V.cell? ⟨D,7,none⟩=some (.int .i64 cnt)∧V.cell? ⟨D,8,none⟩=some (.int .i64 pl)∧V.cell? ⟨D,9,none⟩=some (.string root)∧V.cell? ⟨D,10,none⟩=some (.slice ap n1 c1)∧V.cell? ⟨D,11,none⟩=some (.int .i64 si)∧V.cell? ⟨D,12,none⟩=some (.slice aq n2 c2)∧V.cell? ⟨D,13,none⟩=some (.slice ar n3 c3)) [(true,0),(true,1),(true,2),(true,3),(true,4),(true,5),(true,6),(true,7),(true,8),(true,9),(true,10),(true,11),(true,12),(true,13),(true,14),(true,15),(true,16),(true,17),(true,18),(true,19),(true,20),(true,21),(true,22),(true,23),(true,24),(true,25),(true,26),(true,27),(true,28),(true,29),(true,30),(true,31),(true,32),(true,33),(true,34),(true,35),(true,36),(true,37),(true,38),(true,39)] (by kernel_rfl) (by kernel_rfl) (by kernel_rfl) (by kernel_rfl) (by rw [hVD];exact HCD.o _ (HSW.o _ HDR.o)) ?_
     rw [hVD]
     clear hVD
     iterate 40 (refine Kit.hhd (h:= ?_))
     refine Kit.hdn (h:=?_)
     (try go_wp2_with fail)
     go_meet
     case rel=>exact ⟨by rw [HBF.o];try rfl,hid (HSW.o _ HDR.o)⟩
    have hji:(j:Int)<(n:Int):=by omega
    have HJ1:Hid (j<ys.length):=hid (by rw [HLY.o];exact hjn)
    obtain ⟨b2,o2,rfl,hc2⟩:=(HRY.o _ HRI.o).one j HJ1.o
    obtain ⟨y,hy⟩:=ex_eq (ys[j]'HJ1.o)
    have HBY:Hid (B=ltP y.r ⟨hol,vlt,str,ix,sz,day,ser,cnt,pl,root,pa,si,pt,sq⟩):=hid (by rw [← HB.o,lE HJ1.o,hy];rfl)
    rw [hy] at hc2
    clear hy
    obtain ⟨⟨holY,vltY,strY,ixY,szY,dayY,serY,cntY,plY,rootY,paY,siY,ptY,sqY⟩,apY,c1Y,aqY,c2Y,arY,c3Y⟩:=y
    simp only [RcV.cells] at hc2
    have HS8:Hid (∀V,Below wr.heap.size wr V→(V.cell? ⟨b2,o2+j*14+2,none⟩=some (.string strY)∧V.cell? ⟨b2,o2+j*14+3,none⟩=some (.int .i64 ixY))∧V.cell? ⟨D,0,none⟩=some (.int .i64 hol)∧V.cell? ⟨D,1,none⟩=some (.int .i64 vlt)∧V.cell? ⟨D,2,none⟩=some (.string str)∧V.cell? ⟨D,3,none⟩=some (.int .i64 ix)∧V.cell? ⟨D,4,none⟩=some (.int .i64 sz)∧V.cell? ⟨D,5,none⟩=some (.int .i64 day)∧V.cell? ⟨D,6,none⟩=some (.int .i64 ser)∧V.cell? ⟨D,7,none⟩=some (.int .i64 cnt)∧V.cell? ⟨D,8,none⟩=some (.int .i64 pl)∧V.cell? ⟨D,9,none⟩=some (.string root)∧V.cell? ⟨D,10,none⟩=some (.slice ap n1 c1)∧V.cell? ⟨D,11,none⟩=some (.int .i64 si)∧V.cell? ⟨D,12,none⟩=some (.slice aq n2 c2)∧V.cell? ⟨D,13,none⟩=some (.slice ar n3 c3)):=hid (fun V h=>by
     have f: ∀{ad:Addr} {u:Value},wr.cell? ad=some u→V.cell? ad=some u:=fun hu=>(h.cell (World.block_lt_of_cell? _ _ hu)).trans hu
     exact ⟨⟨f (hc2 2 (by decide)),f (hc2 3 (by decide))⟩,HCD.o V (HSW.o V h)⟩)
    clear hc2
    have hls:=bytes_ltS strY str
    have heq:=str_tol strY str
    cases hT1:ltS strY str with
    | true=>
      have HBF:Hid (B=true):=hid (by rw [HBY.o,ltP_iff];exact .inl hT1)
      rw [hT1] at hls
      clear hT1 heq
      have HDR:Hid (Below wr.heap.size wr wr.drew):=hid (Below.refl _ _).drew
      obtain ⟨VD,hVD⟩:=ex_eq wr.drew
      rw [hVD] at HDR
      refine Kit.wp_region_hplan (fun V=>(V.cell? ⟨b2,o2+j*14+2,none⟩=some (.string strY)∧V.cell? ⟨b2,o2+j*14+3,none⟩=some (.int .i64 ixY))∧V.cell? ⟨D,0,none⟩=some (.int .i64 hol)∧V.cell? ⟨D,1,none⟩=some (.int .i64 vlt)∧V.cell? ⟨D,2,none⟩=some (.string str)∧V.cell? ⟨D,3,none⟩=some (.int .i64 ix)∧V.cell? ⟨D,4,none⟩=some (.int .i64 sz)∧V.cell? ⟨D,5,none⟩=some (.int .i64 day)∧V.cell? ⟨D,6,none⟩=some (.int .i64 ser)∧V.cell? ⟨D,7,none⟩=some (.int .i64 cnt)∧V.cell? ⟨D,8,none⟩=some (.int .i64 pl)∧V.cell? ⟨D,9,none⟩=some (.string root)∧V.cell? ⟨D,10,none⟩=some (.slice ap n1 c1)∧V.cell? ⟨D,11,none⟩=some (.int .i64 si)∧V.cell? ⟨D,12,none⟩=some (.slice aq n2 c2)∧V.cell? ⟨D,13,none⟩=some (.slice ar n3 c3)) [(true,0),(true,1),(true,2),(true,3),(true,4),(true,5),(true,6),(true,7),(true,8),(true,9),(true,10),(true,11),(true,12),(true,13),(true,14),(true,15),(true,16),(true,17),(true,18),(true,19),(true,20),(true,21),(true,22),(true,23),(true,24),(true,25),(true,26),(true,27),(true,28),(true,29),(true,30),(true,31),(true,32),(true,33),(true,34),(true,35),(true,36),(true,37),(true,38),(true,39)] (by kernel_rfl) (by kernel_rfl) (by kernel_rfl) (by kernel_rfl) (by rw [hVD];exact HS8.o _ HDR.o) ?_
      rw [hVD]
      clear hVD
      iterate 40 (refine Kit.hhd (h:= ?_))
      refine Kit.hdn (h:=?_)
      (try go_wp2_with fail)
      go_meet
      case rel=>exact ⟨by rw [HBF.o];try rfl,hid (HSW.o _ HDR.o)⟩
    | false=>
      rw [hT1] at hls
      by_cases hT2:strY=str
      ·rw [decide_eq_true hT2] at heq
       have HBF:Hid (B=decide (ixY<ix)):=hid (by rw [HBY.o];unfold ltP;simp only;rw [hT1,decide_eq_true hT2];rfl)
       clear hT1 hT2
       have HDR:Hid (Below wr.heap.size wr wr.drew):=hid (Below.refl _ _).drew
       obtain ⟨VD,hVD⟩:=ex_eq wr.drew
       rw [hVD] at HDR
       refine Kit.wp_region_hplan (fun V=>(V.cell? ⟨b2,o2+j*14+2,none⟩=some (.string strY)∧V.cell? ⟨b2,o2+j*14+3,none⟩=some (.int .i64 ixY))∧V.cell? ⟨D,0,none⟩=some (.int .i64 hol)∧V.cell? ⟨D,1,none⟩=some (.int .i64 vlt)∧V.cell? ⟨D,2,none⟩=some (.string str)∧V.cell? ⟨D,3,none⟩=some (.int .i64 ix)∧V.cell? ⟨D,4,none⟩=some (.int .i64 sz)∧V.cell? ⟨D,5,none⟩=some (.int .i64 day)∧V.cell? ⟨D,6,none⟩=some (.int .i64 ser)∧V.cell? ⟨D,7,none⟩=some (.int .i64 cnt)∧V.cell? ⟨D,8,none⟩=some (.int .i64 pl)∧V.cell? ⟨D,9,none⟩=some (.string root)∧V.cell? ⟨D,10,none⟩=some (.slice ap n1 c1)∧V.cell? ⟨D,11,none⟩=some (.int .i64 si)∧V.cell? ⟨D,12,none⟩=some (.slice aq n2 c2)∧V.cell? ⟨D,13,none⟩=some (.slice ar n3 c3)) [(true,0),(true,1),(true,2),(true,3),(true,4),(true,5),(true,6),(true,7),(true,8),(true,9),(true,10),(true,11),(true,12),(true,13),(true,14),(true,15),(true,16),(true,17),(true,18),(true,19),(true,20),(true,21),(true,22),(true,23),(true,24),(true,25),(true,26),(true,27),(true,28),(true,29),(true,30),(true,31),(true,32),(true,33),(true,34),(true,35),(true,36),(true,37),(true,38),(true,39)] (by kernel_rfl) (by kernel_rfl) (by kernel_rfl) (by kernel_rfl) (by rw [hVD];exact HS8.o _ HDR.o) ?_
       rw [hVD]
       clear hVD
       iterate 40 (refine Kit.hhd (h:= ?_))
       refine Kit.hdn (h:=?_)
       (try go_wp2_with fail)
       go_meet
       case rel=>exact ⟨by rw [HBF.o];try rfl,hid (HSW.o _ HDR.o)⟩
      ·rw [decide_eq_false hT2] at heq
       have HBF:Hid (B=false):=hid (by rw [HBY.o];unfold ltP;simp only;rw [hT1,decide_eq_false hT2];rfl)
       clear hT1 hT2
       have HDR:Hid (Below wr.heap.size wr wr.drew):=hid (Below.refl _ _).drew
       obtain ⟨VD,hVD⟩:=ex_eq wr.drew
       rw [hVD] at HDR
       refine Kit.wp_region_hplan (fun V=>(V.cell? ⟨b2,o2+j*14+2,none⟩=some (.string strY)∧V.cell? ⟨b2,o2+j*14+3,none⟩=some (.int .i64 ixY))∧V.cell? ⟨D,0,none⟩=some (.int .i64 hol)∧V.cell? ⟨D,1,none⟩=some (.int .i64 vlt)∧V.cell? ⟨D,2,none⟩=some (.string str)∧V.cell? ⟨D,3,none⟩=some (.int .i64 ix)∧V.cell? ⟨D,4,none⟩=some (.int .i64 sz)∧V.cell? ⟨D,5,none⟩=some (.int .i64 day)∧V.cell? ⟨D,6,none⟩=some (.int .i64 ser)∧V.cell? ⟨D,7,none⟩=some (.int .i64 cnt)∧V.cell? ⟨D,8,none⟩=some (.int .i64 pl)∧V.cell? ⟨D,9,none⟩=some (.string root)∧V.cell? ⟨D,10,none⟩=some (.slice ap n1 c1)∧V.cell? ⟨D,11,none⟩=some (.int .i64 si)∧V.cell? ⟨D,12,none⟩=some (.slice aq n2 c2)∧V.cell? ⟨D,13,none⟩=some (.slice ar n3 c3)) [(true,0),(true,1),(true,2),(true,3),(true,4),(true,5),(true,6),(true,7),(true,8),(true,9),(true,10),(true,11),(true,12),(true,13),(true,14),(true,15),(true,16),(true,17),(true,18),(true,19),(true,20),(true,21),(true,22),(true,23),(true,24),(true,25),(true,26),(true,27),(true,28),(true,29),(true,30),(true,31),(true,32),(true,33),(true,34),(true,35),(true,36),(true,37),(true,38),(true,39)] (by kernel_rfl) (by kernel_rfl) (by kernel_rfl) (by kernel_rfl) (by rw [hVD];exact HS8.o _ HDR.o) ?_
       rw [hVD]
       clear hVD
       iterate 40 (refine Kit.hhd (h:= ?_))
       refine Kit.hdn (h:=?_)
       (try go_wp2_with fail)
       go_meet
       case rel=>exact ⟨by rw [HBF.o];try rfl,hid (HSW.o _ HDR.o)⟩
   case rest=>
    obtain ⟨rfl,HRC⟩:=hcut
    cases B
    rotate_left
    ·have HJ1:Hid (j<ys.length):=hid (by
        have h1:=HB.o
        rw [← Nat.not_le]
        intro h2
        rw [List.getElem?_eq_none h2] at h1
        cases h1)
     have HLT2:Hid (∀i (h:i<ys.length),i<j+1→ltP ys[i].r ⟨hol,vlt,str,ix,sz,day,ser,cnt,pl,root,pa,si,pt,sq⟩=true):=hid (fun i h hi=>by
      by_cases e:i=j
      ·subst e
       have h1:=HB.o
       rw [lE h] at h1
       exact h1
      ·exact HLT.o i h (by omega))
     have hjn:j<n:=by have h1:=HJ1.o;rw [HLY.o] at h1;exact h1
     clear HB
     go_wp2_with fail
     go_roundw
     case rel=>exact ⟨j+1,hjn,by go_num,HLT2,HRC⟩
     case measure=>simp [intOf];omega
    have HPL:Hid (j≤n∧n≤1000):=hid ⟨hj,hnL⟩
    have hPL:j≤n:=HPL.o.1
    have HIN:Hid (insP (ys.map RcV.r) (⟨hol,vlt,str,ix,sz,day,ser,cnt,pl,root,pa,si,pt,sq⟩:Rc)=(ys.map RcV.r).take j++(⟨hol,vlt,str,ix,sz,day,ser,cnt,pl,root,pa,si,pt,sq⟩:Rc)::(ys.map RcV.r).drop j):=hid (insP_at _ _ j (by rw [List.length_map,HLY.o];exact hj) (fun i h hi=>by rw [List.getElem_map];exact HLT.o i (by simpa using h) hi) (fun h=>by
     have h1:=HB.o
     rw [List.length_map] at h
     rw [lE h] at h1
     rw [List.getElem_map]
     exact h1))
    have HP1:Hid (∀V,Below B2 y1 V→SrcAt V (sub14 ao 0 cp) j cp 14 (rcv (ys.take j))):=hid (fun V h=>by
     have h1:=(HRY.o V h).part (by rw [HLY.o];exact HNC.o.1) HNC.o.2 0 j (by rw [HLY.o];omega)
     rwa [List.drop_zero] at h1)
    have HP3:Hid (∀V,Below B2 y1 V→SrcAt V (sub14 ao j cp) (n - j) (cp - j) 14 (rcv (ys.drop j))):=hid (fun V h=>by
     have h1:=(HRY.o V h).part (by rw [HLY.o];exact HNC.o.1) HNC.o.2 j (n - j) (by rw [HLY.o];omega)
     rwa [List.take_of_length_le (by rw [List.length_drop,HLY.o];exact Nat.le_refl _)] at h1)
    have HP2:Hid (∀(q:Nat) (V:World),V.heap[q]? =some (.cells #[.int .i64 hol,.int .i64 vlt,.string str,.int .i64 ix,.int .i64 sz,.int .i64 day,.int .i64 ser,.int .i64 cnt,.int .i64 pl,.string root,.slice ap n1 c1,.int .i64 si,.slice aq n2 c2,.slice ar n3 c3] 47 (0,0))→SrcAt V (some ⟨q,0,none⟩) 1 1 14 (rcv [(⟨⟨hol,vlt,str,ix,sz,day,ser,cnt,pl,root,pa,si,pt,sq⟩,ap,c1,aq,c2,ar,c3⟩:RcV)])):=hid (fun q V hq=> .inr ⟨rfl,_,rfl,fun j u hu=>by
     have l:=HLR.o
     obtain ⟨rfl,rfl,rfl⟩:=l
     rw [add_none,Nat.zero_add]
     rw [rcv_single] at hu
     exact (cell_of_row _ _ _ _ _ _ hq).trans (by rw [← hu];simp [RcV.cells])⟩)
    have hs1:=fun W=>sliceRs_h ao n cp j (by have:=HNC.o;omega) W
    have hs2:=fun W=>sliceRs_l ao n cp j hPL W
    clear HB
    go_upto_region 10 with fail
    have HWD:Hid (Below B2 y1 wc.drew):=hid HRC.o.drew
    apply joinI (F:=(fun nn vv mm uu xx V=>Hid (V.ownsRow B2 47 14 xx (j+1+(n - j)) (rcv (ys.take j++[(⟨⟨hol,vlt,str,ix,sz,day,ser,cnt,pl,root,pa,si,pt,sq⟩,ap,c1,aq,c2,ar,c3⟩:RcV)]++ys.drop j)))∧Hid (Below B2 y1 V)))
    case main=>
     intro HJ
     refine Kit.wp_region_tplan (fun V=>V.cell? ⟨D,0,none⟩=some (.int .i64 hol)∧V.cell? ⟨D,1,none⟩=some (.int .i64 vlt)∧V.cell? ⟨D,2,none⟩=some (.string str)∧V.cell? ⟨D,3,none⟩=some (.int .i64 ix)∧V.cell? ⟨D,4,none⟩=some (.int .i64 sz)∧V.cell? ⟨D,5,none⟩=some (.int .i64 day)∧V.cell? ⟨D,6,none⟩=some (.int .i64 ser)∧V.cell? ⟨D,7,none⟩=some (.int .i64 cnt)∧V.cell? ⟨D,8,none⟩=some (.int .i64 pl)∧V.cell? ⟨D,9,none⟩=some (.string root)∧V.cell? ⟨D,10,none⟩=some (.slice ap n1 c1)∧V.cell? ⟨D,11,none⟩=some (.int .i64 si)∧V.cell? ⟨D,12,none⟩=some (.slice aq n2 c2)∧V.cell? ⟨D,13,none⟩=some (.slice ar n3 c3)) (.heads [1,2,3,5,8,9,10] (.op2 0 (.op2 4 (.op1 6 (.op1 7 (.op1 11 (.head 12 .done)))) 6 (.op1 4 (.op1 7 (.op1 11 (.head 12 .done))))) 6 (.op1 0 (.op1 4 (.op1 7 (.op1 11 (.head 12 .done))))))) (by kernel_rfl) (by kernel_rfl) (by kernel_rfl) (by kernel_rfl) (HCD.o _ HWD.o) ?_
     iterate 7 (refine Kit.thd (h:= ?_))
     obtain ⟨w0,hw0⟩:=ex_eq wc.drew
     rw [hw0] at HWD
     rw [hw0]
     clear hw0
     have Hw0:=HWD
     clear HWD
     refine Kit.tplan_op2 ?_ ?_
     rotate_left
     focus (
      refine Kit.tplan_op1 (by rfl) (by rfl) fun K' hK'=> ?_
      go_simp
      have hgb:=heap_alloc_new w0 (.cells #[.int .i64 hol,.int .i64 vlt,.string str,.int .i64 ix,.int .i64 sz,.int .i64 day,.int .i64 ser,.int .i64 cnt,.int .i64 pl,.string root,.slice ap n1 c1,.int .i64 si,.slice aq n2 c2,.slice ar n3 c3] 47)
      obtain ⟨wB,hwB⟩:=ex_eq (w0.alloc (.cells #[.int .i64 hol,.int .i64 vlt,.string str,.int .i64 ix,.int .i64 sz,.int .i64 day,.int .i64 ser,.int .i64 cnt,.int .i64 pl,.string root,.slice ap n1 c1,.int .i64 si,.slice aq n2 c2,.slice ar n3 c3] 47))
      have HWB:Hid (Below B2 y1 wB):=hid (by rw [← hwB];exact Hw0.o.alloc (HSZ2.o _ Hw0.o) _)
      have HBB:Hid (Below w0.heap.size w0 wB):=hid (by rw [← hwB];exact (Below.refl _ _).alloc (Nat.le_refl _) _)
      rw [hwB] at hgb ⊢
      obtain ⟨mB,hmB⟩:=ex_eq w0.heap.size
      have HMB:=hid hmB
      rw [hmB] at hgb ⊢
      have HGB:=hid hgb
      clear hgb hwB hmB
      refine hK' _ _ (HCD.o _ HWB.o) ?_
      clear hK' K'
      refine Kit.tplan_op1 (by rfl) (by rfl) fun K' hK'=> ?_
      go_simp
      obtain ⟨wA,hwA⟩:=ex_eq (wB.alloc (.cells #[] 47))
      have hoa:(wB.alloc (.cells #[] 47)).ownsRow B2 47 14 (.slice (some ⟨wB.heap.size,0,none⟩) 0 0) 0 (rcv []):=own_emptyB (HSZ2.o _ HWB.o)
      have HWA:Hid (Below B2 y1 wA):=hid (by rw [← hwA];exact HWB.o.alloc (HSZ2.o _ HWB.o) _)
      have HBA:Hid (Below wB.heap.size wB wA):=hid (by rw [← hwA];exact (Below.refl _ _).alloc (Nat.le_refl _) _)
      rw [hwA] at hoa ⊢
      obtain ⟨nA,hnA⟩:=ex_eq wB.heap.size
      have HNA:=hid hnA
      rw [hnA] at hoa ⊢
      have HOA:=hid hoa
      have HGBx:Hid (wA.heap[mB]? =some (.cells #[.int .i64 hol,.int .i64 vlt,.string str,.int .i64 ix,.int .i64 sz,.int .i64 day,.int .i64 ser,.int .i64 cnt,.int .i64 pl,.string root,.slice ap n1 c1,.int .i64 si,.slice aq n2 c2,.slice ar n3 c3] 47 (0,0))):=hid ((HBA.o.block mB (gS HGB.o).1).trans HGB.o)
      have HNE2:Hid (mB<nA):=hid (by have h1:=(gS HGB.o).1;rw [← hnA];exact h1)
      clear hoa hwA hnA
      refine hK' _ _ (HCD.o _ HWA.o) ?_
      clear hK' K'
      refine Kit.tplan_op1 (by rfl) (by rfl) fun K' hK'=> ?_
      refine wp_app_rs 32 Tryz.underlying32 _ _ (by rfl) B2 _ 0 [] (by rfl) HOA.o (HSZ2.o _ HWA.o) (by decide) (sub14 ao 0 cp) j cp (ys.take j) (by rfl) (HP1.o _ HWA.o) (by have:=HPL.o;omega) ?_
      intro v1 w1 ho hb hg
      have HO1:Hid (w1.ownsRow B2 47 14 v1 (j) (rcv (ys.take j))):=hid (by rw [List.nil_append,Nat.zero_add] at ho;exact ho)
      have HW1:Hid (Below B2 y1 w1):=hid (HWA.o.trans hb)
      have HGB1:Hid (w1.heap[mB]? =some (.cells #[.int .i64 hol,.int .i64 vlt,.string str,.int .i64 ix,.int .i64 sz,.int .i64 day,.int .i64 ser,.int .i64 cnt,.int .i64 pl,.string root,.slice ap n1 c1,.int .i64 si,.slice aq n2 c2,.slice ar n3 c3] 47 (0,0))):=hid (((Chg.of_grown (M:=fun q _=>q=nA) hg (fun k i e=>by injection e with e;exact e.symm)).other mB (gS HGBx.o).1 (fun i e=>by have h1:mB=nA:=e;have:=HNE2.o;omega)).trans HGBx.o)
      clear ho hb hg
      refine hK' _ _ (HCD.o _ HW1.o) ?_
      clear hK' K'
      refine Kit.tplan_op1 (by rfl) (by rfl) fun K' hK'=> ?_
      refine wp_app_rs 32 Tryz.underlying32 _ _ (by rfl) B2 v1 j (ys.take j) (by rfl) HO1.o (HSZ2.o _ HW1.o) (by have:=HPL.o;omega) (some ⟨mB,0,none⟩) 1 1 [(⟨⟨hol,vlt,str,ix,sz,day,ser,cnt,pl,root,pa,si,pt,sq⟩,ap,c1,aq,c2,ar,c3⟩:RcV)] (by rfl) (HP2.o mB _ HGB1.o) (by decide) ?_
      intro v2 w2 ho hb hg
      have HO2:Hid (w2.ownsRow B2 47 14 v2 (j+1) (rcv (ys.take j++[(⟨⟨hol,vlt,str,ix,sz,day,ser,cnt,pl,root,pa,si,pt,sq⟩,ap,c1,aq,c2,ar,c3⟩:RcV)]))):=hid ho
      have HW2:Hid (Below B2 y1 w2):=hid (HW1.o.trans hb)
      clear ho hb hg
      refine hK' _ _ (HCD.o _ HW2.o) ?_
      clear hK' K'
      refine Kit.tplan_op1 (by rfl) (by rfl) fun K' hK'=> ?_
      refine wp_app_rs 32 Tryz.underlying32 _ _ (by rfl) B2 v2 (j+1) (ys.take j++[(⟨⟨hol,vlt,str,ix,sz,day,ser,cnt,pl,root,pa,si,pt,sq⟩,ap,c1,aq,c2,ar,c3⟩:RcV)]) (by rfl) HO2.o (HSZ2.o _ HW2.o) (by have:=HPL.o;omega) (sub14 ao j cp) (n - j) (cp - j) (ys.drop j) (by rfl) (HP3.o _ HW2.o) (by omega) ?_
      intro v3 w3 ho hb hg
      have HO3:Hid (w3.ownsRow B2 47 14 v3 (j+1+(n - j)) (rcv (ys.take j++[(⟨⟨hol,vlt,str,ix,sz,day,ser,cnt,pl,root,pa,si,pt,sq⟩,ap,c1,aq,c2,ar,c3⟩:RcV)]++ys.drop j))):=hid ho
      have HW3:Hid (Below B2 y1 w3):=hid (HW2.o.trans hb)
      clear ho hb hg
      refine hK' _ _ (HCD.o _ HW3.o) ?_
      clear hK' K'
      iterate 1 (refine Kit.thd (h:= ?_))
      refine Kit.tplan_done ?_
      (try simp only [Act.put,List.setIfInBounds_toArray,List.set_cons_zero,List.set_cons_succ])
      exact HJ nA v1 mB v2 v3 w3 ⟨HO3,HW3⟩)
     refine Kit.tplan_op1 (by rfl) (by rfl) fun K' hK'=> ?_
     go_simp
     obtain ⟨wA,hwA⟩:=ex_eq (w0.alloc (.cells #[] 47))
     have hoa:(w0.alloc (.cells #[] 47)).ownsRow B2 47 14 (.slice (some ⟨w0.heap.size,0,none⟩) 0 0) 0 (rcv []):=own_emptyB (HSZ2.o _ Hw0.o)
     have HWA:Hid (Below B2 y1 wA):=hid (by rw [← hwA];exact Hw0.o.alloc (HSZ2.o _ Hw0.o) _)
     have HBA:Hid (Below w0.heap.size w0 wA):=hid (by rw [← hwA];exact (Below.refl _ _).alloc (Nat.le_refl _) _)
     rw [hwA] at hoa ⊢
     obtain ⟨nA,hnA⟩:=ex_eq w0.heap.size
     have HNA:=hid hnA
     rw [hnA] at hoa ⊢
     have HOA:=hid hoa
     clear hoa hwA hnA
     refine hK' _ _ (HCD.o _ HWA.o) ?_
     clear hK' K'
     refine Kit.tplan_op2 ?_ ?_
     focus (
      refine Kit.tplan_op1 (by rfl) (by rfl) fun K' hK'=> ?_
      refine wp_app_rs 32 Tryz.underlying32 _ _ (by rfl) B2 _ 0 [] (by rfl) HOA.o (HSZ2.o _ HWA.o) (by decide) (sub14 ao 0 cp) j cp (ys.take j) (by rfl) (HP1.o _ HWA.o) (by have:=HPL.o;omega) ?_
      intro v1 w1 ho hb hg
      have HO1:Hid (w1.ownsRow B2 47 14 v1 (j) (rcv (ys.take j))):=hid (by rw [List.nil_append,Nat.zero_add] at ho;exact ho)
      have HW1:Hid (Below B2 y1 w1):=hid (HWA.o.trans hb)
      clear ho hb hg
      refine hK' _ _ (HCD.o _ HW1.o) ?_
      clear hK' K'
      refine Kit.tplan_op1 (by rfl) (by rfl) fun K' hK'=> ?_
      go_simp
      have hgb:=heap_alloc_new w1 (.cells #[.int .i64 hol,.int .i64 vlt,.string str,.int .i64 ix,.int .i64 sz,.int .i64 day,.int .i64 ser,.int .i64 cnt,.int .i64 pl,.string root,.slice ap n1 c1,.int .i64 si,.slice aq n2 c2,.slice ar n3 c3] 47)
      obtain ⟨wB,hwB⟩:=ex_eq (w1.alloc (.cells #[.int .i64 hol,.int .i64 vlt,.string str,.int .i64 ix,.int .i64 sz,.int .i64 day,.int .i64 ser,.int .i64 cnt,.int .i64 pl,.string root,.slice ap n1 c1,.int .i64 si,.slice aq n2 c2,.slice ar n3 c3] 47))
      have HWB:Hid (Below B2 y1 wB):=hid (by rw [← hwB];exact HW1.o.alloc (HSZ2.o _ HW1.o) _)
      have HBB:Hid (Below w1.heap.size w1 wB):=hid (by rw [← hwB];exact (Below.refl _ _).alloc (Nat.le_refl _) _)
      rw [hwB] at hgb ⊢
      obtain ⟨mB,hmB⟩:=ex_eq w1.heap.size
      have HMB:=hid hmB
      rw [hmB] at hgb ⊢
      have HGB:=hid hgb
      have HO1b:Hid (wB.ownsRow B2 47 14 v1 (j) (rcv (ys.take j))):=hid (own_later HO1.o HBB.o)
      clear hgb hwB hmB
      refine hK' _ _ (HCD.o _ HWB.o) ?_
      clear hK' K'
      refine Kit.tplan_op1 (by rfl) (by rfl) fun K' hK'=> ?_
      refine wp_app_rs 32 Tryz.underlying32 _ _ (by rfl) B2 v1 j (ys.take j) (by rfl) HO1b.o (HSZ2.o _ HWB.o) (by have:=HPL.o;omega) (some ⟨mB,0,none⟩) 1 1 [(⟨⟨hol,vlt,str,ix,sz,day,ser,cnt,pl,root,pa,si,pt,sq⟩,ap,c1,aq,c2,ar,c3⟩:RcV)] (by rfl) (HP2.o mB _ HGB.o) (by decide) ?_
      intro v2 w2 ho hb hg
      have HO2:Hid (w2.ownsRow B2 47 14 v2 (j+1) (rcv (ys.take j++[(⟨⟨hol,vlt,str,ix,sz,day,ser,cnt,pl,root,pa,si,pt,sq⟩,ap,c1,aq,c2,ar,c3⟩:RcV)]))):=hid ho
      have HW2:Hid (Below B2 y1 w2):=hid (HWB.o.trans hb)
      clear ho hb hg
      refine hK' _ _ (HCD.o _ HW2.o) ?_
      clear hK' K'
      refine Kit.tplan_op1 (by rfl) (by rfl) fun K' hK'=> ?_
      refine wp_app_rs 32 Tryz.underlying32 _ _ (by rfl) B2 v2 (j+1) (ys.take j++[(⟨⟨hol,vlt,str,ix,sz,day,ser,cnt,pl,root,pa,si,pt,sq⟩,ap,c1,aq,c2,ar,c3⟩:RcV)]) (by rfl) HO2.o (HSZ2.o _ HW2.o) (by have:=HPL.o;omega) (sub14 ao j cp) (n - j) (cp - j) (ys.drop j) (by rfl) (HP3.o _ HW2.o) (by omega) ?_
      intro v3 w3 ho hb hg
      have HO3:Hid (w3.ownsRow B2 47 14 v3 (j+1+(n - j)) (rcv (ys.take j++[(⟨⟨hol,vlt,str,ix,sz,day,ser,cnt,pl,root,pa,si,pt,sq⟩,ap,c1,aq,c2,ar,c3⟩:RcV)]++ys.drop j))):=hid ho
      have HW3:Hid (Below B2 y1 w3):=hid (HW2.o.trans hb)
      clear ho hb hg
      refine hK' _ _ (HCD.o _ HW3.o) ?_
      clear hK' K'
      iterate 1 (refine Kit.thd (h:= ?_))
      refine Kit.tplan_done ?_
      (try simp only [Act.put,List.setIfInBounds_toArray,List.set_cons_zero,List.set_cons_succ])
      exact HJ nA v1 mB v2 v3 w3 ⟨HO3,HW3⟩)
     focus (
      refine Kit.tplan_op1 (by rfl) (by rfl) fun K' hK'=> ?_
      go_simp
      have hgb:=heap_alloc_new wA (.cells #[.int .i64 hol,.int .i64 vlt,.string str,.int .i64 ix,.int .i64 sz,.int .i64 day,.int .i64 ser,.int .i64 cnt,.int .i64 pl,.string root,.slice ap n1 c1,.int .i64 si,.slice aq n2 c2,.slice ar n3 c3] 47)
      obtain ⟨wB,hwB⟩:=ex_eq (wA.alloc (.cells #[.int .i64 hol,.int .i64 vlt,.string str,.int .i64 ix,.int .i64 sz,.int .i64 day,.int .i64 ser,.int .i64 cnt,.int .i64 pl,.string root,.slice ap n1 c1,.int .i64 si,.slice aq n2 c2,.slice ar n3 c3] 47))
      have HWB:Hid (Below B2 y1 wB):=hid (by rw [← hwB];exact HWA.o.alloc (HSZ2.o _ HWA.o) _)
      have HBB:Hid (Below wA.heap.size wA wB):=hid (by rw [← hwB];exact (Below.refl _ _).alloc (Nat.le_refl _) _)
      rw [hwB] at hgb ⊢
      obtain ⟨mB,hmB⟩:=ex_eq wA.heap.size
      have HMB:=hid hmB
      rw [hmB] at hgb ⊢
      have HGB:=hid hgb
      have HOA2:Hid (wB.ownsRow B2 47 14 (.slice (some ⟨nA,0,none⟩) 0 0) (0) (rcv ([]))):=hid (own_later HOA.o HBB.o)
      have HGBx:=HGB
      have HNE2:Hid (nA<mB):=hid (by have h1:=own_lt HOA.o (g:=nA) rfl;have:=HMB.o;omega)
      clear hgb hwB hmB
      refine hK' _ _ (HCD.o _ HWB.o) ?_
      clear hK' K'
      refine Kit.tplan_op1 (by rfl) (by rfl) fun K' hK'=> ?_
      refine wp_app_rs 32 Tryz.underlying32 _ _ (by rfl) B2 _ 0 [] (by rfl) HOA2.o (HSZ2.o _ HWB.o) (by decide) (sub14 ao 0 cp) j cp (ys.take j) (by rfl) (HP1.o _ HWB.o) (by have:=HPL.o;omega) ?_
      intro v1 w1 ho hb hg
      have HO1:Hid (w1.ownsRow B2 47 14 v1 (j) (rcv (ys.take j))):=hid (by rw [List.nil_append,Nat.zero_add] at ho;exact ho)
      have HW1:Hid (Below B2 y1 w1):=hid (HWB.o.trans hb)
      have HGB1:Hid (w1.heap[mB]? =some (.cells #[.int .i64 hol,.int .i64 vlt,.string str,.int .i64 ix,.int .i64 sz,.int .i64 day,.int .i64 ser,.int .i64 cnt,.int .i64 pl,.string root,.slice ap n1 c1,.int .i64 si,.slice aq n2 c2,.slice ar n3 c3] 47 (0,0))):=hid (((Chg.of_grown (M:=fun q _=>q=nA) hg (fun k i e=>by injection e with e;exact e.symm)).other mB (gS HGBx.o).1 (fun i e=>by have h1:mB=nA:=e;have:=HNE2.o;omega)).trans HGBx.o)
      clear ho hb hg
      refine hK' _ _ (HCD.o _ HW1.o) ?_
      clear hK' K'
      refine Kit.tplan_op1 (by rfl) (by rfl) fun K' hK'=> ?_
      refine wp_app_rs 32 Tryz.underlying32 _ _ (by rfl) B2 v1 j (ys.take j) (by rfl) HO1.o (HSZ2.o _ HW1.o) (by have:=HPL.o;omega) (some ⟨mB,0,none⟩) 1 1 [(⟨⟨hol,vlt,str,ix,sz,day,ser,cnt,pl,root,pa,si,pt,sq⟩,ap,c1,aq,c2,ar,c3⟩:RcV)] (by rfl) (HP2.o mB _ HGB1.o) (by decide) ?_
      intro v2 w2 ho hb hg
      have HO2:Hid (w2.ownsRow B2 47 14 v2 (j+1) (rcv (ys.take j++[(⟨⟨hol,vlt,str,ix,sz,day,ser,cnt,pl,root,pa,si,pt,sq⟩,ap,c1,aq,c2,ar,c3⟩:RcV)]))):=hid ho
      have HW2:Hid (Below B2 y1 w2):=hid (HW1.o.trans hb)
      clear ho hb hg
      refine hK' _ _ (HCD.o _ HW2.o) ?_
      clear hK' K'
      refine Kit.tplan_op1 (by rfl) (by rfl) fun K' hK'=> ?_
      refine wp_app_rs 32 Tryz.underlying32 _ _ (by rfl) B2 v2 (j+1) (ys.take j++[(⟨⟨hol,vlt,str,ix,sz,day,ser,cnt,pl,root,pa,si,pt,sq⟩,ap,c1,aq,c2,ar,c3⟩:RcV)]) (by rfl) HO2.o (HSZ2.o _ HW2.o) (by have:=HPL.o;omega) (sub14 ao j cp) (n - j) (cp - j) (ys.drop j) (by rfl) (HP3.o _ HW2.o) (by omega) ?_
      intro v3 w3 ho hb hg
      have HO3:Hid (w3.ownsRow B2 47 14 v3 (j+1+(n - j)) (rcv (ys.take j++[(⟨⟨hol,vlt,str,ix,sz,day,ser,cnt,pl,root,pa,si,pt,sq⟩,ap,c1,aq,c2,ar,c3⟩:RcV)]++ys.drop j))):=hid ho
      have HW3:Hid (Below B2 y1 w3):=hid (HW2.o.trans hb)
      clear ho hb hg
      refine hK' _ _ (HCD.o _ HW3.o) ?_
      clear hK' K'
      iterate 1 (refine Kit.thd (h:= ?_))
      refine Kit.tplan_done ?_
      (try simp only [Act.put,List.setIfInBounds_toArray,List.set_cons_zero,List.set_cons_succ])
      exact HJ nA v1 mB v2 v3 w3 ⟨HO3,HW3⟩)
    case rest=>
     rintro nA v1 mB v2 v3 w3 ⟨HO3,HW3⟩
     have HMEM:Hid (∀y ∈ ys.take j++[(⟨⟨hol,vlt,str,ix,sz,day,ser,cnt,pl,root,pa,si,pt,sq⟩,ap,c1,aq,c2,ar,c3⟩:RcV)]++ys.drop j,y ∈ xs):=hid (fun y hy=>by
      rcases List.mem_append.1 hy with hy | hy
      ·rcases List.mem_append.1 hy with hy | hy
       ·exact HF.o.2.2 y (List.mem_of_mem_take hy)
       ·rw [List.mem_singleton.1 hy];exact HRM.o
      ·exact HF.o.2.2 y (List.mem_of_mem_drop hy))
     have HDN:Hid (DocRc w3 N v3 (j+1+(n - j)) (ys.take j++[(⟨⟨hol,vlt,str,ix,sz,day,ser,cnt,pl,root,pa,si,pt,sq⟩,ap,c1,aq,c2,ar,c3⟩:RcV)]++ys.drop j)):=hid ⟨ownsRow_base HO3.o HNB.o,by rw [List.length_append,List.length_append,List.length_take,List.length_drop,HLY.o,Nat.min_eq_left hPL];rfl,fun y hy=>(HXW.o _ (HWV.o _ HW3.o)).2 y (HMEM.o y hy)⟩
     have HFN:Hid ((ys.take j++[(⟨⟨hol,vlt,str,ix,sz,day,ser,cnt,pl,root,pa,si,pt,sq⟩,ap,c1,aq,c2,ar,c3⟩:RcV)]++ys.drop j).map RcV.r=((m.take (k+1)).filter (isCur m h)).foldl insP []):=hid (by
      rw [HFS.o,if_pos trivial,List.foldl_append,← HF.o.2.1,HMK.o,← HXR.o]
      show _=insP (ys.map RcV.r) _
      rw [HIN.o,List.map_append,List.map_append,List.map_take,List.map_drop,List.append_assoc]
      rfl)
     have hnk:=HF.o.1
     go_wp2_with fail
     go_roundw
     case rel=>exact ⟨k+1,j+1+(n - j),_,hlt,by go_num,HDN,hid ⟨by omega,HFN.o,HMEM.o⟩,hid (HWV.o _ HW3.o)⟩
     case measure=>simp [intOf];omega
end Go.Proofs.YtndlihclgdkpaaaGreatDoor
