/- A book and the document's: same. -/
import Derived.Test.YtndlihclgdkpaaaGreatDoorGn
import Derived.Test.YtndlihclgdkpaaaGreatDoorQfg
import Derived.Test.YtndlihclgdkpaaaGreatDoorQfc
import Derived.Test.YtndlihclgdkpaaaGreatDoorQan
set_option linter.unusedVariables false
set_option linter.unusedSimpArgs false
open Go.Lib (hid)
namespace Go.Proofs.YtndlihclgdkpaaaGreatDoor
open Go.RowKit
open Kit (Chg)
open Sha (v)
open Go.Proofs.YtndlihclgdkpaaaGreatDoor.One

theorem OwnRc.rcsO {w:World} {B n:Nat} {v:Value} {ys:List RcV} (h:OwnRc w B v n ys): ∃a cap,v= .slice a n cap∧RcsAt w a ys:=by
 obtain ⟨h1,h2,h3⟩:=h
 rcases h1.2 with ⟨rfl,rfl⟩ | ⟨g,cap,cur,rfl,hb,hg,hcap,hmax,hsz,htake⟩
 ·exact ⟨none,0,rfl,.inl (List.eq_nil_of_length_eq_zero h2),fun y hy=>(h3 y hy).1⟩
 ·refine ⟨some ⟨g,0,none⟩,cap,rfl,.inr ⟨g,0,rfl,fun k hk j hj=> ?_⟩,fun y hy=>(h3 y hy).1⟩
  have e1:=rw_get RcV.len ys k hk j hj
  rw [← e1,show ys.flatMap RcV.cells=rcv ys from rfl,← htake,List.getElem?_take_of_lt (by omega),Array.getElem?_toList,show 0+k*14+j=k*14+j by omega]
  exact cell_of_row _ _ _ _ _ _ hg
theorem ValidR.small {r:Rc} (h:ValidR r):r.path.length≤1000000∧r.parts.length≤1000000∧r.sp.length≤1000000:=by
 have h1:=h.pn
 have h2:=h.an
 have h3:=h.qn
 omega
theorem GoodB.small {m:List Rc} (hg:GoodB m) {xs:List RcV} {l:List Rc} (h:xs.map RcV.r=l) (hl: ∀r ∈ l,r ∈ m): ∀x ∈ xs,x.r.path.length≤1000000∧x.r.parts.length≤1000000∧x.r.sp.length≤1000000:=fun x hx=>(hg.v _ (hl _ (by rw [← h];exact List.mem_map_of_mem hx))).small
theorem mem_ofB {m:List Rc} {p:Pc}: ∀r ∈ ofB m p,r ∈ m:=fun r hr=>(List.mem_filter.1 hr).1
theorem mem_holdB {m:List Rc} {h:Int}: ∀r ∈ holdB m h,r ∈ m:=fun r hr=>(List.mem_filter.1 ((holdB_perm m h).mem_iff.1 hr)).1
theorem sameAll_eq {w:World} {m:List Rc} (hg:GoodB m) {a a':Option Addr} {c c' n n':Nat} {xs ys:List RcV} {l:List Rc} (h1:xs.map RcV.r=l) (h2:ys.map RcV.r=l) (hl: ∀r ∈ l,r ∈ m) (hn:xs.length=n) (hn':ys.length=n') (hb:n≤100000) (hX:RcsAt w a xs) (hY:RcsAt w a' ys):
    Calls Tryz.prog 21 #[.slice a n c,.slice a' n' c'] w fun e w'=>e= .returned (.bool true)∧Below w.heap.size w w':=by
 have e:n'=n:=by
  have h3:=congrArg List.length h1
  have h4:=congrArg List.length h2
  rw [List.length_map] at h3 h4
  omega
 subst e
 exact refSameAll_ok a c n' xs hn a' c' ys hn' (h1.trans h2.symm) hb (hg.small h1 hl) w hX hY
set_option maxRecDepth 100000 in
set_option maxHeartbeats 4000000 in
theorem same43_ok (O:Nat→Prop) (bk:Nat) (m:List Rc) (c:Nat) (hc:c≤1000) (a:Option Addr) (cA L:Nat) (xs:List RcV) (hLe:xs.length=L) (hL:L≤1000) (hm:xs.map RcV.r=m) (w:World) (hB:BookAt w O bk m c) (hX:RcsAt w a xs):
    Calls Tryz.prog 43 #[.pointer (some ⟨bk,0,none⟩),.slice a L cA] w fun e w'=>e= .returned (.bool true)∧Below w.heap.size w w':=by
 have HG:=hid hB.good
 have HLE:=hid hLe
 have HM:=hid hm
 have HC:=hid hc
 have HL:=hid hL
 obtain ⟨N,hN⟩:=ex_eq w.heap.size
 have HN:=hid hN
 have HXW:Hid (∀V,Below N w V→RcsAt V a xs):=hid (fun V h=>hX.later (by rw [hN];exact h))
 have HBV:Hid (∀V,Below N w V→BookAt V O bk m c):=hid (fun V h=>hB.later (by rw [hN];exact h))
 have HSZ:Hid (∀V,Below N w V→N≤V.heap.size):=hid (fun V h=>by have:=h.size;have:=HN.o;omega)
 have HST:Hid (∀V V',Below N w V→Below V.heap.size V V'→Below N w V'):=hid (fun V V' h h'=>h.trans (h'.mono (HSZ.o _ h)))
 have HML:Hid (m.length=L):=hid (by rw [← hm,List.length_map];exact hLe)
 have H0:Hid (Below N w w):=hid (Below.refl _ _)
 clear hX hB hLe hm hN
 go_enter Tryz.func43,Tryz.ntmps43
 go_upto_region 2 with fail
 go_loopw [5] (fun y wr=> ∃k:Nat,k≤L∧y= .int .i64 (k:Int)∧Hid (Below N w wr)) (fun y _=>L - (intOf y).toNat)
 case atStart=>exact ⟨0,Nat.zero_le _,rfl,H0⟩
 case round=>
  obtain ⟨k,hk,rfl,HR⟩:=hrel
  by_cases hlt:k<L
  rotate_left
  ·have hki: ¬(k:Int)<(L:Int):=by omega
   clear hlt
   go_upto_region 12 with fail
   go_loopw [12] (fun y wr=> ∃d:Int, -1≤d∧d≤13∧y= .int .i64 d∧Hid (Below N w wr)) (fun y _=>(13 - intOf y).toNat)
   case atStart=>exact ⟨-1,by decide,by decide,rfl,HR⟩
   case round=>
    clear HR
    obtain ⟨d,hd0,hd1,rfl,HR⟩:=hrel
    by_cases hle:d≤12
    rotate_left
    ·go_wp2_with fail
     go_ret
     exact ⟨rfl,by rw [HN.o];exact HR.o⟩
    go_upto_region 13 with fail
    go_at_call 75
    with_reducible refine (holder_any O bk m c (Nat.le_trans HC.o (by decide)) d _ (HBV.o _ HR.o)).mono ?_
    rintro e y1 ⟨v1,rfl,n,ys,ho,hf,hb⟩
    have Hy1:Hid (Below N w y1):=hid (HST.o _ _ HR.o hb)
    obtain ⟨av,cv,rfl,hrc⟩:=ho.rcsO
    have HRC2:Hid (∀V,Below y1.heap.size y1 V→RcsAt V av ys):=hid (fun V h=>hrc.later h)
    have HYN:Hid (ys.length=n∧ys.map RcV.r=holdB m d):=hid ⟨ho.2.1,hf⟩
    clear hrc ho hf
    clear hb
    go_upto_region 13 with fail
    go_at_call 135
    with_reducible refine (refHolder_any a cA L xs HLE.o HL.o (by rw [HM.o];exact HG.o) (HG.o.small HM.o (fun r h=>h)) d _ (HXW.o _ Hy1.o)).mono ?_
    rintro e y2 ⟨v2,rfl,n2,zs,hd,hf,_,hnL,hb⟩
    have Hy2:Hid (Below N w y2):=hid (HST.o _ _ Hy1.o hb)
    have HY23:Hid (Below y1.heap.size y1 y2):=hid hb
    have HNL:Hid (n2≤L):=hid hnL
    obtain ⟨aw,cw,rfl,hrc,_⟩:=hd.rcs
    have HRC3:Hid (RcsAt y2 aw zs):=hid hrc
    have HZN:Hid (zs.length=n2∧zs.map RcV.r=holdB m d):=hid ⟨hd.2.1,by rw [hf,HM.o]⟩
    clear hrc hd hf hnL
    clear hb
    go_upto_region 13 with fail
    go_at_call 21
    with_reducible refine (sameAll_eq HG.o HYN.o.2 HZN.o.2 mem_holdB HYN.o.1 HZN.o.1 (by have h1:=congrArg List.length (HYN.o.2.trans HZN.o.2.symm);rw [List.length_map,List.length_map,HYN.o.1,HZN.o.1] at h1;have:=HNL.o;omega) (HRC2.o _ HY23.o) HRC3.o).mono ?_
    rintro e y3 ⟨rfl,hb⟩
    have Hy3:Hid (Below N w y3):=hid (HST.o _ _ Hy2.o hb)
    clear HRC2 HRC3 HYN HZN HY23 HNL
    clear hb
    go_upto_region 13 with fail
    go_at_call 51
    with_reducible refine (bytes_any O bk m c (Nat.le_trans HC.o (by decide)) d 0 _ (HBV.o _ Hy3.o)).mono ?_
    rintro e y4 ⟨rfl,hb⟩
    have Hy4:Hid (Below N w y4):=hid (HST.o _ _ Hy3.o hb)
    clear hb
    go_upto_region 13 with fail
    go_at_call 136
    with_reducible refine (refBytes_any a cA L xs HLE.o HL.o (by rw [HM.o];exact HG.o) (HG.o.small HM.o (fun r h=>h)) d 0 _ (HXW.o _ Hy4.o)).mono ?_
    rintro e y5 ⟨rfl,hb⟩
    have Hy5:Hid (Below N w y5):=hid (HST.o _ _ Hy4.o hb)
    clear hb
    rw [HM.o]
    go_upto_region 13 with fail
    go_at_call 51
    with_reducible refine (bytes_any O bk m c (Nat.le_trans HC.o (by decide)) d 1 _ (HBV.o _ Hy5.o)).mono ?_
    rintro e y6 ⟨rfl,hb⟩
    have Hy6:Hid (Below N w y6):=hid (HST.o _ _ Hy5.o hb)
    clear hb
    go_upto_region 13 with fail
    go_at_call 136
    with_reducible refine (refBytes_any a cA L xs HLE.o HL.o (by rw [HM.o];exact HG.o) (HG.o.small HM.o (fun r h=>h)) d 1 _ (HXW.o _ Hy6.o)).mono ?_
    rintro e y7 ⟨rfl,hb⟩
    have Hy7:Hid (Below N w y7):=hid (HST.o _ _ Hy6.o hb)
    clear hb
    rw [HM.o]
    go_wp2_with fail
    go_roundw
    case rel=>exact ⟨d+1,by omega,by omega,by go_num,Hy7⟩
    case measure=>simp [intOf];omega
  have hki:(k:Int)<(L:Int):=by omega
  have HK1:Hid (k<xs.length):=hid (by rw [HLE.o];exact hlt)
  obtain ⟨b1,o1,ha,hc1⟩:=(HXW.o _ HR.o).one k HK1.o
  subst ha
  obtain ⟨x,hx⟩:=ex_eq (xs[k]'HK1.o)
  have HXM:Hid (x.r ∈ m):=hid (by rw [← HM.o,← hx];exact List.mem_map_of_mem (List.getElem_mem HK1.o))
  rw [hx] at hc1
  clear hx
  obtain ⟨r,hcu⟩:=curB_mem HXM.o
  have HVX:=hid (HG.o.v _ HXM.o)
  have HVR:=hid (HG.o.v _ (curB_some hcu).1)
  obtain ⟨⟨holX,vltX,strX,ixX,szX,dayX,serX,cntX,plX,rootX,paX,siX,ptX,sqX⟩,apX,c1X,aqX,c2X,arX,c3X⟩:=x
  simp only [RcV.cells] at hc1
  have HPC:Hid (strX.size≤maxLen∧(Lit.int .i64 ixX).wf=true):=hid ⟨by have:=HVX.o.gd.st;simp only at this;unfold maxLen;omega,wf64 (by have:=HVX.o.gd.i0;simp only at this;omega) (by have:=HVX.o.gd.i1;simp only at this;omega)⟩
  have HCX:Hid (∀V,Below wr.heap.size wr V→(V.cell? ⟨b1,o1+k*14+2,none⟩=some (.string strX)∧V.cell? ⟨b1,o1+k*14+3,none⟩=some (.int .i64 ixX))):=hid (fun V h=>by
   have f: ∀{ad:Addr} {u:Value},wr.cell? ad=some u→V.cell? ad=some u:=fun hu=>(h.cell (World.block_lt_of_cell? _ _ hu)).trans hu
   exact ⟨f (hc1 2 (by decide)),f (hc1 3 (by decide))⟩)
  clear hc1 HXM HVX
  obtain ⟨hol,vlt,str,ix,sz,day,ser,cnt,pl,root,pa,si,pt,sq⟩:=r
  obtain ⟨n1,e1⟩:=ex_eq pa.length
  obtain ⟨n2,e2⟩:=ex_eq pt.length
  obtain ⟨n3,e3⟩:=ex_eq sq.length
  have HLR:Hid (pa.length=n1∧pt.length=n2∧sq.length=n3):=hid ⟨e1,e2,e3⟩
  have HKR:Hid (n1≤1000000∧n2≤1000000∧n3≤1000000):=hid (by rw [← e1,← e2,← e3];exact HVR.o.small)
  have HCU:=hid (fun V h=>getCurrent_some O bk m c (Nat.le_trans HC.o (by decide)) strX ixX HPC.o.1 HPC.o.2 hol vlt str ix sz day ser cnt pl root si pa pt sq n1 n2 n3 e1 e2 e3 hcu V (HBV.o V h))
  have HCD:=hid (fun V h=>refCurrent_some (some ⟨b1,o1,none⟩) cA L xs HLE.o (Nat.le_trans HL.o (by decide)) strX ixX hol vlt str ix sz day ser cnt pl root si pa pt sq n1 n2 n3 e1 e2 e3 (by rw [HM.o];exact hcu) V (HXW.o V h))
  have HOFL:Hid (∀(n:Nat) {ys:List RcV},ys.length=n∧ys.map RcV.r=ofB m ⟨strX,ixX⟩→n≤100000):=hid (fun n ys h=>by
   have h1:=congrArg List.length h.2
   have h2:=List.length_filter_le (isPc ⟨strX,ixX⟩) m
   rw [List.length_map,h.1] at h1
   unfold ofB at h1
   have:=HML.o
   have:=HL.o
   omega)
  clear hcu e1 e2 e3 HVR
  obtain ⟨q2,q3⟩:=HCX.o wr (Below.refl _ _)
  go_upto_region 6 with fail
  go_at_call 44
  with_reducible refine (HCU.o _ HR.o).mono ?_
  rintro e w2 ⟨a6,d6,a7,d7,a8,d8,rfl,hok,_,hb⟩
  have HOK6:=hid hok
  have HB2:=hid hb
  clear hok hb HCU q2 q3
  go_upto_region 5 with fail
  refine wp_over (fun V=>Hid (V.heap[w2.heap.size]? =some (.cells #[.int .i64 hol,.int .i64 vlt,.string str,.int .i64 ix,.int .i64 sz,.int .i64 day,.int .i64 ser,.int .i64 cnt,.int .i64 pl,.string root,.slice a6 n1 d6,.int .i64 si,.slice a7 n2 d7,.slice a8 n3 d8] 47 (0,0)))∧Hid (Below w2.heap.size w2 V)∧Hid (V.heap.size=w2.heap.size+1)) ⟨heap_alloc_new _ _,(Below.refl _ _).alloc (Nat.le_refl _) _,by show _=_;simp⟩ ?_
  rintro X ⟨HG1,HXB,HXS⟩
  have HBX:Hid (Below wr.heap.size wr X):=hid (HB2.o.trans (HXB.o.mono HB2.o.size))
  have HOK6X:=hid (HOK6.o.later HXB.o)
  obtain ⟨D1,hD⟩:=ex_eq w2.heap.size
  rw [hD] at HG1 HXS ⊢
  clear hD HXB HB2 HOK6
  have HR2:Hid (Below N w X):=hid (HST.o _ _ HR.o HBX.o)
  obtain ⟨q2,q3⟩:=HCX.o X HBX.o
  go_upto_region 6 with fail
  go_at_call 45
  with_reducible refine (HCD.o _ HR2.o).mono ?_
  rintro e w3 ⟨ap,c1,aq,c2,ar,c3,rfl,hmem,hb⟩
  have HMM:=hid hmem
  have HB3:=hid hb
  clear hmem hb HCD q2 q3
  go_upto_region 6 with fail
  refine wp_over (fun V=>Hid (V.heap[w3.heap.size]? =some (.cells #[.int .i64 hol,.int .i64 vlt,.string str,.int .i64 ix,.int .i64 sz,.int .i64 day,.int .i64 ser,.int .i64 cnt,.int .i64 pl,.string root,.slice ap n1 c1,.int .i64 si,.slice aq n2 c2,.slice ar n3 c3] 47 (0,0)))∧Hid (Below w3.heap.size w3 V)∧Hid (V.heap.size=w3.heap.size+1)) ⟨heap_alloc_new _ _,(Below.refl _ _).alloc (Nat.le_refl _) _,by show _=_;simp⟩ ?_
  rintro X2 ⟨HG2,HXB,HXS2⟩
  have HBX2:Hid (Below X.heap.size X X2):=hid (HB3.o.trans (HXB.o.mono HB3.o.size))
  obtain ⟨D2,hD⟩:=ex_eq w3.heap.size
  rw [hD] at HG2 HXS2 ⊢
  clear hD HXB HB3
  have HX2:Hid (Below N w X2):=hid (HST.o _ _ HR2.o HBX2.o)
  have HV2:Hid (∀V,Below X2.heap.size X2 V→Below N w V):=hid (fun V h=>HST.o _ _ HX2.o h)
  have HSP:Hid (∀V,Below X2.heap.size X2 V→(V.cell? ⟨b1,o1+k*14+2,none⟩=some (.string strX)∧V.cell? ⟨b1,o1+k*14+3,none⟩=some (.int .i64 ixX))∧(V.cell? ⟨D1,0,none⟩=some (.int .i64 hol)∧V.cell? ⟨D1,1,none⟩=some (.int .i64 vlt)∧V.cell? ⟨D1,2,none⟩=some (.string str)∧V.cell? ⟨D1,3,none⟩=some (.int .i64 ix)∧V.cell? ⟨D1,4,none⟩=some (.int .i64 sz)∧V.cell? ⟨D1,5,none⟩=some (.int .i64 day)∧V.cell? ⟨D1,6,none⟩=some (.int .i64 ser)∧V.cell? ⟨D1,7,none⟩=some (.int .i64 cnt)∧V.cell? ⟨D1,8,none⟩=some (.int .i64 pl)∧V.cell? ⟨D1,9,none⟩=some (.string root)∧V.cell? ⟨D1,10,none⟩=some (.slice a6 n1 d6)∧V.cell? ⟨D1,11,none⟩=some (.int .i64 si)∧V.cell? ⟨D1,12,none⟩=some (.slice a7 n2 d7)∧V.cell? ⟨D1,13,none⟩=some (.slice a8 n3 d8))∧V.cell? ⟨D2,0,none⟩=some (.int .i64 hol)∧V.cell? ⟨D2,1,none⟩=some (.int .i64 vlt)∧V.cell? ⟨D2,2,none⟩=some (.string str)∧V.cell? ⟨D2,3,none⟩=some (.int .i64 ix)∧V.cell? ⟨D2,4,none⟩=some (.int .i64 sz)∧V.cell? ⟨D2,5,none⟩=some (.int .i64 day)∧V.cell? ⟨D2,6,none⟩=some (.int .i64 ser)∧V.cell? ⟨D2,7,none⟩=some (.int .i64 cnt)∧V.cell? ⟨D2,8,none⟩=some (.int .i64 pl)∧V.cell? ⟨D2,9,none⟩=some (.string root)∧V.cell? ⟨D2,10,none⟩=some (.slice ap n1 c1)∧V.cell? ⟨D2,11,none⟩=some (.int .i64 si)∧V.cell? ⟨D2,12,none⟩=some (.slice aq n2 c2)∧V.cell? ⟨D2,13,none⟩=some (.slice ar n3 c3)):=hid (fun V h=>by
   have h1:Below X.heap.size X V:=HBX2.o.trans (h.mono HBX2.o.size)
   exact ⟨HCX.o V (HBX.o.trans (h1.mono HBX.o.size)),row14 ((h1.block D1 (by have:=HXS.o;omega)).trans HG1.o),row14 ((h.block D2 (by have:=HXS2.o;omega)).trans HG2.o)⟩)
  have HSM:Hid (∀V,Below X2.heap.size X2 V→Calls Tryz.prog 27 #[.agg #[.int .i64 hol,.int .i64 vlt,.string str,.int .i64 ix,.int .i64 sz,.int .i64 day,.int .i64 ser,.int .i64 cnt,.int .i64 pl,.string root,.slice a6 n1 d6,.int .i64 si,.slice a7 n2 d7,.slice a8 n3 d8],.agg #[.int .i64 hol,.int .i64 vlt,.string str,.int .i64 ix,.int .i64 sz,.int .i64 day,.int .i64 ser,.int .i64 cnt,.int .i64 pl,.string root,.slice ap n1 c1,.int .i64 si,.slice aq n2 c2,.slice ar n3 c3]] V fun e w'=>e= .returned (.bool true)∧Below V.heap.size V w'):=hid (fun V h=>by
   have h1:Below X.heap.size X V:=HBX2.o.trans (h.mono HBX2.o.size)
   obtain ⟨_,_,_,g1,g2,g3⟩:=HOK6X.o.later h1
   obtain ⟨_,_,_,g4,g5,g6⟩:=(HXW.o V (HV2.o V h)).2 _ HMM.o
   have l:=HLR.o
   have lk:=HKR.o
   have h2:=refSame43_any hol vlt str ix sz day ser cnt pl root a6 n1 d6 si a7 n2 d7 a8 n3 d8 pa pt sq hol vlt str ix sz day ser cnt pl root ap n1 c1 si aq n2 c2 ar n3 c3 pa pt sq V l.1 (by omega) g1 l.2.1 (by omega) g2 l.2.2 (by omega) g3 l.1 (by omega) g4 l.2.1 (by omega) g5 l.2.2 (by omega) g6 lk.1 lk.2.1 lk.2.2
   rwa [sameR_iff.2 rfl] at h2)
  go_upto_region 6 with fail
  have HDR:Hid (Below X2.heap.size X2 X2.drew):=hid (Below.refl _ _).drew
  obtain ⟨VD,hVD⟩:=ex_eq X2.drew
  rw [hVD] at HDR
  refine Kit.wp_region_gplan (fun V=>(V.cell? ⟨b1,o1+k*14+2,none⟩=some (.string strX)∧V.cell? ⟨b1,o1+k*14+3,none⟩=some (.int .i64 ixX))∧(V.cell? ⟨D1,0,none⟩=some (.int .i64 hol)∧V.cell? ⟨D1,1,none⟩=some (.int .i64 vlt)∧V.cell? ⟨D1,2,none⟩=some (.string str)∧V.cell? ⟨D1,3,none⟩=some (.int .i64 ix)∧V.cell? ⟨D1,4,none⟩=some (.int .i64 sz)∧V.cell? ⟨D1,5,none⟩=some (.int .i64 day)∧V.cell? ⟨D1,6,none⟩=some (.int .i64 ser)∧V.cell? ⟨D1,7,none⟩=some (.int .i64 cnt)∧V.cell? ⟨D1,8,none⟩=some (.int .i64 pl)∧V.cell? ⟨D1,9,none⟩=some (.string root)∧V.cell? ⟨D1,10,none⟩=some (.slice a6 n1 d6)∧V.cell? ⟨D1,11,none⟩=some (.int .i64 si)∧V.cell? ⟨D1,12,none⟩=some (.slice a7 n2 d7)∧V.cell? ⟨D1,13,none⟩=some (.slice a8 n3 d8))∧V.cell? ⟨D2,0,none⟩=some (.int .i64 hol)∧V.cell? ⟨D2,1,none⟩=some (.int .i64 vlt)∧V.cell? ⟨D2,2,none⟩=some (.string str)∧V.cell? ⟨D2,3,none⟩=some (.int .i64 ix)∧V.cell? ⟨D2,4,none⟩=some (.int .i64 sz)∧V.cell? ⟨D2,5,none⟩=some (.int .i64 day)∧V.cell? ⟨D2,6,none⟩=some (.int .i64 ser)∧V.cell? ⟨D2,7,none⟩=some (.int .i64 cnt)∧V.cell? ⟨D2,8,none⟩=some (.int .i64 pl)∧V.cell? ⟨D2,9,none⟩=some (.string root)∧V.cell? ⟨D2,10,none⟩=some (.slice ap n1 c1)∧V.cell? ⟨D2,11,none⟩=some (.int .i64 si)∧V.cell? ⟨D2,12,none⟩=some (.slice aq n2 c2)∧V.cell? ⟨D2,13,none⟩=some (.slice ar n3 c3)) [(true,0),(true,1),(true,2),(true,3),(true,4),(false,5),(true,6),(true,7),(true,8),(true,9),(true,10),(true,11),(true,12),(true,13),(true,14),(true,16),(true,17),(true,18),(true,19),(true,20),(true,21),(false,15),(false,22),(false,23),(true,24),(true,25)] (by kernel_rfl) (by kernel_rfl) (by kernel_rfl) (by kernel_rfl) (by rw [hVD];exact HSP.o _ HDR.o) ?_
  rw [hVD]
  clear hVD
  iterate 5 (refine Kit.ghd (h:= ?_))
  refine Kit.gplan_op (by rfl) (by rfl) fun K hK=> ?_
  go_simp
  go_at_call 27
  with_reducible refine (HSM.o _ HDR.o).mono ?_
  rintro e y1 ⟨rfl,hb⟩
  have Hy1:Hid (Below X2.heap.size X2 y1):=hid (HDR.o.trans (hb.mono HDR.o.size))
  clear hb
  refine hK _ _ (HSP.o _ Hy1.o) ?_
  clear hK K
  iterate 15 (refine Kit.ghd (h:= ?_))
  refine Kit.gplan_op (by rfl) (by rfl) fun K hK=> ?_
  go_simp
  go_at_call 47
  with_reducible refine (of_any O bk m c (Nat.le_trans HC.o (by decide)) strX ixX HPC.o.1 HPC.o.2 _ (HBV.o _ (HV2.o _ Hy1.o))).mono ?_
  rintro e y2 ⟨v1,rfl,n,ys,ho,hf,hb⟩
  have Hy2:Hid (Below X2.heap.size X2 y2):=hid (Hy1.o.trans (hb.mono Hy1.o.size))
  obtain ⟨av,cv,rfl,hrc⟩:=ho.rcsO
  have HRC2:Hid (∀V,Below y2.heap.size y2 V→RcsAt V av ys):=hid (fun V h=>hrc.later h)
  have HYN:Hid (ys.length=n∧ys.map RcV.r=ofB m ⟨strX,ixX⟩):=hid ⟨ho.2.1,hf⟩
  clear hrc ho hf
  clear hb
  refine hK _ _ (HSP.o _ Hy2.o) ?_
  clear hK K
  refine Kit.gplan_op (by rfl) (by rfl) fun K hK=> ?_
  go_simp
  go_at_call 48
  with_reducible refine (refOf_any (some ⟨b1,o1,none⟩) cA L xs HLE.o (Nat.le_trans HL.o (by decide)) strX ixX _ (HXW.o _ (HV2.o _ Hy2.o))).mono ?_
  rintro e y3 ⟨v2,rfl,n9,zs,hd,hf,_,hb⟩
  have Hy3:Hid (Below X2.heap.size X2 y3):=hid (Hy2.o.trans (hb.mono Hy2.o.size))
  have HY23:Hid (Below y2.heap.size y2 y3):=hid hb
  obtain ⟨aw,cw,rfl,hrc,_⟩:=hd.rcs
  have HRC3:Hid (RcsAt y3 aw zs):=hid hrc
  have HZN:Hid (zs.length=n9∧zs.map RcV.r=ofB m ⟨strX,ixX⟩):=hid ⟨hd.2.1,by rw [hf,HM.o]⟩
  clear hrc hd hf
  clear hb
  refine hK _ _ (HSP.o _ Hy3.o) ?_
  clear hK K
  refine Kit.gplan_op (by rfl) (by rfl) fun K hK=> ?_
  go_simp
  go_at_call 21
  with_reducible refine (sameAll_eq HG.o HYN.o.2 HZN.o.2 mem_ofB HYN.o.1 HZN.o.1 (HOFL.o _ HYN.o) (HRC2.o _ HY23.o) HRC3.o).mono ?_
  rintro e y4 ⟨rfl,hb⟩
  have Hy4:Hid (Below X2.heap.size X2 y4):=hid (Hy3.o.trans (hb.mono Hy3.o.size))
  clear hb
  refine hK _ _ (HSP.o _ Hy4.o) ?_
  clear hK K
  iterate 2 (refine Kit.ghd (h:= ?_))
  refine Kit.gdn (h:=?_)
  have HR4:Hid (Below N w y4):=hid (HV2.o _ Hy4.o)
  obtain ⟨q2,q3⟩:=(HSP.o _ Hy4.o).1
  clear HSM HRC2 HRC3 HYN HZN HY23
  go_upto_region 9 with fail
  go_at_call 46
  have h5:=carried_ok O bk m c (Nat.le_trans HC.o (by decide)) strX HPC.o.1 5 (by decide) (by decide) _ (HBV.o _ HR4.o)
  rw [show ((5:Nat):Int)=5 from rfl] at h5
  with_reducible refine h5.mono ?_
  clear h5
  rintro e y5 ⟨bo,rfl,hbo,hrow,hb⟩
  have HRW:=hid hrow
  have HB5:=hid hb
  have HR5:Hid (Below N w y5):=hid (HST.o _ _ HR4.o hb)
  clear hrow hb hbo q2 q3
  obtain ⟨q2,q3⟩:=(HSP.o y5 (Hy4.o.trans (HB5.o.mono Hy4.o.size))).1
  go_upto_region 3 with fail
  go_at_call 50
  have h5:=refCarried_ok (some ⟨b1,o1,none⟩) cA L xs HLE.o (Nat.le_trans HL.o (by decide)) strX 5 (by decide) (by decide) _ (HXW.o _ HR5.o)
  rw [show ((5:Nat):Int)=5 from rfl] at h5
  with_reducible refine h5.mono ?_
  clear h5
  rintro e y6 ⟨b2,c9,rfl,_,hcl,hb⟩
  have HCL:=hid hcl
  have HR6:Hid (Below N w y6):=hid (HST.o _ _ HR5.o hb)
  have HRW6:Hid (y6.heap[bo]? =some (.cells (intV (carB m strX 5)).toArray 3 (0,0))):=hid ((hb.block bo (gS HRW.o).1).trans HRW.o)
  clear hcl hb q2 q3 HRW HB5
  go_upto_region 3 with fail
  go_at_call 49
  with_reducible refine (refSameInts_ok bo b2 5 c9 5 (carB m strX 5) (by simp [carB]) (by decide) _ (fun i h=>(cell_of_row _ _ _ _ _ _ HRW6.o).trans (by unfold intV;rw [List.getElem?_toArray,List.getElem?_map,lE h,Option.map_some])) (by have h:=HCL.o;rw [HM.o] at h;exact h)).mono ?_
  rintro e y7 ⟨rfl,hb⟩
  have HR7:Hid (Below N w y7):=hid (HST.o _ _ HR6.o hb)
  clear hb HCL HRW6
  go_wp2_with fail
  go_roundw
  case rel=>exact ⟨k+1,hlt,by go_num,HR7⟩
  case measure=>simp [intOf];omega
end Go.Proofs.YtndlihclgdkpaaaGreatDoor
