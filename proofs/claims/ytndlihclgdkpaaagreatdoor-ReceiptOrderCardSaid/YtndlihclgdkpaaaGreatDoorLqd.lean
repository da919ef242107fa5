/- The law ReceiptOrder. -/
import Derived.Test.YtndlihclgdkpaaaGreatDoorGk
import Derived.Test.YtndlihclgdkpaaaGreatDoorGm
import Derived.Test.YtndlihclgdkpaaaGreatDoorGn
import Derived.Test.YtndlihclgdkpaaaGreatDoorGp
import Derived.Test.YtndlihclgdkpaaaGreatDoorQaw
import Derived.Test.YtndlihclgdkpaaaGreatDoorQli
import Derived.Test.YtndlihclgdkpaaaGreatDoorQtb
set_option linter.unusedVariables false
set_option linter.unusedSimpArgs false
open Go.Lib (hid)
namespace Go.Proofs.YtndlihclgdkpaaaGreatDoor
open Go.RowKit
open Kit (Chg)
open Sha (v)
open Go.Proofs.YtndlihclgdkpaaaGreatDoor.One

def opR (ys:List OpB):List Rc:=ys.map fun y=>y.x.r
theorem okP_snoc {r:Rc}: ∀{l m:List Rc},okP m l→((addP (addsP m l) r).2=0∨(addP (addsP m l) r).2=5)→okP m (l++[r])
 | [],m,_,h=>⟨h,trivial⟩
 | x::l,m,h,h2=>⟨h.1,okP_snoc (l:=l) h.2 h2⟩
theorem addsP_snoc (m l:List Rc) (r:Rc):addsP m (l++[r])=(addP (addsP m l) r).1:=by
 unfold addsP
 rw [List.foldl_append]
 rfl
theorem opR_take (ys:List OpB) (k:Nat) (h:k<ys.length):(opR ys).take (k+1)=(opR ys).take k++[ys[k].x.r]:=by
 rw [List.take_succ_eq_append_getElem (by rw [opR,List.length_map];exact h)]
 simp [opR]
theorem order_cur {mA mB:List Rc} {r:Rc} (h:mB.map Rc.sg=mA.map Rc.sg) (hx: ∃x ∈ mA,x.sg=r.sg): ∃a b,curB mA r.pc=some a∧curB mB r.pc=some b∧a.sg=b.sg:=by
 obtain ⟨x,hx,e⟩:=hx
 have hp:x.pc=r.pc:=congrArg pcS e
 have hm:x ∈ ofB mA r.pc:=List.mem_filter.2 ⟨hx,by unfold isPc;exact decide_eq_true hp⟩
 have hc:(curB mB r.pc).map Rc.sg=(curB mA r.pc).map Rc.sg:=by rw [curB_sg,curB_sg,h]
 cases hA:curB mA r.pc with
 | none=>
   unfold curB at hA
   rw [List.getLast?_eq_none_iff] at hA
   rw [hA] at hm
   cases hm
 | some a=>
   rw [hA] at hc
   cases hB:curB mB r.pc with
   | none=>rw [hB] at hc;cases hc
   | some b=>
     rw [hB] at hc
     injection hc with hc
     exact ⟨a,b,rfl,rfl,hc.symm⟩
theorem order_of {mA mB:List Rc} (h:mB.map Rc.sg=mA.map Rc.sg) (p:Pc):(ofB mB p).map Rc.sg=(ofB mA p).map Rc.sg:=by rw [ofB_sg,ofB_sg,h]
theorem OwnRc.rcs {w:World} {B n:Nat} {v:Value} {ys:List RcV} (h:OwnRc w B v n ys): ∃a cap,v= .slice a n cap∧RcsAt w a ys:=by
 obtain ⟨h1,h2,h3⟩:=h
 rcases h1.2 with ⟨rfl,rfl⟩ | ⟨g,cap,cur,rfl,hb,hg,hcap,hmax,hsz,htake⟩
 ·exact ⟨none,0,rfl,.inl (List.eq_nil_of_length_eq_zero h2),fun y hy=>(h3 y hy).1⟩
 ·refine ⟨some ⟨g,0,none⟩,cap,rfl,.inr ⟨g,0,rfl,fun k hk j hj=> ?_⟩,fun y hy=>(h3 y hy).1⟩
  have e1:=rw_get RcV.len ys k hk j hj
  rw [← e1,show ys.flatMap RcV.cells=rcv ys from rfl,← htake,List.getElem?_take_of_lt (by omega),Array.getElem?_toList,show 0+k*14+j=k*14+j by omega]
  exact cell_of_row _ _ _ _ _ _ hg
theorem TwoB.cur {w V:World} {ba bb:Nat} {mA:List Rc} {cA:Nat} {mB:List Rc} {cB:Nat} (h:TwoB w V ba bb mA cA mB cB) (hcA:cA≤100000) (s:ByteArray) (i:Int) (hs:s.size≤maxLen) (hi:(Lit.int .i64 i).wf=true) (hol vlt:Int) (str:ByteArray) (ix sz day ser cnt pl:Int) (root:ByteArray) (si:Int) (pa pt sq:List ByteArray) (n1 n2 n3:Nat) (h1:pa.length=n1) (h2:pt.length=n2) (h3:sq.length=n3) (hc:curB mA ⟨s,i⟩=some ⟨hol,vlt,str,ix,sz,day,ser,cnt,pl,root,pa,si,pt,sq⟩):Calls Tryz.prog 44 #[.pointer (some ⟨ba,0,none⟩),.agg #[.string s,.int .i64 i]] V fun e w'=> ∃a6 d6 a7 d7 a8 d8,e= .returned (.tuple #[.agg #[.int .i64 hol,.int .i64 vlt,.string str,.int .i64 ix,.int .i64 sz,.int .i64 day,.int .i64 ser,.int .i64 cnt,.int .i64 pl,.string root,.slice a6 n1 d6,.int .i64 si,.slice a7 n2 d7,.slice a8 n3 d8],.int .i64 0])∧TwoB w w' ba bb mA cA mB cB∧Below V.heap.size V w':=by
 have h0:=h
 obtain ⟨OA,OB,hA,_⟩:=h
 refine (getCurrent_some OA ba mA cA hcA s i hs hi hol vlt str ix sz day ser cnt pl root si pa pt sq n1 n2 n3 h1 h2 h3 hc V hA).mono ?_
 rintro e w' ⟨a6,d6,a7,d7,a8,d8,he,_,_,h4⟩
 exact ⟨a6,d6,a7,d7,a8,d8,he,h0.later h4,h4⟩
theorem TwoB.bytes {w V:World} {ba bb:Nat} {mA:List Rc} {cA:Nat} {mB:List Rc} {cB:Nat} (h:TwoB w V ba bb mA cA mB cB) (hcA:cA≤100000) (i v:Int):Calls Tryz.prog 51 #[.pointer (some ⟨ba,0,none⟩),.int .i64 i,.int .i64 v] V fun e w'=>e= .returned (.int .i64 (bytesB mA i v))∧TwoB w w' ba bb mA cA mB cB∧Below V.heap.size V w':=by
 have h0:=h
 obtain ⟨OA,OB,hA,_⟩:=h
 refine (bytes_any OA ba mA cA hcA i v V hA).mono ?_
 rintro e w' ⟨he,h4⟩
 exact ⟨he,h0.later h4,h4⟩
set_option maxRecDepth 100000 in
set_option maxHeartbeats 4000000 in
theorem walk_ReceiptOrder (a:Option Addr) (c L:Nat) (ys:List OpB) (a2:Option Addr) (c2 L2:Nat) (zs:List Int) (w:World) (hl:ys.length=L) (hm:L≤9223372036854775807) (hS:OpsB w a ys) (hl2:zs.length=L2) (hm2:L2≤9223372036854775807) (hS2:NumsAt w a2 zs) (hL:Laid w):
    Calls Tryz.prog 11 #[.slice a L c,.slice a2 L2 c2] w fun e w'=>e= .returned (.bool true)∧Below w.heap.size w w':=by
 have HL:=hid hl
 have HM:=hid hm
 have HS:=hid hS
 have HL2:=hid hl2
 have HS2:=hid hS2
 have HLD:=hid hL
 have HAW:=hid (awake43 w hL (Laid.low3' hL))
 clear hl hm hS hl2 hm2 hS2 hL
 go_enter Tryz.func11,Tryz.ntmps11
 go_wp2_with fail
 with_reducible refine HAW.o.mono ?_
 rintro e w1 ⟨rfl,hb⟩
 have Hw1:=hid hb
 clear hb HAW
 obtain ⟨LB,hLB⟩:=ex_eq (lightB ys 20)
 have HLI:Hid (Calls Tryz.prog 37 #[.slice a L c,.int .i64 20] w1 fun e w'=>e= .returned (.bool LB)∧Below w1.heap.size w1 w'):=hid (by
  have h:=light_any a c L 20 ys HL.o (by have:=HM.o;omega) w1 (HS.o.later Hw1.o)
  rw [hLB] at h
  exact h)
 have HLB:=hid hLB
 clear hLB
 go_wp2_with fail
 with_reducible refine HLI.o.mono ?_
 rintro e w2 ⟨rfl,hb⟩
 have Hw2:Hid (Below w.heap.size w w2):=hid (Hw1.o.trans (hb.mono Hw1.o.size))
 clear hb HLI
 cases LB
 ·go_wp2_with fail
  go_ret
  exact ⟨rfl,Hw2.o⟩
 by_cases g60:(60:Int)<(L2:Int)
 ·go_wp2_with fail
  go_ret
  exact ⟨rfl,Hw2.o⟩
 have H20:Hid (L≤20∧L2≤60):=hid (by
  have h:=HLB.o
  unfold lightB at h
  simp only [Bool.and_eq_true,decide_eq_true_eq] at h
  have:=HL.o
  omega)
 go_wp2_with fail
 with_reducible refine (newBook_any w2).mono ?_
 rintro e w3 ⟨ba,rfl,hba,hBA,hb⟩
 have HBA:=hid hBA
 have Hw3:Hid (Below w.heap.size w w3):=hid (Hw2.o.trans (hb.mono Hw2.o.size))
 have HZ3:Hid (w2.heap.size≤w3.heap.size):=hid hb.size
 clear hb hba hBA
 go_wp2_with fail
 with_reducible refine (newBook_any w3).mono ?_
 rintro e w4 ⟨bb,rfl,hbb,hBB,hb⟩
 have HBB:=hid hBB
 have HBA4:=hid (HBA.o.later hb)
 have Hw4:Hid (Below w.heap.size w w4):=hid (Hw3.o.trans (hb.mono Hw3.o.size))
 clear hb hbb hBB HBA
 have HTW:Hid (TwoB w w4 ba bb [] 0 [] 0):=hid ⟨_,_,HBA4.o,HBB.o,fun q h=>Nat.le_trans Hw2.o.size h.1,fun q h=>Nat.le_trans Hw3.o.size h.1,fun q h h2=>by have:=h.2;have:=h2.1;omega,Hw4.o⟩
 clear HBA4 HBB HZ3
 have hL20:L≤20:=H20.o.1
 have hL60:L2≤60:=H20.o.2
 go_upto_region 7 with fail
 go_loopw [7] (fun z wr=> ∃k:Nat,k≤L∧z= .int .i64 (k:Int)∧Hid (okP [] ((opR ys).take k))∧Hid (TwoB w wr ba bb (addsP [] ((opR ys).take k)) k [] 0)) (fun z _=>L - (intOf z).toNat)
 case atStart=>exact ⟨0,Nat.zero_le _,rfl,hid (by rw [List.take_zero];exact trivial),hid (by rw [List.take_zero];exact HTW.o)⟩
 case round=>
  obtain ⟨k,hk,rfl,HOK,HTB⟩:=hrel
  by_cases hlt:k<L
  rotate_left
  ·have hki: ¬(k:Int)<(L:Int):=by omega
   have hke:k=L:=by omega
   subst hke
   have HOKL:Hid (okP [] (opR ys)):=hid (by have h:=HOK.o;rwa [List.take_of_length_le (by rw [opR,List.length_map,HL.o];exact Nat.le_refl _)] at h)
   have HTBL:Hid (TwoB w wr ba bb (addsP [] (opR ys)) k [] 0):=hid (by have h:=HTB.o;rwa [List.take_of_length_le (by rw [opR,List.length_map,HL.o];exact Nat.le_refl _)] at h)
   clear HOK HTB
   go_upto_region 13 with fail
   go_loopw [9] (fun z wq=> ∃j:Nat,j≤L2∧z= .int .i64 (j:Int)∧Hid (∃l2:List Rc,(∀r ∈ l2,r ∈ opR ys)∧TwoB w wq ba bb (addsP [] (opR ys)) k (addsP [] l2) j)) (fun z _=>L2 - (intOf z).toNat)
   case atStart=>exact ⟨0,Nat.zero_le _,rfl,hid ⟨[],fun r h=>(by cases h),HTBL.o⟩⟩
   case round=>
    obtain ⟨j,hj,rfl,HQ⟩:=hrel
    by_cases hjt:j<L2
    rotate_left
    ·have hji: ¬(j:Int)<(L2:Int):=by omega
     have hje:j=L2:=by omega
     subst hje
     obtain ⟨l2,hq1,hq2⟩:=HQ.o
     have HQ1:=hid hq1
     have HTQ:=hid hq2
     clear hq1 hq2 HQ
     go_upto_region 18 with fail
     go_loopw [10] (fun z wq=> ∃i:Nat,i≤k∧z= .int .i64 (i:Int)∧Hid (TwoB w wq ba bb (addsP [] (opR ys)) k (addsP [] (l2++(opR ys).take i)) (j+i))) (fun z _=>k - (intOf z).toNat)
     case atStart=>exact ⟨0,Nat.zero_le _,rfl,hid (by rw [List.take_zero,List.append_nil];exact HTQ.o)⟩
     case round=>
      obtain ⟨i,hi,rfl,HTI⟩:=hrel
      by_cases hit:i<k
      rotate_left
      ·have hii: ¬(i:Int)<(k:Int):=by omega
       have hie:i=k:=by omega
       subst hie
       have HTE:Hid (TwoB w wr ba bb (addsP [] (opR ys)) i (addsP [] (l2++opR ys)) (j+i)):=hid (by have h:=HTI.o;rwa [List.take_of_length_le (by rw [opR,List.length_map,HL.o];exact Nat.le_refl _)] at h)
       clear HTI HTQ
       have HOR:=hid (order_plain HOKL.o HQ1.o)
       obtain ⟨mA,hmA⟩:=ex_eq (addsP [] (opR ys))
       obtain ⟨mB,hmB⟩:=ex_eq (addsP [] (l2++opR ys))
       have HVL:Hid (∀r ∈ opR ys,ValidR r):=hid (addsP_ok _ _ goodB_nil HOKL.o).2.1
       rw [hmA,hmB] at HTE HOR
       clear hmA hmB
       go_upto_region 22 with fail
       go_loopw [11] (fun z wq=> ∃q:Nat,q≤i∧z= .int .i64 (q:Int)∧Hid (TwoB w wq ba bb mA i mB (j+i))) (fun z _=>i - (intOf z).toNat)
       case atStart=>exact ⟨0,Nat.zero_le _,rfl,HTE⟩
       case round=>
        obtain ⟨q,hq,rfl,HTB⟩:=hrel
        by_cases hqt:q<i
        rotate_left
        ·have hqi: ¬(q:Int)<(i:Int):=by omega
         go_wp2_with fail
         go_ret
         exact ⟨rfl,HTB.o.below⟩
        have hqi:(q:Int)<(i:Int):=by omega
        have HKL:Hid (q<ys.length):=hid (by have:=HL.o;omega)
        obtain ⟨b,o,rfl,hcs⟩:=(HS.o.later HTB.o.below).cell (fun e=>by have:=HKL.o;rw [e] at this;simp at this)
        have hc:=hcs q HKL.o
        have HYK:=hid (((HS.o.later HTB.o.below).2 _ (List.getElem_mem HKL.o)).1)
        have HTK:=hid (opR_take ys q HKL.o)
        obtain ⟨y,hy⟩:=ex_eq (ys[q]'HKL.o)
        rw [hy] at hc HYK HTK
        clear hy hcs
        obtain ⟨⟨⟨hol,vlt,str,ix,sz,day,ser,cnt,pl,root,pa,si,pt,sq⟩,ap,c1,aq,c2',ar,c3⟩,dr⟩:=y
        obtain ⟨n1,e1⟩:=ex_eq pa.length
        obtain ⟨n2,e2⟩:=ex_eq pt.length
        obtain ⟨n3,e3⟩:=ex_eq sq.length
        have HLN:Hid (pa.length=n1∧pt.length=n2∧sq.length=n3):=hid ⟨e1,e2,e3⟩
        have HNN:Hid (n1<9223372036854775808∧n2<9223372036854775808∧n3<9223372036854775808∧StrsAt wr ap pa∧StrsAt wr aq pt∧StrsAt wr ar sq):=hid (by
         obtain ⟨o1,o2,o3,o4,o5,o6⟩:=HYK.o
         exact ⟨e1 ▸ o1,e2 ▸ o2,e3 ▸ o3,o4,o5,o6⟩)
        simp only [OpB.cells,RcV.cells,e1,e2,e3] at hc
        have r0:wr.cell? ⟨b,o+q*15,none⟩=some (.int .i64 hol):=hc 0 (by decide)
        have r1:wr.cell? ⟨b,o+q*15+1,none⟩=some (.int .i64 vlt):=hc 1 (by decide)
        have r2:wr.cell? ⟨b,o+q*15+2,none⟩=some (.string str):=hc 2 (by decide)
        have r3:wr.cell? ⟨b,o+q*15+3,none⟩=some (.int .i64 ix):=hc 3 (by decide)
        have r4:wr.cell? ⟨b,o+q*15+4,none⟩=some (.int .i64 sz):=hc 4 (by decide)
        have r5:wr.cell? ⟨b,o+q*15+5,none⟩=some (.int .i64 day):=hc 5 (by decide)
        have r6:wr.cell? ⟨b,o+q*15+6,none⟩=some (.int .i64 ser):=hc 6 (by decide)
        have r7:wr.cell? ⟨b,o+q*15+7,none⟩=some (.int .i64 cnt):=hc 7 (by decide)
        have r8:wr.cell? ⟨b,o+q*15+8,none⟩=some (.int .i64 pl):=hc 8 (by decide)
        have r9:wr.cell? ⟨b,o+q*15+9,none⟩=some (.string root):=hc 9 (by decide)
        have r10:wr.cell? ⟨b,o+q*15+10,none⟩=some (.slice ap n1 c1):=hc 10 (by decide)
        have r11:wr.cell? ⟨b,o+q*15+11,none⟩=some (.int .i64 si):=hc 11 (by decide)
        have r12:wr.cell? ⟨b,o+q*15+12,none⟩=some (.slice aq n2 c2'):=hc 12 (by decide)
        have r13:wr.cell? ⟨b,o+q*15+13,none⟩=some (.slice ar n3 c3):=hc 13 (by decide)
        clear hc e1 e2 e3
        have HMR:Hid (⟨hol,vlt,str,ix,sz,day,ser,cnt,pl,root,pa,si,pt,sq⟩ ∈ opR ys):=hid (List.mem_of_mem_take (i:=q+1) (by rw [HTK.o];exact List.mem_append_right _ (List.mem_singleton.2 rfl)))
        have HVR:=hid (HVL.o _ HMR.o)
        have HSTR:Hid (str.size≤maxLen∧(Lit.int .i64 ix).wf=true):=hid ⟨by have:=HVR.o.gd.st;simp only at this;unfold maxLen;omega,wf64 (by have:=HVR.o.gd.i0;simp only at this;omega) (by have:=HVR.o.gd.i1;simp only at this;omega)⟩
        clear r0 r1 r4 r5 r6 r7 r8 r9 r10 r11 r12 r13
        have HSC:Hid (∀V,Below wr.heap.size wr V→V.cell? ⟨b,o+q*15+2,none⟩=some (.string str)∧V.cell? ⟨b,o+q*15+3,none⟩=some (.int .i64 ix)):=hid (fun V hb=>⟨(hb.cell (World.block_lt_of_cell? _ _ r2)).trans r2,(hb.cell (World.block_lt_of_cell? _ _ r3)).trans r3⟩)
        clear r2 r3
        go_upto_region 24 with fail
        have HDR:Hid (Below wr.heap.size wr wr.drew):=hid (Below.refl _ _).drew
        obtain ⟨VD,hVD⟩:=ex_eq wr.drew
        rw [hVD] at HDR
        refine Kit.wp_region_gplan (fun V=>V.cell? ⟨b,o+q*15+2,none⟩=some (.string str)∧V.cell? ⟨b,o+q*15+3,none⟩=some (.int .i64 ix)) [(true,0),(true,1),(true,2),(true,3),(true,4),(true,5),(true,6),(true,8),(true,9),(true,10),(true,11),(true,12),(true,13),(true,14),(false,7),(false,15),(true,16),(true,17)] (by kernel_rfl) (by kernel_rfl) (by kernel_rfl) (by kernel_rfl) (by rw [hVD];exact HSC.o _ HDR.o) ?_
        rw [hVD]
        clear hVD
        have HTD:=hid (HTB.o.later HDR.o)
        obtain ⟨r2,r3⟩:=HSC.o VD HDR.o
        iterate 14 (refine Kit.ghd (h:= ?_))
        clear r2 r3
        refine Kit.gplan_op (by rfl) (by rfl) fun K' hK'=> ?_
        go_simp
        go_at_call 47
        with_reducible refine (HTD.o.of (by omega) str ix HSTR.o.1 HSTR.o.2).mono ?_
        rintro e v1 ⟨x1,rfl,m1,y1,hown,hmap,htb,hb⟩
        have HO1:=hid hown
        have HM1:=hid hmap
        have HT1:=hid htb
        have HB1:Hid (Below wr.heap.size wr v1):=hid (HDR.o.trans (hb.mono HDR.o.size))
        clear hown hmap htb hb
        refine hK' _ _ (HSC.o _ HB1.o) ?_
        clear hK' K'
        refine Kit.gplan_op (by rfl) (by rfl) fun K' hK'=> ?_
        go_simp
        go_at_call 47
        with_reducible refine (HT1.o.swap.of (by omega) str ix HSTR.o.1 HSTR.o.2).mono ?_
        rintro e v2 ⟨x2,rfl,m2,y2,hown,hmap,htb,hb⟩
        have HO2:=hid hown
        have HM2:=hid hmap
        have HT2:=hid htb.swap
        have HO12:=hid (HO1.o.later hb)
        have HB2:Hid (Below wr.heap.size wr v2):=hid (HB1.o.trans (hb.mono HB1.o.size))
        clear hown hmap htb hb HO1
        refine hK' _ _ (HSC.o _ HB2.o) ?_
        clear hK' K'
        iterate 2 (refine Kit.ghd (h:= ?_))
        refine Kit.gdn (h:=?_)
        as_aux_lemma=>
         obtain ⟨RA,RB,hca,hcb,hse⟩:=order_cur HOR.o.2.2.1 (HOR.o.2.2.2 _ HMR.o)
         have HBS:Hid (∀h v,bytesB mB h v=bytesB mA h v):=hid (bytesB_sg HOR.o.2.2.1)
         obtain ⟨holA,vltA,strA,ixA,szA,dayA,serA,cntA,plA,rootA,paA,siA,ptA,sqA⟩:=RA
         obtain ⟨holB,vltB,strB,ixB,szB,dayB,serB,cntB,plB,rootB,paB,siB,ptB,sqB⟩:=RB
         obtain ⟨m1A,f1A⟩:=ex_eq paA.length
         obtain ⟨m2A,f2A⟩:=ex_eq ptA.length
         obtain ⟨m3A,f3A⟩:=ex_eq sqA.length
         obtain ⟨m1B,f1B⟩:=ex_eq paB.length
         obtain ⟨m2B,f2B⟩:=ex_eq ptB.length
         obtain ⟨m3B,f3B⟩:=ex_eq sqB.length
         have HCA:Hid (curB mA ⟨str,ix⟩=some ⟨holA,vltA,strA,ixA,szA,dayA,serA,cntA,plA,rootA,paA,siA,ptA,sqA⟩):=hid hca
         have HCB:Hid (curB mB ⟨str,ix⟩=some ⟨holB,vltB,strB,ixB,szB,dayB,serB,cntB,plB,rootB,paB,siB,ptB,sqB⟩):=hid hcb
         have HSE:=hid hse
         have HLA:Hid (paA.length=m1A∧ptA.length=m2A∧sqA.length=m3A):=hid ⟨f1A,f2A,f3A⟩
         have HLB2:Hid (paB.length=m1B∧ptB.length=m2B∧sqB.length=m3B):=hid ⟨f1B,f2B,f3B⟩
         clear hca hcb hse f1A f2A f3A f1B f2B f3B
         obtain ⟨r2,r3⟩:=HSC.o v2 HB2.o
         go_upto_region 27 with fail
         go_at_call 44
         with_reducible refine (HT2.o.cur (by omega) str ix HSTR.o.1 HSTR.o.2 holA vltA strA ixA szA dayA serA cntA plA rootA siA paA ptA sqA m1A m2A m3A HLA.o.1 HLA.o.2.1 HLA.o.2.2 HCA.o).mono ?_
         rintro e v3 ⟨a6,d6,a7,d7,a8,d8,rfl,htb,hb⟩
         have HT3:=hid htb
         have HB3:Hid (Below wr.heap.size wr v3):=hid (HB2.o.trans (hb.mono HB2.o.size))
         have HO3:Hid (OwnRc v3 VD.heap.size x1 m1 y1∧OwnRc v3 v1.heap.size x2 m2 y2):=hid ⟨HO12.o.later hb,HO2.o.later hb⟩
         clear htb hb r2 r3
         go_upto_region 26 with fail
         refine wp_over (fun V=>Hid (V.heap[v3.heap.size]? =some (.cells #[.int .i64 holA,.int .i64 vltA,.string strA,.int .i64 ixA,.int .i64 szA,.int .i64 dayA,.int .i64 serA,.int .i64 cntA,.int .i64 plA,.string rootA,.slice a6 m1A d6,.int .i64 siA,.slice a7 m2A d7,.slice a8 m3A d8] 47 (0,0)))∧Hid (Below v3.heap.size v3 V)) ⟨heap_alloc_new _ _,(Below.refl _ _).alloc (Nat.le_refl _) _⟩ ?_
         rintro V4 ⟨HG4,HV4⟩
         obtain ⟨NA,hNA⟩:=ex_eq v3.heap.size
         have HNA:Hid (NA<V4.heap.size):=hid (by rw [← hNA];exact (gS HG4.o).1)
         have HT4:=hid (HT3.o.later HV4.o)
         have HB4:Hid (Below wr.heap.size wr V4):=hid (HB3.o.trans (HV4.o.mono HB3.o.size))
         have HO4:Hid (OwnRc V4 VD.heap.size x1 m1 y1∧OwnRc V4 v1.heap.size x2 m2 y2):=hid ⟨HO3.o.1.later HV4.o,HO3.o.2.later HV4.o⟩
         rw [hNA] at HG4 ⊢
         clear hNA HV4
         obtain ⟨r2,r3⟩:=HSC.o V4 HB4.o
         go_upto_region 27 with fail
         go_at_call 44
         with_reducible refine (HT4.o.swap.cur (by omega) str ix HSTR.o.1 HSTR.o.2 holB vltB strB ixB szB dayB serB cntB plB rootB siB paB ptB sqB m1B m2B m3B HLB2.o.1 HLB2.o.2.1 HLB2.o.2.2 HCB.o).mono ?_
         rintro e v5 ⟨g6,k6,g7,k7,g8,k8,rfl,htb,hb⟩
         have HT5:=hid htb.swap
         have HB5:Hid (Below wr.heap.size wr v5):=hid (HB4.o.trans (hb.mono HB4.o.size))
         have HO5:Hid (OwnRc v5 VD.heap.size x1 m1 y1∧OwnRc v5 v1.heap.size x2 m2 y2):=hid ⟨HO4.o.1.later hb,HO4.o.2.later hb⟩
         have HG5:=hid ((hb.block NA HNA.o).trans HG4.o)
         have HN5:Hid (NA<v5.heap.size):=hid (Nat.lt_of_lt_of_le HNA.o hb.size)
         clear htb hb r2 r3
         go_upto_region 27 with fail
         refine wp_over (fun V=>Hid (V.heap[v5.heap.size]? =some (.cells #[.int .i64 holB,.int .i64 vltB,.string strB,.int .i64 ixB,.int .i64 szB,.int .i64 dayB,.int .i64 serB,.int .i64 cntB,.int .i64 plB,.string rootB,.slice g6 m1B k6,.int .i64 siB,.slice g7 m2B k7,.slice g8 m3B k8] 47 (0,0)))∧Hid (Below v5.heap.size v5 V)) ⟨heap_alloc_new _ _,(Below.refl _ _).alloc (Nat.le_refl _) _⟩ ?_
         rintro V6 ⟨HGB,HV6⟩
         obtain ⟨NB,hNB⟩:=ex_eq v5.heap.size
         have HNB:Hid (NB<V6.heap.size):=hid (by rw [← hNB];exact (gS HGB.o).1)
         have HT6:=hid (HT5.o.later HV6.o)
         have HB6:Hid (Below wr.heap.size wr V6):=hid (HB5.o.trans (HV6.o.mono HB5.o.size))
         have HO6:Hid (OwnRc V6 VD.heap.size x1 m1 y1∧OwnRc V6 v1.heap.size x2 m2 y2):=hid ⟨HO5.o.1.later HV6.o,HO5.o.2.later HV6.o⟩
         have HGA:=hid ((HV6.o.block NA HN5.o).trans HG5.o)
         rw [hNB] at HGB ⊢
         clear hNB HV6 HT2 HT3 HT4 HT5 HB2 HB3 HB4 HB5 HO12 HO2 HO3 HO4 HO5 HG4 HG5 HN5
         have hmL:m2≤9223372036854775807:=by
          rcases HO6.o.2.1.2 with ⟨_,h⟩ | ⟨_,_,_,_,_,_,h1,h2,_⟩
          ·omega
          ·unfold maxLen at h2;omega
         obtain ⟨ax1,cx1,rfl,hrc1⟩:=HO6.o.1.rcs
         obtain ⟨ax2,cx2,rfl,hrc2⟩:=HO6.o.2.rcs
         have HRC:Hid (RcsAt V6 ax1 y1∧RcsAt V6 ax2 y2):=hid ⟨hrc1,hrc2⟩
         have HYM:Hid (y1.length=m1∧y2.length=m2∧(y2.map RcV.r).map Rc.sg=(y1.map RcV.r).map Rc.sg):=hid ⟨HO6.o.1.2.1,HO6.o.2.2.1,by rw [HM1.o,HM2.o];exact order_of HOR.o.2.2.1 _⟩
         have HMM:Hid (m2=m1):=hid (by
          obtain ⟨e1,e2,e3⟩:=HYM.o
          have e4:=congrArg List.length e3
          simpa only [List.length_map,e1,e2] using e4)
         clear hrc1 hrc2 HO6 HM1 HM2
         obtain rfl:m2=m1:=HMM.o
         clear HMM
         have HFL:Hid (∀V,Calls Tryz.prog 32 #[.agg #[.int .i64 holA,.int .i64 vltA,.string strA,.int .i64 ixA,.int .i64 szA,.int .i64 dayA,.int .i64 serA,.int .i64 cntA,.int .i64 plA,.string rootA,.slice a6 m1A d6,.int .i64 siA,.slice a7 m2A d7,.slice a8 m3A d8],.agg #[.int .i64 holB,.int .i64 vltB,.string strB,.int .i64 ixB,.int .i64 szB,.int .i64 dayB,.int .i64 serB,.int .i64 cntB,.int .i64 plB,.string rootB,.slice g6 m1B k6,.int .i64 siB,.slice g7 m2B k7,.slice g8 m3B k8]] V fun e w'=>e= .returned (.bool true)∧Below V.heap.size V w'):=hid (fun V=>by
          have h:=refFields_any holA vltA strA ixA szA dayA serA cntA plA rootA a6 m1A d6 siA a7 m2A d7 a8 m3A d8 paA ptA sqA holB vltB strB ixB szB dayB serB cntB plB rootB g6 m1B k6 siB g7 m2B k7 g8 m3B k8 paB ptB sqB V
          rwa [decide_eq_true (show (⟨holA,vltA,szA,dayA,serA,strA,ixA⟩:Sg)=⟨holB,vltB,szB,dayB,serB,strB,ixB⟩ from HSE.o)] at h)
         have HSS:Hid (∀V,Below V6.heap.size V6 V→(V.cell? ⟨NA,0,none⟩=some (.int .i64 holA)∧V.cell? ⟨NA,1,none⟩=some (.int .i64 vltA)∧V.cell? ⟨NA,2,none⟩=some (.string strA)∧V.cell? ⟨NA,3,none⟩=some (.int .i64 ixA)∧V.cell? ⟨NA,4,none⟩=some (.int .i64 szA)∧V.cell? ⟨NA,5,none⟩=some (.int .i64 dayA)∧V.cell? ⟨NA,6,none⟩=some (.int .i64 serA)∧V.cell? ⟨NA,7,none⟩=some (.int .i64 cntA)∧V.cell? ⟨NA,8,none⟩=some (.int .i64 plA)∧V.cell? ⟨NA,9,none⟩=some (.string rootA)∧V.cell? ⟨NA,10,none⟩=some (.slice a6 m1A d6)∧V.cell? ⟨NA,11,none⟩=some (.int .i64 siA)∧V.cell? ⟨NA,12,none⟩=some (.slice a7 m2A d7)∧V.cell? ⟨NA,13,none⟩=some (.slice a8 m3A d8))∧(V.cell? ⟨NB,0,none⟩=some (.int .i64 holB)∧V.cell? ⟨NB,1,none⟩=some (.int .i64 vltB)∧V.cell? ⟨NB,2,none⟩=some (.string strB)∧V.cell? ⟨NB,3,none⟩=some (.int .i64 ixB)∧V.cell? ⟨NB,4,none⟩=some (.int .i64 szB)∧V.cell? ⟨NB,5,none⟩=some (.int .i64 dayB)∧V.cell? ⟨NB,6,none⟩=some (.int .i64 serB)∧V.cell? ⟨NB,7,none⟩=some (.int .i64 cntB)∧V.cell? ⟨NB,8,none⟩=some (.int .i64 plB)∧V.cell? ⟨NB,9,none⟩=some (.string rootB)∧V.cell? ⟨NB,10,none⟩=some (.slice g6 m1B k6)∧V.cell? ⟨NB,11,none⟩=some (.int .i64 siB)∧V.cell? ⟨NB,12,none⟩=some (.slice g7 m2B k7)∧V.cell? ⟨NB,13,none⟩=some (.slice g8 m3B k8))):=hid (fun V h=>⟨row14 ((h.block NA (gS HGA.o).1).trans HGA.o),row14 ((h.block NB HNB.o).trans HGB.o)⟩)
         go_upto_region 27 with fail
         have HD6:Hid (Below V6.heap.size V6 V6.drew):=hid (Below.refl _ _).drew
         obtain ⟨VE,hVE⟩:=ex_eq V6.drew
         rw [hVE] at HD6
         refine Kit.wp_region_gplan (fun V=>(V.cell? ⟨NA,0,none⟩=some (.int .i64 holA)∧V.cell? ⟨NA,1,none⟩=some (.int .i64 vltA)∧V.cell? ⟨NA,2,none⟩=some (.string strA)∧V.cell? ⟨NA,3,none⟩=some (.int .i64 ixA)∧V.cell? ⟨NA,4,none⟩=some (.int .i64 szA)∧V.cell? ⟨NA,5,none⟩=some (.int .i64 dayA)∧V.cell? ⟨NA,6,none⟩=some (.int .i64 serA)∧V.cell? ⟨NA,7,none⟩=some (.int .i64 cntA)∧V.cell? ⟨NA,8,none⟩=some (.int .i64 plA)∧V.cell? ⟨NA,9,none⟩=some (.string rootA)∧V.cell? ⟨NA,10,none⟩=some (.slice a6 m1A d6)∧V.cell? ⟨NA,11,none⟩=some (.int .i64 siA)∧V.cell? ⟨NA,12,none⟩=some (.slice a7 m2A d7)∧V.cell? ⟨NA,13,none⟩=some (.slice a8 m3A d8))∧(V.cell? ⟨NB,0,none⟩=some (.int .i64 holB)∧V.cell? ⟨NB,1,none⟩=some (.int .i64 vltB)∧V.cell? ⟨NB,2,none⟩=some (.string strB)∧V.cell? ⟨NB,3,none⟩=some (.int .i64 ixB)∧V.cell? ⟨NB,4,none⟩=some (.int .i64 szB)∧V.cell? ⟨NB,5,none⟩=some (.int .i64 dayB)∧V.cell? ⟨NB,6,none⟩=some (.int .i64 serB)∧V.cell? ⟨NB,7,none⟩=some (.int .i64 cntB)∧V.cell? ⟨NB,8,none⟩=some (.int .i64 plB)∧V.cell? ⟨NB,9,none⟩=some (.string rootB)∧V.cell? ⟨NB,10,none⟩=some (.slice g6 m1B k6)∧V.cell? ⟨NB,11,none⟩=some (.int .i64 siB)∧V.cell? ⟨NB,12,none⟩=some (.slice g7 m2B k7)∧V.cell? ⟨NB,13,none⟩=some (.slice g8 m3B k8))) [(true,0),(true,1),(true,2),(true,3),(true,4),(true,5),(true,6),(true,7),(true,8),(true,9),(true,10),(true,11),(true,12),(true,13),(true,14),(true,15),(false,16),(true,17),(true,18),(true,19),(true,20),(true,21),(true,22),(true,23),(true,24),(true,26),(true,27),(true,28),(true,29),(true,30),(false,25),(false,31),(true,32),(true,33)] (by kernel_rfl) (by kernel_rfl) (by kernel_rfl) (by kernel_rfl) (by rw [hVE];exact HSS.o _ HD6.o) ?_
         rw [hVE]
         clear hVE
         iterate 16 (refine Kit.ghd (h:= ?_))
         refine Kit.gplan_op (by rfl) (by rfl) fun K' hK'=> ?_
         go_simp
         go_at_call 32
         with_reducible refine (HFL.o VE).mono ?_
         rintro e v7 ⟨rfl,hb⟩
         have HB7:Hid (Below V6.heap.size V6 v7):=hid (HD6.o.trans (hb.mono HD6.o.size))
         have HT7:=hid (HT6.o.later HB7.o)
         clear hb
         refine hK' _ _ (HSS.o _ HB7.o) ?_
         clear hK' K'
         iterate 13 (refine Kit.ghd (h:= ?_))
         refine Kit.gplan_op (by rfl) (by rfl) fun K' hK'=> ?_
         go_simp
         go_at_call 51
         with_reducible refine (HT7.o.bytes (by omega) holA vltA).mono ?_
         rintro e v8 ⟨rfl,htb,hb⟩
         have HB8:Hid (Below V6.heap.size V6 v8):=hid (HB7.o.trans (hb.mono HB7.o.size))
         have HT8:=hid htb
         clear htb hb
         refine hK' _ _ (HSS.o _ HB8.o) ?_
         clear hK' K'
         refine Kit.gplan_op (by rfl) (by rfl) fun K' hK'=> ?_
         go_simp
         go_at_call 51
         with_reducible refine (HT8.o.swap.bytes (by omega) holA vltA).mono ?_
         rintro e v9 ⟨rfl,htb,hb⟩
         have HB9:Hid (Below V6.heap.size V6 v9):=hid (HB8.o.trans (hb.mono HB8.o.size))
         have HT9:=hid htb.swap
         clear htb hb
         rw [HBS.o]
         refine hK' _ _ (HSS.o _ HB9.o) ?_
         clear hK' K'
         iterate 2 (refine Kit.ghd (h:= ?_))
         refine Kit.gdn (h:=?_)
         obtain ⟨X,hX⟩:=ex_eq (bytesB mA holA vltA)
         rw [hX]
         clear hX HT6 HT7 HT8 HFL HSS HD6 HB7 HB8 HGA HGB HSE HCA HCB HLA HLB2
         have HT9b:Hid (TwoB w v9 ba bb mA i mB (j+i)):=HT9
         go_upto_region 30 with fail
         go_loopw [18] (fun z wq=> ∃k:Nat,k≤m2∧z= .int .i64 (k:Int)∧Hid (Below V6.heap.size V6 wq)∧Hid (TwoB w wq ba bb mA i mB (j+i))) (fun z _=>m2 - (intOf z).toNat)
         case atStart=>exact ⟨0,Nat.zero_le _,rfl,HB9,HT9b⟩
         case round=>
          obtain ⟨k,hk,rfl,HBK,HTK2⟩:=hrel
          by_cases hkt:k<m2
          rotate_left
          ·have hki: ¬(k:Int)<(m2:Int):=by omega
           go_wp2_with fail
           go_roundw
           case rel=>exact ⟨q+1,hqt,by go_num,HTK2⟩
           case measure=>simp [intOf];omega
          have hki:(k:Int)<(m2:Int):=by omega
          have HK1:Hid (k<y1.length):=hid (by rw [HYM.o.1];exact hkt)
          have HK2:Hid (k<y2.length):=hid (by rw [HYM.o.2.1];exact hkt)
          obtain ⟨b1,o1,rfl,hc1⟩:=(HRC.o.1.later HBK.o).one k HK1.o
          obtain ⟨b2,o2,rfl,hc2⟩:=(HRC.o.2.later HBK.o).one k HK2.o
          have HE1:Hid ((y1[k]'HK1.o).r.sg=(y2[k]'HK2.o).r.sg):=hid (by
           have h:=List.getElem_of_eq HYM.o.2.2 (i:=k) (by rw [List.length_map,List.length_map];exact HK2.o)
           simpa only [List.getElem_map] using h.symm)
          obtain ⟨x,hx⟩:=ex_eq (y1[k]'HK1.o)
          obtain ⟨y,hy⟩:=ex_eq (y2[k]'HK2.o)
          rw [hx] at hc1 HE1
          rw [hy] at hc2 HE1
          clear hx hy
          obtain ⟨⟨holX,vltX,strX,ixX,szX,dayX,serX,cntX,plX,rootX,paX,siX,ptX,sqX⟩,apX,c1X,aqX,c2X,arX,c3X⟩:=x
          obtain ⟨⟨holY,vltY,strY,ixY,szY,dayY,serY,cntY,plY,rootY,paY,siY,ptY,sqY⟩,apY,c1Y,aqY,c2Y,arY,c3Y⟩:=y
          simp only [RcV.cells] at hc1 hc2
          obtain ⟨n1X,h1X⟩:=ex_eq paX.length
          obtain ⟨n2X,h2X⟩:=ex_eq ptX.length
          obtain ⟨n3X,h3X⟩:=ex_eq sqX.length
          obtain ⟨n1Y,h1Y⟩:=ex_eq paY.length
          obtain ⟨n2Y,h2Y⟩:=ex_eq ptY.length
          obtain ⟨n3Y,h3Y⟩:=ex_eq sqY.length
          rw [h1X,h2X,h3X] at hc1
          rw [h1Y,h2Y,h3Y] at hc2
          have HFE:Hid (∀V,Calls Tryz.prog 32 #[.agg #[.int .i64 holX,.int .i64 vltX,.string strX,.int .i64 ixX,.int .i64 szX,.int .i64 dayX,.int .i64 serX,.int .i64 cntX,.int .i64 plX,.string rootX,.slice apX n1X c1X,.int .i64 siX,.slice aqX n2X c2X,.slice arX n3X c3X],.agg #[.int .i64 holY,.int .i64 vltY,.string strY,.int .i64 ixY,.int .i64 szY,.int .i64 dayY,.int .i64 serY,.int .i64 cntY,.int .i64 plY,.string rootY,.slice apY n1Y c1Y,.int .i64 siY,.slice aqY n2Y c2Y,.slice arY n3Y c3Y]] V fun e w'=>e= .returned (.bool true)∧Below V.heap.size V w'):=hid (fun V=>by
           have h:=refFields_any holX vltX strX ixX szX dayX serX cntX plX rootX apX n1X c1X siX aqX n2X c2X arX n3X c3X paX ptX sqX holY vltY strY ixY szY dayY serY cntY plY rootY apY n1Y c1Y siY aqY n2Y c2Y arY n3Y c3Y paY ptY sqY V
           rwa [decide_eq_true (show (⟨holX,vltX,szX,dayX,serX,strX,ixX⟩:Sg)=(⟨holY,vltY,szY,dayY,serY,strY,ixY⟩:Sg) from HE1.o)] at h)
          have HSE2:Hid (∀V,Below wr.heap.size wr V→V.cell? ⟨b1,o1+k*14,none⟩=some (.int .i64 holX)∧V.cell? ⟨b1,o1+k*14+1,none⟩=some (.int .i64 vltX)∧V.cell? ⟨b1,o1+k*14+2,none⟩=some (.string strX)∧V.cell? ⟨b1,o1+k*14+3,none⟩=some (.int .i64 ixX)∧V.cell? ⟨b1,o1+k*14+4,none⟩=some (.int .i64 szX)∧V.cell? ⟨b1,o1+k*14+5,none⟩=some (.int .i64 dayX)∧V.cell? ⟨b1,o1+k*14+6,none⟩=some (.int .i64 serX)∧V.cell? ⟨b1,o1+k*14+7,none⟩=some (.int .i64 cntX)∧V.cell? ⟨b1,o1+k*14+8,none⟩=some (.int .i64 plX)∧V.cell? ⟨b1,o1+k*14+9,none⟩=some (.string rootX)∧V.cell? ⟨b1,o1+k*14+10,none⟩=some (.slice apX n1X c1X)∧V.cell? ⟨b1,o1+k*14+11,none⟩=some (.int .i64 siX)∧V.cell? ⟨b1,o1+k*14+12,none⟩=some (.slice aqX n2X c2X)∧V.cell? ⟨b1,o1+k*14+13,none⟩=some (.slice arX n3X c3X)∧V.cell? ⟨b2,o2+k*14,none⟩=some (.int .i64 holY)∧V.cell? ⟨b2,o2+k*14+1,none⟩=some (.int .i64 vltY)∧V.cell? ⟨b2,o2+k*14+2,none⟩=some (.string strY)∧V.cell? ⟨b2,o2+k*14+3,none⟩=some (.int .i64 ixY)∧V.cell? ⟨b2,o2+k*14+4,none⟩=some (.int .i64 szY)∧V.cell? ⟨b2,o2+k*14+5,none⟩=some (.int .i64 dayY)∧V.cell? ⟨b2,o2+k*14+6,none⟩=some (.int .i64 serY)∧V.cell? ⟨b2,o2+k*14+7,none⟩=some (.int .i64 cntY)∧V.cell? ⟨b2,o2+k*14+8,none⟩=some (.int .i64 plY)∧V.cell? ⟨b2,o2+k*14+9,none⟩=some (.string rootY)∧V.cell? ⟨b2,o2+k*14+10,none⟩=some (.slice apY n1Y c1Y)∧V.cell? ⟨b2,o2+k*14+11,none⟩=some (.int .i64 siY)∧V.cell? ⟨b2,o2+k*14+12,none⟩=some (.slice aqY n2Y c2Y)∧V.cell? ⟨b2,o2+k*14+13,none⟩=some (.slice arY n3Y c3Y)):=hid (fun V h=>by
           have f: ∀{ad:Addr} {u:Value},wr.cell? ad=some u→V.cell? ad=some u:=fun hu=>(h.cell (World.block_lt_of_cell? _ _ hu)).trans hu
           exact ⟨f (hc1 0 (by decide)),f (hc1 1 (by decide)),f (hc1 2 (by decide)),f (hc1 3 (by decide)),f (hc1 4 (by decide)),f (hc1 5 (by decide)),f (hc1 6 (by decide)),f (hc1 7 (by decide)),f (hc1 8 (by decide)),f (hc1 9 (by decide)),f (hc1 10 (by decide)),f (hc1 11 (by decide)),f (hc1 12 (by decide)),f (hc1 13 (by decide)),f (hc2 0 (by decide)),f (hc2 1 (by decide)),f (hc2 2 (by decide)),f (hc2 3 (by decide)),f (hc2 4 (by decide)),f (hc2 5 (by decide)),f (hc2 6 (by decide)),f (hc2 7 (by decide)),f (hc2 8 (by decide)),f (hc2 9 (by decide)),f (hc2 10 (by decide)),f (hc2 11 (by decide)),f (hc2 12 (by decide)),f (hc2 13 (by decide))⟩)
          clear hc1 hc2 h1X h2X h3X h1Y h2Y h3Y
          go_upto_region 32 with fail
          have HD2:Hid (Below wr.heap.size wr wr.drew):=hid (Below.refl _ _).drew
          obtain ⟨VF,hVF⟩:=ex_eq wr.drew
          rw [hVF] at HD2
          refine Kit.wp_region_gplan (fun V=>V.cell? ⟨b1,o1+k*14,none⟩=some (.int .i64 holX)∧V.cell? ⟨b1,o1+k*14+1,none⟩=some (.int .i64 vltX)∧V.cell? ⟨b1,o1+k*14+2,none⟩=some (.string strX)∧V.cell? ⟨b1,o1+k*14+3,none⟩=some (.int .i64 ixX)∧V.cell? ⟨b1,o1+k*14+4,none⟩=some (.int .i64 szX)∧V.cell? ⟨b1,o1+k*14+5,none⟩=some (.int .i64 dayX)∧V.cell? ⟨b1,o1+k*14+6,none⟩=some (.int .i64 serX)∧V.cell? ⟨b1,o1+k*14+7,none⟩=some (.int .i64 cntX)∧V.cell? ⟨b1,o1+k*14+8,none⟩=some (.int .i64 plX)∧V.cell? ⟨b1,o1+k*14+9,none⟩=some (.string rootX)∧V.cell? ⟨b1,o1+k*14+10,none⟩=some (.slice apX n1X c1X)∧V.cell? ⟨b1,o1+k*14+11,none⟩=some (.int .i64 siX)∧V.cell? ⟨b1,o1+k*14+12,none⟩=some (.slice aqX n2X c2X)∧V.cell? ⟨b1,o1+k*14+13,none⟩=some (.slice arX n3X c3X)∧V.cell? ⟨b2,o2+k*14,none⟩=some (.int .i64 holY)∧V.cell? ⟨b2,o2+k*14+1,none⟩=some (.int .i64 vltY)∧V.cell? ⟨b2,o2+k*14+2,none⟩=some (.string strY)∧V.cell? ⟨b2,o2+k*14+3,none⟩=some (.int .i64 ixY)∧V.cell? ⟨b2,o2+k*14+4,none⟩=some (.int .i64 szY)∧V.cell? ⟨b2,o2+k*14+5,none⟩=some (.int .i64 dayY)∧V.cell? ⟨b2,o2+k*14+6,none⟩=some (.int .i64 serY)∧V.cell? ⟨b2,o2+k*14+7,none⟩=some (.int .i64 cntY)∧V.cell? ⟨b2,o2+k*14+8,none⟩=some (.int .i64 plY)∧V.cell? ⟨b2,o2+k*14+9,none⟩=some (.string rootY)∧V.cell? ⟨b2,o2+k*14+10,none⟩=some (.slice apY n1Y c1Y)∧V.cell? ⟨b2,o2+k*14+11,none⟩=some (.int .i64 siY)∧V.cell? ⟨b2,o2+k*14+12,none⟩=some (.slice aqY n2Y c2Y)∧V.cell? ⟨b2,o2+k*14+13,none⟩=some (.slice arY n3Y c3Y)) [(true,0),(true,1),(true,2),(true,3),(true,4),(true,5),(true,6),(true,7),(false,8),(true,9)] (by kernel_rfl) (by kernel_rfl) (by kernel_rfl) (by kernel_rfl) (by rw [hVF];exact HSE2.o _ HD2.o) ?_
          rw [hVF]
          clear hVF
          iterate 8 (refine Kit.ghd (h:= ?_))
          refine Kit.gplan_op (by rfl) (by rfl) fun K' hK'=> ?_
          go_simp
          go_at_call 32
          with_reducible refine (HFE.o VF).mono ?_
          rintro e vb ⟨rfl,hb⟩
          have HB10:Hid (Below wr.heap.size wr vb):=hid (HD2.o.trans (hb.mono HD2.o.size))
          clear hb
          refine hK' _ _ (HSE2.o _ HB10.o) ?_
          clear hK' K'
          iterate 1 (refine Kit.ghd (h:= ?_))
          refine Kit.gdn (h:=?_)
          go_wp2_with fail
          go_roundw
          case rel=>exact ⟨k+1,hkt,by go_num,hid (HBK.o.trans (HB10.o.mono HBK.o.size)),hid (HTK2.o.later HB10.o)⟩
          case measure=>simp [intOf];omega
      have hii:(i:Int)<(k:Int):=by omega
      have HKL:Hid (i<ys.length):=hid (by have:=HL.o;omega)
      obtain ⟨b,o,rfl,hcs⟩:=(HS.o.later HTI.o.below).cell (fun e=>by have:=HKL.o;rw [e] at this;simp at this)
      have hc:=hcs i HKL.o
      have HYK:=hid (((HS.o.later HTI.o.below).2 _ (List.getElem_mem HKL.o)).1)
      have HTK:=hid (opR_take ys i HKL.o)
      obtain ⟨y,hy⟩:=ex_eq (ys[i]'HKL.o)
      rw [hy] at hc HYK HTK
      clear hy hcs
      obtain ⟨⟨⟨hol,vlt,str,ix,sz,day,ser,cnt,pl,root,pa,si,pt,sq⟩,ap,c1,aq,c2',ar,c3⟩,dr⟩:=y
      obtain ⟨n1,e1⟩:=ex_eq pa.length
      obtain ⟨n2,e2⟩:=ex_eq pt.length
      obtain ⟨n3,e3⟩:=ex_eq sq.length
      have HLN:Hid (pa.length=n1∧pt.length=n2∧sq.length=n3):=hid ⟨e1,e2,e3⟩
      have HNN:Hid (n1<9223372036854775808∧n2<9223372036854775808∧n3<9223372036854775808∧StrsAt wr ap pa∧StrsAt wr aq pt∧StrsAt wr ar sq):=hid (by
       obtain ⟨o1,o2,o3,o4,o5,o6⟩:=HYK.o
       exact ⟨e1 ▸ o1,e2 ▸ o2,e3 ▸ o3,o4,o5,o6⟩)
      simp only [OpB.cells,RcV.cells,e1,e2,e3] at hc
      have r0:wr.cell? ⟨b,o+i*15,none⟩=some (.int .i64 hol):=hc 0 (by decide)
      have r1:wr.cell? ⟨b,o+i*15+1,none⟩=some (.int .i64 vlt):=hc 1 (by decide)
      have r2:wr.cell? ⟨b,o+i*15+2,none⟩=some (.string str):=hc 2 (by decide)
      have r3:wr.cell? ⟨b,o+i*15+3,none⟩=some (.int .i64 ix):=hc 3 (by decide)
      have r4:wr.cell? ⟨b,o+i*15+4,none⟩=some (.int .i64 sz):=hc 4 (by decide)
      have r5:wr.cell? ⟨b,o+i*15+5,none⟩=some (.int .i64 day):=hc 5 (by decide)
      have r6:wr.cell? ⟨b,o+i*15+6,none⟩=some (.int .i64 ser):=hc 6 (by decide)
      have r7:wr.cell? ⟨b,o+i*15+7,none⟩=some (.int .i64 cnt):=hc 7 (by decide)
      have r8:wr.cell? ⟨b,o+i*15+8,none⟩=some (.int .i64 pl):=hc 8 (by decide)
      have r9:wr.cell? ⟨b,o+i*15+9,none⟩=some (.string root):=hc 9 (by decide)
      have r10:wr.cell? ⟨b,o+i*15+10,none⟩=some (.slice ap n1 c1):=hc 10 (by decide)
      have r11:wr.cell? ⟨b,o+i*15+11,none⟩=some (.int .i64 si):=hc 11 (by decide)
      have r12:wr.cell? ⟨b,o+i*15+12,none⟩=some (.slice aq n2 c2'):=hc 12 (by decide)
      have r13:wr.cell? ⟨b,o+i*15+13,none⟩=some (.slice ar n3 c3):=hc 13 (by decide)
      clear hc e1 e2 e3
      have HAD:=hid (HTI.o.swap.add (by omega) hol vlt str ix sz day ser cnt pl root ap n1 c1 si aq n2 c2' ar n3 c3 pa pt sq HLN.o.1 HNN.o.1 HNN.o.2.2.2.1 HLN.o.2.1 HNN.o.2.1 HNN.o.2.2.2.2.1 HLN.o.2.2 HNN.o.2.2.1 HNN.o.2.2.2.2.2)
      go_wp2_with fail
      with_reducible refine HAD.o.mono ?_
      rintro e w5 ⟨rfl,htw⟩
      have HT5:=hid htw
      clear htw HAD
      go_wp2_with fail
      go_roundw
      case rel=>exact ⟨i+1,hit,by go_num,hid (by rw [HTK.o,← List.append_assoc,addsP_snoc];exact HT5.o.swap)⟩
      case measure=>simp [intOf];omega
    have hji:(j:Int)<(L2:Int):=by omega
    obtain ⟨l2,hq1,hq2⟩:=HQ.o
    have HQ1:=hid hq1
    have HTQ:=hid hq2
    clear hq1 hq2 HQ
    obtain ⟨bz,oz,rfl,hcz⟩: ∃b o,a2=some ⟨b,o,none⟩∧ ∀i (h:i<zs.length),wr.cell? ⟨b,o+i,none⟩=some (.int .i64 zs[i]):=by
     rcases HS2.o.later HTQ.o.below with h | h
     ·exfalso
      have:=HL2.o
      rw [h] at this
      simp at this
      omega
     ·exact h
    have cz:=hcz j (by have:=HL2.o;omega)
    obtain ⟨z,hz⟩:=ex_eq (zs[j]'(by have:=HL2.o;omega))
    rw [hz] at cz
    clear hz hcz
    by_cases z0:0≤z
    rotate_left
    ·go_wp2_with fail
     go_roundw
     case rel=>exact ⟨j+1,hjt,by go_num,hid ⟨l2,HQ1.o,HTQ.o.monoB⟩⟩
     case measure=>simp [intOf];omega
    by_cases zL:z<(k:Int)
    rotate_left
    ·go_wp2_with fail
     go_roundw
     case rel=>exact ⟨j+1,hjt,by go_num,hid ⟨l2,HQ1.o,HTQ.o.monoB⟩⟩
     case measure=>simp [intOf];omega
    obtain ⟨kz,rfl⟩: ∃kz:Nat,z=(kz:Int):=⟨z.toNat,by omega⟩
    have HKL:Hid (kz<ys.length):=hid (by have:=HL.o;omega)
    obtain ⟨b,o,rfl,hcs⟩:=(HS.o.later HTQ.o.below).cell (fun e=>by have:=HKL.o;rw [e] at this;simp at this)
    have hc:=hcs kz HKL.o
    have HYK:=hid (((HS.o.later HTQ.o.below).2 _ (List.getElem_mem HKL.o)).1)
    have HTK:=hid (opR_take ys kz HKL.o)
    obtain ⟨y,hy⟩:=ex_eq (ys[kz]'HKL.o)
    rw [hy] at hc HYK HTK
    clear hy hcs
    obtain ⟨⟨⟨hol,vlt,str,ix,sz,day,ser,cnt,pl,root,pa,si,pt,sq⟩,ap,c1,aq,c2',ar,c3⟩,dr⟩:=y
    obtain ⟨n1,e1⟩:=ex_eq pa.length
    obtain ⟨n2,e2⟩:=ex_eq pt.length
    obtain ⟨n3,e3⟩:=ex_eq sq.length
    have HLN:Hid (pa.length=n1∧pt.length=n2∧sq.length=n3):=hid ⟨e1,e2,e3⟩
    have HNN:Hid (n1<9223372036854775808∧n2<9223372036854775808∧n3<9223372036854775808∧StrsAt wr ap pa∧StrsAt wr aq pt∧StrsAt wr ar sq):=hid (by
     obtain ⟨o1,o2,o3,o4,o5,o6⟩:=HYK.o
     exact ⟨e1 ▸ o1,e2 ▸ o2,e3 ▸ o3,o4,o5,o6⟩)
    simp only [OpB.cells,RcV.cells,e1,e2,e3] at hc
    have r0:wr.cell? ⟨b,o+kz*15,none⟩=some (.int .i64 hol):=hc 0 (by decide)
    have r1:wr.cell? ⟨b,o+kz*15+1,none⟩=some (.int .i64 vlt):=hc 1 (by decide)
    have r2:wr.cell? ⟨b,o+kz*15+2,none⟩=some (.string str):=hc 2 (by decide)
    have r3:wr.cell? ⟨b,o+kz*15+3,none⟩=some (.int .i64 ix):=hc 3 (by decide)
    have r4:wr.cell? ⟨b,o+kz*15+4,none⟩=some (.int .i64 sz):=hc 4 (by decide)
    have r5:wr.cell? ⟨b,o+kz*15+5,none⟩=some (.int .i64 day):=hc 5 (by decide)
    have r6:wr.cell? ⟨b,o+kz*15+6,none⟩=some (.int .i64 ser):=hc 6 (by decide)
    have r7:wr.cell? ⟨b,o+kz*15+7,none⟩=some (.int .i64 cnt):=hc 7 (by decide)
    have r8:wr.cell? ⟨b,o+kz*15+8,none⟩=some (.int .i64 pl):=hc 8 (by decide)
    have r9:wr.cell? ⟨b,o+kz*15+9,none⟩=some (.string root):=hc 9 (by decide)
    have r10:wr.cell? ⟨b,o+kz*15+10,none⟩=some (.slice ap n1 c1):=hc 10 (by decide)
    have r11:wr.cell? ⟨b,o+kz*15+11,none⟩=some (.int .i64 si):=hc 11 (by decide)
    have r12:wr.cell? ⟨b,o+kz*15+12,none⟩=some (.slice aq n2 c2'):=hc 12 (by decide)
    have r13:wr.cell? ⟨b,o+kz*15+13,none⟩=some (.slice ar n3 c3):=hc 13 (by decide)
    clear hc e1 e2 e3
    have HMZ:Hid (⟨hol,vlt,str,ix,sz,day,ser,cnt,pl,root,pa,si,pt,sq⟩ ∈ opR ys):=hid (List.mem_of_mem_take (i:=kz+1) (by rw [HTK.o];exact List.mem_append_right _ (List.mem_singleton.2 rfl)))
    have HAD:=hid (HTQ.o.swap.add (by omega) hol vlt str ix sz day ser cnt pl root ap n1 c1 si aq n2 c2' ar n3 c3 pa pt sq HLN.o.1 HNN.o.1 HNN.o.2.2.2.1 HLN.o.2.1 HNN.o.2.1 HNN.o.2.2.2.2.1 HLN.o.2.2 HNN.o.2.2.1 HNN.o.2.2.2.2.2)
    go_wp2_with fail
    with_reducible refine HAD.o.mono ?_
    rintro e w5 ⟨rfl,htw⟩
    have HT5:=hid htw
    clear htw HAD
    go_wp2_with fail
    go_roundw
    case rel=>exact ⟨j+1,hjt,by go_num,hid ⟨l2++[_],fun r h=>(List.mem_append.1 h).elim (HQ1.o r) (fun h=>by rw [List.mem_singleton.1 h];exact HMZ.o),by rw [addsP_snoc];exact HT5.o.swap⟩⟩
    case measure=>simp [intOf];omega
  have hki:(k:Int)<(L:Int):=by omega
  have HKL:Hid (k<ys.length):=hid (by have:=HL.o;omega)
  obtain ⟨b,o,rfl,hcs⟩:=(HS.o.later HTB.o.below).cell (fun e=>by have:=HKL.o;rw [e] at this;simp at this)
  have hc:=hcs k HKL.o
  have HYK:=hid (((HS.o.later HTB.o.below).2 _ (List.getElem_mem HKL.o)).1)
  have HTK:=hid (opR_take ys k HKL.o)
  obtain ⟨y,hy⟩:=ex_eq (ys[k]'HKL.o)
  rw [hy] at hc HYK HTK
  clear hy hcs
  obtain ⟨⟨⟨hol,vlt,str,ix,sz,day,ser,cnt,pl,root,pa,si,pt,sq⟩,ap,c1,aq,c2',ar,c3⟩,dr⟩:=y
  obtain ⟨n1,e1⟩:=ex_eq pa.length
  obtain ⟨n2,e2⟩:=ex_eq pt.length
  obtain ⟨n3,e3⟩:=ex_eq sq.length
  have HLN:Hid (pa.length=n1∧pt.length=n2∧sq.length=n3):=hid ⟨e1,e2,e3⟩
  have HNN:Hid (n1<9223372036854775808∧n2<9223372036854775808∧n3<9223372036854775808∧StrsAt wr ap pa∧StrsAt wr aq pt∧StrsAt wr ar sq):=hid (by
   obtain ⟨o1,o2,o3,o4,o5,o6⟩:=HYK.o
   exact ⟨e1 ▸ o1,e2 ▸ o2,e3 ▸ o3,o4,o5,o6⟩)
  simp only [OpB.cells,RcV.cells,e1,e2,e3] at hc
  have r0:wr.cell? ⟨b,o+k*15,none⟩=some (.int .i64 hol):=hc 0 (by decide)
  have r1:wr.cell? ⟨b,o+k*15+1,none⟩=some (.int .i64 vlt):=hc 1 (by decide)
  have r2:wr.cell? ⟨b,o+k*15+2,none⟩=some (.string str):=hc 2 (by decide)
  have r3:wr.cell? ⟨b,o+k*15+3,none⟩=some (.int .i64 ix):=hc 3 (by decide)
  have r4:wr.cell? ⟨b,o+k*15+4,none⟩=some (.int .i64 sz):=hc 4 (by decide)
  have r5:wr.cell? ⟨b,o+k*15+5,none⟩=some (.int .i64 day):=hc 5 (by decide)
  have r6:wr.cell? ⟨b,o+k*15+6,none⟩=some (.int .i64 ser):=hc 6 (by decide)
  have r7:wr.cell? ⟨b,o+k*15+7,none⟩=some (.int .i64 cnt):=hc 7 (by decide)
  have r8:wr.cell? ⟨b,o+k*15+8,none⟩=some (.int .i64 pl):=hc 8 (by decide)
  have r9:wr.cell? ⟨b,o+k*15+9,none⟩=some (.string root):=hc 9 (by decide)
  have r10:wr.cell? ⟨b,o+k*15+10,none⟩=some (.slice ap n1 c1):=hc 10 (by decide)
  have r11:wr.cell? ⟨b,o+k*15+11,none⟩=some (.int .i64 si):=hc 11 (by decide)
  have r12:wr.cell? ⟨b,o+k*15+12,none⟩=some (.slice aq n2 c2'):=hc 12 (by decide)
  have r13:wr.cell? ⟨b,o+k*15+13,none⟩=some (.slice ar n3 c3):=hc 13 (by decide)
  clear hc e1 e2 e3
  obtain ⟨E,hE⟩:=ex_eq (addP (addsP [] ((opR ys).take k)) ⟨hol,vlt,str,ix,sz,day,ser,cnt,pl,root,pa,si,pt,sq⟩).2
  have HAD:=hid (HTB.o.add (by have:=H20.o;omega) hol vlt str ix sz day ser cnt pl root ap n1 c1 si aq n2 c2' ar n3 c3 pa pt sq HLN.o.1 HNN.o.1 HNN.o.2.2.2.1 HLN.o.2.1 HNN.o.2.1 HNN.o.2.2.2.2.1 HLN.o.2.2 HNN.o.2.2.1 HNN.o.2.2.2.2.2)
  rw [hE] at HAD
  have HE:=hid hE
  clear hE
  go_wp2_with fail
  with_reducible refine HAD.o.mono ?_
  rintro e w5 ⟨rfl,htw⟩
  have HT5:=hid htw
  clear htw HAD
  by_cases e0:E=0
  ·subst e0
   go_wp2_with fail
   go_roundw
   case rel=>exact ⟨k+1,hlt,by go_num,hid (by rw [HTK.o];exact okP_snoc HOK.o (.inl HE.o)),hid (by rw [HTK.o,addsP_snoc];exact HT5.o)⟩
   case measure=>simp [intOf];omega
  by_cases e5:E=5
  ·subst e5
   go_wp2_with fail
   go_roundw
   case rel=>exact ⟨k+1,hlt,by go_num,hid (by rw [HTK.o];exact okP_snoc HOK.o (.inr HE.o)),hid (by rw [HTK.o,addsP_snoc];exact HT5.o)⟩
   case measure=>simp [intOf];omega
  have e0':(E != 0)=true:=by rw [bne_iff_ne];exact e0
  have e5':(E != 5)=true:=by rw [bne_iff_ne];exact e5
  go_wp2_with fail
  go_ret
  exact ⟨rfl,HT5.o.below⟩
end Go.Proofs.YtndlihclgdkpaaaGreatDoor
