/- The document's Book: Of, Release, Current. -/
import Derived.Test.YtndlihclgdkpaaaGreatDoorGk
import Derived.Test.YtndlihclgdkpaaaGreatDoorGm
import Derived.Test.YtndlihclgdkpaaaGreatDoorGn
set_option linter.unusedVariables false
set_option linter.unusedSimpArgs false
open Go.Lib (hid)
set_option maxHeartbeats 4000000
set_option maxRecDepth 100000
namespace Go.Proofs.YtndlihclgdkpaaaGreatDoor
open Go.RowKit
open Kit (Chg)
open Sha (v)
open Go.Proofs.YtndlihclgdkpaaaGreatDoor.One

def DocRc (w:World) (B:Nat) (v:Value) (n:Nat) (ys:List RcV):Prop:=w.ownsRow B 47 14 v n (rcv ys)∧ys.length=n∧ ∀y ∈ ys,y.ok w
theorem DocRc.later {w w':World} {B n:Nat} {v:Value} {ys:List RcV} (h:DocRc w B v n ys) (hb:Below w.heap.size w w'):DocRc w' B v n ys:=⟨own_later h.1 hb,h.2.1,fun y hy=>(h.2.2 y hy).later hb⟩
theorem DocRc.rcs {w:World} {B n:Nat} {v:Value} {ys:List RcV} (h:DocRc w B v n ys): ∃a cap,v= .slice a n cap∧RcsAt w a ys∧(a=none→cap=0):=by
 obtain ⟨h1,h2,h3⟩:=h
 rcases h1.2 with ⟨rfl,rfl⟩ | ⟨g,cap,cur,rfl,hb,hg,hcap,hmax,hsz,htake⟩
 ·exact ⟨none,0,rfl,⟨.inl (List.eq_nil_of_length_eq_zero h2),h3⟩,fun _=>rfl⟩
 ·refine ⟨some ⟨g,0,none⟩,cap,rfl,⟨.inr ⟨g,0,rfl,fun k hk j hj=> ?_⟩,h3⟩,fun e=>by cases e⟩
  have e1:=rw_get RcV.len ys k hk j hj
  rw [← e1,show ys.flatMap RcV.cells=rcv ys from rfl,← htake,List.getElem?_take_of_lt (by omega),Array.getElem?_toList,show 0+k*14+j=k*14+j by omega]
  exact cell_of_row _ _ _ _ _ _ hg
section
variable {ops:Array Oper} {rest:List Oper} {o:Oper} {a:Act} {Q:Exit→Act→World→Prop}
theorem appB_rc {w0:World} (hgd:o.guard=none) (s x:Operand) (ho:o.op= .call { callee:= .builtin .append,args:= #[s,x],argTypes:= #[71, 71] })
    (base:Nat) (v:Value) (L:Nat) (xs:List RcV) (hs:a.eval s=v) (hown:w0.ownsRow base 47 14 v L (rcv xs)) (hb:base≤w0.heap.size) (hL:L≤1000000)
    (y:RcV) (ad:Addr) (c:Nat) (hx:a.eval x= .slice (some ad) 1 c) (hsrc: ∀j u,y.cells[j]? =some u→w0.cell? (ad.add j)=some u)
    (h: ∀bl cap w',w'.ownsRow base 47 14 (.slice (some ⟨bl,0,none⟩) (L+1) cap) (L+1) (rcv (xs++[y]))→w0.grownBy w' v.ownBlock→(some bl=v.ownBlock∨bl=w0.heap.size)→wpList Tryz.prog ops Q rest (a.put o.dst (.slice (some ⟨bl,0,none⟩) (L+1) cap)) w'):wpList Tryz.prog ops Q (o::rest) a w0:=by
 obtain ⟨i0,hi,hz0,hz1,hz2⟩:=info_parts Tryz.infoRc
 refine wpList_append_own_at _ hgd s x 71 ho base 47 i0 _ 14 176 Tryz.underlying71 hi hz0 hz1 hz2 rfl (by decide) v L (rcv xs) hs hown ad 1 c (rcv [y]) hx (rcv_len _) (fun j u hu=>hsrc j u (by rw [← rcv_single];exact hu)) (rcv_one _) (by unfold maxLen;omega) (by omega) hb ?_
 intro v' w4 hown4 hgr4 _ hat
 obtain ⟨bl,cap,rfl⟩:=own_some hown4 (Nat.succ_pos _)
 refine h bl cap w4 (by rw [rcv_app];exact hown4) hgr4 ?_
 rcases hat with h | h
 ·exact .inl h
 ·injection h with h
  exact .inr h
end
theorem own_emptyB {w:World} {base:Nat} (h:base≤w.heap.size):(w.alloc (.cells #[] 47)).ownsRow base 47 14 (.slice (some ⟨w.heap.size,0,none⟩) 0 0) 0 (rcv []):=⟨rfl,.inr ⟨w.heap.size,0,#[],rfl,h,heap_alloc_new w _,Nat.le_refl _,by decide,rfl,rfl⟩⟩
theorem below_grownB {w w':World} {B N n s:Nat} {T:TypeId} {v:Value} {xs:List Value} (h:w.ownsRow B T s v n xs) (hg:w.grownBy w' v.ownBlock) (hN:N≤B) (hs:N≤w.heap.size):Below N w w':=
 (Chg.of_grown (M:=fun q _=>v.ownBlock=some q) hg (fun k i e=>e)).below hs (fun q i hq e=>by
   have:=own_lt h e
   omega)
theorem filter_take_succ {p:RcV→Bool} (xs:List RcV) (k:Nat) (hk:k<xs.length) (b:Bool) (h:p xs[k]=b):(xs.take (k+1)).filter p=(xs.take k).filter p++(if b then [xs[k]] else []):=by
 rw [List.take_add_one,lE hk,List.filter_append]
 show _++List.filter p [xs[k]]=_
 rw [List.filter_cons,List.filter_nil,h]
theorem filter_map_r (p:Rc→Bool) (xs:List RcV):(xs.filter (fun x=>p x.r)).map RcV.r=(xs.map RcV.r).filter p:=by
 rw [List.filter_map]
 rfl
theorem refOf_any (a:Option Addr) (c L:Nat) (xs:List RcV) (hLe:xs.length=L) (hL:L≤100000) (s:ByteArray) (i:Int) (w:World) (hX:RcsAt w a xs):
    Calls Tryz.prog 48 #[.slice a L c,.agg #[.string s,.int .i64 i]] w fun e w'=> ∃v,e= .returned v∧ ∃n ys,DocRc w' w.heap.size v n ys∧ys.map RcV.r=ofB (xs.map RcV.r) ⟨s,i⟩∧(∀y ∈ ys,y ∈ xs)∧Below w.heap.size w w':=by
 have HX:=hid hX
 have HLE:=hid hLe
 obtain ⟨N,hN⟩:=ex_eq w.heap.size
 have HN:=hid hN
 clear hLe hX hN
 go_enter Tryz.func48,Tryz.ntmps48
 go_upto_region 1 with fail
 refine wp_over (fun W=>Hid (W.heap[w.heap.size]? =some (.cells #[.string s,.int .i64 i] 42 (0,0)))∧Hid (Below w.heap.size w W)∧Hid (W.heap.size=w.heap.size+1)) ⟨heap_alloc_new _ _,(Below.refl _ _).alloc (Nat.le_refl _) _,by show _=_;simp⟩ ?_
 rintro W ⟨HG,HB,HWS⟩
 rw [HN.o] at HG HB HWS ⊢
 have HBW:Hid (∀V,Below N W V→Below N w V):=hid (fun V h=>HB.o.trans h)
 have HXW:Hid (∀V,Below N W V→RcsAt V a xs):=hid (fun V h=>HX.o.later (by rw [HN.o];exact HBW.o V h))
 go_upto_region 2 with fail
 refine wp_over (fun V=>Hid (V.ownsRow (N+1) 47 14 (.slice (some ⟨W.heap.size,0,none⟩) 0 0) 0 (rcv []))∧Hid (Below N W V)∧Hid (Below (N+1) W V)) ⟨hid (own_emptyB (by have:=HWS.o;omega)),hid ((Below.refl _ _).alloc (by have:=HWS.o;omega) _),hid ((Below.refl _ _).alloc (by have:=HWS.o;omega) _)⟩ ?_
 rintro Y ⟨HY,HYB,HYC⟩
 go_upto_region 3 with fail
 go_loopw [5,6] (fun v y wr=> ∃k:Nat,k≤L∧y= .int .i64 (k:Int)∧Hid (wr.ownsRow (N+1) 47 14 v ((xs.take k).filter (fun x=>isPc ⟨s,i⟩ x.r)).length (rcv ((xs.take k).filter (fun x=>isPc ⟨s,i⟩ x.r))))∧Hid (Below (N+1) W wr)) (fun _ y _=>L - (intOf y).toNat)
 case atStart=>exact ⟨0,Nat.zero_le _,rfl,hid (by rw [List.take_zero];exact HY.o),HYC⟩
 case round=>
  obtain ⟨k,hk,rfl,HO,HR⟩:=hrel
  have HRN:Hid (Below N W wr):=hid (HR.o.mono (Nat.le_succ N))
  have HSZ:Hid ((N+1)≤wr.heap.size):=hid (by have:=HR.o.size;have:=HWS.o;omega)
  have HLX:Hid (((xs.take k).filter (fun x=>isPc ⟨s,i⟩ x.r)).length≤100000):=hid (by
   have h1:=List.length_filter_le (fun x=>isPc ⟨s,i⟩ x.r) (xs.take k)
   rw [List.length_take] at h1
   omega)
  by_cases hlt:k<L
  rotate_left
  ·have hki: ¬(k:Int)<(L:Int):=by omega
   have hke:k=L:=by omega
   have HO2:Hid (wr.ownsRow (N+1) 47 14 u5 (xs.filter (fun x=>isPc ⟨s,i⟩ x.r)).length (rcv (xs.filter (fun x=>isPc ⟨s,i⟩ x.r)))):=hid (by have h:=HO.o;rwa [hke,List.take_of_length_le (by rw [HLE.o];exact Nat.le_refl _)] at h)
   go_wp2_with fail
   go_ret
   exact ⟨_,rfl,_,xs.filter (fun x=>isPc ⟨s,i⟩ x.r),⟨ownsRow_base HO2.o (by have:=HN.o;omega),rfl,fun y hy=>(HXW.o _ HRN.o).2 y (List.mem_filter.1 hy).1⟩,filter_map_r (isPc ⟨s,i⟩) _,(fun y hy=>(List.mem_filter.1 hy).1),by rw [HN.o];exact HBW.o _ HRN.o⟩
  have hki:(k:Int)<(L:Int):=by omega
  have HK1:Hid (k<xs.length):=hid (by rw [HLE.o];exact hlt)
  obtain ⟨b1,o1,rfl,hc1⟩:=(HXW.o _ HRN.o).one k HK1.o
  obtain ⟨x,hx⟩:=ex_eq (xs[k]'HK1.o)
  rw [hx] at hc1
  obtain ⟨⟨hol,vlt,str,ix,sz,day,ser,cnt,pl,root,pa,si,pt,sq⟩,ap,c1,aq,c2,ar,c3⟩:=x
  simp only [RcV.cells] at hc1
  obtain ⟨n1,e1⟩:=ex_eq pa.length
  obtain ⟨n2,e2⟩:=ex_eq pt.length
  obtain ⟨n3,e3⟩:=ex_eq sq.length
  rw [e1,e2,e3] at hc1
  have HLN:Hid (pa.length=n1∧pt.length=n2∧sq.length=n3):=hid ⟨e1,e2,e3⟩
  clear e1 e2 e3
  have HCS:Hid (∀V,Below wr.heap.size wr V→V.cell? ⟨b1,o1+k*14,none⟩=some (.int .i64 hol)∧V.cell? ⟨b1,o1+k*14+1,none⟩=some (.int .i64 vlt)∧V.cell? ⟨b1,o1+k*14+2,none⟩=some (.string str)∧V.cell? ⟨b1,o1+k*14+3,none⟩=some (.int .i64 ix)∧V.cell? ⟨b1,o1+k*14+4,none⟩=some (.int .i64 sz)∧V.cell? ⟨b1,o1+k*14+5,none⟩=some (.int .i64 day)∧V.cell? ⟨b1,o1+k*14+6,none⟩=some (.int .i64 ser)∧V.cell? ⟨b1,o1+k*14+7,none⟩=some (.int .i64 cnt)∧V.cell? ⟨b1,o1+k*14+8,none⟩=some (.int .i64 pl)∧V.cell? ⟨b1,o1+k*14+9,none⟩=some (.string root)∧V.cell? ⟨b1,o1+k*14+10,none⟩=some (.slice ap n1 c1)∧V.cell? ⟨b1,o1+k*14+11,none⟩=some (.int .i64 si)∧V.cell? ⟨b1,o1+k*14+12,none⟩=some (.slice aq n2 c2)∧V.cell? ⟨b1,o1+k*14+13,none⟩=some (.slice ar n3 c3)):=hid (fun V h=>by
   have f: ∀{ad:Addr} {u:Value},wr.cell? ad=some u→V.cell? ad=some u:=fun hu=>(h.cell (World.block_lt_of_cell? _ _ hu)).trans hu
   exact ⟨f (hc1 0 (by decide)),f (hc1 1 (by decide)),f (hc1 2 (by decide)),f (hc1 3 (by decide)),f (hc1 4 (by decide)),f (hc1 5 (by decide)),f (hc1 6 (by decide)),f (hc1 7 (by decide)),f (hc1 8 (by decide)),f (hc1 9 (by decide)),f (hc1 10 (by decide)),f (hc1 11 (by decide)),f (hc1 12 (by decide)),f (hc1 13 (by decide))⟩)
  clear hc1
  have HSRC:Hid (∀(q:Nat) (V:World),V.heap[q]? =some (.cells #[.int .i64 hol,.int .i64 vlt,.string str,.int .i64 ix,.int .i64 sz,.int .i64 day,.int .i64 ser,.int .i64 cnt,.int .i64 pl,.string root,.slice ap n1 c1,.int .i64 si,.slice aq n2 c2,.slice ar n3 c3] 47 (0,0))→ ∀j u,(⟨⟨hol,vlt,str,ix,sz,day,ser,cnt,pl,root,pa,si,pt,sq⟩,ap,c1,aq,c2,ar,c3⟩:RcV).cells[j]? =some u→V.cell? ((⟨q,0,none⟩:Addr).add j)=some u):=hid (fun q V hq j u hu=>by
   have l:=HLN.o
   obtain ⟨rfl,rfl,rfl⟩:=l
   rw [add_none,Nat.zero_add]
   exact (cell_of_row _ _ _ _ _ _ hq).trans (by rw [← hu];simp [RcV.cells]))
  obtain ⟨PB,hPB⟩:=ex_eq (isPc ⟨s,i⟩ ⟨hol,vlt,str,ix,sz,day,ser,cnt,pl,root,pa,si,pt,sq⟩)
  have HFS:=hid (filter_take_succ (p:=(fun x=>isPc ⟨s,i⟩ x.r)) xs k HK1.o PB (by rw [hx];exact hPB))
  rw [hx] at HFS
  clear hx
  have hep:=fun w=>eq_piece str s ix i w
  have hpb:(decide (str=s) && decide (ix=i))=PB:=by rw [← hPB];unfold isPc;rw [Bool.eq_iff_iff];simp [Rc.pc]
  rw [hpb] at hep
  clear hPB hpb
  have HS5:Hid (∀V,Below wr.heap.size wr V→(V.cell? ⟨b1,o1+k*14+2,none⟩=some (.string str)∧V.cell? ⟨b1,o1+k*14+3,none⟩=some (.int .i64 ix))∧V.cell? ⟨N,0,none⟩=some (.string s)∧V.cell? ⟨N,1,none⟩=some (.int .i64 i)):=hid (fun V h=>by
   obtain ⟨_,_,r2,r3,_⟩:=HCS.o V h
   have e1:=((HR.o.trans (h.mono HSZ.o)).block N (Nat.lt_succ_self N)).trans HG.o
   exact ⟨⟨r2,r3⟩,cr e1,cr e1⟩)
  go_upto_region 5 with fail
  have HVR:Hid (Below wr.heap.size wr wr.drew):=hid (Below.refl _ _).drew
  obtain ⟨VX,hVX⟩:=ex_eq wr.drew
  rw [hVX] at HVR
  refine Kit.wp_region_gplan (fun V=>(V.cell? ⟨b1,o1+k*14+2,none⟩=some (.string str)∧V.cell? ⟨b1,o1+k*14+3,none⟩=some (.int .i64 ix))∧V.cell? ⟨N,0,none⟩=some (.string s)∧V.cell? ⟨N,1,none⟩=some (.int .i64 i)) [(true,0),(true,1),(true,2),(true,3),(true,4),(true,5),(true,6)] (by kernel_rfl) (by kernel_rfl) (by kernel_rfl) (by kernel_rfl) (by rw [hVX];exact HS5.o _ HVR.o) ?_
  rw [hVX]
  clear hVX
  iterate 7 (refine Kit.ghd (h:= ?_))
  refine Kit.gdn (h:=?_)
  clear HS5 hep
  obtain ⟨q0,q1,q2,q3,q4,q5,q6,q7,q8,q9,q10,q11,q12,q13⟩:=HCS.o _ HVR.o
  have HAL:Hid (Below wr.heap.size wr (VX.alloc (.cells #[.int .i64 hol,.int .i64 vlt,.string str,.int .i64 ix,.int .i64 sz,.int .i64 day,.int .i64 ser,.int .i64 cnt,.int .i64 pl,.string root,.slice ap n1 c1,.int .i64 si,.slice aq n2 c2,.slice ar n3 c3] 47))):=hid (HVR.o.alloc HVR.o.size _)
  have HOA:Hid ((VX.alloc (.cells #[.int .i64 hol,.int .i64 vlt,.string str,.int .i64 ix,.int .i64 sz,.int .i64 day,.int .i64 ser,.int .i64 cnt,.int .i64 pl,.string root,.slice ap n1 c1,.int .i64 si,.slice aq n2 c2,.slice ar n3 c3] 47)).ownsRow (N+1) 47 14 u5 ((xs.take k).filter (fun x=>isPc ⟨s,i⟩ x.r)).length (rcv ((xs.take k).filter (fun x=>isPc ⟨s,i⟩ x.r)))):=hid (own_later HO.o HAL.o)
  obtain ⟨F,hF⟩:=ex_eq ((xs.take k).filter (fun x=>isPc ⟨s,i⟩ x.r))
  have HFE:=hid hF
  rw [hF] at HOA HFS HO HLX
  obtain ⟨nF,hnF⟩:=ex_eq F.length
  have HFN:=hid hnF
  rw [hnF] at HOA HO HLX
  clear hF hnF
  cases PB
  ·go_wp2_with fail
   go_roundw
   case rel=>exact ⟨k+1,hlt,by go_num,hid (by rw [HFS.o,if_neg (by decide),List.append_nil,HFN.o];exact own_later HO.o HVR.o),hid (HR.o.trans (HVR.o.mono HSZ.o))⟩
   case measure=>simp [intOf];omega
  ·go_wp2_with (first
      | (at_builtin
         refine app_rc rfl _ _ rfl (N+1) u5 nF F (by rfl) HOA.o (by have:=HSZ.o;have:=HAL.o.size;omega) (by have:=HLX.o;omega) (⟨⟨hol,vlt,str,ix,sz,day,ser,cnt,pl,root,pa,si,pt,sq⟩,ap,c1,aq,c2,ar,c3⟩:RcV) ⟨VX.heap.size,0,none⟩ 1 (by rfl) (HSRC.o _ _ (heap_alloc_new _ _)) ?_
         intro bl cap w6 h1 h2 h3
         have H1:=hid h1
         have H2:Hid (Below (N+1) W w6):=hid ((HR.o.trans (HAL.o.mono HSZ.o)).trans (below_grownB HOA.o h2 (Nat.le_refl _) (by have:=HSZ.o;have:=HAL.o.size;omega)))
         clear h1 h2 h3))
   go_roundw
   case rel=>exact ⟨k+1,hlt,by go_num,hid (by rw [HFS.o,if_pos rfl,List.length_append,HFN.o];exact H1.o),H2⟩
   case measure=>simp [intOf];omega
theorem refRelease_any (a:Option Addr) (c L:Nat) (xs:List RcV) (hLe:xs.length=L) (hL:L≤100000) (s:ByteArray) (w:World) (hX:RcsAt w a xs):
    Calls Tryz.prog 39 #[.slice a L c,.string s] w fun e w'=> ∃v,e= .returned v∧ ∃n ys,DocRc w' w.heap.size v n ys∧ys.map RcV.r=relB (xs.map RcV.r) s∧(∀y ∈ ys,y ∈ xs)∧Below w.heap.size w w':=by
 have HX:=hid hX
 have HLE:=hid hLe
 obtain ⟨N,hN⟩:=ex_eq w.heap.size
 have HN:=hid hN
 clear hLe hX hN
 go_enter Tryz.func39,Tryz.ntmps39
 obtain ⟨W,hW⟩:=ex_eq w
 have HB:Hid (Below N w W):=hid (by rw [← hW];exact Below.refl _ _)
 have HWS:Hid (N≤W.heap.size):=hid (by rw [← hW];have:=HN.o;omega)
 have HWW:=hid hW
 go_upto_region 1 with fail
 rw [hW]
 clear hW
 have HBW:Hid (∀V,Below N W V→Below N w V):=hid (fun V h=>HB.o.trans h)
 have HXW:Hid (∀V,Below N W V→RcsAt V a xs):=hid (fun V h=>HX.o.later (by rw [HN.o];exact HBW.o V h))
 go_upto_region 2 with fail
 refine wp_over (fun V=>Hid (V.ownsRow N 47 14 (.slice (some ⟨W.heap.size,0,none⟩) 0 0) 0 (rcv []))∧Hid (Below N W V)) ⟨hid (own_emptyB (by have:=HWS.o;omega)),hid ((Below.refl _ _).alloc (by have:=HWS.o;omega) _)⟩ ?_
 rintro Y ⟨HY,HYB⟩
 go_upto_region 3 with fail
 go_loopw [5,6] (fun v y wr=> ∃k:Nat,k≤L∧y= .int .i64 (k:Int)∧Hid (wr.ownsRow N 47 14 v ((xs.take k).filter (fun x=> !decide (x.r.str=s))).length (rcv ((xs.take k).filter (fun x=> !decide (x.r.str=s)))))∧Hid (Below N W wr)) (fun _ y _=>L - (intOf y).toNat)
 case atStart=>exact ⟨0,Nat.zero_le _,rfl,hid (by rw [List.take_zero];exact HY.o),HYB⟩
 case round=>
  obtain ⟨k,hk,rfl,HO,HR⟩:=hrel
  have HRN:Hid (Below N W wr):=hid HR.o
  have HSZ:Hid (N≤wr.heap.size):=hid (by have:=HR.o.size;have:=HWS.o;omega)
  have HLX:Hid (((xs.take k).filter (fun x=> !decide (x.r.str=s))).length≤100000):=hid (by
   have h1:=List.length_filter_le (fun x=> !decide (x.r.str=s)) (xs.take k)
   rw [List.length_take] at h1
   omega)
  by_cases hlt:k<L
  rotate_left
  ·have hki: ¬(k:Int)<(L:Int):=by omega
   have hke:k=L:=by omega
   have HO2:Hid (wr.ownsRow N 47 14 u5 (xs.filter (fun x=> !decide (x.r.str=s))).length (rcv (xs.filter (fun x=> !decide (x.r.str=s))))):=hid (by have h:=HO.o;rwa [hke,List.take_of_length_le (by rw [HLE.o];exact Nat.le_refl _)] at h)
   go_wp2_with fail
   go_ret
   exact ⟨_,rfl,_,xs.filter (fun x=> !decide (x.r.str=s)),⟨ownsRow_base HO2.o (by have:=HN.o;omega),rfl,fun y hy=>(HXW.o _ HRN.o).2 y (List.mem_filter.1 hy).1⟩,filter_map_r (fun r=> !decide (r.str=s)) _,(fun y hy=>(List.mem_filter.1 hy).1),by rw [HN.o];exact HBW.o _ HRN.o⟩
  have hki:(k:Int)<(L:Int):=by omega
  have HK1:Hid (k<xs.length):=hid (by rw [HLE.o];exact hlt)
  obtain ⟨b1,o1,rfl,hc1⟩:=(HXW.o _ HRN.o).one k HK1.o
  obtain ⟨x,hx⟩:=ex_eq (xs[k]'HK1.o)
  rw [hx] at hc1
  obtain ⟨⟨hol,vlt,str,ix,sz,day,ser,cnt,pl,root,pa,si,pt,sq⟩,ap,c1,aq,c2,ar,c3⟩:=x
  simp only [RcV.cells] at hc1
  obtain ⟨n1,e1⟩:=ex_eq pa.length
  obtain ⟨n2,e2⟩:=ex_eq pt.length
  obtain ⟨n3,e3⟩:=ex_eq sq.length
  rw [e1,e2,e3] at hc1
  have HLN:Hid (pa.length=n1∧pt.length=n2∧sq.length=n3):=hid ⟨e1,e2,e3⟩
  clear e1 e2 e3
  have HCS:Hid (∀V,Below wr.heap.size wr V→V.cell? ⟨b1,o1+k*14,none⟩=some (.int .i64 hol)∧V.cell? ⟨b1,o1+k*14+1,none⟩=some (.int .i64 vlt)∧V.cell? ⟨b1,o1+k*14+2,none⟩=some (.string str)∧V.cell? ⟨b1,o1+k*14+3,none⟩=some (.int .i64 ix)∧V.cell? ⟨b1,o1+k*14+4,none⟩=some (.int .i64 sz)∧V.cell? ⟨b1,o1+k*14+5,none⟩=some (.int .i64 day)∧V.cell? ⟨b1,o1+k*14+6,none⟩=some (.int .i64 ser)∧V.cell? ⟨b1,o1+k*14+7,none⟩=some (.int .i64 cnt)∧V.cell? ⟨b1,o1+k*14+8,none⟩=some (.int .i64 pl)∧V.cell? ⟨b1,o1+k*14+9,none⟩=some (.string root)∧V.cell? ⟨b1,o1+k*14+10,none⟩=some (.slice ap n1 c1)∧V.cell? ⟨b1,o1+k*14+11,none⟩=some (.int .i64 si)∧V.cell? ⟨b1,o1+k*14+12,none⟩=some (.slice aq n2 c2)∧V.cell? ⟨b1,o1+k*14+13,none⟩=some (.slice ar n3 c3)):=hid (fun V h=>by
   have f: ∀{ad:Addr} {u:Value},wr.cell? ad=some u→V.cell? ad=some u:=fun hu=>(h.cell (World.block_lt_of_cell? _ _ hu)).trans hu
   exact ⟨f (hc1 0 (by decide)),f (hc1 1 (by decide)),f (hc1 2 (by decide)),f (hc1 3 (by decide)),f (hc1 4 (by decide)),f (hc1 5 (by decide)),f (hc1 6 (by decide)),f (hc1 7 (by decide)),f (hc1 8 (by decide)),f (hc1 9 (by decide)),f (hc1 10 (by decide)),f (hc1 11 (by decide)),f (hc1 12 (by decide)),f (hc1 13 (by decide))⟩)
  clear hc1
  have HSRC:Hid (∀(q:Nat) (V:World),V.heap[q]? =some (.cells #[.int .i64 hol,.int .i64 vlt,.string str,.int .i64 ix,.int .i64 sz,.int .i64 day,.int .i64 ser,.int .i64 cnt,.int .i64 pl,.string root,.slice ap n1 c1,.int .i64 si,.slice aq n2 c2,.slice ar n3 c3] 47 (0,0))→ ∀j u,(⟨⟨hol,vlt,str,ix,sz,day,ser,cnt,pl,root,pa,si,pt,sq⟩,ap,c1,aq,c2,ar,c3⟩:RcV).cells[j]? =some u→V.cell? ((⟨q,0,none⟩:Addr).add j)=some u):=hid (fun q V hq j u hu=>by
   have l:=HLN.o
   obtain ⟨rfl,rfl,rfl⟩:=l
   rw [add_none,Nat.zero_add]
   exact (cell_of_row _ _ _ _ _ _ hq).trans (by rw [← hu];simp [RcV.cells]))
  obtain ⟨PB,hPB⟩:=ex_eq (!decide (str=s))
  have HFS:=hid (filter_take_succ (p:=(fun x=> !decide (x.r.str=s))) xs k HK1.o PB (by rw [hx];exact hPB))
  rw [hx] at HFS
  clear hx
  have hq1:(str.toList==s.toList)= !PB:=by rw [str_tol,← hPB,Bool.not_not]
  have hq2:(str.toList != s.toList)=PB:=by rw [bne,hq1,Bool.not_not]
  clear hPB
  go_upto_region 5 with fail
  obtain ⟨VX,hVX⟩:=ex_eq wr
  have HVR:Hid (Below wr.heap.size wr VX):=hid (by rw [← hVX];exact Below.refl _ _)
  rw [hVX]
  clear hVX
  obtain ⟨q0,q1,q2,q3,q4,q5,q6,q7,q8,q9,q10,q11,q12,q13⟩:=HCS.o _ HVR.o
  have HAL:Hid (Below wr.heap.size wr (VX.alloc (.cells #[.int .i64 hol,.int .i64 vlt,.string str,.int .i64 ix,.int .i64 sz,.int .i64 day,.int .i64 ser,.int .i64 cnt,.int .i64 pl,.string root,.slice ap n1 c1,.int .i64 si,.slice aq n2 c2,.slice ar n3 c3] 47))):=hid (HVR.o.alloc HVR.o.size _)
  have HOA:Hid ((VX.alloc (.cells #[.int .i64 hol,.int .i64 vlt,.string str,.int .i64 ix,.int .i64 sz,.int .i64 day,.int .i64 ser,.int .i64 cnt,.int .i64 pl,.string root,.slice ap n1 c1,.int .i64 si,.slice aq n2 c2,.slice ar n3 c3] 47)).ownsRow N 47 14 u5 ((xs.take k).filter (fun x=> !decide (x.r.str=s))).length (rcv ((xs.take k).filter (fun x=> !decide (x.r.str=s))))):=hid (own_later HO.o HAL.o)
  obtain ⟨F,hF⟩:=ex_eq ((xs.take k).filter (fun x=> !decide (x.r.str=s)))
  have HFE:=hid hF
  rw [hF] at HOA HFS HO HLX
  obtain ⟨nF,hnF⟩:=ex_eq F.length
  have HFN:=hid hnF
  rw [hnF] at HOA HO HLX
  clear hF hnF
  cases PB
  ·go_wp2_with fail
   go_roundw
   case rel=>exact ⟨k+1,hlt,by go_num,hid (by rw [HFS.o,if_neg (by decide),List.append_nil,HFN.o];exact own_later HO.o HVR.o),hid (HR.o.trans (HVR.o.mono HSZ.o))⟩
   case measure=>simp [intOf];omega
  ·go_wp2_with (first
      | (at_builtin
         refine appB_rc rfl _ _ rfl N u5 nF F (by rfl) HOA.o (by have:=HSZ.o;have:=HAL.o.size;omega) (by have:=HLX.o;omega) (⟨⟨hol,vlt,str,ix,sz,day,ser,cnt,pl,root,pa,si,pt,sq⟩,ap,c1,aq,c2,ar,c3⟩:RcV) ⟨VX.heap.size,0,none⟩ 1 (by rfl) (HSRC.o _ _ (heap_alloc_new _ _)) ?_
         intro bl cap w6 h1 h2 h3
         have H1:=hid h1
         have H2:Hid (Below N W w6):=hid ((HR.o.trans (HAL.o.mono HSZ.o)).trans (below_grownB HOA.o h2 (Nat.le_refl _) (by have:=HSZ.o;have:=HAL.o.size;omega)))
         clear h1 h2 h3))
   go_roundw
   case rel=>exact ⟨k+1,hlt,by go_num,hid (by rw [HFS.o,if_pos rfl,List.length_append,HFN.o];exact H1.o),H2⟩
   case measure=>simp [intOf];omega
theorem refCurrent_some (a:Option Addr) (c L:Nat) (xs:List RcV) (hLe:xs.length=L) (hL:L≤100000) (s:ByteArray) (i:Int) (hol vlt:Int) (str:ByteArray) (ix sz day ser cnt pl:Int) (root:ByteArray) (si:Int) (pa pt sq:List ByteArray) (n1 n2 n3:Nat) (h1:pa.length=n1) (h2:pt.length=n2) (h3:sq.length=n3) (hc:curB (xs.map RcV.r) ⟨s,i⟩=some ⟨hol,vlt,str,ix,sz,day,ser,cnt,pl,root,pa,si,pt,sq⟩) (w:World) (hX:RcsAt w a xs):
    Calls Tryz.prog 45 #[.slice a L c,.agg #[.string s,.int .i64 i]] w fun e w'=> ∃ap c1 aq c2 ar c3,e= .returned (.tuple #[.agg #[.int .i64 hol,.int .i64 vlt,.string str,.int .i64 ix,.int .i64 sz,.int .i64 day,.int .i64 ser,.int .i64 cnt,.int .i64 pl,.string root,.slice ap n1 c1,.int .i64 si,.slice aq n2 c2,.slice ar n3 c3],.int .i64 0])∧(⟨⟨hol,vlt,str,ix,sz,day,ser,cnt,pl,root,pa,si,pt,sq⟩,ap,c1,aq,c2,ar,c3⟩:RcV) ∈ xs∧Below w.heap.size w w':=by
 have HLN:Hid (pa.length=n1∧pt.length=n2∧sq.length=n3):=hid ⟨h1,h2,h3⟩
 have HC:=hid hc
 clear h1 h2 h3 hc
 have HX:=hid hX
 have HLE:=hid hLe
 have HOF:=hid (fun w h=>refOf_any a c L xs hLe hL s i w h)
 clear hLe hX
 go_enter Tryz.func45,Tryz.ntmps45
 go_upto_region 1 with fail
 refine wp_over (fun W=>Hid (W.heap[w.heap.size]? =some (.cells #[.string s,.int .i64 i] 42 (0,0)))∧Hid (W.heap[w.heap.size+1]? =some (.cells #[.int .i64 0,.int .i64 0,.string ByteArray.empty,.int .i64 0,.int .i64 0,.int .i64 0,.int .i64 0,.int .i64 0,.int .i64 0,.string ByteArray.empty,.slice none 0 0,.int .i64 0,.slice none 0 0,.slice none 0 0] 47 (0,0)))∧Hid (Below w.heap.size w W)∧Hid (W.heap.size=w.heap.size+2)) ⟨two_rows1,two_rows2,two_below,two_size⟩ ?_
 rintro W ⟨HG,HZ,HB,HW⟩
 obtain ⟨N,hN⟩:=ex_eq w.heap.size
 have HN:=hid hN
 have HXW:=hid (HX.o.later HB.o)
 rw [hN] at HG HZ HB HW ⊢
 clear hN
 have p0:W.cell? ⟨N,0,none⟩=some (.string s):=cr HG.o
 have p1:W.cell? ⟨N,1,none⟩=some (.int .i64 i):=cr HG.o
 have HOW:=hid (HOF.o W HXW.o)
 clear HOF
 go_upto_region 2 with fail
 go_at_call 48
 with_reducible refine HOW.o.mono ?_
 rintro e w2 ⟨v,rfl,n,ys,hd,hm,hsub,hb⟩
 have HM:=hid hm
 have HSUB:=hid hsub
 have HW2:Hid (Below w.heap.size w w2):=hid (by rw [HN.o];exact HB.o.trans (hb.mono (by have:=HW.o;omega)))
 have HRL:=hid hd.2.1
 have HBN:Hid (Below (N+1) W w2):=hid (hb.mono (by have:=HW.o;omega))
 have HZ2:Hid (w2.heap[N+1]? =some (.cells #[.int .i64 0,.int .i64 0,.string ByteArray.empty,.int .i64 0,.int .i64 0,.int .i64 0,.int .i64 0,.int .i64 0,.int .i64 0,.string ByteArray.empty,.slice none 0 0,.int .i64 0,.slice none 0 0,.slice none 0 0] 47 (0,0))):=hid ((hb.block (N+1) (by have:=HW.o;omega)).trans HZ.o)
 obtain ⟨av,cv,rfl,hrc,_⟩:=hd.rcs
 have HRC:=hid hrc
 have hnl:n≤9223372036854775807:=by
  rcases hd.1.2 with ⟨_,h⟩ | ⟨_,_,_,_,_,_,h1,h2,_⟩
  ·omega
  ·unfold maxLen at h2;omega
 clear hd hm hsub hb hrc p0 p1
 have HGL:Hid ((ys.map RcV.r).getLast? =some ⟨hol,vlt,str,ix,sz,day,ser,cnt,pl,root,pa,si,pt,sq⟩):=hid (by rw [HM.o];exact HC.o)
 obtain ⟨m,rfl⟩: ∃m,n=m+1:=by
  cases n with
  | zero=>
    exfalso
    have h:=HGL.o
    rw [List.eq_nil_of_length_eq_zero HRL.o] at h
    cases h
  | succ m=>exact ⟨m,rfl⟩
 have HMY:Hid (m<ys.length):=hid (by rw [HRL.o];exact Nat.lt_succ_self m)
 obtain ⟨bv,ov,rfl,hcl⟩:=HRC.o.one m HMY.o
 have HOKY:=hid (HSUB.o _ (List.getElem_mem HMY.o))
 have HYE:Hid ((ys[m]'HMY.o).r=⟨hol,vlt,str,ix,sz,day,ser,cnt,pl,root,pa,si,pt,sq⟩):=hid (by
  have h:=HGL.o
  rw [List.getLast?_eq_getElem?,List.length_map,HRL.o,Nat.add_sub_cancel,List.getElem?_map,lE HMY.o] at h
  exact Option.some.inj h)
 obtain ⟨y,hy⟩:=ex_eq (ys[m]'HMY.o)
 rw [hy] at hcl HOKY HYE
 clear hy
 obtain ⟨yr,ap,c1,aq,c2,ar,c3⟩:=y
 obtain rfl:yr=⟨hol,vlt,str,ix,sz,day,ser,cnt,pl,root,pa,si,pt,sq⟩:=HYE.o
 simp only [RcV.cells,HLN.o.1,HLN.o.2.1,HLN.o.2.2] at hcl
 have r0:w2.cell? ⟨bv,ov+m*14,none⟩=some (.int .i64 hol):=hcl 0 (by decide)
 have r1:w2.cell? ⟨bv,ov+m*14+1,none⟩=some (.int .i64 vlt):=hcl 1 (by decide)
 have r2:w2.cell? ⟨bv,ov+m*14+2,none⟩=some (.string str):=hcl 2 (by decide)
 have r3:w2.cell? ⟨bv,ov+m*14+3,none⟩=some (.int .i64 ix):=hcl 3 (by decide)
 have r4:w2.cell? ⟨bv,ov+m*14+4,none⟩=some (.int .i64 sz):=hcl 4 (by decide)
 have r5:w2.cell? ⟨bv,ov+m*14+5,none⟩=some (.int .i64 day):=hcl 5 (by decide)
 have r6:w2.cell? ⟨bv,ov+m*14+6,none⟩=some (.int .i64 ser):=hcl 6 (by decide)
 have r7:w2.cell? ⟨bv,ov+m*14+7,none⟩=some (.int .i64 cnt):=hcl 7 (by decide)
 have r8:w2.cell? ⟨bv,ov+m*14+8,none⟩=some (.int .i64 pl):=hcl 8 (by decide)
 have r9:w2.cell? ⟨bv,ov+m*14+9,none⟩=some (.string root):=hcl 9 (by decide)
 have r10:w2.cell? ⟨bv,ov+m*14+10,none⟩=some (.slice ap n1 c1):=hcl 10 (by decide)
 have r11:w2.cell? ⟨bv,ov+m*14+11,none⟩=some (.int .i64 si):=hcl 11 (by decide)
 have r12:w2.cell? ⟨bv,ov+m*14+12,none⟩=some (.slice aq n2 c2):=hcl 12 (by decide)
 have r13:w2.cell? ⟨bv,ov+m*14+13,none⟩=some (.slice ar n3 c3):=hcl 13 (by decide)
 clear hcl
 have hm0:(((m+1:Nat):Int)==0)=false:=by rw [beq_eq_false_iff_ne];omega
 have hms:IntKind.i64.wrap (((m+1:Nat):Int) - 1)=(m:Int):=by rw [IntKind.wrap_i64];omega
 obtain ⟨z0,z1,z2,z3,z4,z5,z6,z7,z8,z9,z10,z11,z12,z13⟩:=row14 HZ2.o
 have fz: ∀i,w2.frozen? ⟨N+1,i,none⟩=false:=fun i=>frozen_of_row _ _ _ _ _ HZ2.o
 obtain ⟨M1,hM1⟩:=ex_eq (m+1)
 rw [hM1] at hm0 hms ⊢
 have hmM:(m:Int)<(M1:Int):=by omega
 clear hM1
 go_wp2_with fail
 refine bodyPost_ret (results_cell_row_tmp (p:=4) (u:=5) rfl _ _ (N+1) 47 #[.int .i64 hol,.int .i64 vlt,.string str,.int .i64 ix,.int .i64 sz,.int .i64 day,.int .i64 ser,.int .i64 cnt,.int .i64 pl,.string root,.slice ap n1 c1,.int .i64 si,.slice aq n2 c2,.slice ar n3 c3] (0,0) _ (by rfl) (putL_full (cur:=[.int .i64 0,.int .i64 0,.string ByteArray.empty,.int .i64 0,.int .i64 0,.int .i64 0,.int .i64 0,.int .i64 0,.int .i64 0,.string ByteArray.empty,.slice none 0 0,.int .i64 0,.slice none 0 0,.slice none 0 0]) (vs:=[.int .i64 hol,.int .i64 vlt,.string str,.int .i64 ix,.int .i64 sz,.int .i64 day,.int .i64 ser,.int .i64 cnt,.int .i64 pl,.string root,.slice ap n1 c1,.int .i64 si,.slice aq n2 c2,.slice ar n3 c3]) HZ2.o rfl) Tryz.underlying47 rfl (by kernel_rfl)) rfl ?_
 exact ⟨ap,c1,aq,c2,ar,c3,rfl,HOKY.o,by rw [HN.o];exact HB.o.trans (putL_below (Nat.le_succ N) [.int .i64 hol,.int .i64 vlt,.string str,.int .i64 ix,.int .i64 sz,.int .i64 day,.int .i64 ser,.int .i64 cnt,.int .i64 pl,.string root,.slice ap n1 c1,.int .i64 si,.slice aq n2 c2,.slice ar n3 c3] 0 _ (HBN.o.mono (Nat.le_succ N)))⟩
theorem refCurrent_none (a:Option Addr) (c L:Nat) (xs:List RcV) (hLe:xs.length=L) (hL:L≤100000) (s:ByteArray) (i:Int) (hc:curB (xs.map RcV.r) ⟨s,i⟩=none) (w:World) (hX:RcsAt w a xs):
    Calls Tryz.prog 45 #[.slice a L c,.agg #[.string s,.int .i64 i]] w fun e w'=>e= .returned (.tuple #[.agg #[.int .i64 0,.int .i64 0,.string ByteArray.empty,.int .i64 0,.int .i64 0,.int .i64 0,.int .i64 0,.int .i64 0,.int .i64 0,.string ByteArray.empty,.slice none 0 0,.int .i64 0,.slice none 0 0,.slice none 0 0],.int .i64 4])∧Below w.heap.size w w':=by
 have HC:=hid hc
 clear hc
 have HX:=hid hX
 have HLE:=hid hLe
 have HOF:=hid (fun w h=>refOf_any a c L xs hLe hL s i w h)
 clear hLe hX
 go_enter Tryz.func45,Tryz.ntmps45
 go_upto_region 1 with fail
 refine wp_over (fun W=>Hid (W.heap[w.heap.size]? =some (.cells #[.string s,.int .i64 i] 42 (0,0)))∧Hid (W.heap[w.heap.size+1]? =some (.cells #[.int .i64 0,.int .i64 0,.string ByteArray.empty,.int .i64 0,.int .i64 0,.int .i64 0,.int .i64 0,.int .i64 0,.int .i64 0,.string ByteArray.empty,.slice none 0 0,.int .i64 0,.slice none 0 0,.slice none 0 0] 47 (0,0)))∧Hid (Below w.heap.size w W)∧Hid (W.heap.size=w.heap.size+2)) ⟨two_rows1,two_rows2,two_below,two_size⟩ ?_
 rintro W ⟨HG,HZ,HB,HW⟩
 obtain ⟨N,hN⟩:=ex_eq w.heap.size
 have HN:=hid hN
 have HXW:=hid (HX.o.later HB.o)
 rw [hN] at HG HZ HB HW ⊢
 clear hN
 have p0:W.cell? ⟨N,0,none⟩=some (.string s):=cr HG.o
 have p1:W.cell? ⟨N,1,none⟩=some (.int .i64 i):=cr HG.o
 have HOW:=hid (HOF.o W HXW.o)
 clear HOF
 go_upto_region 2 with fail
 go_at_call 48
 with_reducible refine HOW.o.mono ?_
 rintro e w2 ⟨v,rfl,n,ys,hd,hm,hsub,hb⟩
 have HM:=hid hm
 have HSUB:=hid hsub
 have HW2:Hid (Below w.heap.size w w2):=hid (by rw [HN.o];exact HB.o.trans (hb.mono (by have:=HW.o;omega)))
 have HRL:=hid hd.2.1
 have HBN:Hid (Below (N+1) W w2):=hid (hb.mono (by have:=HW.o;omega))
 have HZ2:Hid (w2.heap[N+1]? =some (.cells #[.int .i64 0,.int .i64 0,.string ByteArray.empty,.int .i64 0,.int .i64 0,.int .i64 0,.int .i64 0,.int .i64 0,.int .i64 0,.string ByteArray.empty,.slice none 0 0,.int .i64 0,.slice none 0 0,.slice none 0 0] 47 (0,0))):=hid ((hb.block (N+1) (by have:=HW.o;omega)).trans HZ.o)
 obtain ⟨av,cv,rfl,hrc,_⟩:=hd.rcs
 have HRC:=hid hrc
 have hnl:n≤9223372036854775807:=by
  rcases hd.1.2 with ⟨_,h⟩ | ⟨_,_,_,_,_,_,h1,h2,_⟩
  ·omega
  ·unfold maxLen at h2;omega
 clear hd hm hsub hb hrc p0 p1
 obtain rfl:n=0:=by
  have h:=HC.o
  unfold curB at h
  rw [← HM.o,List.getLast?_eq_none_iff] at h
  rw [← HRL.o,List.eq_nil_of_map_eq_nil h]
  rfl
 obtain ⟨z0,z1,z2,z3,z4,z5,z6,z7,z8,z9,z10,z11,z12,z13⟩:=row14 HZ2.o
 have fz: ∀i,w2.frozen? ⟨N+1,i,none⟩=false:=fun i=>frozen_of_row _ _ _ _ _ HZ2.o
 go_wp2_with fail
 refine bodyPost_ret (results_cell_row_tmp (p:=4) (u:=5) rfl _ _ (N+1) 47 #[.int .i64 0,.int .i64 0,.string ByteArray.empty,.int .i64 0,.int .i64 0,.int .i64 0,.int .i64 0,.int .i64 0,.int .i64 0,.string ByteArray.empty,.slice none 0 0,.int .i64 0,.slice none 0 0,.slice none 0 0] (0,0) _ (by rfl) (putL_full (cur:=[.int .i64 0,.int .i64 0,.string ByteArray.empty,.int .i64 0,.int .i64 0,.int .i64 0,.int .i64 0,.int .i64 0,.int .i64 0,.string ByteArray.empty,.slice none 0 0,.int .i64 0,.slice none 0 0,.slice none 0 0]) (vs:=[.int .i64 0,.int .i64 0,.string ByteArray.empty,.int .i64 0,.int .i64 0,.int .i64 0,.int .i64 0,.int .i64 0,.int .i64 0,.string ByteArray.empty,.slice none 0 0,.int .i64 0,.slice none 0 0,.slice none 0 0]) HZ2.o rfl) Tryz.underlying47 rfl (by kernel_rfl)) rfl ?_
 exact ⟨rfl,by rw [HN.o];exact HB.o.trans (putL_below (Nat.le_succ N) [.int .i64 0,.int .i64 0,.string ByteArray.empty,.int .i64 0,.int .i64 0,.int .i64 0,.int .i64 0,.int .i64 0,.int .i64 0,.string ByteArray.empty,.slice none 0 0,.int .i64 0,.slice none 0 0,.slice none 0 0] 0 _ (HBN.o.mono (Nat.le_succ N)))⟩
end Go.Proofs.YtndlihclgdkpaaaGreatDoor
