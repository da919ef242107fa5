/- The document's Bytes. -/
import Derived.Test.YtndlihclgdkpaaaGreatDoorQfe
set_option linter.unusedVariables false
set_option linter.unusedSimpArgs false
open Go.Lib (hid)
namespace Go.Proofs.YtndlihclgdkpaaaGreatDoor
open Go.RowKit
open Kit (Chg)
open Sha (v)
open Go.Proofs.YtndlihclgdkpaaaGreatDoor.One

set_option maxRecDepth 100000 in
set_option maxHeartbeats 4000000 in
theorem refBytes_any (a:Option Addr) (c L:Nat) (xs:List RcV) (hLe:xs.length=L) (hL:L≤1000) (hg:GoodB (xs.map RcV.r)) (hm: ∀x ∈ xs,x.r.path.length≤1000000∧x.r.parts.length≤1000000∧x.r.sp.length≤1000000) (h v:Int) (w:World) (hX:RcsAt w a xs):
    Calls Tryz.prog 136 #[.slice a L c,.int .i64 h,.int .i64 v] w fun e w'=>e= .returned (.int .i64 (bytesB (xs.map RcV.r) h v))∧Below w.heap.size w w':=by
 obtain ⟨N,hN⟩:=ex_eq w.heap.size
 have HN:=hid hN
 have HHO:=hid (refHolder_any a c L xs hLe hL hg hm h w hX)
 have HVD:Hid (∀x ∈ xs,ValidR x.r):=hid (fun x hx=>hg.v _ (List.mem_map_of_mem hx))
 obtain ⟨m,hm2⟩:=ex_eq (xs.map RcV.r)
 have HM:=hid hm2
 rw [hm2] at HHO ⊢
 clear hLe hX hN hm hm2 hg
 go_enter Tryz.func136,Tryz.ntmps136
 go_upto_region 4 with fail
 go_at_call 135
 with_reducible refine HHO.o.mono ?_
 rintro e w2 ⟨u,rfl,n,ys,hd,hf,hmem,hnL,hb⟩
 have HF:=hid hf
 have HVY:Hid (∀y ∈ ys,ValidR y.r):=hid (fun y hy=>HVD.o y (hmem y hy))
 have HBW:=hid hb
 have HNY:Hid (ys.length=n):=hid hd.2.1
 obtain ⟨ao,cp,rfl,hrc,_,_⟩:=hd.rcs2
 have HRC:Hid (∀V,Below w2.heap.size w2 V→RcsAt V ao ys):=hid (fun V h=>hrc.later h)
 have hn2:n≤1000:=by omega
 clear hf hb hd hmem hrc HHO
 go_upto_region 4 with fail
 go_loopw [7,9] (fun x y wr=> ∃k:Nat,k≤n∧y= .int .i64 (k:Int)∧x= .int .i64 (sumV v ((ys.take k).map RcV.r))∧Hid (Below w2.heap.size w2 wr)) (fun _ y _=>n - (intOf y).toNat)
 case atStart=>exact ⟨0,Nat.zero_le _,rfl,by rw [List.take_zero];rfl,hid (Below.refl _ _)⟩
 case round=>
  obtain ⟨k,hk,rfl,rfl,HW⟩:=hrel
  by_cases hlt:k<n
  rotate_left
  ·have hki: ¬(k:Int)<(n:Int):=by omega
   have hke:k=n:=by omega
   have HSE:Hid (sumV v ((ys.take k).map RcV.r)=bytesB m h v):=hid (by
    rw [hke,List.take_of_length_le (Nat.le_of_eq HNY.o),HF.o]
    rfl)
   obtain ⟨S,hS⟩:=ex_eq (sumV v ((ys.take k).map RcV.r))
   rw [hS] at HSE ⊢
   clear hS
   go_wp2_with fail
   go_ret
   exact ⟨by first | rfl | (rw [HSE.o];rfl),HBW.o.trans (HW.o.mono HBW.o.size)⟩
  have hki:(k:Int)<(n:Int):=by omega
  have HK1:Hid (k<ys.length):=hid (by rw [HNY.o];exact hlt)
  obtain ⟨b1,o1,rfl,hc1⟩:=(HRC.o _ HW.o).one k HK1.o
  have HVX:=hid (HVY.o _ (List.getElem_mem HK1.o))
  have HTK:Hid ((ys.take (k+1)).map RcV.r=(ys.take k).map RcV.r++[(ys[k]'HK1.o).r]):=hid (by rw [List.take_succ_eq_append_getElem HK1.o,List.map_append];rfl)
  have HSN:=hid (sumV_snoc v ((ys.take k).map RcV.r) (ys[k]'HK1.o).r)
  have hbd:=sumV_bound (v:=v) (l:=(ys.take k).map RcV.r) (fun x hx=>by
   obtain ⟨y,hy,rfl⟩:=List.mem_map.1 hx
   exact HVY.o y (List.mem_of_mem_take hy))
  rw [List.length_map,List.length_take,HNY.o,Nat.min_eq_left hk] at hbd
  have hx1:=(HVX.o).gd.s0
  have hx2:=(HVX.o).gd.s1
  obtain ⟨x,hx⟩:=ex_eq (ys[k]'HK1.o)
  rw [hx] at hc1 HTK HSN hx1 hx2
  clear hx HVX
  obtain ⟨⟨hol,vlt,str,ix,sz,day,ser,cnt,pl,root,pa,si,pt,sq⟩,ap,c1,aq,c2,ar,c3⟩:=x
  simp only [RcV.cells] at hc1 HSN hx1 hx2
  have q1:wr.cell? ⟨b1,o1+k*14+1,none⟩=some (.int .i64 vlt):=hc1 1 (by decide)
  have q4:wr.cell? ⟨b1,o1+k*14+4,none⟩=some (.int .i64 sz):=hc1 4 (by decide)
  obtain ⟨S,hS⟩:=ex_eq (sumV v ((ys.take k).map RcV.r))
  rw [hS] at hbd HSN ⊢
  clear hS hc1
  obtain ⟨hb1,hb2⟩:=hbd
  have hw1:IntKind.i64.wrap (S+sz)=S+sz:=by rw [IntKind.wrap_i64];omega
  by_cases ev:vlt=v
  ·have hq:(vlt==v)=true:=by rw [beq_iff_eq];exact ev
   rw [if_pos ev] at HSN
   clear ev
   go_wp2_with fail
   go_roundw
   case rel=>exact ⟨k+1,hlt,by go_num,by rw [HTK.o,HSN.o];(try go_num),HW⟩
   case measure=>simp [intOf];omega
  ·have hq:(vlt==v)=false:=by rw [beq_eq_false_iff_ne];exact ev
   rw [if_neg ev] at HSN
   clear ev
   go_wp2_with fail
   go_roundw
   case rel=>exact ⟨k+1,hlt,by go_num,by rw [HTK.o,HSN.o,Int.add_zero],HW⟩
   case measure=>simp [intOf];omega
end Go.Proofs.YtndlihclgdkpaaaGreatDoor
