/- gossip: Forks, walked. -/
import Derived.Test.YtndlihclgdkpaaaGreatDoorGc
import Derived.Test.YtndlihclgdkpaaaGreatDoorWfo
set_option linter.unusedVariables false
set_option linter.unusedSimpArgs false
open Go.Lib (hid)
namespace Go.Proofs.YtndlihclgdkpaaaGreatDoor
open Go.RowKit
open Kit (Chg)
open Sha (v)
open Go.Proofs.YtndlihclgdkpaaaGreatDoor.One

theorem take_fork_none {ls:List Lin} {k:Nat} (h:k<ls.length) (hf:ls[k].fork=none):(ls.take (k+1)).filterMap Lin.fork=(ls.take k).filterMap Lin.fork:=by
 rw [List.take_succ_eq_append_getElem h,List.filterMap_append]
 simp [hf]
theorem take_fork_some {ls:List Lin} {k:Nat} {f:Frk} (h:k<ls.length) (hf:ls[k].fork=some f):(ls.take (k+1)).filterMap Lin.fork=(ls.take k).filterMap Lin.fork++[f]:=by
 rw [List.take_succ_eq_append_getElem h,List.filterMap_append]
 simp [hf]
def fkRow (dv:Int) (v0 v1:Value) (z0 z1:HV):Array Value:= #[.int .i64 dv,v0,v1,.int .i64 z0.h.dev,.int .i64 z0.h.seq,.string z0.h.sum,.int .i64 z0.h.idx,.slice z0.a1 z0.h.ps.length z0.c1,.slice z0.a2 z0.h.qs.length z0.c2,.int .i64 z1.h.dev,.int .i64 z1.h.seq,.string z1.h.sum,.int .i64 z1.h.idx,.slice z1.a1 z1.h.ps.length z1.c1,.slice z1.a2 z1.h.qs.length z1.c2]
theorem fk_put0 {w:World} {J:Nat} {dv:Int} {v0 v1:Value} {z0 z1 z:HV} {T:TypeId} (hg:w.heap[J]? =some (.cells (fkRow dv v0 v1 z0 z1) T (0,0))):((((((w.setCell ⟨J,3,none⟩ (.int .i64 z.h.dev)).setCell ⟨J,4,none⟩ (.int .i64 z.h.seq)).setCell ⟨J,5,none⟩ (.string z.h.sum)).setCell ⟨J,6,none⟩ (.int .i64 z.h.idx)).setCell ⟨J,7,none⟩ (.slice z.a1 z.h.ps.length z.c1)).setCell ⟨J,8,none⟩ (.slice z.a2 z.h.qs.length z.c2)).heap[J]? =some (.cells (fkRow dv v0 v1 z z1) T (0,0)):=
 heap_setCell_same _ J 8 _ _ _ (heap_setCell_same _ J 7 _ _ _ (heap_setCell_same _ J 6 _ _ _ (heap_setCell_same _ J 5 _ _ _ (heap_setCell_same _ J 4 _ _ _ (heap_setCell_same _ J 3 _ _ _ hg)))))
theorem fk_put1 {w:World} {J:Nat} {dv:Int} {v0 v1:Value} {z0 z1 z:HV} {T:TypeId} (hg:w.heap[J]? =some (.cells (fkRow dv v0 v1 z0 z1) T (0,0))):((((((w.setCell ⟨J,9,none⟩ (.int .i64 z.h.dev)).setCell ⟨J,10,none⟩ (.int .i64 z.h.seq)).setCell ⟨J,11,none⟩ (.string z.h.sum)).setCell ⟨J,12,none⟩ (.int .i64 z.h.idx)).setCell ⟨J,13,none⟩ (.slice z.a1 z.h.ps.length z.c1)).setCell ⟨J,14,none⟩ (.slice z.a2 z.h.qs.length z.c2)).heap[J]? =some (.cells (fkRow dv v0 v1 z0 z) T (0,0)):=
 heap_setCell_same _ J 14 _ _ _ (heap_setCell_same _ J 13 _ _ _ (heap_setCell_same _ J 12 _ _ _ (heap_setCell_same _ J 11 _ _ _ (heap_setCell_same _ J 10 _ _ _ (heap_setCell_same _ J 9 _ _ _ hg)))))
theorem fk15 {w:World} {J:Nat} {c0 c1 c2 c3 c4 c5 c6 c7 c8 c9 c10 c11 c12 c13 c14:Value} {T:TypeId} (h:w.heap[J]? =some (.cells #[c0,c1,c2,c3,c4,c5,c6,c7,c8,c9,c10,c11,c12,c13,c14] T (0,0))):w.cell? ⟨J,0,none⟩=some c0∧w.cell? ⟨J,1,none⟩=some c1∧w.cell? ⟨J,2,none⟩=some c2∧w.cell? ⟨J,3,none⟩=some c3∧w.cell? ⟨J,4,none⟩=some c4∧w.cell? ⟨J,5,none⟩=some c5∧w.cell? ⟨J,6,none⟩=some c6∧w.cell? ⟨J,7,none⟩=some c7∧w.cell? ⟨J,8,none⟩=some c8∧w.cell? ⟨J,9,none⟩=some c9∧w.cell? ⟨J,10,none⟩=some c10∧w.cell? ⟨J,11,none⟩=some c11∧w.cell? ⟨J,12,none⟩=some c12∧w.cell? ⟨J,13,none⟩=some c13∧w.cell? ⟨J,14,none⟩=some c14:=
 ⟨cr h,cr h,cr h,cr h,cr h,cr h,cr h,cr h,cr h,cr h,cr h,cr h,cr h,cr h,cr h⟩
set_option maxRecDepth 100000 in
set_option maxHeartbeats 4000000 in
theorem forks_any {G:Nat→Nat} {s p:Nat} {B H:Int} {ls:List Lin} (hl:ls.length≤12) (hmx:(∀l ∈ ls,∀f,l.fork=some f→(f.l0.length≤1000000∧f.l1.length≤1000000)∧((∀e ∈ f.l0,e.body.length≤1000000000)∧ ∀e ∈ f.l1,e.body.length≤1000000000)∧(f.h0.ps.length≤100000000∧f.h0.qs.length≤100000000)∧(f.h1.ps.length≤100000000∧f.h1.qs.length≤100000000))) (w:World) (h:StoreAt w G s p B H ls):
    Calls Tryz.prog 66 #[.pointer (some ⟨p,0,none⟩)] w fun e w'=> ∃(v:Value) (xs:List FV),e= .returned v∧w'.ownsRow w.heap.size 130 15 v xs.length (fvs xs)∧xs.map FV.f=ls.filterMap Lin.fork∧(∀x ∈ xs,x.ok w')∧Below w.heap.size w w':=by
 obtain ⟨vr,gs,h⟩:=h
 have HS:=hid h
 obtain ⟨_,a0,cap,rfl,hca,hnil,hpt⟩:=ptrs_of_own h.lines
 have hlen:=h.len
 have HLE:Hid (gs.length=ls.length):=hid hlen
 obtain ⟨c0,c1,c2,cf⟩:=store_cells h.row
 obtain ⟨n,hn⟩:=ex_eq gs.length
 rw [hn] at c2
 have HNE:=hid hn
 have HNL:Hid (ls.length=n):=hid (by omega)
 have hn12:n≤12:=by omega
 have hMX:=hid hmx
 clear hlen hpt hnil hca hn hl h hmx cf c0 c1
 go_enter Tryz.func66,Tryz.ntmps66
 go_upto_region 3 with fail
 obtain ⟨M,hM⟩:=ex_eq w.heap.size
 have HM:=hid hM
 clear hM c2
 go_loopw [13,3] (fun z v3 wr=> ∃k:Nat,k≤n∧z= .int .i64 (k:Int)∧Hid (∃xs,wr.ownsRow M 130 15 v3 xs.length (fvs xs)∧xs.map FV.f=(ls.take k).filterMap Lin.fork∧ ∀x ∈ xs,FSt wr v3 x)∧Hid (Below M w wr)) (fun z _ _=>n - (intOf z).toNat)
 case atStart=>exact ⟨0,by omega,rfl,hid ⟨[],World.ownsRow_nil _ _ _ _,by simp,by simp⟩,hid (Below.refl _ _)⟩
 case round=>
  obtain ⟨k,hk,rfl,HX,HRW⟩:=hrel
  rename World=>wo
  by_cases hlt:k<n
  ·have hki:(k:Int)<(n:Int):=by omega
   have HKL:Hid (k<ls.length):=hid (by rw [HNL.o];exact hlt)
   have HLA:Hid (StoreR wo G s p B H ls (.slice a0 gs.length cap) gs):=hid (HS.o.later (by rw [HM.o];exact HRW.o))
   obtain ⟨_,a',cap',he,_,_,hpt⟩:=ptrs_of_own HLA.o.lines
   injection he with e1 e2 e3
   obtain ⟨b,hb,hck⟩:=hpt k (by rw [HNE.o];exact hlt)
   rw [← e1] at hb
   clear hpt e1 e2 e3
   obtain ⟨vl,vs,ss,hx,f0,f1,f2,f3,f4,f5,f6,f7,f8,f9,f10,f11,f12,f13,f14,hln⟩:=line_at HS.o k HKL.o
   obtain ⟨l,hll⟩: ∃l,l=ls[k]'HKL.o:=⟨_,rfl⟩
   rw [← hll] at hln
   have HMXL:=hid (hMX.o l (by rw [hll];exact List.getElem_mem _))
   have HLK:Hid (ls[k]'HKL.o=l):=hid hll.symm
   obtain ⟨g,hg⟩:=ex_eq (gs.getD k 0)
   rw [hg] at hck hln
   have HLR0:=hid hln
   have HGW:Hid (g<M):=hid (by rw [← HM.o];exact (gS hln.row).1)
   have HLR:Hid (∀V,Below M w V→V.heap[g]? =some (.cells (lineRow l.pub vl vs (l.sealed':Int) hx l.fork.isSome f0 f1 f2 f3 f4 f5 f6 f7 f8 f9 f10 f11 f12 f13 f14) 222 (0,0))):=hid (fun V hV=>(hV.block g HGW.o).trans HLR0.o.row)
   have HC2:=hid (store_cells HLA.o.row).2.2.1
   clear hln hll hg
   have c2:=HC2.o
   rw [HNE.o] at c2
   subst hb
   obtain ⟨_,_,_,_,_,l10,_⟩:=line_cells (HLR.o _ HRW.o)
   cases hf:l.fork with
   | none=>
     rw [hf] at l10
     have HE:Hid ((ls.take (k+1)).filterMap Lin.fork=(ls.take k).filterMap Lin.fork):=hid (take_fork_none HKL.o (by rw [HLK.o];exact hf))
     clear hf
     simp only [Option.isSome] at l10
     go_wp2_with fail
     go_roundw
     case rel=>exact ⟨k+1,hlt,by go_num,hid (by obtain ⟨xs,h1,h2,h3⟩:=HX.o;exact ⟨xs,h1,by rw [HE.o];exact h2,h3⟩),HRW⟩
     case measure=>simp [intOf];omega
   | some f=>
     have HE:Hid ((ls.take (k+1)).filterMap Lin.fork=(ls.take k).filterMap Lin.fork++[f]):=hid (take_fork_some HKL.o (by rw [HLK.o];exact hf))
     have HZ:=hid (HMXL.o f hf)
     obtain ⟨x,hxf,hxo,hxc⟩:=HLR0.o.fork_cells hf HZ.o.2.2.1 HZ.o.2.2.2
     rw [hf] at l10
     simp only [Option.isSome] at l10
     obtain ⟨dv,es0,es1,a0',c0,a1',c1,x0,x1⟩:=x
     have HXF:Hid (FV.f ⟨dv,es0,es1,a0',c0,a1',c1,x0,x1⟩=f):=hid hxf
     have HXO:=hid hxo
     have HFC:Hid (∀V,Below M w V→ ∀j,j<15→V.cell? ⟨g,11+j,none⟩=(FV.cells ⟨dv,es0,es1,a0',c0,a1',c1,x0,x1⟩)[j]?):=hid (fun V hV j hj=>by
      rw [← hxc j hj,World.cell?,World.cell?,hV.block g HGW.o])
     clear hf hxf hxo hxc
     have l11:=HFC.o _ HRW.o 0 (by decide)
     simp only [FV.cells,Nat.add_zero] at l11
     go_upto_region 7 with fail
     clear l11 l10 c2 hck
     refine wp_over (fun V=>Hid (V.heap[wo.heap.size]? =some (.cells (fkRow dv (.slice none 0 0) (.slice none 0 0) hvZero hvZero) 130 (0,0)))∧Hid (V.heap.size=wo.heap.size+1)∧Hid (Below wo.heap.size wo V)) ⟨heap_alloc_new _ _,by show _=_;simp,(Below.refl _ _).alloc (Nat.le_refl _) _⟩ ?_
     rintro W2 ⟨HG2,HZ2,HB2⟩
     obtain ⟨J,hJ⟩:=ex_eq wo.heap.size
     have HJ:=hid hJ
     rw [hJ] at HG2 HZ2 HB2 ⊢
     have HMJ:Hid (M≤J):=hid (by rw [← hJ,← HM.o];exact HRW.o.size)
     clear hJ
     obtain ⟨L0,hL0⟩:=ex_eq es0.length
     obtain ⟨L1,hL1⟩:=ex_eq es1.length
     have HE0:=hid hL0
     have HE1:=hid hL1
     have HFF:Hid (f.l0=es0∧f.l1=es1∧f.h0=x0.h∧f.h1=x1.h):=hid (by rw [← HXF.o];exact ⟨rfl,rfl,rfl,rfl⟩)
     have HZP0:Hid (x0.h.ps.length≤100000000∧x0.h.qs.length≤100000000):=hid (by rw [← HFF.o.2.2.1];exact HZ.o.2.2.1)
     have HZP1:Hid (x1.h.ps.length≤100000000∧x1.h.qs.length≤100000000):=hid (by rw [← HFF.o.2.2.2];exact HZ.o.2.2.2)
     have HXH0:Hid (∀V,Below M w V→HeadIn V x0):=hid (fun V hV=>HXO.o.2.2.1.later (by rw [HM.o];exact hV))
     have HXH1:Hid (∀V,Below M w V→HeadIn V x1):=hid (fun V hV=>HXO.o.2.2.2.later (by rw [HM.o];exact hV))
     have HZL0:Hid (L0≤1000000):=hid (by rw [← hL0,← HFF.o.1];exact HZ.o.1.1)
     have HZL1:Hid (L1≤1000000):=hid (by rw [← hL1,← HFF.o.2.1];exact HZ.o.1.2)
     have HZB0:Hid (∀e ∈ es0,e.body.length≤1000000000):=hid (by rw [← HFF.o.1];exact HZ.o.2.1.1)
     have HZB1:Hid (∀e ∈ es1,e.body.length≤1000000000):=hid (by rw [← HFF.o.2.1];exact HZ.o.2.1.2)
     have HXE0:Hid (∀V,Below M w V→EntsAt V a0' es0):=hid (fun V hV=>HXO.o.1.later (by rw [HM.o];exact hV))
     have HXE1:Hid (∀V,Below M w V→EntsAt V a1' es1):=hid (fun V hV=>HXO.o.2.1.later (by rw [HM.o];exact hV))
     go_upto_region 8 with fail
     go_loopw [28] (fun z wr=>(z= .int .i64 0∧Hid (wr.heap[J]? =some (.cells (fkRow dv (.slice none 0 0) (.slice none 0 0) hvZero hvZero) 130 (0,0)))∨z= .int .i64 1∧Hid (∃(y0:Nat) (z0:HV),wr.heap[J]? =some (.cells (fkRow dv (.slice (some ⟨y0,0,none⟩) L0 L0) (.slice none 0 0) z0 hvZero) 130 (0,0))∧z0.h=x0.h∧NLog wr (J+1) (some ⟨y0,0,none⟩) es0∧NHd wr (J+1) z0)∨z= .int .i64 2∧Hid (∃(y0 y1:Nat) (z0 z1:HV),wr.heap[J]? =some (.cells (fkRow dv (.slice (some ⟨y0,0,none⟩) L0 L0) (.slice (some ⟨y1,0,none⟩) L1 L1) z0 z1) 130 (0,0))∧z0.h=x0.h∧z1.h=x1.h∧NLog wr (J+1) (some ⟨y0,0,none⟩) es0∧NHd wr (J+1) z0∧NLog wr (J+1) (some ⟨y1,0,none⟩) es1∧NHd wr (J+1) z1))∧Hid (Below J W2 wr)∧Hid (J<wr.heap.size)) (fun z _=>(2 - intOf z).toNat)
     case atStart=>exact ⟨.inl ⟨rfl,HG2⟩,hid (Below.refl _ _),hid (by rw [HZ2.o];exact Nat.lt_succ_self _)⟩
     case round=>
      obtain ⟨hz,HR3,HJ3⟩:=hrel
      rcases hz with ⟨rfl,hS⟩ | ⟨rfl,hS⟩ | ⟨rfl,hS⟩
      ·have HRJ:=hS
       clear hS
       have HW3:Hid (Below M w wr):=hid (HRW.o.trans ((HB2.o.trans HR3.o).mono HMJ.o))
       have m1:wr.cell? ⟨g,12,none⟩=some (.slice a0' L0 c0):=(HFC.o _ HW3.o 1 (by decide)).trans (by show some (Value.slice a0' es0.length c0)=_;rw [HE0.o])
       have lf:=fun i=>frozen_of_row _ J i _ _ HRJ.o
       go_upto_region 11 with (first
        | (go_at_call 146
           (with_reducible refine (cloneLog_any a0' c0 L0 es0 HE0.o HZL0.o HZB0.o wr (HXE0.o _ HW3.o)).mono ?_)
           rintro e w4 ⟨y0,xs4,rfl,hz4,hr4,hb4,hn4,h4⟩
           have H4:Hid (Below wr.heap.size wr w4):=hid h4
           have HN4:Hid (NLog w4 (J+1) (some ⟨y0,0,none⟩) es0):=hid ⟨y0,L0,xs4,rfl,hz4,hr4,Nat.le_trans HJ3.o hb4,fun x hx=>(hn4 x hx).mono (Nat.le_succ_of_le HJ3.o)⟩
           clear hz4 hr4 hb4 hn4 h4 m1 lf
           have HRJ4:=hid ((H4.o.block J HJ3.o).trans HRJ.o)
           have lc:w4.cell? ⟨J,1,none⟩=some (.slice none 0 0):=cr HRJ4.o
           have lf:=fun i=>frozen_of_row _ J i _ _ HRJ4.o))
       clear lf lc
       refine wp_over (fun V=>Hid (V.heap[J]? =some (.cells (fkRow dv (.slice (some ⟨y0,0,none⟩) L0 L0) (.slice none 0 0) hvZero hvZero) 130 (0,0)))∧Hid (Chg (fun q _=>q=J) w4 V)) ⟨hid (heap_setCell_same _ J 1 _ _ _ HRJ4.o),hid (Chg.setCell1 (M:=fun q _=>q=J) _ _ _ _ rfl)⟩ ?_
       rintro V5 ⟨HR5,HC5⟩
       have HB5:Hid (Below J wr V5):=hid ((H4.o.mono (Nat.le_of_lt HJ3.o)).trans (HC5.o.below (Nat.le_trans (Nat.le_of_lt HJ3.o) H4.o.size) (fun k i hk e=>by omega)))
       have HW5:Hid (Below M w V5):=hid (HW3.o.trans (HB5.o.mono HMJ.o))
       have HJ5:Hid (J<V5.heap.size):=hid (Nat.lt_of_lt_of_le HJ3.o (Nat.le_trans H4.o.size HC5.o.size))
       have n0:V5.cell? ⟨g,14,none⟩=some (.int .i64 x0.h.dev):=(HFC.o _ HW5.o 3 (by decide)).trans rfl
       have n1:V5.cell? ⟨g,15,none⟩=some (.int .i64 x0.h.seq):=(HFC.o _ HW5.o 4 (by decide)).trans rfl
       have n2:V5.cell? ⟨g,16,none⟩=some (.string x0.h.sum):=(HFC.o _ HW5.o 5 (by decide)).trans rfl
       have n3:V5.cell? ⟨g,17,none⟩=some (.int .i64 x0.h.idx):=(HFC.o _ HW5.o 6 (by decide)).trans rfl
       have n4:V5.cell? ⟨g,18,none⟩=some (.slice x0.a1 x0.h.ps.length x0.c1):=(HFC.o _ HW5.o 7 (by decide)).trans rfl
       have n5:V5.cell? ⟨g,19,none⟩=some (.slice x0.a2 x0.h.qs.length x0.c2):=(HFC.o _ HW5.o 8 (by decide)).trans rfl
       have HSA:Hid (StrsAt V5 x0.a1 x0.h.ps):=hid (HXH0.o _ HW5.o).2.2.1
       have HSB:Hid (StrsAt V5 x0.a2 x0.h.qs):=hid (HXH0.o _ HW5.o).2.2.2
       have lf:=fun i=>frozen_of_row _ J i _ _ HR5.o
       go_upto_region 12 with (first
        | (go_at_call 147
           (with_reducible refine (cloneHead_any x0.h.dev x0.h.seq x0.h.sum x0.h.idx x0.a1 x0.h.ps.length x0.c1 x0.a2 x0.h.qs.length x0.c2 x0.h.ps x0.h.qs rfl rfl HZP0.o.1 HZP0.o.2 V5 HSA.o HSB.o).mono ?_)
           rintro e w6 ⟨a7,p7,a8,p8,rfl,_,_,hp6,hq6,hb7,hb8,h6⟩
           have HD6:Hid (NHd w6 (J+1) ⟨x0.h,a7,p7,a8,p8⟩):=hid ⟨(HXH0.o _ HW5.o).1,(HXH0.o _ HW5.o).2.1,hp6,hq6,fun ad e=>Nat.le_trans HJ5.o (hb7 ad e),fun ad e=>Nat.le_trans HJ5.o (hb8 ad e)⟩
           have H6:=hid h6
           have HR6:=hid ((h6.block J HJ5.o).trans HR5.o)
           clear hp6 hq6 hb7 hb8 h6 n0 n1 n2 n3 n4 n5 lf
           have n0:w6.cell? ⟨J,3,none⟩=some (.int .i64 hvZero.h.dev):=cr HR6.o
           have n1:w6.cell? ⟨J,4,none⟩=some (.int .i64 hvZero.h.seq):=cr HR6.o
           have n2:w6.cell? ⟨J,5,none⟩=some (.string hvZero.h.sum):=cr HR6.o
           have n3:w6.cell? ⟨J,6,none⟩=some (.int .i64 hvZero.h.idx):=cr HR6.o
           have n4:w6.cell? ⟨J,7,none⟩=some (.slice hvZero.a1 hvZero.h.ps.length hvZero.c1):=cr HR6.o
           have n5:w6.cell? ⟨J,8,none⟩=some (.slice hvZero.a2 hvZero.h.qs.length hvZero.c2):=cr HR6.o
           have lf:=fun i=>frozen_of_row _ J i _ _ HR6.o))
       clear lf n0 n1 n2 n3 n4 n5
       refine wp_over (fun V=>Hid (V.heap[J]? =some (.cells (fkRow dv (.slice (some ⟨y0,0,none⟩) L0 L0) (.slice none 0 0) ⟨x0.h,a7,p7,a8,p8⟩ hvZero) 130 (0,0)))∧Hid (Chg (fun q _=>q=J) w6 V)) ⟨hid (fk_put0 (z:=⟨x0.h,a7,p7,a8,p8⟩) HR6.o),hid ((((((Chg.setCell1 (M:=fun q _=>q=J) w6 J 3 _ rfl).setCell _ rfl).setCell _ rfl).setCell _ rfl).setCell _ rfl).setCell _ rfl)⟩ ?_
       rintro V7 ⟨HR7,HC7⟩
       have HB7:Hid (Below J wr V7):=hid (HB5.o.trans ((H6.o.mono (Nat.le_of_lt HJ5.o)).trans (HC7.o.below (Nat.le_trans (Nat.le_of_lt HJ5.o) H6.o.size) (fun k i hk e=>by omega))))
       have HJ7:Hid (J<V7.heap.size):=hid (Nat.lt_of_lt_of_le HJ5.o (Nat.le_trans H6.o.size HC7.o.size))
       have HN7:Hid (NLog V7 (J+1) (some ⟨y0,0,none⟩) es0):=hid (((HN4.o.chg HC5.o (fun k i hk _ e=>by omega)).later H6.o).chg HC7.o (fun k i hk _ e=>by omega))
       have HD7:Hid (NHd V7 (J+1) ⟨x0.h,a7,p7,a8,p8⟩):=hid (HD6.o.chg HC7.o (fun k i hk _ e=>by omega))
       go_wp2_with fail
       go_roundw
       case rel=>exact ⟨.inr (.inl ⟨by first | rfl | go_num,hid ⟨y0,⟨x0.h,a7,p7,a8,p8⟩,HR7.o,rfl,HN7.o,HD7.o⟩⟩),hid (HR3.o.trans HB7.o),HJ7⟩
       case measure=>simp [intOf]
      ·obtain ⟨y0,z0,hr0,hz0,hn0,hd0⟩:=hS.o
       have HZ0:=hid hz0
       have HN0:=hid hn0
       have HD0:=hid hd0
       have HRJ:=hid hr0
       clear hr0 hz0 hn0 hd0 hS
       have HW3:Hid (Below M w wr):=hid (HRW.o.trans ((HB2.o.trans HR3.o).mono HMJ.o))
       have m1:wr.cell? ⟨g,13,none⟩=some (.slice a1' L1 c1):=(HFC.o _ HW3.o 2 (by decide)).trans (by show some (Value.slice a1' es1.length c1)=_;rw [HE1.o])
       have lf:=fun i=>frozen_of_row _ J i _ _ HRJ.o
       go_upto_region 11 with (first
        | (go_at_call 146
           (with_reducible refine (cloneLog_any a1' c1 L1 es1 HE1.o HZL1.o HZB1.o wr (HXE1.o _ HW3.o)).mono ?_)
           rintro e w4 ⟨y1,xs4,rfl,hz4,hr4,hb4,hn4,h4⟩
           have H4:Hid (Below wr.heap.size wr w4):=hid h4
           have HN4:Hid (NLog w4 (J+1) (some ⟨y1,0,none⟩) es1):=hid ⟨y1,L1,xs4,rfl,hz4,hr4,Nat.le_trans HJ3.o hb4,fun x hx=>(hn4 x hx).mono (Nat.le_succ_of_le HJ3.o)⟩
           clear hz4 hr4 hb4 hn4 h4 m1 lf
           have HRJ4:=hid ((H4.o.block J HJ3.o).trans HRJ.o)
           have lc:w4.cell? ⟨J,2,none⟩=some (.slice none 0 0):=cr HRJ4.o
           have lf:=fun i=>frozen_of_row _ J i _ _ HRJ4.o))
       clear lf lc
       refine wp_over (fun V=>Hid (V.heap[J]? =some (.cells (fkRow dv (.slice (some ⟨y0,0,none⟩) L0 L0) (.slice (some ⟨y1,0,none⟩) L1 L1) z0 hvZero) 130 (0,0)))∧Hid (Chg (fun q _=>q=J) w4 V)) ⟨hid (heap_setCell_same _ J 2 _ _ _ HRJ4.o),hid (Chg.setCell1 (M:=fun q _=>q=J) _ _ _ _ rfl)⟩ ?_
       rintro V5 ⟨HR5,HC5⟩
       have HB5:Hid (Below J wr V5):=hid ((H4.o.mono (Nat.le_of_lt HJ3.o)).trans (HC5.o.below (Nat.le_trans (Nat.le_of_lt HJ3.o) H4.o.size) (fun k i hk e=>by omega)))
       have HW5:Hid (Below M w V5):=hid (HW3.o.trans (HB5.o.mono HMJ.o))
       have HJ5:Hid (J<V5.heap.size):=hid (Nat.lt_of_lt_of_le HJ3.o (Nat.le_trans H4.o.size HC5.o.size))
       have n0:V5.cell? ⟨g,20,none⟩=some (.int .i64 x1.h.dev):=(HFC.o _ HW5.o 9 (by decide)).trans rfl
       have n1:V5.cell? ⟨g,21,none⟩=some (.int .i64 x1.h.seq):=(HFC.o _ HW5.o 10 (by decide)).trans rfl
       have n2:V5.cell? ⟨g,22,none⟩=some (.string x1.h.sum):=(HFC.o _ HW5.o 11 (by decide)).trans rfl
       have n3:V5.cell? ⟨g,23,none⟩=some (.int .i64 x1.h.idx):=(HFC.o _ HW5.o 12 (by decide)).trans rfl
       have n4:V5.cell? ⟨g,24,none⟩=some (.slice x1.a1 x1.h.ps.length x1.c1):=(HFC.o _ HW5.o 13 (by decide)).trans rfl
       have n5:V5.cell? ⟨g,25,none⟩=some (.slice x1.a2 x1.h.qs.length x1.c2):=(HFC.o _ HW5.o 14 (by decide)).trans rfl
       have HSA:Hid (StrsAt V5 x1.a1 x1.h.ps):=hid (HXH1.o _ HW5.o).2.2.1
       have HSB:Hid (StrsAt V5 x1.a2 x1.h.qs):=hid (HXH1.o _ HW5.o).2.2.2
       have lf:=fun i=>frozen_of_row _ J i _ _ HR5.o
       go_upto_region 12 with (first
        | (go_at_call 147
           (with_reducible refine (cloneHead_any x1.h.dev x1.h.seq x1.h.sum x1.h.idx x1.a1 x1.h.ps.length x1.c1 x1.a2 x1.h.qs.length x1.c2 x1.h.ps x1.h.qs rfl rfl HZP1.o.1 HZP1.o.2 V5 HSA.o HSB.o).mono ?_)
           rintro e w6 ⟨a7,p7,a8,p8,rfl,_,_,hp6,hq6,hb7,hb8,h6⟩
           have HD6:Hid (NHd w6 (J+1) ⟨x1.h,a7,p7,a8,p8⟩):=hid ⟨(HXH1.o _ HW5.o).1,(HXH1.o _ HW5.o).2.1,hp6,hq6,fun ad e=>Nat.le_trans HJ5.o (hb7 ad e),fun ad e=>Nat.le_trans HJ5.o (hb8 ad e)⟩
           have H6:=hid h6
           have HR6:=hid ((h6.block J HJ5.o).trans HR5.o)
           clear hp6 hq6 hb7 hb8 h6 n0 n1 n2 n3 n4 n5 lf
           have n0:w6.cell? ⟨J,9,none⟩=some (.int .i64 hvZero.h.dev):=cr HR6.o
           have n1:w6.cell? ⟨J,10,none⟩=some (.int .i64 hvZero.h.seq):=cr HR6.o
           have n2:w6.cell? ⟨J,11,none⟩=some (.string hvZero.h.sum):=cr HR6.o
           have n3:w6.cell? ⟨J,12,none⟩=some (.int .i64 hvZero.h.idx):=cr HR6.o
           have n4:w6.cell? ⟨J,13,none⟩=some (.slice hvZero.a1 hvZero.h.ps.length hvZero.c1):=cr HR6.o
           have n5:w6.cell? ⟨J,14,none⟩=some (.slice hvZero.a2 hvZero.h.qs.length hvZero.c2):=cr HR6.o
           have lf:=fun i=>frozen_of_row _ J i _ _ HR6.o))
       clear lf n0 n1 n2 n3 n4 n5
       refine wp_over (fun V=>Hid (V.heap[J]? =some (.cells (fkRow dv (.slice (some ⟨y0,0,none⟩) L0 L0) (.slice (some ⟨y1,0,none⟩) L1 L1) z0 ⟨x1.h,a7,p7,a8,p8⟩) 130 (0,0)))∧Hid (Chg (fun q _=>q=J) w6 V)) ⟨hid (fk_put1 (z:=⟨x1.h,a7,p7,a8,p8⟩) HR6.o),hid ((((((Chg.setCell1 (M:=fun q _=>q=J) w6 J 9 _ rfl).setCell _ rfl).setCell _ rfl).setCell _ rfl).setCell _ rfl).setCell _ rfl)⟩ ?_
       rintro V7 ⟨HR7,HC7⟩
       have HB7:Hid (Below J wr V7):=hid (HB5.o.trans ((H6.o.mono (Nat.le_of_lt HJ5.o)).trans (HC7.o.below (Nat.le_trans (Nat.le_of_lt HJ5.o) H6.o.size) (fun k i hk e=>by omega))))
       have HJ7:Hid (J<V7.heap.size):=hid (Nat.lt_of_lt_of_le HJ5.o (Nat.le_trans H6.o.size HC7.o.size))
       have HN7:Hid (NLog V7 (J+1) (some ⟨y1,0,none⟩) es1):=hid (((HN4.o.chg HC5.o (fun k i hk _ e=>by omega)).later H6.o).chg HC7.o (fun k i hk _ e=>by omega))
       have HD7:Hid (NHd V7 (J+1) ⟨x1.h,a7,p7,a8,p8⟩):=hid (HD6.o.chg HC7.o (fun k i hk _ e=>by omega))
       have HN07:Hid (NLog V7 (J+1) (some ⟨y0,0,none⟩) es0):=hid ((((HN0.o.later H4.o).chg HC5.o (fun k i hk _ e=>by omega)).later H6.o).chg HC7.o (fun k i hk _ e=>by omega))
       have HD07:Hid (NHd V7 (J+1) z0):=hid ((((HD0.o.later H4.o).chg HC5.o (fun k i hk _ e=>by omega)).later H6.o).chg HC7.o (fun k i hk _ e=>by omega))
       go_wp2_with fail
       go_roundw
       case rel=>exact ⟨.inr (.inr ⟨by first | rfl | go_num,hid ⟨y0,y1,z0,⟨x1.h,a7,p7,a8,p8⟩,HR7.o,HZ0.o,rfl,HN07.o,HD07.o,HN7.o,HD7.o⟩⟩),hid (HR3.o.trans HB7.o),HJ7⟩
       case measure=>simp [intOf]
      ·obtain ⟨y0,y1,z0,z1,hr,hz0,hz1,hn0,hd0,hn1,hd1⟩:=hS.o
       have HW3:Hid (Below M w wr):=hid (HRW.o.trans ((HB2.o.trans HR3.o).mono HMJ.o))
       obtain ⟨q0,q1,q2,q3,q4,q5,q6,q7,q8,q9,q10,q11,q12,q13,q14⟩:=fk15 hr
       obtain ⟨xs,hxs,hxm,hxf⟩:=HX.o
       have HBX:Hid (Below wo.heap.size wo wr):=hid (by rw [HJ.o];exact HB2.o.trans HR3.o)
       have HXS:=hid (own_later hxs HBX.o)
       have HXF2:Hid (∀x ∈ xs,FSt wr u3 x):=hid (fun x hx=>(hxf x hx).later HBX.o)
       have HOB:Hid (∀q,u3.ownBlock=some q→q<J+1):=hid (fun q hq=>by have:=(hxs.lt q hq).2;have:=HJ.o;omega)
       have HXL:Hid (xs.length≤12):=hid (by
        have h1:=congrArg List.length hxm
        have h2:=List.length_filterMap_le Lin.fork (ls.take k)
        rw [List.length_map] at h1
        rw [List.length_take] at h2
        omega)
       have HXM:=hid hxm
       have HNK:Hid (NFk wr (J+1) ⟨dv,es0,es1,some ⟨y0,0,none⟩,L0,some ⟨y1,0,none⟩,L1,z0,z1⟩):=hid ⟨hn0,hn1,hd0,hd1⟩
       have HFV:Hid (FV.f ⟨dv,es0,es1,some ⟨y0,0,none⟩,L0,some ⟨y1,0,none⟩,L1,z0,z1⟩=f):=hid (by rw [← HXF.o];show Frk.mk dv es0 es1 z0.h z1.h=Frk.mk dv es0 es1 x0.h x1.h;rw [hz0,hz1])
       have HMW:Hid (M≤wr.heap.size):=hid (by have:=HMJ.o;have:=HJ3.o;omega)
       clear hr hz0 hz1 hn0 hd0 hn1 hd1 hxs hxm hxf HX
       subst hL0
       subst hL1
       go_upto_region 14 with (first
        | (at_builtin
           refine app_fork (w0:=wr) rfl _ _ rfl M u3 xs.length xs (by rfl) HXS.o HMW.o (by have:=HXL.o;omega) ⟨dv,es0,es1,some ⟨y0,0,none⟩,es0.length,some ⟨y1,0,none⟩,es1.length,z0,z1⟩ 1 (by rfl) ?_
           intro bl cap4 w4 ho4 hg4 hat4
           have HO4:=hid ho4
           have HC4:Hid (Chg (fun q _=>some q=u3.ownBlock) wr w4):=hid ((Chg.alloc1 wr _).trans (Chg.of_grown hg4 (fun q _ e=>e.symm)))
           have HAT4:Hid (some bl=u3.ownBlock∨wr.heap.size≤bl):=hid (hat4.imp id (fun h=>by omega))
           clear ho4 hg4 hat4 q0 q1 q2 q3 q4 q5 q6 q7 q8 q9 q10 q11 q12 q13 q14))
       go_wp2_with fail
       go_roundw
       case rel=>
        refine ⟨k+1,hlt,by go_num,hid ⟨xs++[⟨dv,es0,es1,some ⟨y0,0,none⟩,es0.length,some ⟨y1,0,none⟩,es1.length,z0,z1⟩],by rw [List.length_append];exact HO4.o,by rw [List.map_append,HXM.o,HE.o,List.map_cons,HFV.o];rfl,fun x hx=> ?_⟩,hid (HW3.o.trans (HC4.o.below HMW.o (fun q i hq e=>by have:=(HXS.o.lt q e.symm).1;omega)))⟩
        rcases List.mem_append.1 hx with h | h
        ·exact (HXF2.o x h).put HC4.o HAT4.o
        ·rw [List.mem_singleton.1 h]
         exact FSt.new HNK.o HOB.o HC4.o HAT4.o
       case measure=>simp [intOf];omega
  ·have hki: ¬(k:Int)<(n:Int):=by omega
   have hke:k=n:=by omega
   subst hke
   go_wp2_with fail
   go_ret
   obtain ⟨xs,h1,h2,h3⟩:=HX.o
   exact ⟨u3,rfl,xs,by rw [HM.o];exact h1,by rw [← HNL.o,List.take_length] at h2;exact h2,fun x hx=>(h3 x hx).ok,by rw [HM.o];exact HRW.o⟩
end Go.Proofs.YtndlihclgdkpaaaGreatDoor
