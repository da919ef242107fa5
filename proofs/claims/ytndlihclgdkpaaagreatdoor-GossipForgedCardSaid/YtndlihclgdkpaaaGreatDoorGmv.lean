/- gossip: Missing, walked. -/
import Derived.Test.YtndlihclgdkpaaaGreatDoorGh
set_option linter.unusedVariables false
set_option linter.unusedSimpArgs false
open Go.Lib (hid)
namespace Go.Proofs.YtndlihclgdkpaaaGreatDoor
open Go.RowKit
open Kit (Chg)
open Sha (v)
open Go.Proofs.YtndlihclgdkpaaaGreatDoor.One

set_option maxRecDepth 100000 in
set_option maxHeartbeats 2000000 in
theorem missing_ok {G:Nat→Nat} {s p:Nat} {B H:Int} {ls:List Lin} (av:Option Addr) (cv LV:Nat) (zs:List Nat) (hLV:zs.length=LV) (hzl:LV≤ls.length) (hl:ls.length≤12) (hmx: ∀l ∈ ls,l.log.length≤4096∧l.sealed'≤l.log.length∧(∀e ∈ l.log,e.body.length≤1000000000)∧l.head.ps.length≤100000000∧l.head.qs.length≤100000000) (w:World) (hZ:IntsAt w av zs) (h:StoreAt w G s p B H ls):
    Calls Tryz.prog 58 #[.pointer (some ⟨p,0,none⟩),.slice av LV cv] w fun e w'=> ∃(v7 v8:Value) (xs:List EV) (ys:List HV),e= .returned (.tuple #[v7,v8,.int .i64 0])∧Got w' w.heap.size v7 v8 xs ys∧xs.map EV.e=missE ls zs ls.length∧ys.map HV.h=missH ls zs ls.length∧Below w.heap.size w w':=by
 have HZI:=hid hZ
 have HLV:=hid hLV
 have HCN:=hid (fun w h=>containsNeg_any av cv LV zs hLV (by omega) w h)
 obtain ⟨vr,gs,h⟩:=h
 have HS:=hid h
 obtain ⟨_,a0,cap,rfl,hca,hnil,hpt⟩:=ptrs_of_own h.lines
 have hlen:=h.len
 have HLE:Hid (gs.length=ls.length):=hid hlen
 obtain ⟨c0,c1,c2,cf⟩:=store_cells h.row
 have hgt: ¬(gs.length:Int)<(LV:Int):=by omega
 obtain ⟨n,hn⟩:=ex_eq gs.length
 rw [hn] at c2 hgt
 have HNE:=hid hn
 have HNL:Hid (ls.length=n):=hid (by omega)
 have hn12:n≤12:=by omega
 have hMX:=hid hmx
 clear hZ hLV hlen hpt hnil hca hn hl hzl h hmx cf c0 c1
 go_enter Tryz.func58,Tryz.ntmps58
 go_upto_region 6 with (first
  | (go_at_call 144
     (with_reducible refine (HCN.o _ HZI.o).mono ?_)
     rintro e w2 ⟨rfl,rfl⟩))
 obtain ⟨M,hM⟩:=ex_eq w.heap.size
 have HM:=hid hM
 clear hM c2
 go_loopw [29,7,8] (fun z v7 v8 wr=> ∃k:Nat,k≤n∧z= .int .i64 (k:Int)∧Hid (∃xs ys,Got wr M v7 v8 xs ys∧xs.map EV.e=missE ls zs k∧ys.map HV.h=missH ls zs k)∧Hid (Below M w wr)) (fun z _ _ _=>n - (intOf z).toNat)
 case atStart=>exact ⟨0,by omega,rfl,hid ⟨[],[],⟨World.ownsRow_nil _ _ _ _,World.ownsRow_nil _ _ _ _,by simp,by simp,by simp,by simp,by simp⟩,rfl,rfl⟩,hid (Below.refl _ _)⟩
 case round=>
  obtain ⟨k,hk,rfl,HX,HRW⟩:=hrel
  by_cases hlt:k<n
  ·have hki:(k:Int)<(n:Int):=by omega
   have HKL:Hid (k<ls.length):=hid (by rw [HNL.o];exact hlt)
   have HLA:Hid (StoreR wr G s p B H ls (.slice a0 gs.length cap) gs):=hid (HS.o.later (by rw [HM.o];exact HRW.o))
   obtain ⟨_,a',cap',he,_,_,hpt⟩:=ptrs_of_own HLA.o.lines
   injection he with e1 e2 e3
   obtain ⟨b,hb,hck⟩:=hpt k (by rw [HNE.o];exact hlt)
   rw [← e1] at hb
   clear hpt e1 e2 e3
   obtain ⟨vl,vs,ss,hx,f0,f1,f2,f3,f4,f5,f6,f7,f8,f9,f10,f11,f12,f13,f14,hln⟩:=line_at HS.o k HKL.o
   obtain ⟨l,hll⟩: ∃l,l=ls[k]'HKL.o:=⟨_,rfl⟩
   rw [← hll] at hln
   have HLI:Hid (ls[k]? =some l):=hid (by rw [lE HKL.o,hll])
   obtain ⟨hm1,hm2,hm3,hm4,hm5⟩:=hMX.o l (by rw [hll];exact List.getElem_mem _)
   obtain ⟨al,cl,rfl,hcl,hcm,hnl,hES,hoff⟩:=hln.log.ents
   obtain ⟨lg,hlg⟩:=ex_eq l.log
   rw [hlg] at hm1 hm2 hm3 hcl hES hln
   obtain ⟨L,hLe⟩:=ex_eq lg.length
   rw [hLe] at hm1 hm2 hcl hln
   have HLL:Hid (lg.length=L):=hid hLe
   have HES:=hid hES
   have HBD:=hid hm3
   obtain ⟨sd,hsd⟩:=ex_eq l.sealed'
   have HSD:=hid hsd
   have HLG:=hid hlg
   rw [hsd] at hm2
   obtain ⟨g,hg⟩:=ex_eq (gs.getD k 0)
   rw [hg] at hck hln
   have HLR0:=hid hln.row
   rw [hsd] at HLR0
   have HLR:Hid (∀V,Below M w V→V.heap[g]? =some (.cells (lineRow l.pub (.slice al L cl) vs (sd:Int) hx l.fork.isSome f0 f1 f2 f3 f4 f5 f6 f7 f8 f9 f10 f11 f12 f13 f14) 222 (0,0))):=hid (fun V hV=>(hV.block g (by rw [← HM.o];exact (gS HLR0.o).1)).trans HLR0.o)
   have HHK:Hid (hx.h=l.head):=hid hln.head
   have HHO:Hid (StrsAt w hx.a1 hx.h.ps∧StrsAt w hx.a2 hx.h.qs):=hid ⟨hln.hok.1,hln.hok.2.1⟩
   have HHL:Hid (hx.h.ps.length≤100000000∧hx.h.qs.length≤100000000):=hid (by rw [hln.head];exact ⟨hm4,hm5⟩)
   have HC2:=hid (store_cells HLA.o.row).2.2.1
   clear hln hll hm4 hm5 hm3 hlg hLe hES hsd hg hnl hcm
   have c2:=HC2.o
   rw [HNE.o] at c2
   subst hb
   by_cases hv:k<LV
   ·have hvi:(k:Int)<(LV:Int):=by omega
    obtain ⟨bz,oz,hbz,hcz⟩: ∃b o,av=some ⟨b,o,none⟩∧ ∀i,i<zs.length→wr.cell? ⟨b,o+i,none⟩=some (.int .i64 ((zs.getD i 0:Nat):Int)):=by
     rcases HZI.o.later (by rw [HM.o];exact HRW.o) with h | h
     ·have:=HLV.o;rw [h] at this;simp at this;omega
     ·exact h
    have hcz2:=hcz k (by rw [HLV.o];exact hv)
    clear hcz
    subst hbz
    obtain ⟨f,hf⟩:=ex_eq (zs.getD k 0)
    have HF:=hid hf
    rw [hf] at hcz2
    clear hf
    obtain ⟨_,l1,_,l3,_,_,_⟩:=line_cells (HLR.o _ HRW.o)
    by_cases hs:f<sd
    ·have hsi:(f:Int)<(sd:Int):=by omega
     go_upto_region 12 with fail
     obtain ⟨lb,hlb⟩: ∃lb,al=some ⟨lb,0,none⟩:=by
      rcases HES.o with h0 | ⟨b9,o9,e9,_⟩
      ·have h1:=HLL.o;rw [h0] at h1;simp at h1;omega
      ·have h1:o9=0:=(hoff _ e9).1
       subst h1
       exact ⟨b9,e9⟩
     clear hoff
     subst hlb
     have hslc: ∀W,(Instr.slice 111 (.slice (some ⟨lb,0,none⟩) L cl) (some (.int .i64 (f:Int))) (some (.int .i64 (sd:Int))) none).run Tryz.prog W= .ok (.slice (some ⟨lb,0+f*6,none⟩) (sd - f) (cl - f)) W:=fun W=>by
      have h1:=sliceE_lh (some ⟨lb,0,none⟩) L cl f sd (by omega) (by omega) W
      rw [sub6_some (by omega)] at h1
      exact h1
     refine Kit.wp_region_gplan (fun V=>V.cell? ⟨g,1,none⟩=some (.slice (some ⟨lb,0,none⟩) L cl)∧V.cell? ⟨g,3,none⟩=some (.int .i64 (sd:Int))) [(true,0),(true,1),(true,2),(true,3),(true,4),(true,5),(true,6),(true,7),(true,8),(true,9),(true,10),(false,11),(false,12),(true,13)] (by kernel_rfl) (by kernel_rfl) (by kernel_rfl) (by kernel_rfl) ⟨l1,l3⟩ ?_
     iterate 11 (refine Kit.ghd (h:= ?_))
     refine Kit.gplan_op (by rfl) (by rfl) fun K hK=> ?_
     go_simp
     clear hslc
     obtain ⟨xs,ys,hgt0,hxe,hye⟩:=HX.o
     have HGT:=hid hgt0
     have HXE:=hid hxe
     have HYE:=hid hye
     clear hgt0 hxe hye
     have HXB:Hid (xs.length≤1000000):=hid (by
      have h1:=congrArg List.length HXE.o
      rw [List.length_map] at h1
      have h2:=missE_len ls zs 4096 (fun l hl=>(hMX.o l hl).1) k
      omega)
     have HWD:Hid (Below M w wr.drew):=hid HRW.o.drew
     have HCL:Hid (EntsAt wr.drew (some ⟨lb,f*6,none⟩) ((lg.take sd).drop f)):=hid (by
      have h1:=ents_sub (cap:=cl) (HES.o.later (by rw [HM.o];exact HWD.o)) (by rw [HLL.o];omega) f sd
      rw [sub6_some (by omega),show 0+f*6=f*6 by omega] at h1
      exact h1)
     go_at_call 146
     with_reducible refine (cloneLog_any (some ⟨lb,f*6,none⟩) (cl - f) (sd - f) ((lg.take sd).drop f) (by rw [List.length_drop,List.length_take,HLL.o];omega) (by omega) (fun e he=>HBD.o e (List.mem_of_mem_take (List.mem_of_mem_drop he))) wr.drew HCL.o).mono ?_
     rintro e w4 ⟨bl4,zs4,rfl,hz4,hr4,hb4,hn4,h4⟩
     have HZ4:=hid hz4
     have HR4:=hid hr4
     have HB4:Hid (wr.heap.size≤bl4):=hid hb4
     have HN4:Hid (∀x ∈ zs4,NewE w4 (wr.heap.size+1) x):=hid hn4
     have H4:Hid (Below wr.heap.size wr w4):=hid ((Below.refl _ wr).drew.trans h4)
     clear hz4 hr4 hb4 hn4 h4
     have HW4:Hid (Below M w w4):=hid (HRW.o.trans (H4.o.mono (by rw [← HM.o];exact HRW.o.size)))
     have HG4:=hid (HGT.o.later H4.o)
     obtain ⟨_,l1',_,l3',_,_,_⟩:=line_cells (HLR.o w4 HW4.o)
     refine hK _ _ ⟨l1',l3'⟩ ?_
     clear hK K
     refine Kit.gplan_op (by rfl) (by rfl) fun K hK=> ?_
     have HZL:Hid (zs4.length=sd - f):=hid (by
      have h1:=congrArg List.length HZ4.o
      rw [List.length_map,List.length_drop,List.length_take,HLL.o] at h1
      omega)
     refine wp_app_ents (w0:=w4) (.tmp 48) (.tmp 59) (by rfl) M u7 xs.length xs (by rfl) HG4.o.es (by rw [← HM.o];exact HW4.o.size) HXB.o ⟨bl4,0,none⟩ (sd - f) (sd - f) zs4 (by rfl) HZL.o (by omega) (RowS.src HR4.o) (by omega) ?_
     intro bl5 cp5 w5 ho5 hg5 hat5
     have HG5:Hid (Got w5 M (.slice (some ⟨bl5,0,none⟩) (xs.length+(sd - f)) cp5) u8 (xs++zs4) ys):=hid (HG4.o.putE (by rw [List.length_append,HZL.o]) ho5 hg5 hat5 (fun z hz=>(HN4.o z hz).mono (Nat.le_succ_of_le (by rw [← HM.o];exact HRW.o.size))) (fun z hz hb ad e=>by
      have h1:=(HN4.o z hz).2.2 ad e
      exact ⟨fun e2=>by have:=(HGT.o.es.lt _ e2.symm).2;omega,fun e2=>by have:=(HGT.o.hs.lt _ e2.symm).2;omega⟩))
     have HW5:Hid (Below M w w5):=hid (HW4.o.trans ((Chg.of_grown hg5 (fun q _ e=>(HG4.o.es.lt q e).1):Chg (fun q _=>M≤q) w4 w5).below (by rw [← HM.o];exact HW4.o.size) (fun q i hq h=>by omega)))
     have HSZ5:Hid (wr.heap.size≤w5.heap.size):=hid (Nat.le_trans H4.o.size hg5.size)
     clear ho5 hg5 hat5 l1 l3 l1' l3'
     obtain ⟨_,l1,_,l3,_,_,_⟩:=line_cells (HLR.o w5 HW5.o)
     refine hK _ _ ⟨l1,l3⟩ ?_
     clear hK K
     iterate 1 (refine Kit.ghd (h:= ?_))
     refine Kit.gdn (h:=?_)
     obtain ⟨n5,hn5⟩:=ex_eq (xs.length+(sd - f))
     rw [hn5] at HG5 ⊢
     clear hn5 l1 l3
     obtain ⟨_,_,_,_,⟨g4,g5,g6,g7,g8,g9⟩,_,_⟩:=line_cells (HLR.o w5 HW5.o)
     have HSH:Hid (StrsAt w5 hx.a1 hx.h.ps∧StrsAt w5 hx.a2 hx.h.qs):=hid (by have hb:=HW5.o;rw [← HM.o] at hb;exact ⟨HHO.o.1.later hb,HHO.o.2.later hb⟩)
     have HYL:Hid (ys.length≤12):=hid (by
      have h1:=congrArg List.length HYE.o
      rw [List.length_map] at h1
      have h2:=missH_len ls zs k
      omega)
     obtain ⟨m8,hm8⟩:=ex_eq ys.length
     have HM8:=hid hm8
     go_upto_region 14 with (first
      | (go_at_call 147
         (with_reducible refine (cloneHead_any hx.h.dev hx.h.seq hx.h.sum hx.h.idx hx.a1 hx.h.ps.length hx.c1 hx.a2 hx.h.qs.length hx.c2 hx.h.ps hx.h.qs rfl rfl HHL.o.1 HHL.o.2 w5 HSH.o.1 HSH.o.2).mono ?_)
         rintro e w6 ⟨a7,cp7,a8,cp8,rfl,_,_,hp6,hq6,hb7,hb8,h6⟩
         have HP6:=hid hp6
         have HQ6:=hid hq6
         have HA7:=hid hb7
         have HA8:=hid hb8
         have H6:=hid h6
         have HG6:=hid (HG5.o.later h6)
         have HW6:Hid (Below M w w6):=hid (HW5.o.trans (h6.mono (by rw [← HM.o];exact HW5.o.size)))
         clear hp6 hq6 hb7 hb8 h6 g4 g5 g6 g7 g8 g9)
      | (at_builtin
         refine app_headAt (w0:=w6) rfl _ _ rfl M u8 ys.length ys (by rfl) HG6.o.hs (by rw [← HM.o];exact HW6.o.size) (by have:=HYL.o;omega) ⟨hx.h,a7,cp7,a8,cp8⟩ rfl 1 (by rfl) ?_
         intro bl7 cp9 w7 ho7 hg7 hat7
         have HG7:Hid (Got w7 M (.slice (some ⟨bl5,0,none⟩) n5 cp5) (.slice (some ⟨bl7,0,none⟩) (ys.length+1) cp9) (xs++zs4) (ys++[⟨hx.h,a7,cp7,a8,cp8⟩])):=hid (HG6.o.putH rfl ho7 hg7 hat7 ⟨HP6.o,HQ6.o,fun ad e=>by have:=HA7.o ad e;have:=HW5.o.size;have:=HM.o;omega,fun ad e=>by have:=HA8.o ad e;have:=HW5.o.size;have:=HM.o;omega⟩ (fun hb ad e=>by
          have h1:=HA7.o ad e
          exact ⟨fun e2=>by have:=(HG5.o.es.lt _ e2.symm).2;omega,fun e2=>by have:=(HG5.o.hs.lt _ e2.symm).2;omega⟩) (fun hb ad e=>by
          have h1:=HA8.o ad e
          exact ⟨fun e2=>by have:=(HG5.o.es.lt _ e2.symm).2;omega,fun e2=>by have:=(HG5.o.hs.lt _ e2.symm).2;omega⟩))
         have HW7:Hid (Below M w w7):=hid (HW6.o.trans (((Chg.alloc1 w6 _).trans (Chg.of_grown hg7 (fun q _ e=>(HG6.o.hs.lt q e).1)):Chg (fun q _=>M≤q) w6 w7).below (by rw [← HM.o];exact HW6.o.size) (fun q i hq h=>by omega)))
         clear ho7 hg7 hat7))
     have HPE:Hid (partE ls zs k=(lg.take sd).drop f∧partH ls zs k=[hx.h]):=hid (by unfold partE partH;rw [HLI.o];simp only;rw [HF.o,HSD.o,HLG.o,HHK.o,if_pos hs,if_pos hs];exact ⟨rfl,rfl⟩)
     clear hs hm8
     go_wp2_with fail
     go_roundw
     case rel=>exact ⟨k+1,hlt,by go_num,hid ⟨xs++zs4,ys++[⟨hx.h,a7,cp7,a8,cp8⟩],by rw [← HM8.o];exact HG7.o,by rw [List.map_append,HXE.o,HZ4.o,missE_succ,HPE.o.1],by rw [List.map_append,HYE.o,missH_succ,HPE.o.2];rfl⟩,HW7⟩
     case measure=>simp [intOf];omega
    ·have hsi: ¬(f:Int)<(sd:Int):=by omega
     have HPE:Hid (partE ls zs k=[]∧partH ls zs k=[]):=hid (by unfold partE partH;rw [HLI.o];simp only;rw [HF.o,HSD.o,if_neg hs,if_neg hs];exact ⟨rfl,rfl⟩)
     clear hs
     go_wp2_with fail
     go_roundw
     case rel=>exact ⟨k+1,hlt,by go_num,hid (by obtain ⟨xs,ys,h1,h2,h3⟩:=HX.o;exact ⟨xs,ys,h1,by rw [missE_succ,HPE.o.1,List.append_nil];exact h2,by rw [missH_succ,HPE.o.2,List.append_nil];exact h3⟩),HRW⟩
     case measure=>simp [intOf];omega
   ·have hvi: ¬(k:Int)<(LV:Int):=by omega
    have HF:Hid (zs.getD k 0=0):=hid (by rw [lD,List.getElem?_eq_none (by rw [HLV.o];omega)];rfl)
    obtain ⟨_,l1,_,l3,_,_,_⟩:=line_cells (HLR.o _ HRW.o)
    by_cases hs:0<sd
    ·have hsi:(0:Int)<(sd:Int):=by omega
     go_upto_region 12 with fail
     obtain ⟨lb,hlb⟩: ∃lb,al=some ⟨lb,0,none⟩:=by
      rcases HES.o with h0 | ⟨b9,o9,e9,_⟩
      ·have h1:=HLL.o;rw [h0] at h1;simp at h1;omega
      ·have h1:o9=0:=(hoff _ e9).1
       subst h1
       exact ⟨b9,e9⟩
     clear hoff
     subst hlb
     have hslc: ∀W,(Instr.slice 111 (.slice (some ⟨lb,0,none⟩) L cl) (some (.int .i64 0)) (some (.int .i64 (sd:Int))) none).run Tryz.prog W= .ok (.slice (some ⟨lb,0+0*6,none⟩) (sd) (cl)) W:=fun W=>by
      have h1:=sliceE_lh (some ⟨lb,0,none⟩) L cl 0 sd (by omega) (by omega) W
      rw [sub6_some (by omega)] at h1
      exact h1
     refine Kit.wp_region_gplan (fun V=>V.cell? ⟨g,1,none⟩=some (.slice (some ⟨lb,0,none⟩) L cl)∧V.cell? ⟨g,3,none⟩=some (.int .i64 (sd:Int))) [(true,0),(true,1),(true,2),(true,3),(true,4),(true,5),(true,6),(true,7),(true,8),(true,9),(true,10),(false,11),(false,12),(true,13)] (by kernel_rfl) (by kernel_rfl) (by kernel_rfl) (by kernel_rfl) ⟨l1,l3⟩ ?_
     iterate 11 (refine Kit.ghd (h:= ?_))
     refine Kit.gplan_op (by rfl) (by rfl) fun K hK=> ?_
     go_simp
     clear hslc
     obtain ⟨xs,ys,hgt0,hxe,hye⟩:=HX.o
     have HGT:=hid hgt0
     have HXE:=hid hxe
     have HYE:=hid hye
     clear hgt0 hxe hye
     have HXB:Hid (xs.length≤1000000):=hid (by
      have h1:=congrArg List.length HXE.o
      rw [List.length_map] at h1
      have h2:=missE_len ls zs 4096 (fun l hl=>(hMX.o l hl).1) k
      omega)
     have HWD:Hid (Below M w wr.drew):=hid HRW.o.drew
     have HCL:Hid (EntsAt wr.drew (some ⟨lb,0,none⟩) ((lg.take sd).drop 0)):=hid (by
      have h1:=ents_sub (cap:=cl) (HES.o.later (by rw [HM.o];exact HWD.o)) (by rw [HLL.o];omega) 0 sd
      rw [sub6_some (by omega),show 0+0*6=0 by omega] at h1
      exact h1)
     go_at_call 146
     with_reducible refine (cloneLog_any (some ⟨lb,0,none⟩) (cl) (sd) ((lg.take sd).drop 0) (by rw [List.length_drop,List.length_take,HLL.o];omega) (by omega) (fun e he=>HBD.o e (List.mem_of_mem_take (List.mem_of_mem_drop he))) wr.drew HCL.o).mono ?_
     rintro e w4 ⟨bl4,zs4,rfl,hz4,hr4,hb4,hn4,h4⟩
     have HZ4:=hid hz4
     have HR4:=hid hr4
     have HB4:Hid (wr.heap.size≤bl4):=hid hb4
     have HN4:Hid (∀x ∈ zs4,NewE w4 (wr.heap.size+1) x):=hid hn4
     have H4:Hid (Below wr.heap.size wr w4):=hid ((Below.refl _ wr).drew.trans h4)
     clear hz4 hr4 hb4 hn4 h4
     have HW4:Hid (Below M w w4):=hid (HRW.o.trans (H4.o.mono (by rw [← HM.o];exact HRW.o.size)))
     have HG4:=hid (HGT.o.later H4.o)
     obtain ⟨_,l1',_,l3',_,_,_⟩:=line_cells (HLR.o w4 HW4.o)
     refine hK _ _ ⟨l1',l3'⟩ ?_
     clear hK K
     refine Kit.gplan_op (by rfl) (by rfl) fun K hK=> ?_
     have HZL:Hid (zs4.length=sd):=hid (by
      have h1:=congrArg List.length HZ4.o
      rw [List.length_map,List.length_drop,List.length_take,HLL.o] at h1
      omega)
     refine wp_app_ents (w0:=w4) (.tmp 48) (.tmp 59) (by rfl) M u7 xs.length xs (by rfl) HG4.o.es (by rw [← HM.o];exact HW4.o.size) HXB.o ⟨bl4,0,none⟩ (sd) (sd) zs4 (by rfl) HZL.o (by omega) (RowS.src HR4.o) (by omega) ?_
     intro bl5 cp5 w5 ho5 hg5 hat5
     have HG5:Hid (Got w5 M (.slice (some ⟨bl5,0,none⟩) (xs.length+(sd)) cp5) u8 (xs++zs4) ys):=hid (HG4.o.putE (by rw [List.length_append,HZL.o]) ho5 hg5 hat5 (fun z hz=>(HN4.o z hz).mono (Nat.le_succ_of_le (by rw [← HM.o];exact HRW.o.size))) (fun z hz hb ad e=>by
      have h1:=(HN4.o z hz).2.2 ad e
      exact ⟨fun e2=>by have:=(HGT.o.es.lt _ e2.symm).2;omega,fun e2=>by have:=(HGT.o.hs.lt _ e2.symm).2;omega⟩))
     have HW5:Hid (Below M w w5):=hid (HW4.o.trans ((Chg.of_grown hg5 (fun q _ e=>(HG4.o.es.lt q e).1):Chg (fun q _=>M≤q) w4 w5).below (by rw [← HM.o];exact HW4.o.size) (fun q i hq h=>by omega)))
     have HSZ5:Hid (wr.heap.size≤w5.heap.size):=hid (Nat.le_trans H4.o.size hg5.size)
     clear ho5 hg5 hat5 l1 l3 l1' l3'
     obtain ⟨_,l1,_,l3,_,_,_⟩:=line_cells (HLR.o w5 HW5.o)
     refine hK _ _ ⟨l1,l3⟩ ?_
     clear hK K
     iterate 1 (refine Kit.ghd (h:= ?_))
     refine Kit.gdn (h:=?_)
     obtain ⟨n5,hn5⟩:=ex_eq (xs.length+(sd))
     rw [hn5] at HG5 ⊢
     clear hn5 l1 l3
     obtain ⟨_,_,_,_,⟨g4,g5,g6,g7,g8,g9⟩,_,_⟩:=line_cells (HLR.o w5 HW5.o)
     have HSH:Hid (StrsAt w5 hx.a1 hx.h.ps∧StrsAt w5 hx.a2 hx.h.qs):=hid (by have hb:=HW5.o;rw [← HM.o] at hb;exact ⟨HHO.o.1.later hb,HHO.o.2.later hb⟩)
     have HYL:Hid (ys.length≤12):=hid (by
      have h1:=congrArg List.length HYE.o
      rw [List.length_map] at h1
      have h2:=missH_len ls zs k
      omega)
     obtain ⟨m8,hm8⟩:=ex_eq ys.length
     have HM8:=hid hm8
     go_upto_region 14 with (first
      | (go_at_call 147
         (with_reducible refine (cloneHead_any hx.h.dev hx.h.seq hx.h.sum hx.h.idx hx.a1 hx.h.ps.length hx.c1 hx.a2 hx.h.qs.length hx.c2 hx.h.ps hx.h.qs rfl rfl HHL.o.1 HHL.o.2 w5 HSH.o.1 HSH.o.2).mono ?_)
         rintro e w6 ⟨a7,cp7,a8,cp8,rfl,_,_,hp6,hq6,hb7,hb8,h6⟩
         have HP6:=hid hp6
         have HQ6:=hid hq6
         have HA7:=hid hb7
         have HA8:=hid hb8
         have H6:=hid h6
         have HG6:=hid (HG5.o.later h6)
         have HW6:Hid (Below M w w6):=hid (HW5.o.trans (h6.mono (by rw [← HM.o];exact HW5.o.size)))
         clear hp6 hq6 hb7 hb8 h6 g4 g5 g6 g7 g8 g9)
      | (at_builtin
         refine app_headAt (w0:=w6) rfl _ _ rfl M u8 ys.length ys (by rfl) HG6.o.hs (by rw [← HM.o];exact HW6.o.size) (by have:=HYL.o;omega) ⟨hx.h,a7,cp7,a8,cp8⟩ rfl 1 (by rfl) ?_
         intro bl7 cp9 w7 ho7 hg7 hat7
         have HG7:Hid (Got w7 M (.slice (some ⟨bl5,0,none⟩) n5 cp5) (.slice (some ⟨bl7,0,none⟩) (ys.length+1) cp9) (xs++zs4) (ys++[⟨hx.h,a7,cp7,a8,cp8⟩])):=hid (HG6.o.putH rfl ho7 hg7 hat7 ⟨HP6.o,HQ6.o,fun ad e=>by have:=HA7.o ad e;have:=HW5.o.size;have:=HM.o;omega,fun ad e=>by have:=HA8.o ad e;have:=HW5.o.size;have:=HM.o;omega⟩ (fun hb ad e=>by
          have h1:=HA7.o ad e
          exact ⟨fun e2=>by have:=(HG5.o.es.lt _ e2.symm).2;omega,fun e2=>by have:=(HG5.o.hs.lt _ e2.symm).2;omega⟩) (fun hb ad e=>by
          have h1:=HA8.o ad e
          exact ⟨fun e2=>by have:=(HG5.o.es.lt _ e2.symm).2;omega,fun e2=>by have:=(HG5.o.hs.lt _ e2.symm).2;omega⟩))
         have HW7:Hid (Below M w w7):=hid (HW6.o.trans (((Chg.alloc1 w6 _).trans (Chg.of_grown hg7 (fun q _ e=>(HG6.o.hs.lt q e).1)):Chg (fun q _=>M≤q) w6 w7).below (by rw [← HM.o];exact HW6.o.size) (fun q i hq h=>by omega)))
         clear ho7 hg7 hat7))
     have HPE:Hid (partE ls zs k=(lg.take sd).drop 0∧partH ls zs k=[hx.h]):=hid (by unfold partE partH;rw [HLI.o];simp only;rw [HF.o,HSD.o,HLG.o,HHK.o,if_pos hs,if_pos hs];exact ⟨rfl,rfl⟩)
     clear hs hm8
     go_wp2_with fail
     go_roundw
     case rel=>exact ⟨k+1,hlt,by go_num,hid ⟨xs++zs4,ys++[⟨hx.h,a7,cp7,a8,cp8⟩],by rw [← HM8.o];exact HG7.o,by rw [List.map_append,HXE.o,HZ4.o,missE_succ,HPE.o.1],by rw [List.map_append,HYE.o,missH_succ,HPE.o.2];rfl⟩,HW7⟩
     case measure=>simp [intOf];omega
    ·have hsi: ¬(0:Int)<(sd:Int):=by omega
     have HPE:Hid (partE ls zs k=[]∧partH ls zs k=[]):=hid (by unfold partE partH;rw [HLI.o];simp only;rw [HF.o,HSD.o,if_neg hs,if_neg hs];exact ⟨rfl,rfl⟩)
     clear hs
     go_wp2_with fail
     go_roundw
     case rel=>exact ⟨k+1,hlt,by go_num,hid (by obtain ⟨xs,ys,h1,h2,h3⟩:=HX.o;exact ⟨xs,ys,h1,by rw [missE_succ,HPE.o.1,List.append_nil];exact h2,by rw [missH_succ,HPE.o.2,List.append_nil];exact h3⟩),HRW⟩
     case measure=>simp [intOf];omega
  ·have hki: ¬(k:Int)<(n:Int):=by omega
   have hke:k=n:=by omega
   subst hke
   go_wp2_with fail
   go_ret3
   obtain ⟨xs,ys,h1,h2,h3⟩:=HX.o
   exact ⟨u7,u8,rfl,xs,ys,by rw [HM.o];exact h1,by rw [HNL.o];exact h2,by rw [HNL.o];exact h3,by rw [HM.o];exact HRW.o⟩
end Go.Proofs.YtndlihclgdkpaaaGreatDoor
