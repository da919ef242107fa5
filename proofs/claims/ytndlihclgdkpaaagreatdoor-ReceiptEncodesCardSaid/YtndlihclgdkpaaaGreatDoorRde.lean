/- wire.Reader: Fail, End; NewReader; gossip.readUint. -/
import Derived.Test.YtndlihclgdkpaaaGreatDoorRdm
set_option linter.unusedVariables false
set_option linter.unusedSimpArgs false
open Go.Lib (hid)
set_option maxHeartbeats 1000000
set_option maxRecDepth 100000
namespace Go.Proofs.YtndlihclgdkpaaaGreatDoor
open Go.RowKit
open Kit (Chg)
open Sha (v)
open Go.Proofs.YtndlihclgdkpaaaGreatDoor.One

theorem fail_any (p:Nat) (D:List Nat) (bs:List Nat) (hl:D.length≤1000000000) (w:World) (hR:RdAt w p D (some bs)):
    Calls Tryz.prog 203 #[.pointer (some ⟨p,0,none⟩)] w fun e w'=>e= .returned (.tuple #[])∧RdAt w' p D none∧Chg (RdM p) w w':=by
 obtain ⟨ad,c,off,last,er,hrow,hdat,hst⟩:=hR.parts hl
 obtain ⟨rfl,_⟩:=hst
 have HRW:=hid hrow
 have HD:=hid hdat
 obtain ⟨c0,c1,c2,c3,cf⟩:=hrow.cells
 have f1:=cf 1
 have f3:=cf 3
 have HC:Hid (Chg (RdM p) w ((w.setCell ⟨p,3,none⟩ (.int .i64 3)).setCell ⟨p,1,none⟩ (.int .i64 last))):=hid (((Chg.refl (RdM p) w).setCell _ (rfl:p=p)).setCell _ (rfl:p=p))
 clear hR hrow hdat cf
 go_enter Tryz.func203,Tryz.ntmps203
 go_wp2_with fail
 go_end0
 exact ⟨rfl,.make ((HRW.o.put3 3).put1 last) (HD.o.chg HC.o) (show (3:Int)≠0 by decide),HC.o⟩
def EndOut (s:RS) (e:Ending):Prop:= ∃(x er:Int),e= .returned (.tuple #[.int .i64 x,.int .i64 er])∧(er=0↔s=some [])
theorem end_any (p:Nat) (D:List Nat) (s:RS) (hl:D.length≤1000000000) (w:World) (hR:RdAt w p D s):
    Calls Tryz.prog 113 #[.pointer (some ⟨p,0,none⟩)] w fun e w'=>EndOut s e∧Below w.heap.size w w':=by
 obtain ⟨ad,c,off,last,er,hrow,hdat,hst⟩:=hR.parts hl
 have HRW:=hid hrow
 have HST:=hid hst
 have HD:=hid hdat
 have HSS:Hid (∀V,Below w.heap.size w V→(V.cell? ⟨p,0,none⟩=some (.slice ad D.length c)∧V.cell? ⟨p,1,none⟩=some (.int .i64 off)∧V.cell? ⟨p,3,none⟩=some (.int .i64 er))):=hid (fun V h=>by
  obtain ⟨c0,c1,_,c3,_⟩:=(HRW.o.later h HRW.o.lt).cells
  exact ⟨c0,c1,c3⟩)
 obtain ⟨c0,c1,c3⟩:=HSS.o _ (Below.refl _ _)
 have HB1:Hid (Below w.heap.size w w.drew):=hid (Below.refl _ _).drew
 have HB2:Hid (Below w.heap.size w w.drew.drew):=hid (Below.refl _ _).drew.drew
 clear hR hrow hdat hst
 cases s with
 | none=>
   have HE:Hid (er≠0):=HST
   have hb:(er != 0)=true:=by rw [bne_iff_ne];exact HE.o
   go_enter Tryz.func113,Tryz.ntmps113
   go_upto_region 2 with fail
   refine Kit.wp_region_gplan (fun V=>V.cell? ⟨p,0,none⟩=some (.slice ad D.length c)∧V.cell? ⟨p,1,none⟩=some (.int .i64 off)∧V.cell? ⟨p,3,none⟩=some (.int .i64 er)) [(true,0),(true,1),(true,2),(true,3),(true,4),(true,5),(true,6),(true,7),(true,8),(true,9)] (by kernel_rfl) (by kernel_rfl) (by kernel_rfl) (by kernel_rfl) (HSS.o _ HB1.o) ?_
   iterate 10 (refine Kit.ghd (h:= ?_))
   refine Kit.gdn (h:=?_)
   go_wp2_with fail
   go_ret2
   exact ⟨⟨off,er,rfl,⟨fun h=>absurd h HE.o,(fun h=>by cases h)⟩⟩,HB1.o⟩
 | some bs=>
   obtain ⟨rfl,o,rfl,ho,hdrop⟩:=HST.o
   have HLEN:Hid (bs.length=D.length - o):=hid (by rw [← hdrop,List.length_drop])
   clear hdrop
   by_cases hlt:o<D.length
   ·have hlti:(o:Int)<(D.length:Int):=by omega
    have HN:Hid (some bs≠some ([]:List Nat)):=hid (fun h=>by
     have h1:=HLEN.o
     have h2:=Option.some.inj h
     rw [h2] at h1
     simp at h1
     omega)
    clear hlt ho
    go_enter Tryz.func113,Tryz.ntmps113
    go_upto_region 3 with fail
    refine Kit.wp_region_gplan (fun V=>V.cell? ⟨p,0,none⟩=some (.slice ad D.length c)∧V.cell? ⟨p,1,none⟩=some (.int .i64 (o:Int))∧V.cell? ⟨p,3,none⟩=some (.int .i64 0)) [(true,0),(true,1),(true,2),(true,3),(true,4),(true,5),(true,6),(true,7),(true,8),(true,9)] (by kernel_rfl) (by kernel_rfl) (by kernel_rfl) (by kernel_rfl) (HSS.o _ HB1.o) ?_
    iterate 10 (refine Kit.ghd (h:= ?_))
    refine Kit.gdn (h:=?_)
    obtain ⟨c0,c1,c3⟩:=HSS.o _ HB1.o
    go_wp2_with fail
    go_ret2
    exact ⟨⟨o,3,rfl,⟨(fun h=>by cases h),fun h=>absurd h HN.o⟩⟩,HB1.o⟩
   ·have hlti: ¬(o:Int)<(D.length:Int):=by omega
    have HN:Hid (some bs=some ([]:List Nat)):=hid (by
     have h1:=HLEN.o
     rw [List.eq_nil_of_length_eq_zero (show bs.length=0 by omega)])
    clear hlt ho
    go_enter Tryz.func113,Tryz.ntmps113
    go_upto_region 3 with fail
    refine Kit.wp_region_gplan (fun V=>V.cell? ⟨p,0,none⟩=some (.slice ad D.length c)∧V.cell? ⟨p,1,none⟩=some (.int .i64 (o:Int))∧V.cell? ⟨p,3,none⟩=some (.int .i64 0)) [(true,0),(true,1),(true,2),(true,3),(true,4),(true,5),(true,6),(true,7),(true,8),(true,9)] (by kernel_rfl) (by kernel_rfl) (by kernel_rfl) (by kernel_rfl) (HSS.o _ HB1.o) ?_
    iterate 10 (refine Kit.ghd (h:= ?_))
    refine Kit.gdn (h:=?_)
    obtain ⟨c0,c1,c3⟩:=HSS.o _ HB1.o
    go_wp2_with fail
    go_ret2
    exact ⟨⟨o,0,rfl,fun _=>HN.o,fun _=>rfl⟩,HB1.o⟩
theorem newReader_any (a:Option Addr) (n c:Nat) (bs:List Nat) (hn:bs.length=n) (hl:n≤100000000) (hnil:a=none→c=0) (w:World) (hB:BytesAt w a bs):
    Calls Tryz.prog 109 #[.slice a n c] w fun e w'=> ∃p,e= .returned (.pointer (some ⟨p,0,none⟩))∧w.heap.size≤p∧RdAt w' p bs (some bs)∧Below w.heap.size w w':=by
 have HN:=hid hn
 have HB:=hid hB
 have HNIL:=hid hnil
 obtain ⟨N,hN⟩:=ex_eq w.heap.size
 have HNN:=hid hN
 have HW:Hid (N≤w.heap.size):=hid (by omega)
 have HE:=hid (own_empty (w:=w) (base:=N) HW.o)
 have HBE:Hid (Below N w (w.alloc (.cells #[] 5))):=hid ((Below.refl _ _).alloc HW.o _)
 clear hn hB hnil hN
 go_enter Tryz.func109,Tryz.ntmps109
 go_wp2_with (first
  | (at_builtin
     refine app_bytes rfl _ _ rfl N _ 0 [] (by rfl) HE.o (by have:=HBE.o.size;have:=HNN.o;omega) (by omega) a n c bs HN.o (by omega) (by rfl) (HB.o.later (by rw [HNN.o];exact HBE.o)) HNIL.o ?_
     intro v1 w1 ho1 hb1
     have HO1:=hid ho1
     have HB1:=hid (HBE.o.trans hb1)
     clear ho1 hb1
     have hown:=HO1.o
     rw [List.nil_append] at hown
     obtain ⟨az,cz,hv1,hlit,hbz,hnz,hgz,hcz⟩:=own_slice hown HB.o.2.1 HB.o.2.2
     subst hv1
     have HBZ:=hid hbz
     have HNZ:=hid hnz
     have HGZ:=hid hgz
     have HCZ:=hid hcz
     clear hown hlit hbz hnz hgz hcz))
 have HROW:Hid (RdRow (w1.alloc (.cells #[.slice az bs.length cz,.int .i64 0,.int .i64 0,.int .i64 0] 268)) w1.heap.size az bs.length cz 0 0 0):=hid (heap_alloc_new _ _)
 have HBB:Hid (Below w1.heap.size w1 (w1.alloc (.cells #[.slice az bs.length cz,.int .i64 0,.int .i64 0,.int .i64 0] 268))):=hid ((Below.refl _ _).alloc (Nat.le_refl _) _)
 go_ret
 refine ⟨w1.heap.size,rfl,?_,.make HROW.o ⟨rfl,by have:=HN.o;omega,HCZ.o,HNZ.o,HBZ.o.later HBB.o,fun h x e=> ?_⟩ ⟨rfl,0,rfl,Nat.zero_le _,List.drop_zero⟩,?_⟩
 ·have:=HB1.o.size;have:=HNN.o;omega
 ·have h1:=HBZ.o.blk x e h
  omega
 ·rw [HNN.o];exact HB1.o.trans (HBB.o.mono (by have:=HB1.o.size;have:=HNN.o;omega))
theorem rdU_some' (m:Nat) (bs:List Nat):rdU m (some bs)=match rdLim m bs with | some (n,r)=>(n,some r) | none=>(0,none):=rfl
theorem rdLim_eq (m:Nat) (bs:List Nat):(match rdLim m bs with | some (n,r)=>(n,some r) | none=>(0,none):Nat × RS)=match rdNum bs with | some (n,r)=>if n≤m then (n,some r) else (0,none) | none=>(0,none):=by
 unfold rdLim
 cases rdNum bs with
 | none=>rfl
 | some x=>
   obtain ⟨n,r⟩:=x
   by_cases h:n≤m
   ·simp only [if_pos h]
   ·simp only [if_neg h]
end Go.Proofs.YtndlihclgdkpaaaGreatDoor
