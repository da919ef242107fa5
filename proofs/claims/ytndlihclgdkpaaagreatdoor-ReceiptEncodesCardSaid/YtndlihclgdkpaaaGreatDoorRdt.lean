/- wire.Reader: take, limited, block; what Bytes and Text decode. -/
import Derived.Lib.MinMax
import Derived.Test.YtndlihclgdkpaaaGreatDoorGl
import Derived.Test.YtndlihclgdkpaaaGreatDoorRdv
set_option linter.unusedVariables false
set_option linter.unusedSimpArgs false
open Go.Lib (hid)
set_option maxHeartbeats 1000000
set_option maxRecDepth 100000
namespace Go.Proofs.YtndlihclgdkpaaaGreatDoor
open Go.RowKit
open Kit (Chg)
open Sha (v)
open Go.Proofs.YtndlihclgdkpaaaGreatDoor.One

theorem take_bad (p:Nat) (ad:Option Addr) (c n:Nat) (hl:n≤1000000000) (o k:Nat) (ho:o≤n) (hk:n<o+k) (hk9:k≤1000000000) (last:Int) (w:World) (hr:RdRow w p ad n c (o:Int) last 0):
    Calls Tryz.prog 206 #[.pointer (some ⟨p,0,none⟩),.int .i64 (k:Int)] w fun e w'=>e= .returned (.tuple #[.slice none 0 0,.int .i64 3])∧RdRow w' p ad n c (o:Int) last 0∧Chg (RdM p) w w':=by
 have Hw:=hid hr
 have HCw:Hid (Chg (RdM p) w w):=hid (Chg.refl _ _)
 have hws:IntKind.i64.wrap ((n:Int) - (o:Int))=(n:Int) - (o:Int):=by rw [IntKind.wrap_i64];omega
 have hgt:(n:Int) - (o:Int)<(k:Int):=by omega
 clear hr
 have HSS:Hid (∀Q,Below w.heap.size w Q→(Q.cell? ⟨p,0,none⟩=some (.slice ad n c)∧Q.cell? ⟨p,1,none⟩=some (.int .i64 (o:Int)))):=hid (fun Q h=>by
  obtain ⟨c0,c1,_⟩:=(Hw.o.later h Hw.o.lt).cells
  exact ⟨c0,c1⟩)
 go_enter Tryz.func206,Tryz.ntmps206
 go_upto_region 1 with fail
 refine Kit.wp_region_gplan (fun V=>V.cell? ⟨p,0,none⟩=some (.slice ad n c)∧V.cell? ⟨p,1,none⟩=some (.int .i64 (o:Int))) [(true,0),(true,1),(true,2),(true,3),(true,4),(true,5),(true,6),(true,7),(true,8),(true,9),(true,10),(true,11)] (by kernel_rfl) (by kernel_rfl) (by kernel_rfl) (by kernel_rfl) (HSS.o _ (Below.refl _ _).drew) ?_
 iterate 12 (refine Kit.ghd (h:= ?_))
 refine Kit.gdn (h:=?_)
 have HV0:Hid (Below w.heap.size w w.drew):=hid (Below.refl _ _).drew
 obtain ⟨V,hV⟩:=ex_eq w.drew
 rw [hV] at HV0 ⊢
 have HV:Hid (RdRow V p ad n c (o:Int) last 0):=hid (Hw.o.later HV0.o Hw.o.lt)
 have HCV:Hid (Chg (RdM p) w V):=hid (HCw.o.trans (Chg.of_below' HV0.o (fun k i hk h=>absurd h (by omega))))
 clear hV HV0 Hw HCw HSS
 go_wp2_with fail
 go_ret2
 exact ⟨rfl,HV.o,HCV.o⟩
theorem take_good (p:Nat) (ad:Option Addr) (c n:Nat) (hl:n≤1000000000) (hc:n≤c) (o k:Nat) (hk:o+k≤n) (last:Int) (w:World) (hr:RdRow w p ad n c (o:Int) last 0):
    Calls Tryz.prog 206 #[.pointer (some ⟨p,0,none⟩),.int .i64 (k:Int)] w fun e w'=>e= .returned (.tuple #[.slice (subA ad o c) k (c - o),.int .i64 0])∧RdRow w' p ad n c ((o+k:Nat):Int) last 0∧Chg (RdM p) w w':=by
 have Hw:=hid hr
 have HCw:Hid (Chg (RdM p) w w):=hid (Chg.refl _ _)
 have hws:IntKind.i64.wrap ((n:Int) - (o:Int))=(n:Int) - (o:Int):=by rw [IntKind.wrap_i64];omega
 have hgt: ¬(n:Int) - (o:Int)<(k:Int):=by omega
 obtain ⟨q,hq⟩:=ex_eq (o+k)
 obtain ⟨sd,hsd⟩:=ex_eq (subA ad o c)
 obtain ⟨c',hc'⟩:=ex_eq (c - o)
 have hwq:IntKind.i64.wrap ((o:Int)+(k:Int))=(q:Int):=by rw [IntKind.wrap_i64];omega
 have hsl: ∀W,(Instr.slice 52 (.slice ad n c) (some (.int .i64 (o:Int))) (some (.int .i64 (q:Int))) none).run Tryz.prog W= .ok (.slice sd k c') W:=fun W=>by
  have h:=slice_lh ad n c o q (by omega) (by omega) W
  rw [hsd,hc',show q - o=k by omega] at h
  exact h
 rw [hq,hsd,hc']
 clear hr hq hsd hc'
 have HSS:Hid (∀Q,Below w.heap.size w Q→(Q.cell? ⟨p,0,none⟩=some (.slice ad n c)∧Q.cell? ⟨p,1,none⟩=some (.int .i64 (o:Int)))):=hid (fun Q h=>by
  obtain ⟨c0,c1,_⟩:=(Hw.o.later h Hw.o.lt).cells
  exact ⟨c0,c1⟩)
 go_enter Tryz.func206,Tryz.ntmps206
 go_upto_region 1 with fail
 refine Kit.wp_region_gplan (fun V=>V.cell? ⟨p,0,none⟩=some (.slice ad n c)∧V.cell? ⟨p,1,none⟩=some (.int .i64 (o:Int))) [(true,0),(true,1),(true,2),(true,3),(true,4),(true,5),(true,6),(true,7),(true,8),(true,9),(true,10),(true,11)] (by kernel_rfl) (by kernel_rfl) (by kernel_rfl) (by kernel_rfl) (HSS.o _ (Below.refl _ _).drew) ?_
 iterate 12 (refine Kit.ghd (h:= ?_))
 refine Kit.gdn (h:=?_)
 have HV0:Hid (Below w.heap.size w w.drew):=hid (Below.refl _ _).drew
 obtain ⟨V,hV⟩:=ex_eq w.drew
 rw [hV] at HV0 ⊢
 have HV:Hid (RdRow V p ad n c (o:Int) last 0):=hid (Hw.o.later HV0.o Hw.o.lt)
 have HCV:Hid (Chg (RdM p) w V):=hid (HCw.o.trans (Chg.of_below' HV0.o (fun k i hk h=>absurd h (by omega))))
 clear hV HV0 Hw HCw HSS
 have HSS:Hid (∀Q,Below V.heap.size V Q→(Q.cell? ⟨p,0,none⟩=some (.slice ad n c)∧Q.cell? ⟨p,1,none⟩=some (.int .i64 (o:Int)))):=hid (fun Q h=>by
  obtain ⟨c0,c1,_⟩:=(HV.o.later h HV.o.lt).cells
  exact ⟨c0,c1⟩)
 go_upto_region 3 with fail
 refine Kit.wp_region_gplan (fun V=>V.cell? ⟨p,0,none⟩=some (.slice ad n c)∧V.cell? ⟨p,1,none⟩=some (.int .i64 (o:Int))) [(true,0),(true,1),(true,2),(true,3),(true,4),(true,5),(true,6),(true,7),(true,8),(true,9),(true,10),(true,11),(true,12),(true,13),(true,14),(true,15)] (by kernel_rfl) (by kernel_rfl) (by kernel_rfl) (by kernel_rfl) (HSS.o _ (Below.refl _ _).drew) ?_
 iterate 16 (refine Kit.ghd (h:= ?_))
 refine Kit.gdn (h:=?_)
 have HV0:Hid (Below V.heap.size V V.drew):=hid (Below.refl _ _).drew
 obtain ⟨U,hV⟩:=ex_eq V.drew
 rw [hV] at HV0 ⊢
 have HU:Hid (RdRow U p ad n c (o:Int) last 0):=hid (HV.o.later HV0.o HV.o.lt)
 have HCU:Hid (Chg (RdM p) w U):=hid (HCV.o.trans (Chg.of_below' HV0.o (fun k i hk h=>absurd h (by omega))))
 clear hV HV0 HV HCV HSS
 obtain ⟨c0,c1,c2,c3,cf⟩:=HU.o.cells
 have f1:=cf 1
 clear cf c2 c3
 go_wp2_with fail
 go_ret2
 exact ⟨rfl,HU.o.put1 _,HCU.o.setCell _ rfl⟩
def LimOut (D:List Nat) (m o o':Nat) (u er:Int):Prop:=match rdLim m (D.drop o) with
 | some (v,r)=>u=(v:Int)∧er=0∧D.drop o'=r∧v≤m
 | none=>u=0∧er≠0
theorem limited_any (p:Nat) (ad:Option Addr) (c n:Nat) (D:List Nat) (hn:D.length=n) (hl:n≤1000000000) (m:Nat) (hm:m≤1000000000) (o:Nat) (ho:o≤n) (last:Int) (w:World) (hr:RdRow w p ad n c (o:Int) last 0) (hB:BytesAt w ad D) (hne:D≠[]→ ∀x,ad=some x→x.block≠p):
    Calls Tryz.prog 264 #[.pointer (some ⟨p,0,none⟩),.int .i64 (m:Int)] w fun e w'=> ∃(o':Nat) (u er:Int),e= .returned (.tuple #[.int .i64 u,.int .i64 er])∧o'≤n∧RdRow w' p ad n c (o':Int) last 0∧Chg (RdM p) w w'∧LimOut D m o o' u er:=by
 have HN:=hid (number_any p ad c n D hn hl o ho last w hr hB hne)
 have hmx:max (m:Int) 0=(m:Int):=by omega
 have hm0: ¬(m:Int)<0:=by omega
 have hm1: ¬(0:Int) > (m:Int):=by omega
 have hwm:IntKind.u64.wrap (m:Int)=(m:Int):=by rw [IntKind.wrap_u64];omega
 have HM:Hid (m≤1000000000):=hid hm
 clear hn hr hB hne hm
 go_enter Tryz.func264,Tryz.ntmps264
 go_upto_region 2 with (first
  | (go_at_call 260
     (with_reducible refine HN.o.mono ?_)
     rintro e w2 ⟨o',u,er,rfl,ho',hrow,hchg,hout⟩
     have HO:=hid ho'
     have HR:=hid hrow
     have HC:=hid hchg
     have HU:=hid hout
     clear ho' hrow hchg hout))
 have hcase:(rdNum (D.drop o)=none∧u=0∧er=3)∨ ∃v r,rdNum (D.drop o)=some (v,r)∧u=(v:Int)∧er=0∧D.drop o'=r:=by
  have h:=HU.o
  unfold NumOut at h
  cases hq:rdNum (D.drop o) with
  | none=>rw [hq] at h;exact .inl ⟨rfl,h⟩
  | some x=>obtain ⟨v,r⟩:=x;rw [hq] at h;exact .inr ⟨v,r,rfl,h⟩
 rcases hcase with ⟨h1,rfl,rfl⟩ | ⟨v,r,h1,rfl,rfl,h2⟩
 ·have HL:Hid (LimOut D m o o' 0 3):=hid (by
     have e:rdLim m (D.drop o)=none:=by unfold rdLim;rw [h1]
     unfold LimOut;rw [e];exact ⟨rfl,by decide⟩)
  clear h1 HU
  go_wp2_with fail
  go_ret2
  exact ⟨o',0,3,rfl,HO.o,HR.o,HC.o,HL.o⟩
 ·by_cases hvm:v≤m
  ·have hlt: ¬(m:Int)<(v:Int):=by omega
   have hwv:IntKind.i64.wrap (v:Int)=(v:Int):=by rw [IntKind.wrap_i64];have:=HM.o;omega
   have HL:Hid (LimOut D m o o' (v:Int) 0):=hid (by
    have e:rdLim m (D.drop o)=some (v,r):=by unfold rdLim;rw [h1];exact if_pos hvm
    unfold LimOut;rw [e];exact ⟨rfl,rfl,h2,hvm⟩)
   clear h1 h2 HU hvm
   go_wp2_with fail
   go_ret2
   exact ⟨o',(v:Int),0,rfl,HO.o,HR.o,HC.o,HL.o⟩
  ·have hlt:(m:Int)<(v:Int):=by omega
   have HL:Hid (LimOut D m o o' 0 2):=hid (by
    have e:rdLim m (D.drop o)=none:=by unfold rdLim;rw [h1];exact if_neg hvm
    unfold LimOut;rw [e];exact ⟨rfl,by decide⟩)
   clear h1 h2 HU hvm
   go_wp2_with fail
   go_ret2
   exact ⟨o',0,2,rfl,HO.o,HR.o,HC.o,HL.o⟩
theorem drop_take_drop {D:List Nat} {t k:Nat}:(D.drop t).take k=(D.take (t+k)).drop t:=by rw [List.drop_take,Nat.add_sub_cancel_left]
end Go.Proofs.YtndlihclgdkpaaaGreatDoor
