/- wire.Reader.number, walked. -/
import Derived.Test.YtndlihclgdkpaaaGreatDoorGc
import Derived.Test.YtndlihclgdkpaaaGreatDoorRdr
set_option linter.unusedVariables false
set_option linter.unusedSimpArgs false
open Go.Lib (hid)
namespace Go.Proofs.YtndlihclgdkpaaaGreatDoor
open Go.RowKit
open Kit (Chg)
open Sha (v)
open Go.Proofs.YtndlihclgdkpaaaGreatDoor.One

def NumOut (D:List Nat) (o o':Nat) (u er:Int):Prop:=match rdNum (D.drop o) with
 | some (v,r)=>u=(v:Int)∧er=0∧D.drop o'=r
 | none=>u=0∧er=3
theorem NumOut.bad {D:List Nat} {o o':Nat} (h:rdNum (D.drop o)=none):NumOut D o o' 0 3:=by
 unfold NumOut
 rw [h]
 exact ⟨rfl,rfl⟩
theorem NumOut.good {D:List Nat} {o o' v:Nat} {r:List Nat} (h:rdNum (D.drop o)=some (v,r)) (h2:D.drop o'=r) {u:Int} (hu:u=(v:Int)):NumOut D o o' u 0:=by
 unfold NumOut
 rw [h]
 exact ⟨hu,rfl,h2⟩
set_option maxRecDepth 100000 in
set_option maxHeartbeats 2000000 in
theorem number_any (p:Nat) (ad:Option Addr) (c n:Nat) (D:List Nat) (hn:D.length=n) (hl:n≤1000000000) (o:Nat) (ho:o≤n) (last:Int) (w:World) (hr:RdRow w p ad n c (o:Int) last 0) (hB:BytesAt w ad D) (hne:D≠[]→ ∀x,ad=some x→x.block≠p):
    Calls Tryz.prog 260 #[.pointer (some ⟨p,0,none⟩)] w fun e w'=> ∃(o':Nat) (u er:Int),e= .returned (.tuple #[.int .u64 u,.int .i64 er])∧o'≤n∧RdRow w' p ad n c (o':Int) last 0∧Chg (RdM p) w w'∧NumOut D o o' u er:=by
 have HN:=hid hn
 have HB:=hid hB
 have HNE:=hid hne
 have HR0:=hid hr
 clear hn hB hne hr
 go_enter Tryz.func260,Tryz.ntmps260
 go_upto_region 2 with fail
 go_loopw [2,6] (fun a z wr=> ∃(k:Nat) (A:Int),k≤10∧a= .int .u64 A∧z= .int .i64 (k:Int)∧o+k≤n∧Hid (k≤9→ ∃m:Nat,A=(m:Int)∧m<128 ^ k∧numJoin m k (rdGo (10 - k) (D.drop (o+k)))=rdNum (D.drop o))∧Hid (k=10→rdNum (D.drop o)=none)∧Hid (RdRow wr p ad n c ((o+k:Nat):Int) last 0)∧Hid (Chg (RdM p) w wr)) (fun _ z _=>10 - (intOf z).toNat)
 case atStart=>exact ⟨0,0,by omega,rfl,rfl,by omega,hid (fun _=>⟨0,rfl,by decide,numJoin_zero _⟩),hid (fun h=>by omega),HR0,hid (Chg.refl _ _)⟩
 case round=>
  obtain ⟨k,A,hk,rfl,rfl,hok,HJ,HE,HRR,HC⟩:=hrel
  obtain ⟨q,hq⟩:=ex_eq (o+k)
  have HQ:=hid hq
  rw [hq] at HRR hok
  clear hq
  by_cases hlt:k<10
  rotate_left
  ·have hki: ¬(k:Int)<10:=by omega
   have HBAD:Hid (rdNum (D.drop o)=none):=hid (HE.o (by omega))
   clear hlt
   go_wp2_with fail
   go_ret2
   exact ⟨q,0,3,rfl,hok,HRR.o,HC.o,NumOut.bad HBAD.o⟩
  have hki:(k:Int)<10:=by omega
  have HK:Hid (k<10):=hid hlt
  have HSS:Hid (∀V,Below wr.heap.size wr V→(V.cell? ⟨p,0,none⟩=some (.slice ad n c)∧V.cell? ⟨p,1,none⟩=some (.int .i64 (q:Int)))):=hid (fun V h=>by
   obtain ⟨c0,c1,_⟩:=(HRR.o.later h HRR.o.lt).cells
   exact ⟨c0,c1⟩)
  clear hlt
  go_upto_region 4 with fail
  refine Kit.wp_region_gplan (fun V=>V.cell? ⟨p,0,none⟩=some (.slice ad n c)∧V.cell? ⟨p,1,none⟩=some (.int .i64 (q:Int))) [(true,0),(true,1),(true,2),(true,3),(true,4),(true,5),(true,6),(true,7),(true,8),(true,9)] (by kernel_rfl) (by kernel_rfl) (by kernel_rfl) (by kernel_rfl) (HSS.o _ (Below.refl _ _).drew) ?_
  iterate 10 (refine Kit.ghd (h:= ?_))
  refine Kit.gdn (h:=?_)
  have HV0:Hid (Below wr.heap.size wr wr.drew):=hid (Below.refl _ _).drew
  obtain ⟨V,hV⟩:=ex_eq wr.drew
  rw [hV] at HV0 ⊢
  have HRV:Hid (RdRow V p ad n c (q:Int) last 0):=hid (HRR.o.later HV0.o HRR.o.lt)
  have HCV:Hid (Chg (RdM p) w V):=hid (HC.o.trans (Chg.of_below' HV0.o (fun k i hk h=>absurd h (by omega))))
  have HBV:Hid (BytesAt V ad D):=hid (bytes_ne HB.o HCV.o (fun h x e i hm=>HNE.o h x e hm))
  have HJV:=HJ
  clear hV HV0 HRR HC HSS HE
  by_cases hqn:q=n
  ·have heq:((q:Int)==(n:Int))=true:=by rw [hqn];simp
   have HBAD:Hid (rdNum (D.drop o)=none):=hid (by
    obtain ⟨m,_,_,h⟩:=HJ.o (by have:=HK.o;omega)
    rw [← h,HQ.o,hqn,← HN.o,List.drop_length,show 10 - k=(9 - k)+1 by have:=HK.o;omega]
    rfl)
   clear hqn
   go_wp2_with fail
   go_ret2
   exact ⟨q,0,3,rfl,hok,HRV.o,HCV.o,NumOut.bad HBAD.o⟩
  have heq:((q:Int)==(n:Int))=false:=by rw [beq_eq_false_iff_ne];omega
  have hqlt:q<n:=by omega
  have hqi:(q:Int)<(n:Int):=by omega
  have HQL:Hid (q<D.length):=hid (by rw [HN.o];exact hqlt)
  obtain ⟨bb,ob,rfl,hcell⟩:=HBV.o.some (by have:=HQL.o;omega)
  have hx:=hcell q HQL.o
  have hx8:=HBV.o.getD_lt q HQL.o
  obtain ⟨x,hxx⟩:=ex_eq (D.getD q 0)
  rw [hxx] at hx hx8
  have HDX:Hid (D.drop q=x::D.drop (q+1)):=hid (by
   rw [List.drop_eq_getElem_cons HQL.o,← hxx,lD,lE HQL.o]
   rfl)
  clear hcell hxx hqn
  have HXC:=hid hx
  have HSS:Hid (∀U,Below V.heap.size V U→(U.cell? ⟨p,0,none⟩=some (.slice (some ⟨bb,ob,none⟩) n c)∧U.cell? ⟨p,1,none⟩=some (.int .i64 (q:Int))∧U.cell? ⟨bb,ob+q,none⟩=some (.int .u8 (x:Int)))):=hid (fun U h=>by
   obtain ⟨c0,c1,_⟩:=(HRV.o.later h HRV.o.lt).cells
   exact ⟨c0,c1,(h.cell (World.block_lt_of_cell? V _ HXC.o)).trans HXC.o⟩)
  clear hx
  go_upto_region 6 with fail
  refine Kit.wp_region_gplan (fun V=>V.cell? ⟨p,0,none⟩=some (.slice (some ⟨bb,ob,none⟩) n c)∧V.cell? ⟨p,1,none⟩=some (.int .i64 (q:Int))∧V.cell? ⟨bb,ob+q,none⟩=some (.int .u8 (x:Int))) [(true,0),(true,1),(true,2),(true,3),(true,4),(true,5),(true,6),(true,7),(true,8),(true,9),(true,10)] (by kernel_rfl) (by kernel_rfl) (by kernel_rfl) (by kernel_rfl) (HSS.o _ (Below.refl _ _).drew) ?_
  iterate 11 (refine Kit.ghd (h:= ?_))
  refine Kit.gdn (h:=?_)
  have HV0:Hid (Below V.heap.size V V.drew):=hid (Below.refl _ _).drew
  obtain ⟨U,hU⟩:=ex_eq V.drew
  rw [hU] at HV0 ⊢
  have HRU:Hid (RdRow U p (some ⟨bb,ob,none⟩) n c (q:Int) last 0):=hid (HRV.o.later HV0.o HRV.o.lt)
  have HCU:Hid (Chg (RdM p) w U):=hid (HCV.o.trans (Chg.of_below' HV0.o (fun k i hk h=>absurd h (by omega))))
  clear hU HV0 HRV HCV HBV HSS HXC
  obtain ⟨c0,c1,c2,c3,cf⟩:=HRU.o.cells
  have f1:=cf 1
  have hw1:IntKind.i64.wrap ((q:Int)+1)=((q+1:Nat):Int):=by rw [IntKind.wrap_i64];omega
  clear cf c2 c3
  have hk7:IntKind.i64.wrap (7*(k:Int))=((7*k:Nat):Int):=by rw [IntKind.wrap_i64];omega
  have HACC:Hid (∃m:Nat,A=(m:Int)∧bits .or .u64 A (IntKind.u64.wrap (IntKind.u64.wrap (bits .and .u8 (x:Int) 127)*2 ^ (7*k)))=((m+x % 128*128 ^ k % 18446744073709551616:Nat):Int)∧m<128 ^ k∧numJoin m k (rdGo ((9 - k)+1) (x::D.drop (q+1)))=rdNum (D.drop o)):=hid (by
   obtain ⟨m,hm,hm2,h⟩:=HJ.o (by have:=HK.o;omega)
   rw [HQ.o,HDX.o,show 10 - k=(9 - k)+1 by have:=HK.o;omega] at h
   refine ⟨m,hm,?_,hm2,h⟩
   rw [hm]
   exact acc_eq (by have:=HK.o;omega) hm2 hx8)
  clear HJ HJV
  go_upto_region 8 with fail
  refine wp_over (fun Z=>Hid (RdRow Z p (some ⟨bb,ob,none⟩) n c ((q+1:Nat):Int) last 0)∧Hid (Chg (RdM p) w Z)) ⟨HRU.o.put1 _,HCU.o.setCell _ rfl⟩ ?_
  rintro Z ⟨HRZ,HCZ⟩
  clear HRU HCU c0 c1 f1 hw1 heq
  go_upto_region 9 with fail
  obtain ⟨A',hA'⟩:=ex_eq (bits .or .u64 A (IntKind.u64.wrap (IntKind.u64.wrap (bits .and .u8 (x:Int) 127)*2 ^ (7*k))))
  rw [hA'] at HACC ⊢
  clear hA'
  by_cases hb:128≤x
  ·have hbi:(128:Int)≤(x:Int):=by omega
   have HB128:=hid hb
   clear hb
   have hwk:IntKind.i64.wrap ((k:Int)+1)=(k:Int)+1:=by rw [IntKind.wrap_i64];omega
   have HNX:Hid (∃m:Nat,A=(m:Int)∧A'=((m+x % 128*128 ^ k % 18446744073709551616:Nat):Int)∧m<128 ^ k∧numJoin (m+128 ^ k*(x - 128)) (k+1) (rdGo (9 - k) (D.drop (q+1)))=rdNum (D.drop o)):=hid (by
    obtain ⟨m,h1,h2,h3,h4⟩:=HACC.o
    exact ⟨m,h1,h2,h3,by rw [← rdGo_step HB128.o];exact h4⟩)
   have HJ2:Hid (k+1≤9→ ∃m:Nat,A'=(m:Int)∧m<128 ^ (k+1)∧numJoin m (k+1) (rdGo (10 - (k+1)) (D.drop (o+(k+1))))=rdNum (D.drop o)):=hid (fun hk8=>by
    obtain ⟨m,h1,h2,h3,h4⟩:=HNX.o
    have e:x % 128*128 ^ k % 18446744073709551616=128 ^ k*(x - 128):=by
     have h5:128 ^ k≤128 ^ 8:=Nat.pow_le_pow_right (by decide) (by omega)
     have h6:x % 128=x - 128:=by have:=HB128.o;omega
     rw [h6,Nat.mul_comm,Nat.mod_eq_of_lt]
     have h7:128 ^ k*(x - 128)≤128 ^ 8*127:=Nat.mul_le_mul h5 (by omega)
     omega
    rw [e] at h2
    refine ⟨m+128 ^ k*(x - 128),h2,?_,?_⟩
    ·rw [Nat.pow_succ]
     have h7:128 ^ k*(x - 128)≤128 ^ k*127:=Nat.mul_le_mul (Nat.le_refl _) (by omega)
     omega
    ·rw [show 10 - (k+1)=9 - k by omega,show o+(k+1)=q+1 by have:=HQ.o;omega]
     exact h4)
   have HE2:Hid (k+1=10→rdNum (D.drop o)=none):=hid (fun hk10=>by
    obtain ⟨m,h1,h2,h3,h4⟩:=HNX.o
    rw [← h4,show 9 - k=0 by omega]
    rfl)
   have HRZ2:Hid (RdRow Z p (some ⟨bb,ob,none⟩) n c ((o+(k+1):Nat):Int) last 0):=hid (by rw [show o+(k+1)=q+1 by have:=HQ.o;omega];exact HRZ.o)
   have hok2:o+(k+1)≤n:=by have:=HQ.o;omega
   go_wp2_with fail
   go_roundw
   case rel=>exact ⟨k+1,A',by have:=HK.o;omega,rfl,by go_num,hok2,HJ2,HE2,HRZ2,HCZ⟩
   case measure=>have:=HK.o;simp [intOf];omega
  have hbi: ¬(128:Int)≤(x:Int):=by omega
  have HX128:Hid (x<128):=hid (by omega)
  have HBADX:Hid ((((9 - k)<9∧x=0)∨(9 - k=0∧1<x))→rdNum (D.drop o)=none):=hid (fun h=>by
   obtain ⟨m,h1,h2,h3,h4⟩:=HACC.o
   rw [← h4]
   exact rdGo_bad HX128.o h)
  have HGOOD:Hid (¬(((9 - k)<9∧x=0)∨(9 - k=0∧1<x))→ ∃v:Nat,A'=(v:Int)∧rdNum (D.drop o)=some (v,D.drop (q+1))):=hid (fun h=>by
   obtain ⟨m,h1,h2,h3,h4⟩:=HACC.o
   refine ⟨m+128 ^ k*x,?_,?_⟩
   ·rw [h2]
    congr 2
    rw [Nat.mod_eq_of_lt HX128.o,Nat.mul_comm,Nat.mod_eq_of_lt]
    have hx:=HX128.o
    have hk:=HK.o
    by_cases h9:k=9
    ·subst h9
     have:x≤1:=by omega
     have h7:128 ^ 9*x≤128 ^ 9*1:=Nat.mul_le_mul (Nat.le_refl _) this
     omega
    ·have h5:128 ^ k≤128 ^ 8:=Nat.pow_le_pow_right (by decide) (by omega)
     have h7:128 ^ k*x≤128 ^ 8*127:=Nat.mul_le_mul h5 (by omega)
     omega
   ·rw [← h4]
    exact rdGo_last HX128.o h)
  clear HACC hb
  by_cases hk0:0<k
  ·have hk0i:(0:Int)<(k:Int):=by omega
   by_cases hx0:x=0
   ·have hxe:((x:Int)==0)=true:=by rw [hx0];rfl
    have HBAD:Hid (rdNum (D.drop o)=none):=hid (HBADX.o (.inl ⟨by omega,hx0⟩))
    clear hx0 hk0
    go_wp2_with fail
    go_ret2
    exact ⟨q+1,0,3,rfl,hqlt,HRZ.o,HCZ.o,NumOut.bad HBAD.o⟩
   have hxe:((x:Int)==0)=false:=by rw [beq_eq_false_iff_ne];omega
   by_cases hk9:k=9
   ·have hke:((k:Int)==9)=true:=by rw [hk9];rfl
    by_cases hx1:1<x
    ·have hxi:(1:Int)<(x:Int):=by omega
     have HBAD:Hid (rdNum (D.drop o)=none):=hid (HBADX.o (.inr ⟨by omega,hx1⟩))
     clear hx0 hk0 hk9 hx1
     go_wp2_with fail
     go_ret2
     exact ⟨q+1,0,3,rfl,hqlt,HRZ.o,HCZ.o,NumOut.bad HBAD.o⟩
    have hxi: ¬(1:Int)<(x:Int):=by omega
    obtain ⟨v,hv1,hv2⟩:=HGOOD.o (by omega)
    have HV1:=hid hv1
    have HV2:=hid hv2
    clear hx0 hk0 hk9 hx1 hv1 hv2
    go_wp2_with fail
    go_ret2
    exact ⟨q+1,A',0,rfl,hqlt,HRZ.o,HCZ.o,NumOut.good HV2.o rfl HV1.o⟩
   have hke:((k:Int)==9)=false:=by rw [beq_eq_false_iff_ne];omega
   obtain ⟨v,hv1,hv2⟩:=HGOOD.o (by omega)
   have HV1:=hid hv1
   have HV2:=hid hv2
   clear hx0 hk0 hk9 hv1 hv2
   go_wp2_with fail
   go_ret2
   exact ⟨q+1,A',0,rfl,hqlt,HRZ.o,HCZ.o,NumOut.good HV2.o rfl HV1.o⟩
  have hk0i: ¬(0:Int)<(k:Int):=by omega
  have hke:((k:Int)==9)=false:=by rw [beq_eq_false_iff_ne];omega
  obtain ⟨v,hv1,hv2⟩:=HGOOD.o (by omega)
  have HV1:=hid hv1
  have HV2:=hid hv2
  clear hk0 hv1 hv2
  go_wp2_with fail
  go_ret2
  exact ⟨q+1,A',0,rfl,hqlt,HRZ.o,HCZ.o,NumOut.good HV2.o rfl HV1.o⟩
end Go.Proofs.YtndlihclgdkpaaaGreatDoor
