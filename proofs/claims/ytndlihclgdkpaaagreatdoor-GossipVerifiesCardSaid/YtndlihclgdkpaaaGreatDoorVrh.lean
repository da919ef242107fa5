/- The document's covers and Proves. -/
import Derived.Test.YtndlihclgdkpaaaGreatDoorVrg
import Derived.Test.YtndlihclgdkpaaaGreatDoorVfk
set_option linter.unusedVariables false
set_option linter.unusedSimpArgs false
open Go.Lib (hid)
namespace Go.Proofs.YtndlihclgdkpaaaGreatDoor
open Go.RowKit
open Kit (Chg)
open Sha (v)
open Go.Proofs.YtndlihclgdkpaaaGreatDoor.One

set_option maxRecDepth 100000 in
set_option maxHeartbeats 1000000 in
theorem refCovers_any (x:HV) (a:Option Addr) (c L:Nat) (es:List Ent) (hLe:es.length=L) (hLc:L≤c) (hL:L≤4096) (hs:1≤x.h.seq) (w:World) (hE:EntsAt w a es):
    Calls Tryz.prog 163 #[.agg #[.int .i64 x.h.dev,.int .i64 x.h.seq,.string x.h.sum,.int .i64 x.h.idx,.slice x.a1 x.h.ps.length x.c1,.slice x.a2 x.h.qs.length x.c2],.slice a L c] w fun e w'=>e= .returned (.bool (covE x.h es))∧Below w.heap.size w w':=by
 have HE:=hid hE
 have HLE:=hid hLe
 have HCE:Hid (covE x.h es=_):=hid (covE_eq (h:=x.h) (es:=es))
 obtain ⟨CE,hCE⟩:=ex_eq (covE x.h es)
 rw [hCE] at HCE ⊢
 rw [hLe] at HCE
 obtain ⟨⟨hd,hq,sm,ix,ps,qs⟩,a1,c1,a2,c2⟩:=x
 simp only at hs HCE ⊢
 have HCC:=hid (fun w h1=>refChain_any a c L es hLe hLc (by omega) w h1)
 obtain ⟨X,hX⟩:=ex_eq (chainI es)
 have HX:=hid hX
 rw [hX] at HCC HCE
 obtain ⟨D,hD⟩:=ex_eq (oneDev hd es)
 have HD:=hid hD
 rw [hD] at HCE
 clear hE hLe hCE hX hD
 obtain ⟨n1,hn1⟩:=ex_eq ps.length
 obtain ⟨n2,hn2⟩:=ex_eq qs.length
 rw [hn1,hn2]
 clear hn1 hn2
 go_enter Tryz.func163,Tryz.ntmps163
 go_upto_region 1 with fail
 refine wp_over (fun W=>Hid (W.heap[w.heap.size]? =some (.cells #[.int .i64 hd,.int .i64 hq,.string sm,.int .i64 ix,.slice a1 n1 c1,.slice a2 n2 c2] 94 (0,0)))∧Hid (Below w.heap.size w W)∧Hid (W.heap.size=w.heap.size+1)) ⟨heap_alloc_new _ _,(Below.refl _ _).alloc (Nat.le_refl _) _,by show _=_;simp⟩ ?_
 rintro W ⟨HG,HB,HW⟩
 obtain ⟨N,hN⟩:=ex_eq w.heap.size
 rw [hN] at HG HB HW ⊢
 have HN:=hid hN
 clear hN
 have HRW:Hid (∀V,Below (N+1) W V→V.cell? ⟨N,0,none⟩=some (.int .i64 hd)∧V.cell? ⟨N,1,none⟩=some (.int .i64 hq)∧V.cell? ⟨N,2,none⟩=some (.string sm)):=hid (fun V h=>by
  obtain ⟨c0,c1,c2,_⟩:=row6 ((h.block N (Nat.lt_succ_self _)).trans HG.o)
  exact ⟨c0,c1,c2⟩)
 have HBE:Hid (∀V,Below (N+1) W V→Below w.heap.size w V):=hid (fun V h=>by rw [HN.o];exact HB.o.trans (h.mono (Nat.le_succ N)))
 have HST:Hid (∀V V',Below (N+1) W V→Below V.heap.size V V'→Below (N+1) W V'):=hid (fun V V' h h'=>h.trans (h'.mono (by have:=h.size;have:=HW.o;omega)))
 have HR0:Hid (Below (N+1) W W):=hid (Below.refl _ _)
 obtain ⟨c0,c1,c2⟩:=HRW.o _ HR0.o
 have hg: ¬(4096:Int)<(L:Int):=by omega
 have hd1:decide (L≤4096)=true:=decide_eq_true (by omega)
 rw [hd1,Bool.true_and] at HCE
 by_cases h2:(L:Int)=hq
 rotate_left
 ·have hne:((L:Int) != hq)=true:=by rw [bne_iff_ne];exact h2
  have HF:Hid (CE=false):=hid (by rw [HCE.o,decide_eq_false h2];rfl)
  clear h2
  go_wp2_with fail
  go_ret
  exact ⟨by rw [HF.o];rfl,HBE.o _ HR0.o⟩
 have hne:((L:Int) != hq)=false:=by rw [h2];simp
 have hd2:decide ((L:Int)=hq)=true:=decide_eq_true h2
 rw [hd2,Bool.true_and] at HCE
 have hL1:1≤L:=by omega
 clear h2 hs hd1 hd2
 by_cases h3:X= -1
 rotate_left
 ·have HF:Hid (CE=false):=hid (by rw [HCE.o,decide_eq_false h3];rfl)
  have hx1:(X != -1)=true:=by rw [bne_iff_ne];exact h3
  clear h3
  go_wp2_with (first
   | (go_at_call 231
      (with_reducible refine (HCC.o _ (HE.o.later (HBE.o _ HR0.o))).mono ?_)
      rintro e w2 ⟨rfl,h2⟩
      have H2:=hid (HST.o _ _ HR0.o h2)
      clear h2 c0 c1 c2))
  go_ret
  exact ⟨by rw [HF.o];rfl,HBE.o _ H2.o⟩
 have hd3:decide (X= -1)=true:=decide_eq_true h3
 rw [hd3,Bool.true_and] at HCE
 have HVA:Hid (∀e ∈ es,ValidE e):=hid (chainI_valid (HX.o.trans h3))
 have hx1:(X != -1)=false:=by rw [h3];rfl
 clear hd3 h3
 go_upto_region 4 with (first
  | (go_at_call 231
     (with_reducible refine (HCC.o _ (HE.o.later (HBE.o _ HR0.o))).mono ?_)
     rintro e w2 ⟨rfl,h2⟩
     have H2:=hid (HST.o _ _ HR0.o h2)
     clear h2 c0 c1 c2))
 clear hx1
 go_loopw [5] (fun z wr=> ∃k:Nat,k≤L∧z= .int .i64 (k:Int)∧Hid (∀i,(hi:i<es.length)→i<k→es[i].dev=hd)∧Hid (Below (N+1) W wr)) (fun z _=>L - (intOf z).toNat)
 case atStart=>exact ⟨0,by omega,rfl,hid (fun i hi h=>by omega),H2⟩
 case round=>
  obtain ⟨k,hk,rfl,HCR,HR⟩:=hrel
  by_cases hlt:k<L
  ·have hki:(k:Int)<(L:Int):=by omega
   have HKL:Hid (k<es.length):=hid (by rw [HLE.o];exact hlt)
   obtain ⟨b0,o0,rfl,hes0⟩:=(HE.o.later (HBE.o _ HR.o)).some k HKL.o
   have hek:=hes0 k HKL.o
   obtain ⟨q,hq'⟩:=ex_eq (es[k]'HKL.o)
   have HQ:Hid (es[k]'HKL.o=q):=hid hq'
   rw [hq'] at hek
   clear hq' hes0
   obtain ⟨dv,sq,kd,dy,qb,p⟩:=q
   obtain ⟨ae,m,cm,hm,hmn,hmB,d0,d1,d2,d3,d4,d5⟩:=hek
   simp only at hm hmB d0 d1 d2 d3 d4 d5
   have HD0:=hid d0
   have HSS:Hid (∀V,Below wr.heap.size wr V→(V.cell? ⟨N,0,none⟩=some (.int .i64 hd)∧V.cell? ⟨b0,o0+k*6,none⟩=some (.int .i64 dv))):=hid (fun V h=>⟨(HRW.o V (HST.o _ _ HR.o h)).1,(h.cell (World.block_lt_of_cell? wr _ HD0.o)).trans HD0.o⟩)
   have hwr:IntKind.i64.wrap ((k:Int)+1)=(k:Int)+1:=by rw [IntKind.wrap_i64];omega
   clear hm hmB hmn d0 d1 d2 d3 d4 d5
   go_upto_region 6 with fail
   refine Kit.wp_region_gplan (fun V=>V.cell? ⟨N,0,none⟩=some (.int .i64 hd)∧V.cell? ⟨b0,o0+k*6,none⟩=some (.int .i64 dv)) [(true,0),(true,1),(true,2),(true,3),(true,4),(true,5),(true,6),(true,7)] (by kernel_rfl) (by kernel_rfl) (by kernel_rfl) (by kernel_rfl) (HSS.o _ (Below.refl _ _).drew) ?_
   iterate 8 (refine Kit.ghd (h:= ?_))
   refine Kit.gdn (h:=?_)
   have HV0:Hid (Below (N+1) W wr.drew):=hid HR.o.drew
   by_cases hdev:dv=hd
   ·have hne2:(dv != hd)=false:=by rw [hdev];simp
    have HDV:=hid hdev
    clear hdev
    have HC2:Hid (∀i,(hi:i<es.length)→i<k+1→es[i].dev=hd):=hid (fun i hi h=>by
     by_cases e:i=k
     ·subst e;rw [HQ.o];exact HDV.o
     ·exact HCR.o i hi (by omega))
    go_wp2_with fail
    go_roundw
    case rel=>exact ⟨k+1,hlt,by go_num,HC2.o,HV0.o⟩
    case measure=>simp [intOf];omega
   ·have hne2:(dv != hd)=true:=by rw [bne_iff_ne];exact hdev
    have HF:Hid (CE=false):=hid (by
     rw [HCE.o,← HD.o,oneDev_bad k HKL.o (by rw [HQ.o];exact hdev)];rfl)
    clear hdev
    go_wp2_with fail
    go_ret
    exact ⟨by rw [HF.o];rfl,HBE.o _ HV0.o⟩
  ·have hki: ¬(k:Int)<(L:Int):=by omega
   have HDT:Hid (D=true):=hid (by rw [← HD.o];exact oneDev_good (fun i hi=>HCR.o i hi (by have:=HLE.o;omega)))
   obtain ⟨j,rfl⟩: ∃j,L=j+1:=⟨L - 1,by omega⟩
   have HKL:Hid (j<es.length):=hid (by rw [HLE.o];exact Nat.lt_succ_self _)
   have HLS:Hid (CE=decide (sumE (es[j]'HKL.o)=nb sm)):=hid (by
    rw [HCE.o,HDT.o,Bool.true_and]
    exact lastSum_at j HLE.o)
   clear hlt hk
   have hwk:IntKind.i64.wrap (((j+1:Nat):Int) - 1)=(j:Int):=by rw [IntKind.wrap_i64];omega
   have hkj:(j:Int)<((j+1:Nat):Int):=by omega
   have hpos:(0:Int)<((j+1:Nat):Int):=by omega
   have hwj:IntKind.i64.wrap (j:Int)=(j:Int):=by rw [IntKind.wrap_i64];omega
   have hjs:(j:Int)<(j:Int)+1:=by omega
   have hj0:(0:Int)<(j:Int)+1:=by omega
   obtain ⟨b0,o0,rfl,hes0⟩:=(HE.o.later (HBE.o _ HR.o)).some j HKL.o
   have hek:=hes0 j HKL.o
   have HVQ:Hid (ValidE (es[j]'HKL.o)):=hid (HVA.o _ (List.getElem_mem HKL.o))
   obtain ⟨q,hq'⟩:=ex_eq (es[j]'HKL.o)
   rw [hq'] at hek HVQ HLS
   clear hq' hes0
   obtain ⟨dv,sq,kd,dy,qb,p⟩:=q
   obtain ⟨ae,m,cm,hm,hmn,hmB,d0,d1,d2,d3,d4,d5⟩:=hek
   simp only at hm hmn hmB d0 d1 d2 d3 d4 d5
   have HMB:=hid hmB
   have hvv:=HVQ.o
   obtain ⟨h1,h2,h3,h4,h5,h6,h7,h8,h9,h10⟩:=HVQ.o
   simp only at h1 h2 h3 h4 h5 h6 h7 h8 h9 h10
   obtain ⟨e0,rfl⟩: ∃d:Nat,dv=(d:Int):=⟨dv.toNat,by omega⟩
   obtain ⟨e1,rfl⟩: ∃d:Nat,sq=(d:Int):=⟨sq.toNat,by omega⟩
   obtain ⟨e2,rfl⟩: ∃d:Nat,kd=(d:Int):=⟨kd.toNat,by omega⟩
   obtain ⟨e3,rfl⟩: ∃d:Nat,dy=(d:Int):=⟨dy.toNat,by omega⟩
   have HSO:=hid (fun w hB=>refSum46_any e0 e1 e2 e3 ae m cm p qb hm (by omega) (by omega) (by (have:p.size≤32:=by (rw [h10];split<;> omega));omega) _ rfl w hB)
   have HDS:=hid (And.intro d0 (And.intro d1 (And.intro d2 (And.intro d3 (And.intro d4 d5)))))
   clear hvv hm hmn hmB h1 h2 h3 h4 h5 h6 h7 h8 h9 h10 d0 d1 d2 d3 d4 d5
   have HSS:Hid (∀V,Below wr.heap.size wr V→(V.cell? ⟨N,2,none⟩=some (.string sm)∧V.cell? ⟨b0,o0+j*6,none⟩=some (.int .i64 (e0:Int))∧V.cell? ⟨b0,o0+j*6+1,none⟩=some (.int .i64 (e1:Int))∧V.cell? ⟨b0,o0+j*6+2,none⟩=some (.int .i64 (e2:Int))∧V.cell? ⟨b0,o0+j*6+3,none⟩=some (.int .i64 (e3:Int))∧V.cell? ⟨b0,o0+j*6+4,none⟩=some (.slice ae m cm)∧V.cell? ⟨b0,o0+j*6+5,none⟩=some (.string p))):=hid (fun V h=>by
    have t: ∀{j:Nat} {x:Value},wr.cell? ⟨b0,j,none⟩=some x→V.cell? ⟨b0,j,none⟩=some x:=fun h0=>(h.cell (World.block_lt_of_cell? wr _ h0)).trans h0
    obtain ⟨d0,d1,d2,d3,d4,d5⟩:=HDS.o
    exact ⟨(HRW.o V (HST.o _ _ HR.o h)).2.2,t d0,t d1,t d2,t d3,t d4,t d5⟩)
   go_upto_region 8 with fail
   refine Kit.wp_region_gplan (fun V=>V.cell? ⟨N,2,none⟩=some (.string sm)∧V.cell? ⟨b0,o0+j*6,none⟩=some (.int .i64 (e0:Int))∧V.cell? ⟨b0,o0+j*6+1,none⟩=some (.int .i64 (e1:Int))∧V.cell? ⟨b0,o0+j*6+2,none⟩=some (.int .i64 (e2:Int))∧V.cell? ⟨b0,o0+j*6+3,none⟩=some (.int .i64 (e3:Int))∧V.cell? ⟨b0,o0+j*6+4,none⟩=some (.slice ae m cm)∧V.cell? ⟨b0,o0+j*6+5,none⟩=some (.string p)) [(true,0),(true,1),(true,2),(true,3),(true,4),(true,5),(true,6),(true,7),(true,8),(true,9),(true,11),(true,12),(false,10),(true,13),(true,14),(true,15)] (by kernel_rfl) (by kernel_rfl) (by kernel_rfl) (by kernel_rfl) (HSS.o _ (Below.refl _ _).drew) ?_
   iterate 12 (refine Kit.ghd (h:= ?_))
   refine Kit.gplan_op (by rfl) (by rfl) fun K hK=> ?_
   go_simp
   go_at_call 232
   with_reducible refine (HSO.o _ (HMB.o.later (Below.refl _ _).drew)).mono ?_
   rintro e w3 ⟨u,rfl,hu,h3⟩
   have HU:=hid hu
   have H3:Hid (Below wr.heap.size wr w3):=hid ((Below.refl _ wr).drew.trans h3)
   have H4:Hid (Below (N+1) W w3):=hid (HST.o _ _ HR.o H3.o)
   have HEQ:Hid ((u.toList==sm.toList)=CE):=hid (by rw [eq_str,HLS.o,HU.o])
   clear hu h3
   refine hK _ _ (HSS.o _ H3.o) ?_
   clear hK K
   iterate 3 (refine Kit.ghd (h:= ?_))
   refine Kit.gdn (h:=?_)
   go_wp2_with fail
   go_ret
   exact ⟨by rw [HEQ.o];rfl,HBE.o _ H4.o⟩
end Go.Proofs.YtndlihclgdkpaaaGreatDoor
