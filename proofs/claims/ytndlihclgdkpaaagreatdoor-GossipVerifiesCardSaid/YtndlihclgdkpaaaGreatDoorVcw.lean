/- gossip: covers, walked. -/
import Derived.Test.YtndlihclgdkpaaaGreatDoorVcv
set_option linter.unusedVariables false
set_option linter.unusedSimpArgs false
open Go.Lib (hid)
namespace Go.Proofs.YtndlihclgdkpaaaGreatDoor
open Go.RowKit
open Kit (Chg)
open Sha (v)
open Go.Proofs.YtndlihclgdkpaaaGreatDoor.One

def HeadIn (W:World) (x:HV):Prop:=x.h.ps.length<9223372036854775808∧x.h.qs.length<9223372036854775808∧StrsAt W x.a1 x.h.ps∧StrsAt W x.a2 x.h.qs
def forkVal (d:Int) (a0:Option Addr) (n0 c0:Nat) (a1:Option Addr) (n1 c1:Nat) (x0 x1:HV):Value:= .agg #[.int .i64 d,.slice a0 n0 c0,.slice a1 n1 c1,.int .i64 x0.h.dev,.int .i64 x0.h.seq,.string x0.h.sum,.int .i64 x0.h.idx,.slice x0.a1 x0.h.ps.length x0.c1,.slice x0.a2 x0.h.qs.length x0.c2,.int .i64 x1.h.dev,.int .i64 x1.h.seq,.string x1.h.sum,.int .i64 x1.h.idx,.slice x1.a1 x1.h.ps.length x1.c1,.slice x1.a2 x1.h.qs.length x1.c2]
theorem two_rows1 {w:World} {r1 r2:Array Value} {T1 T2:TypeId}:((w.alloc (.cells r1 T1)).alloc (.cells r2 T2)).heap[w.heap.size]? =some (.cells r1 T1 (0,0)):=(Below.heap_alloc _ _ _ (by simp)).trans (heap_alloc_new _ _)
theorem two_rows2 {w:World} {r1 r2:Array Value} {T1 T2:TypeId}:((w.alloc (.cells r1 T1)).alloc (.cells r2 T2)).heap[w.heap.size+1]? =some (.cells r2 T2 (0,0)):=by
 have:=heap_alloc_new (w.alloc (.cells r1 T1)) (.cells r2 T2)
 rwa [World.size_alloc] at this
theorem two_below {w:World} {o1 o2:Obj}:Below w.heap.size w ((w.alloc o1).alloc o2):=((Below.refl _ _).alloc (Nat.le_refl _) _).alloc (by simp) _
theorem two_size {w:World} {o1 o2:Obj}:((w.alloc o1).alloc o2).heap.size=w.heap.size+2:=by simp
theorem covE_eq {h:Hd} {es:List Ent}:covE h es=(decide (es.length≤4096) && (decide ((es.length:Int)=h.seq) && (decide (chainI es= -1) && (oneDev h.dev es && lastSum (nb h.sum) es)))):=rfl
set_option maxRecDepth 100000 in
set_option maxHeartbeats 1000000 in
theorem covers_any (x:HV) (a:Option Addr) (c L:Nat) (es:List Ent) (hLe:es.length=L) (hL:L≤1000000) (hs:1≤x.h.seq) (w:World) (hE:EntsAt w a es) (hLd:Laid w):
    Calls Tryz.prog 161 #[.agg #[.int .i64 x.h.dev,.int .i64 x.h.seq,.string x.h.sum,.int .i64 x.h.idx,.slice x.a1 x.h.ps.length x.c1,.slice x.a2 x.h.qs.length x.c2],.slice a L c] w fun e w'=>e= .returned (.bool (covE x.h es))∧Below w.heap.size w w':=by
 have HE:=hid hE
 have HLD:=hid hLd
 have HLE:=hid hLe
 have HCE:Hid (covE x.h es=_):=hid (covE_eq (h:=x.h) (es:=es))
 obtain ⟨CE,hCE⟩:=ex_eq (covE x.h es)
 rw [hCE] at HCE ⊢
 rw [hLe] at HCE
 obtain ⟨⟨hd,hq,sm,ix,ps,qs⟩,a1,c1,a2,c2⟩:=x
 simp only at hs HCE ⊢
 have HCC:=hid (fun w h1 h2=>chain_any a c L es hLe (by omega) w h1 h2)
 obtain ⟨X,hX⟩:=ex_eq (chainI es)
 have HX:=hid hX
 rw [hX] at HCC HCE
 have HCT:=hid (fun H w h1 h2=>containsDev_any a c L es hLe hL H hd w h1 h2)
 obtain ⟨D,hD⟩:=ex_eq (oneDev hd es)
 rw [hD] at HCT HCE
 clear hE hLd hLe hCE hX hD
 obtain ⟨n1,hn1⟩:=ex_eq ps.length
 obtain ⟨n2,hn2⟩:=ex_eq qs.length
 rw [hn1,hn2]
 clear hn1 hn2
 go_enter Tryz.func161,Tryz.ntmps161
 go_upto_region 1 with fail
 refine wp_over (fun W=>Hid (W.heap[w.heap.size]? =some (.cells #[.int .i64 hd,.int .i64 hq,.string sm,.int .i64 ix,.slice a1 n1 c1,.slice a2 n2 c2] 94 (0,0)))∧Hid (Below w.heap.size w W)∧Hid (W.heap.size=w.heap.size+1)) ⟨heap_alloc_new _ _,(Below.refl _ _).alloc (Nat.le_refl _) _,by show _=_;simp⟩ ?_
 rintro W ⟨HG,HB,HW⟩
 obtain ⟨N,hN⟩:=ex_eq w.heap.size
 rw [hN] at HG HB HW ⊢
 have HN:=hid hN
 clear hN
 have HRW:Hid (∀V,Below (N+1) W V→V.cell? ⟨N,0,none⟩=some (.int .i64 hd)∧V.cell? ⟨N,1,none⟩=some (.int .i64 hq)∧V.cell? ⟨N,2,none⟩=some (.string sm)):=hid (fun V h=>by
  obtain ⟨c0,c1,c2,_⟩:=row6 ((h.block N (Nat.lt_succ_self _)).trans HG.o)
  exact ⟨c0,c1,c2⟩)
 have HBE:Hid (∀V,Below (N+1) W V→Below w.heap.size w V):=hid (fun V h=>by rw [HN.o];exact HB.o.trans (h.mono (Nat.le_succ N)))
 have HST:Hid (∀V V',Below (N+1) W V→Below V.heap.size V V'→Below (N+1) W V'):=hid (fun V V' h h'=>h.trans (h'.mono (by have:=h.size;have:=HW.o;omega)))
 have HR0:Hid (Below (N+1) W W):=hid (Below.refl _ _)
 obtain ⟨c0,c1,c2⟩:=HRW.o _ HR0.o
 by_cases h1:4096<L
 ·have hg:(4096:Int)<(L:Int):=by omega
  have HF:Hid (CE=false):=hid (by rw [HCE.o,decide_eq_false (by omega: ¬L≤4096)];rfl)
  go_wp2_with fail
  go_ret
  exact ⟨by rw [HF.o];rfl,HBE.o _ HR0.o⟩
 have hg: ¬(4096:Int)<(L:Int):=by omega
 have hd1:decide (L≤4096)=true:=decide_eq_true (by omega)
 rw [hd1,Bool.true_and] at HCE
 by_cases h2:(L:Int)=hq
 rotate_left
 ·have hne:((L:Int) != hq)=true:=by rw [bne_iff_ne];exact h2
  have HF:Hid (CE=false):=hid (by rw [HCE.o,decide_eq_false h2];rfl)
  clear h2
  go_wp2_with fail
  go_ret
  exact ⟨by rw [HF.o];rfl,HBE.o _ HR0.o⟩
 have hne:((L:Int) != hq)=false:=by rw [h2];simp
 have hd2:decide ((L:Int)=hq)=true:=decide_eq_true h2
 rw [hd2,Bool.true_and] at HCE
 have hL1:1≤L:=by omega
 clear h2 hs hd1 hd2
 by_cases h3:X= -1
 rotate_left
 ·have HF:Hid (CE=false):=hid (by rw [HCE.o,decide_eq_false h3];rfl)
  have HGE:Hid (0≤X):=hid (by
   rw [← HX.o]
   rcases chainGo_ge es [] with h | h
   ·exact absurd (HX.o.symm.trans h) h3
   ·exact h)
  have hge:=HGE.o
  clear h3
  go_wp2_with (first
   | (go_at_call 227
      (with_reducible refine (HCC.o _ (HE.o.later (HBE.o _ HR0.o)) (HLD.o.later (HBE.o _ HR0.o) (Nat.le_refl _))).mono ?_)
      rintro e w2 ⟨rfl,h2⟩
      have H2:=hid (HST.o _ _ HR0.o h2)
      clear h2 c0 c1 c2))
  go_ret
  exact ⟨by rw [HF.o];rfl,HBE.o _ H2.o⟩
 have hd3:decide (X= -1)=true:=decide_eq_true h3
 rw [hd3,Bool.true_and] at HCE
 have HVA:Hid (∀e ∈ es,ValidE e):=hid (chainI_valid (HX.o.trans h3))
 subst h3
 clear hd3
 go_upto_region 3 with (first
  | (go_at_call 227
     (with_reducible refine (HCC.o _ (HE.o.later (HBE.o _ HR0.o)) (HLD.o.later (HBE.o _ HR0.o) (Nat.le_refl _))).mono ?_)
     rintro e w2 ⟨rfl,h2⟩
     have H2:=hid (HST.o _ _ HR0.o h2)
     clear h2 c0 c1 c2))
 obtain ⟨c0,c1,c2⟩:=HRW.o _ H2.o
 have HC0:=hid c0
 cases D
 ·have HF:Hid (CE=false):=hid (by rw [HCE.o];rfl)
  go_wp2_with (first
   | (go_at_call 228
      (with_reducible refine (HCT.o N _ (HE.o.later (HBE.o _ H2.o)) HC0.o).mono ?_)
      rintro e w3 ⟨rfl,h3⟩
      have H3:=hid (HST.o _ _ H2.o h3)
      clear h3 c0 c1 c2))
  go_ret
  exact ⟨by rw [HF.o];rfl,HBE.o _ H3.o⟩
 obtain ⟨k,rfl⟩: ∃k,L=k+1:=⟨L - 1,by omega⟩
 have HKL:Hid (k<es.length):=hid (by rw [HLE.o];exact Nat.lt_succ_self _)
 have HLS:Hid (CE=decide (sumE (es[k]'HKL.o)=nb sm)):=hid (by
  rw [HCE.o,Bool.true_and]
  exact lastSum_at k HLE.o)
 have hwk:IntKind.i64.wrap (((k+1:Nat):Int) - 1)=(k:Int):=by rw [IntKind.wrap_i64];omega
 have hki:(k:Int)<((k+1:Nat):Int):=by omega
 go_upto_region 5 with (first
  | (go_at_call 228
     (with_reducible refine (HCT.o N _ (HE.o.later (HBE.o _ H2.o)) HC0.o).mono ?_)
     rintro e w3 ⟨rfl,h3⟩
     have H3:=hid (HST.o _ _ H2.o h3)
     clear h3 c0 c1 c2))
 obtain ⟨b0,o0,rfl,hes0⟩: ∃b o,a=some ⟨b,o,none⟩∧ ∀i,(h:i<es.length)→EntAt w3 b (o+i*6) es[i]:=by
  rcases HE.o.later (HBE.o _ H3.o) with h | h
  ·have:=HLE.o;rw [h] at this;simp at this
  ·exact h
 have hek:=hes0 k HKL.o
 have HVQ:Hid (ValidE (es[k]'HKL.o)):=hid (HVA.o _ (List.getElem_mem HKL.o))
 obtain ⟨q,hq'⟩:=ex_eq (es[k]'HKL.o)
 have HQ:Hid (es[k]'HKL.o=q):=hid hq'
 rw [hq'] at hek HVQ HLS
 clear hq' hes0
 obtain ⟨dv,sq,kd,dy,qb,p⟩:=q
 obtain ⟨ae,m,cm,hm,hmn,hmB,d0,d1,d2,d3,d4,d5⟩:=hek
 simp only at hm hmn hmB d0 d1 d2 d3 d4 d5
 have HMB:=hid hmB
 have hvv:=HVQ.o
 obtain ⟨e0,rfl⟩: ∃d:Nat,dv=(d:Int):=⟨dv.toNat,by have:=hvv.dev0;simp only at this;omega⟩
 obtain ⟨e1,rfl⟩: ∃d:Nat,sq=(d:Int):=⟨sq.toNat,by have:=hvv.seq0;simp only at this;omega⟩
 obtain ⟨e2,rfl⟩: ∃d:Nat,kd=(d:Int):=⟨kd.toNat,by have:=hvv.kind0;simp only at this;omega⟩
 obtain ⟨e3,rfl⟩: ∃d:Nat,dy=(d:Int):=⟨dy.toNat,by have:=hvv.day0;simp only at this;omega⟩
 have HSO:=hid (fun w hB hL=>sum_ok e0 e1 e2 e3 ae m cm p qb hm hmn hvv _ rfl w hB hL)
 clear hvv hm hmn hmB
 have HC2:Hid (∀V,Below (N+1) W V→V.cell? ⟨N,2,none⟩=some (.string sm)):=hid (fun V h=>(HRW.o V h).2.2)
 go_upto_region 6 with (first
  | (go_at_call 62
     (with_reducible refine (HSO.o _ HMB.o (HLD.o.later (HBE.o _ H3.o) (Nat.le_refl _))).mono ?_)
     rintro e w4 ⟨u,rfl,hu,hz,h4⟩
     have H4:=hid (HST.o _ _ H3.o h4)
     have HU:=hid hu
     clear hu hz h4 d0 d1 d2 d3 d4 d5))
 have c2:=HC2.o _ H4.o
 have HEQ:Hid ((u.toList==sm.toList)=CE):=hid (by rw [eq_str,HLS.o,HU.o])
 go_wp2_with fail
 go_ret
 exact ⟨by rw [HEQ.o];rfl,HBE.o _ H4.o⟩
end Go.Proofs.YtndlihclgdkpaaaGreatDoor
