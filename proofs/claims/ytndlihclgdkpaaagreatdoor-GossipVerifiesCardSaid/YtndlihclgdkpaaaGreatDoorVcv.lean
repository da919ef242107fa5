/- gossip: what a head covers; equal entries. -/
import Derived.Test.YtndlihclgdkpaaaGreatDoorGh
import Derived.Test.YtndlihclgdkpaaaGreatDoorVpl
set_option linter.unusedVariables false
set_option linter.unusedSimpArgs false
open Go.Lib (hid)
set_option maxHeartbeats 2000000
set_option maxRecDepth 100000
namespace Go.Proofs.YtndlihclgdkpaaaGreatDoor
open Go.RowKit
open Kit (Chg)
open Sha (v)
open Go.Proofs.YtndlihclgdkpaaaGreatDoor.One

theorem dev_any (dv sq kd dy:Int) (ab:Option Addr) (n cb:Nat) (p:ByteArray) (H:Nat) (hd:Int) (w:World) (hc:w.cell? ⟨H,0,none⟩=some (.int .i64 hd)):
    Calls Tryz.prog 229 #[.agg #[.int .i64 dv,.int .i64 sq,.int .i64 kd,.int .i64 dy,.slice ab n cb,.string p],.pointer (some ⟨H,0,none⟩)] w fun e w'=>e= .returned (.bool (dv != hd))∧Below w.heap.size w w':=by
 have HC:=hid (World.block_lt_of_cell? w _ hc)
 have HH:=hid hc
 clear hc
 go_enter Tryz.func229,Tryz.ntmps229
 go_upto_region 1 with fail
 refine wp_over (fun W=>Hid (W.heap[w.heap.size]? =some (.cells #[.int .i64 dv,.int .i64 sq,.int .i64 kd,.int .i64 dy,.slice ab n cb,.string p] 92 (0,0)))∧Hid (Below w.heap.size w W)) ⟨heap_alloc_new _ _,(Below.refl _ _).alloc (Nat.le_refl _) _⟩ ?_
 rintro W ⟨HG,HB⟩
 have hc2:W.cell? ⟨H,0,none⟩=some (.int .i64 hd):=(HB.o.cell HC.o).trans HH.o
 obtain ⟨N,hN⟩:=ex_eq w.heap.size
 rw [hN] at HG HB ⊢
 have HN:=hid hN
 clear hN
 obtain ⟨c0,c1,c2,c3,c4,c5⟩:=row6 HG.o
 go_wp2_with fail
 go_ret
 exact ⟨rfl,by first | exact HB.o | (rw [HN.o];exact HB.o)⟩
theorem indexDev_any (a:Option Addr) (c L:Nat) (es:List Ent) (hLe:es.length=L) (hL:L≤1000000) (H:Nat) (hd:Int) (w:World) (hE:EntsAt w a es) (hc:w.cell? ⟨H,0,none⟩=some (.int .i64 hd)):
    Calls Tryz.prog 272 #[.slice a L c,.func (.func 229) #[] #[.pointer (some ⟨H,0,none⟩)]] w fun e w'=> ∃i:Int,e= .returned (.int .i64 i)∧Hid (decide (0≤i)= !(oneDev hd es))∧Below w.heap.size w w':=by
 have HE:=hid hE
 have HLE:=hid hLe
 have HC:=hid (World.block_lt_of_cell? w _ hc)
 have HH:=hid hc
 clear hE hLe hc
 obtain ⟨M,hM⟩:=ex_eq w.heap.size
 have HM:=hid hM
 clear hM
 go_enter Tryz.func272,Tryz.ntmps272
 go_upto_region 2 with fail
 go_loopw [8] (fun z wr=> ∃k:Nat,k≤L∧z= .int .i64 (k:Int)∧Hid (∀i,(hi:i<es.length)→i<k→es[i].dev=hd)∧Hid (Below M w wr)) (fun z _=>L - (intOf z).toNat)
 case atStart=>exact ⟨0,by omega,rfl,hid (fun i hi h=>by omega),hid (Below.refl _ _)⟩
 case round=>
  obtain ⟨k,hk,rfl,HCR,HR⟩:=hrel
  by_cases hlt:k<L
  ·have hki:(k:Int)<(L:Int):=by omega
   have HKL:Hid (k<es.length):=hid (by rw [HLE.o];exact hlt)
   obtain ⟨b0,o0,rfl,hes0⟩: ∃b o,a=some ⟨b,o,none⟩∧ ∀i,(h:i<es.length)→EntAt wr b (o+i*6) es[i]:=by
    rcases HE.o.later (by rw [HM.o];exact HR.o) with h | h
    ·have:=HLE.o;rw [h] at this;simp at this;omega
    ·exact h
   have hek:=hes0 k HKL.o
   obtain ⟨q,hq⟩:=ex_eq (es[k]'HKL.o)
   have HQ:Hid (es[k]'HKL.o=q):=hid hq
   rw [hq] at hek
   clear hq hes0
   obtain ⟨dv,sq,kd,dy,qb,p⟩:=q
   obtain ⟨ae,m,cm,hm,hmn,hmB,d0,d1,d2,d3,d4,d5⟩:=hek
   simp only at hm hmB d0 d1 d2 d3 d4 d5
   have HHR:Hid (wr.cell? ⟨H,0,none⟩=some (.int .i64 hd)):=hid ((HR.o.cell (by rw [← HM.o];exact HC.o)).trans HH.o)
   have HDV:=hid (fun w h=>dev_any dv sq kd dy ae m cm p H hd w h)
   clear hm hmB hmn
   by_cases hdev:dv=hd
   ·have hne:(dv != hd)=false:=by rw [hdev];simp
    have HD:=hid hdev
    rw [hne] at HDV
    clear hdev hne
    have HC2:Hid (∀i,(hi:i<es.length)→i<k+1→es[i].dev=hd):=hid (fun i hi h=>by
     by_cases e:i=k
     ·subst e;rw [HQ.o];exact HD.o
     ·exact HCR.o i hi (by omega))
    go_wp2_with (first
     | (go_at_call 229
        (with_reducible refine (HDV.o _ HHR.o).mono ?_)
        rintro e w2 ⟨rfl,h2⟩
        have H2:Hid (Below M w w2):=hid (HR.o.trans (h2.mono (by have:=HR.o.size;have:=HM.o;omega)))
        clear h2 d0 d1 d2 d3 d4 d5))
    go_roundw
    case rel=>exact ⟨k+1,hlt,by go_num,HC2.o,H2.o⟩
    case measure=>simp [intOf];omega
   ·have hne:(dv != hd)=true:=by rw [bne_iff_ne];exact hdev
    have HF:Hid (oneDev hd es=false):=hid (oneDev_bad k HKL.o (by rw [HQ.o];exact hdev))
    rw [hne] at HDV
    clear hdev hne
    go_wp2_with (first
     | (go_at_call 229
        (with_reducible refine (HDV.o _ HHR.o).mono ?_)
        rintro e w2 ⟨rfl,h2⟩
        have H2:Hid (Below M w w2):=hid (HR.o.trans (h2.mono (by have:=HR.o.size;have:=HM.o;omega)))
        clear h2 d0 d1 d2 d3 d4 d5))
    go_ret
    exact ⟨_,rfl,hid (by rw [HF.o];simp),by rw [HM.o];exact H2.o⟩
  ·have hki: ¬(k:Int)<(L:Int):=by omega
   have HF:Hid (oneDev hd es=true):=hid (oneDev_good (fun i hi=>HCR.o i hi (by have:=HLE.o;omega)))
   go_wp2_with fail
   go_ret
   exact ⟨_,rfl,hid (by rw [HF.o];decide),by rw [HM.o];exact HR.o⟩
theorem containsDev_any (a:Option Addr) (c L:Nat) (es:List Ent) (hLe:es.length=L) (hL:L≤1000000) (H:Nat) (hd:Int) (w:World) (hE:EntsAt w a es) (hc:w.cell? ⟨H,0,none⟩=some (.int .i64 hd)):
    Calls Tryz.prog 228 #[.slice a L c,.func (.func 229) #[] #[.pointer (some ⟨H,0,none⟩)]] w fun e w'=>e= .returned (.bool (!(oneDev hd es)))∧Below w.heap.size w w':=by
 have HI:=hid (indexDev_any a c L es hLe hL H hd w hE hc)
 obtain ⟨B,hB⟩:=ex_eq (!(oneDev hd es))
 rw [hB] at HI ⊢
 clear hLe hE hc hB
 go_enter Tryz.func228,Tryz.ntmps228
 go_wp2_with (first
  | (go_at_call 272
     (with_reducible refine HI.o.mono ?_)
     rintro e w2 ⟨i,rfl,HQ,h2⟩
     have H2:=hid h2
     clear h2))
 go_ret
 exact ⟨by rw [← HQ.o];rfl,H2.o⟩
theorem bytesEqual_any (a1 a2:Option Addr) (n1 c1 n2 c2:Nat) (b1 b2:List Nat) (hn1:b1.length=n1) (hn2:b2.length=n2) (w:World) (hB1:BytesAt w a1 b1) (hB2:BytesAt w a2 b2):
    Calls Tryz.prog 230 #[.slice a1 n1 c1,.slice a2 n2 c2] w fun e w'=>e= .returned (.bool (decide (b1=b2)))∧w=w':=by
 have hcv1:=conv_bytes hB1 c1
 have hcv2:=conv_bytes hB2 c2
 rw [hn1] at hcv1
 rw [hn2] at hcv2
 obtain ⟨t1,ht1⟩:=ex_eq (strB b1)
 obtain ⟨t2,ht2⟩:=ex_eq (strB b2)
 have HT:Hid ((t1.toList==t2.toList)=decide (b1=b2)):=hid (by
  rw [eq_str,decide_eq_decide]
  exact ⟨fun h=>strB_inj hB1.2.1 hB2.2.1 (by rw [ht1,ht2];exact nb_inj h),fun h=>by rw [← ht1,← ht2,h]⟩)
 rw [ht1] at hcv1
 rw [ht2] at hcv2
 clear ht1 ht2 hB1 hB2 hn1 hn2
 go_enter Tryz.func230,Tryz.ntmps230
 go_wp2_with fail
 go_ret
 exact ⟨by rw [HT.o];rfl,rfl⟩
theorem sameG_any (d1 s1 k1 y1:Int) (a1:Option Addr) (n1 c1:Nat) (p1:ByteArray) (b1:List Nat) (hn1:b1.length=n1) (d2 s2 k2 y2:Int) (a2:Option Addr) (n2 c2:Nat) (p2:ByteArray) (b2:List Nat) (hn2:b2.length=n2) (w:World) (hB1:BytesAt w a1 b1) (hB2:BytesAt w a2 b2):
    Calls Tryz.prog 162 #[.agg #[.int .i64 d1,.int .i64 s1,.int .i64 k1,.int .i64 y1,.slice a1 n1 c1,.string p1],.agg #[.int .i64 d2,.int .i64 s2,.int .i64 k2,.int .i64 y2,.slice a2 n2 c2,.string p2]] w fun e w'=>e= .returned (.bool (sameE ⟨d1,s1,k1,y1,b1,p1⟩ ⟨d2,s2,k2,y2,b2,p2⟩))∧Below w.heap.size w w':=by
 obtain ⟨r,hr⟩:=ex_eq (sameE ⟨d1,s1,k1,y1,b1,p1⟩ ⟨d2,s2,k2,y2,b2,p2⟩)
 have HR:=hid hr
 rw [hr]
 have HB1:=hid hB1
 have HB2:=hid hB2
 have HN1:=hid hn1
 have HN2:=hid hn2
 clear hr hB1 hB2 hn1 hn2
 go_enter Tryz.func162,Tryz.ntmps162
 go_upto_region 1 with fail
 refine wp_over (fun W=>Hid (W.heap[w.heap.size]? =some (.cells #[.int .i64 d1,.int .i64 s1,.int .i64 k1,.int .i64 y1,.slice a1 n1 c1,.string p1] 92 (0,0)))∧Hid (W.heap[w.heap.size+1]? =some (.cells #[.int .i64 d2,.int .i64 s2,.int .i64 k2,.int .i64 y2,.slice a2 n2 c2,.string p2] 92 (0,0)))∧Hid (Below w.heap.size w W)) ⟨(Below.heap_alloc _ _ _ (by simp)).trans (heap_alloc_new _ _),(by have:=heap_alloc_new (w.alloc (.cells #[.int .i64 d1,.int .i64 s1,.int .i64 k1,.int .i64 y1,.slice a1 n1 c1,.string p1] 92)) (.cells #[.int .i64 d2,.int .i64 s2,.int .i64 k2,.int .i64 y2,.slice a2 n2 c2,.string p2] 92);rwa [World.size_alloc] at this),((Below.refl _ _).alloc (Nat.le_refl _) _).alloc (by simp) _⟩ ?_
 rintro W ⟨HX1,HX2,HB⟩
 obtain ⟨M,hM⟩:=ex_eq w.heap.size
 have HM:=hid hM
 rw [hM] at HX1 HX2 HB ⊢
 clear hM
 obtain ⟨g0,g1,g2,g3,g4,g5⟩:=row6 HX1.o
 obtain ⟨q0,q1,q2,q3,q4,q5⟩:=row6 HX2.o
 have HEQ:=hid (bytesEqual_any a1 a2 n1 c1 n2 c2 b1 b2 HN1.o HN2.o _ (HB1.o.later (by rw [HM.o];exact HB.o)) (HB2.o.later (by rw [HM.o];exact HB.o)))
 obtain ⟨t,ht⟩:=ex_eq (decide (b1=b2))
 have HT:=hid ht
 rw [ht] at HEQ
 clear ht
 have HF:Hid (¬(d1=d2∧s1=s2∧k1=k2∧y1=y2∧b1=b2∧p1=p2)→r=false):=hid (fun h=>by rw [← HR.o];unfold sameE;exact decide_eq_false h)
 have HTT:Hid ((d1=d2∧s1=s2∧k1=k2∧y1=y2∧b1=b2∧p1=p2)→r=true):=hid (fun h=>by rw [← HR.o];unfold sameE;exact decide_eq_true h)
 by_cases e0:d1=d2
 rotate_left
 ·have hr:=HF.o (fun h=>e0 (h.1))
  subst hr
  have hne:(d1==d2)=false:=by simpa using e0
  go_wp2_with fail
  go_ret
  exact ⟨by first | rfl | simp,by rw [HM.o];exact HB.o⟩
 have E0:=hid e0
 subst e0
 by_cases e1:s1=s2
 rotate_left
 ·have hr:=HF.o (fun h=>e1 (h.2.1))
  subst hr
  have hne:(s1==s2)=false:=by simpa using e1
  go_wp2_with fail
  go_ret
  exact ⟨by first | rfl | simp,by rw [HM.o];exact HB.o⟩
 have E1:=hid e1
 subst e1
 by_cases e2:k1=k2
 rotate_left
 ·have hr:=HF.o (fun h=>e2 (h.2.2.1))
  subst hr
  have hne:(k1==k2)=false:=by simpa using e2
  go_wp2_with fail
  go_ret
  exact ⟨by first | rfl | simp,by rw [HM.o];exact HB.o⟩
 have E2:=hid e2
 subst e2
 by_cases e3:y1=y2
 rotate_left
 ·have hr:=HF.o (fun h=>e3 (h.2.2.2.1))
  subst hr
  have hne:(y1==y2)=false:=by simpa using e3
  go_wp2_with fail
  go_ret
  exact ⟨by first | rfl | simp,by rw [HM.o];exact HB.o⟩
 have E3:=hid e3
 subst e3
 by_cases e4:b1=b2
 rotate_left
 ·have hr:=HF.o (fun h=>e4 (h.2.2.2.2.1))
  subst hr
  have HT2:Hid (t=false):=hid (by rw [← HT.o];exact decide_eq_false e4)
  rw [HT2.o] at HEQ
  clear e4
  go_wp2_with (first
   | (go_at_call 230
      (with_reducible refine HEQ.o.mono ?_)
      rintro e w2 ⟨rfl,rfl⟩))
  go_ret
  exact ⟨by first | rfl | simp,by rw [HM.o];exact HB.o⟩
 have HT2:Hid (t=true):=hid (by rw [← HT.o];exact decide_eq_true e4)
 rw [HT2.o] at HEQ
 have E4:=hid e4
 clear e4
 by_cases e5:p1=p2
 rotate_left
 ·have hr:=HF.o (fun h=>e5 (h.2.2.2.2.2))
  subst hr
  have hne:(p1.toList==p2.toList)=false:=by rw [eq_str,decide_eq_false (fun h=>e5 (nb_inj h))]
  go_wp2_with (first
  | (go_at_call 230
     (with_reducible refine HEQ.o.mono ?_)
     rintro e w2 ⟨rfl,rfl⟩))
  go_ret
  exact ⟨by first | rfl | simp,by rw [HM.o];exact HB.o⟩
 have E5:=hid e5
 subst e5
 have hr:=HTT.o ⟨rfl,rfl,rfl,rfl,E4.o,rfl⟩
 subst hr
 go_wp2_with (first
  | (go_at_call 230
     (with_reducible refine HEQ.o.mono ?_)
     rintro e w2 ⟨rfl,rfl⟩))
 go_ret
 exact ⟨by first | rfl | simp,by rw [HM.o];exact HB.o⟩
end Go.Proofs.YtndlihclgdkpaaaGreatDoor
