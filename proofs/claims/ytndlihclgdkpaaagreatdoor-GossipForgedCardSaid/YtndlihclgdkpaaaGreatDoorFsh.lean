/- The document's SameHead answers, whatever the heads. -/
import Derived.Test.YtndlihclgdkpaaaGreatDoorSml
import Derived.Test.YtndlihclgdkpaaaGreatDoorVcw
set_option linter.unusedVariables false
set_option linter.unusedSimpArgs false
open Go.Lib (hid)
set_option maxHeartbeats 2000000
set_option maxRecDepth 100000
namespace Go.Proofs.YtndlihclgdkpaaaGreatDoor
open Go.RowKit
open Kit (Chg)
open Sha (v)
open Go.Proofs.YtndlihclgdkpaaaGreatDoor.One

theorem texts_ne (a b:Option Addr) (c1 c2 L1 L2:Nat) (hl:L1≠L2) (w:World):
    Calls Tryz.prog 220 #[.slice a L1 c1,.slice b L2 c2] w fun e w'=>e= .returned (.bool false)∧Below w.heap.size w w':=by
 have hne:((L1:Int) != (L2:Int))=true:=by rw [bne_iff_ne];omega
 clear hl
 go_enter Tryz.func220,Tryz.ntmps220
 go_wp2_with fail
 go_ret
 exact ⟨by first | rfl | trivial,Below.refl _ _⟩
theorem texts_b (a b:Option Addr) (c1 c2 L1 L2:Nat) (X Y:List ByteArray) (h1:X.length=L1) (h2:Y.length=L2) (hl2:L2≤1000000) (w:World) (hX:StrsAt w a X) (hY:StrsAt w b Y):
    Calls Tryz.prog 220 #[.slice a L1 c1,.slice b L2 c2] w fun e w'=>e= .returned (.bool (decide (X=Y)))∧Below w.heap.size w w':=by
 by_cases hl:L1=L2
 ·exact texts_any a b c1 c2 L1 L2 X Y h1 h2 (by omega) (by omega) w hX hY
 ·rw [decide_eq_false (fun h=>hl (by rw [← h1,← h2,h]))]
  exact texts_ne a b c1 c2 L1 L2 hl w
theorem sigSame_b (i j:Int) (a1 a2 b1 b2:Option Addr) (n1 n2 m1 m2 c1 c2 d1 d2:Nat) (ps qs ps' qs':List ByteArray) (h1:ps.length=n1) (h2:qs.length=n2) (h3:ps'.length=m1) (h4:qs'.length=m2) (hm1:m1≤1000000) (hm2:m2≤1000000) (w:World) (hA1:StrsAt w a1 ps) (hA2:StrsAt w a2 qs) (hB1:StrsAt w b1 ps') (hB2:StrsAt w b2 qs'):
    Calls Tryz.prog 148 #[.agg #[.int .i64 i,.slice a1 n1 c1,.slice a2 n2 c2],.agg #[.int .i64 j,.slice b1 m1 d1,.slice b2 m2 d2]] w fun e w'=>e= .returned (.bool (decide (i=j) && decide (ps=ps') && decide (qs=qs')))∧Below w.heap.size w w':=by
 have HT1:=hid (fun w ha hb=>texts_b a1 b1 c1 d1 n1 m1 ps ps' h1 h3 hm1 w ha hb)
 have HT2:=hid (fun w ha hb=>texts_b a2 b2 c2 d2 n2 m2 qs qs' h2 h4 hm2 w ha hb)
 have HS:Hid (∀V,Below w.heap.size w V→StrsAt V a1 ps∧StrsAt V b1 ps'∧StrsAt V a2 qs∧StrsAt V b2 qs'):=hid (fun V h=>⟨hA1.later h,hB1.later h,hA2.later h,hB2.later h⟩)
 obtain ⟨D1,hD1⟩:=ex_eq (decide (i=j))
 obtain ⟨D2,hD2⟩:=ex_eq (decide (ps=ps'))
 obtain ⟨D3,hD3⟩:=ex_eq (decide (qs=qs'))
 have hij:(i==j)=D1:=by rw [← hD1];by_cases h:i=j<;> simp [h]
 rw [hD1,hD2,hD3]
 rw [hD2] at HT1
 rw [hD3] at HT2
 clear hD1 hD2 hD3 hA1 hA2 hB1 hB2 h1 h2 h3 h4 hm1 hm2
 go_enter Tryz.func148,Tryz.ntmps148
 go_upto_region 1 with fail
 refine wp_over (fun W=>Hid (W.heap[w.heap.size]? =some (.cells #[.int .i64 i,.slice a1 n1 c1,.slice a2 n2 c2] 45 (0,0)))∧Hid (W.heap[w.heap.size+1]? =some (.cells #[.int .i64 j,.slice b1 m1 d1,.slice b2 m2 d2] 45 (0,0)))∧Hid (Below w.heap.size w W)∧Hid (W.heap.size=w.heap.size+2)) ⟨?_,?_,?_,?_⟩ ?_
 ·exact (Below.heap_alloc _ _ _ (by simp)).trans (heap_alloc_new _ _)
 ·have h:=heap_alloc_new (w.alloc (.cells #[.int .i64 i,.slice a1 n1 c1,.slice a2 n2 c2] 45)) (.cells #[.int .i64 j,.slice b1 m1 d1,.slice b2 m2 d2] 45)
  rwa [World.size_alloc] at h
 ·exact ((Below.refl _ _).alloc (Nat.le_refl _) _).alloc (by simp) _
 ·show _=_
  simp
 rintro W ⟨HG1,HG2,HB,HWN⟩
 obtain ⟨N,hN⟩:=ex_eq w.heap.size
 rw [hN] at HG1 HG2 HB HWN ⊢
 have HN:=hid hN
 clear hN
 have HCE:Hid (∀V,Below (N+2) W V→V.cell? ⟨N,0,none⟩=some (.int .i64 i)∧V.cell? ⟨N,1,none⟩=some (.slice a1 n1 c1)∧V.cell? ⟨N,2,none⟩=some (.slice a2 n2 c2)∧V.cell? ⟨N+1,0,none⟩=some (.int .i64 j)∧V.cell? ⟨N+1,1,none⟩=some (.slice b1 m1 d1)∧V.cell? ⟨N+1,2,none⟩=some (.slice b2 m2 d2)):=hid (fun V h=>by
  have e1:=(h.block N (by omega)).trans HG1.o
  have e2:=(h.block (N+1) (by omega)).trans HG2.o
  exact ⟨cr e1,cr e1,cr e1,cr e2,cr e2,cr e2⟩)
 have HST:Hid (∀V V',Below (N+2) W V→Below V.heap.size V V'→Below (N+2) W V'):=hid (fun V V' h h'=>h.trans (h'.mono (by have:=h.size;have:=HWN.o;omega)))
 have HEND:Hid (∀V,Below (N+2) W V→Below w.heap.size w V):=hid (fun V h=>by rw [HN.o];exact HB.o.trans (h.mono (by omega)))
 obtain ⟨c0,c1,c2,c3,c4,c5⟩:=HCE.o W (Below.refl _ _)
 have HR0:Hid (Below (N+2) W W):=hid (Below.refl _ _)
 have HS0:=hid (HS.o _ (HEND.o _ HR0.o))
 cases D1
 ·go_wp2_with fail
  go_ret
  exact ⟨by first | rfl | simp,HEND.o _ (Below.refl _ _)⟩
 cases D2
 ·go_wp2_with (first
    | (go_at_call 220
       (refine (HT1.o W HS0.o.1 HS0.o.2.1).mono ?_)
       rintro e w2 ⟨rfl,h2⟩
       have H2:=hid (HST.o W w2 HR0.o h2)
       clear c0 c1 c2 c3 c4 c5
       obtain ⟨c0,c1,c2,c3,c4,c5⟩:=HCE.o w2 H2.o
       have HS2:=hid (HS.o w2 (HEND.o w2 H2.o))
       clear h2))
  go_ret
  exact ⟨by first | rfl | simp,HEND.o _ H2.o⟩
 ·go_wp2_with (first
    | (go_at_call 220
       (refine (HT2.o w2 HS2.o.2.2.1 HS2.o.2.2.2).mono ?_)
       rintro e w3 ⟨rfl,h3⟩
       have H3:=hid (HST.o w2 w3 H2.o h3)
       clear h3)
    | (go_at_call 220
       (refine (HT1.o W HS0.o.1 HS0.o.2.1).mono ?_)
       rintro e w2 ⟨rfl,h2⟩
       have H2:=hid (HST.o W w2 HR0.o h2)
       clear c0 c1 c2 c3 c4 c5
       obtain ⟨c0,c1,c2,c3,c4,c5⟩:=HCE.o w2 H2.o
       have HS2:=hid (HS.o w2 (HEND.o w2 H2.o))
       clear h2))
  go_ret
  exact ⟨by first | rfl | simp,HEND.o _ H3.o⟩
theorem sameHead_any (d0 q0:Int) (s0:ByteArray) (i:Int) (a1:Option Addr) (n1 c1:Nat) (a2:Option Addr) (n2 c2:Nat) (ps qs:List ByteArray) (d1' q1:Int) (s1:ByteArray) (j:Int) (b1:Option Addr) (m1 c3:Nat) (b2:Option Addr) (m2 c4:Nat) (ps' qs':List ByteArray) (h1:ps.length=n1) (h2:qs.length=n2) (h3:ps'.length=m1) (h4:qs'.length=m2) (hm1:m1≤1000000) (hm2:m2≤1000000) (w:World) (hA1:StrsAt w a1 ps) (hA2:StrsAt w a2 qs) (hB1:StrsAt w b1 ps') (hB2:StrsAt w b2 qs'):
    Calls Tryz.prog 59 #[.agg #[.int .i64 d0,.int .i64 q0,.string s0,.int .i64 i,.slice a1 n1 c1,.slice a2 n2 c2],.agg #[.int .i64 d1',.int .i64 q1,.string s1,.int .i64 j,.slice b1 m1 c3,.slice b2 m2 c4]] w fun e w'=> ∃r:Bool,e= .returned (.bool r)∧Below w.heap.size w w':=by
 have HSS:Hid (∀V,Below w.heap.size w V→Calls Tryz.prog 148 #[.agg #[.int .i64 i,.slice a1 n1 c1,.slice a2 n2 c2],.agg #[.int .i64 j,.slice b1 m1 c3,.slice b2 m2 c4]] V fun e w'=>e= .returned (.bool (decide (i=j) && decide (ps=ps') && decide (qs=qs')))∧Below V.heap.size V w'):=hid (fun V h=>sigSame_b i j a1 a2 b1 b2 n1 n2 m1 m2 c1 c2 c3 c4 ps qs ps' qs' h1 h2 h3 h4 hm1 hm2 V (hA1.later h) (hA2.later h) (hB1.later h) (hB2.later h))
 obtain ⟨D,hD⟩:=ex_eq (decide (i=j) && decide (ps=ps') && decide (qs=qs'))
 rw [hD] at HSS
 obtain ⟨E0,hE0⟩:=ex_eq (d0==d1')
 obtain ⟨E1,hE1⟩:=ex_eq (q0==q1)
 obtain ⟨E2,hE2⟩:=ex_eq (s0.toList==s1.toList)
 clear hD hA1 hA2 hB1 hB2 h1 h2 h3 h4 hm1 hm2
 go_enter Tryz.func59,Tryz.ntmps59
 go_upto_region 1 with fail
 refine wp_over (fun W=>Hid (W.heap[w.heap.size]? =some (.cells #[.int .i64 d0,.int .i64 q0,.string s0,.int .i64 i,.slice a1 n1 c1,.slice a2 n2 c2] 94 (0,0)))∧Hid (W.heap[w.heap.size+1]? =some (.cells #[.int .i64 d1',.int .i64 q1,.string s1,.int .i64 j,.slice b1 m1 c3,.slice b2 m2 c4] 94 (0,0)))∧Hid (Below w.heap.size w W)∧Hid (W.heap.size=w.heap.size+2)) ⟨two_rows1,two_rows2,two_below,two_size⟩ ?_
 rintro W ⟨HG1,HG2,HB,HWN⟩
 obtain ⟨N,hN⟩:=ex_eq w.heap.size
 rw [hN] at HG1 HG2 HB HWN ⊢
 have HN:=hid hN
 clear hN
 have HCE:Hid (∀V,Below (N+2) W V→(V.cell? ⟨N,0,none⟩=some (.int .i64 d0)∧V.cell? ⟨N,1,none⟩=some (.int .i64 q0)∧V.cell? ⟨N,2,none⟩=some (.string s0)∧V.cell? ⟨N,3,none⟩=some (.int .i64 i)∧V.cell? ⟨N,4,none⟩=some (.slice a1 n1 c1)∧V.cell? ⟨N,5,none⟩=some (.slice a2 n2 c2))∧V.cell? ⟨(N+1),0,none⟩=some (.int .i64 d1')∧V.cell? ⟨(N+1),1,none⟩=some (.int .i64 q1)∧V.cell? ⟨(N+1),2,none⟩=some (.string s1)∧V.cell? ⟨(N+1),3,none⟩=some (.int .i64 j)∧V.cell? ⟨(N+1),4,none⟩=some (.slice b1 m1 c3)∧V.cell? ⟨(N+1),5,none⟩=some (.slice b2 m2 c4)):=hid (fun V h=>⟨row6 ((h.block N (by omega)).trans HG1.o),row6 ((h.block (N+1) (by omega)).trans HG2.o)⟩)
 have HST:Hid (∀V V',Below (N+2) W V→Below V.heap.size V V'→Below (N+2) W V'):=hid (fun V V' h h'=>h.trans (h'.mono (by have:=h.size;have:=HWN.o;omega)))
 have HEND:Hid (∀V,Below (N+2) W V→Below w.heap.size w V):=hid (fun V h=>by rw [HN.o];exact HB.o.trans (h.mono (by omega)))
 cases E0
 ·obtain ⟨⟨t0,t1,t2,t3,t4,t5⟩,t6,t7,t8,t9,t10,t11⟩:=HCE.o W (Below.refl _ _)
  go_wp2_with fail
  go_ret
  exact ⟨_,rfl,HEND.o _ (Below.refl _ _)⟩
 cases E1
 ·obtain ⟨⟨t0,t1,t2,t3,t4,t5⟩,t6,t7,t8,t9,t10,t11⟩:=HCE.o W (Below.refl _ _)
  go_wp2_with fail
  go_ret
  exact ⟨_,rfl,HEND.o _ (Below.refl _ _)⟩
 cases E2
 ·obtain ⟨⟨t0,t1,t2,t3,t4,t5⟩,t6,t7,t8,t9,t10,t11⟩:=HCE.o W (Below.refl _ _)
  go_wp2_with fail
  go_ret
  exact ⟨_,rfl,HEND.o _ (Below.refl _ _)⟩
 obtain ⟨⟨t0,t1,t2,t3,t4,t5⟩,t6,t7,t8,t9,t10,t11⟩:=HCE.o W (Below.refl _ _)
 go_wp2_with (first
  | (go_at_call 148
     (with_reducible refine (HSS.o W (HEND.o _ (Below.refl _ _))).mono ?_)
     rintro e w2 ⟨rfl,h2⟩
     have H2:=hid (HST.o _ _ (Below.refl _ _) h2)
     clear h2))
 go_ret
 exact ⟨_,rfl,HEND.o _ H2.o⟩
end Go.Proofs.YtndlihclgdkpaaaGreatDoor
