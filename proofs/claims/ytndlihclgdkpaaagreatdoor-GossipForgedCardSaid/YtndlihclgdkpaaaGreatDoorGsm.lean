/- The document's Same on entries; the key of the law's examples. -/
import Derived.Test.YtndlihclgdkpaaaGreatDoorGmm
import Derived.Test.YtndlihclgdkpaaaGreatDoorSud
set_option linter.unusedVariables false
set_option linter.unusedSimpArgs false
open Go.Lib (hid)
set_option maxRecDepth 100000
namespace Go.Proofs.YtndlihclgdkpaaaGreatDoor
open Go.RowKit
open Kit (Chg)
open Sha (v)
open Go.Proofs.YtndlihclgdkpaaaGreatDoor.One

def sameE (a b:Ent):Bool:=decide (a.dev=b.dev∧a.seq=b.seq∧a.kind=b.kind∧a.day=b.day∧a.body=b.body∧a.prev=b.prev)
theorem sameE_iff (a b:Ent):sameE a b=true↔a=b:=by
 unfold sameE
 rw [decide_eq_true_eq]
 constructor
 ·rintro ⟨h1,h2,h3,h4,h5,h6⟩
  exact Ent.ext' h1 h2 h3 h4 h5 h6
 ·rintro rfl
  exact ⟨rfl,rfl,rfl,rfl,rfl,rfl⟩
set_option maxHeartbeats 2000000 in
theorem same46_any (d1 s1 k1 y1:Int) (a1:Option Addr) (n1 c1:Nat) (p1:ByteArray) (b1:List Nat) (hn1:b1.length=n1) (d2 s2 k2 y2:Int) (a2:Option Addr) (n2 c2:Nat) (p2:ByteArray) (b2:List Nat) (hn2:b2.length=n2) (w:World) (hB1:BytesAt w a1 b1) (hB2:BytesAt w a2 b2):
    Calls Tryz.prog 60 #[.agg #[.int .i64 d1,.int .i64 s1,.int .i64 k1,.int .i64 y1,.slice a1 n1 c1,.string p1],.agg #[.int .i64 d2,.int .i64 s2,.int .i64 k2,.int .i64 y2,.slice a2 n2 c2,.string p2]] w fun e w'=>e= .returned (.bool (sameE ⟨d1,s1,k1,y1,b1,p1⟩ ⟨d2,s2,k2,y2,b2,p2⟩))∧Below w.heap.size w w':=by
 obtain ⟨r,hr⟩:=ex_eq (sameE ⟨d1,s1,k1,y1,b1,p1⟩ ⟨d2,s2,k2,y2,b2,p2⟩)
 have HR:=hid hr
 rw [hr]
 have HB1:=hid hB1
 have HB2:=hid hB2
 have HN1:=hid hn1
 have HN2:=hid hn2
 clear hr hB1 hB2 hn1 hn2
 go_enter Tryz.func60,Tryz.ntmps60
 go_upto_region 1 with fail
 refine wp_over (fun W=>Hid (W.heap[w.heap.size]? =some (.cells #[.int .i64 d1,.int .i64 s1,.int .i64 k1,.int .i64 y1,.slice a1 n1 c1,.string p1] 92 (0,0)))∧Hid (W.heap[w.heap.size+1]? =some (.cells #[.int .i64 d2,.int .i64 s2,.int .i64 k2,.int .i64 y2,.slice a2 n2 c2,.string p2] 92 (0,0)))∧Hid (Below w.heap.size w W)) ⟨(Below.heap_alloc _ _ _ (by simp)).trans (heap_alloc_new _ _),(by have:=heap_alloc_new (w.alloc (.cells #[.int .i64 d1,.int .i64 s1,.int .i64 k1,.int .i64 y1,.slice a1 n1 c1,.string p1] 92)) (.cells #[.int .i64 d2,.int .i64 s2,.int .i64 k2,.int .i64 y2,.slice a2 n2 c2,.string p2] 92);rwa [World.size_alloc] at this),((Below.refl _ _).alloc (Nat.le_refl _) _).alloc (by simp) _⟩ ?_
 rintro W ⟨HX1,HX2,HB⟩
 obtain ⟨M,hM⟩:=ex_eq w.heap.size
 have HM:=hid hM
 rw [hM] at HX1 HX2 HB ⊢
 clear hM
 obtain ⟨g0,g1,g2,g3,g4,g5⟩:=row6 HX1.o
 obtain ⟨q0,q1,q2,q3,q4,q5⟩:=row6 HX2.o
 have hcv1:=conv_bytes (HB1.o.later (by rw [HM.o];exact HB.o)) c1
 have hcv2:=conv_bytes (HB2.o.later (by rw [HM.o];exact HB.o)) c2
 rw [HN1.o] at hcv1
 rw [HN2.o] at hcv2
 obtain ⟨t1,ht1⟩:=ex_eq (strB b1)
 obtain ⟨t2,ht2⟩:=ex_eq (strB b2)
 have HT:Hid (t1=t2↔b1=b2):=hid ⟨fun h=>strB_inj HB1.o.2.1 HB2.o.2.1 (by rw [ht1,ht2,h]),fun h=>by rw [← ht1,← ht2,h]⟩
 rw [ht1] at hcv1
 rw [ht2] at hcv2
 clear ht1 ht2
 have HF:Hid (¬(d1=d2∧s1=s2∧k1=k2∧y1=y2∧b1=b2∧p1=p2)→r=false):=hid (fun h=>by rw [← HR.o];unfold sameE;exact decide_eq_false h)
 have HTT:Hid ((d1=d2∧s1=s2∧k1=k2∧y1=y2∧b1=b2∧p1=p2)→r=true):=hid (fun h=>by rw [← HR.o];unfold sameE;exact decide_eq_true h)
 by_cases e0:d1=d2
 rotate_left
 ·have hr:=HF.o (fun h=>e0 (h.1))
  subst hr
  have hne:(d1==d2)=false:=by simpa using e0
  go_wp2_with fail
  go_ret
  exact ⟨by first | rfl | simp,by rw [HM.o];exact HB.o⟩
 have E0:=hid e0
 subst e0
 by_cases e1:s1=s2
 rotate_left
 ·have hr:=HF.o (fun h=>e1 (h.2.1))
  subst hr
  have hne:(s1==s2)=false:=by simpa using e1
  go_wp2_with fail
  go_ret
  exact ⟨by first | rfl | simp,by rw [HM.o];exact HB.o⟩
 have E1:=hid e1
 subst e1
 by_cases e2:k1=k2
 rotate_left
 ·have hr:=HF.o (fun h=>e2 (h.2.2.1))
  subst hr
  have hne:(k1==k2)=false:=by simpa using e2
  go_wp2_with fail
  go_ret
  exact ⟨by first | rfl | simp,by rw [HM.o];exact HB.o⟩
 have E2:=hid e2
 subst e2
 by_cases e3:y1=y2
 rotate_left
 ·have hr:=HF.o (fun h=>e3 (h.2.2.2.1))
  subst hr
  have hne:(y1==y2)=false:=by simpa using e3
  go_wp2_with fail
  go_ret
  exact ⟨by first | rfl | simp,by rw [HM.o];exact HB.o⟩
 have E3:=hid e3
 subst e3
 by_cases e4:t1=t2
 rotate_left
 ·have hr:=HF.o (fun h=>e4 (HT.o.2 (h.2.2.2.2.1)))
  subst hr
  have hne:(t1.toList==t2.toList)=false:=by rw [eq_str,decide_eq_false (fun h=>e4 (nb_inj h))]
  go_wp2_with fail
  go_ret
  exact ⟨by first | rfl | simp,by rw [HM.o];exact HB.o⟩
 have E4:=hid e4
 subst e4
 by_cases e5:p1=p2
 rotate_left
 ·have hr:=HF.o (fun h=>e5 (h.2.2.2.2.2))
  subst hr
  have hne:(p1.toList==p2.toList)=false:=by rw [eq_str,decide_eq_false (fun h=>e5 (nb_inj h))]
  go_wp2_with fail
  go_ret
  exact ⟨by first | rfl | simp,by rw [HM.o];exact HB.o⟩
 have E5:=hid e5
 subst e5
 have hr:=HTT.o ⟨rfl,rfl,rfl,rfl,HT.o.1 rfl,rfl⟩
 subst hr
 go_wp2_with fail
 go_ret
 exact ⟨by first | rfl | simp,by rw [HM.o];exact HB.o⟩
def keyB (c:Nat):List Nat:=c::[49,50,51,52,53,54,55,56,57,97,98,99,100,101,102,48,49,50,51,52,53,54,55,56,57,97,98,99,100,101,102]
theorem key_any (c:Nat) (hc:c<256) (w:World):Calls Tryz.prog 138 #[.int .u8 (c:Int)] w fun e w'=> ∃u:ByteArray,e= .returned (.string u)∧nb u=keyB c∧u.size=32∧Below w.heap.size w w':=by
 obtain ⟨cb,hcb⟩:=ex_eq (strB [c])
 have hcv:=conv_new w [c] (by simpa using hc) 1 rfl (by decide) #[.int .u8 (c:Int)] rfl cb hcb
 have HCB:=hid hcb
 have HB1:Hid (Below w.heap.size w (w.alloc (.cells #[.int .u8 (c:Int)] 5))):=hid ((Below.refl _ _).alloc (Nat.le_refl _) _)
 clear hcb
 go_enter Tryz.func138,Tryz.ntmps138
 have hsz:ByteArray.size (cb++{ data:= #[49,50,51,52,53,54,55,56,57,97,98,99,100,101,102,48,49,50,51,52,53,54,55,56,57,97,98,99,100,101,102] })=32:=by
  rw [ByteArray.size_append,← HCB.o,(strB_one hc).2]
  rfl
 have hnb:nb (cb++{ data:= #[49,50,51,52,53,54,55,56,57,97,98,99,100,101,102,48,49,50,51,52,53,54,55,56,57,97,98,99,100,101,102] })=keyB c:=by
  rw [nb_app,← HCB.o,(strB_one hc).1]
  rfl
 have HSZ:=hid hsz
 have HNB:=hid hnb
 have hlt: ¬9223372036854775807<cb.size+31:=by rw [← HCB.o,(strB_one hc).2];decide
 clear hsz hnb
 go_wp2_with fail
 go_ret
 exact ⟨_,rfl,HNB.o,HSZ.o,HB1.o⟩
end Go.Proofs.YtndlihclgdkpaaaGreatDoor
