/- receipt: within, Promise.valid, areSums, valid; the document's within, Good, sums, Valid. -/
import Derived.Test.YtndlihclgdkpaaaGreatDoorGg
import Derived.Test.YtndlihclgdkpaaaGreatDoorGh
import Derived.Test.YtndlihclgdkpaaaGreatDoorGi
set_option linter.unusedVariables false
set_option linter.unusedSimpArgs false
open Go.Lib (hid)
set_option maxHeartbeats 4000000
set_option maxRecDepth 100000
namespace Go.Proofs.YtndlihclgdkpaaaGreatDoor
open Go.RowKit
open Kit (Chg)
open Sha (v)
open Go.Proofs.YtndlihclgdkpaaaGreatDoor.One

theorem row14 {w:World} {N:Nat} {x0 x1 x2 x3 x4 x5 x6 x7 x8 x9 x10 x11 x12 x13:Value} {T:TypeId} {f:Nat × Nat} (hg:w.heap[N]? =some (.cells #[x0,x1,x2,x3,x4,x5,x6,x7,x8,x9,x10,x11,x12,x13] T f)):w.cell? ⟨N,0,none⟩=some x0∧w.cell? ⟨N,1,none⟩=some x1∧w.cell? ⟨N,2,none⟩=some x2∧w.cell? ⟨N,3,none⟩=some x3∧w.cell? ⟨N,4,none⟩=some x4∧w.cell? ⟨N,5,none⟩=some x5∧w.cell? ⟨N,6,none⟩=some x6∧w.cell? ⟨N,7,none⟩=some x7∧w.cell? ⟨N,8,none⟩=some x8∧w.cell? ⟨N,9,none⟩=some x9∧w.cell? ⟨N,10,none⟩=some x10∧w.cell? ⟨N,11,none⟩=some x11∧w.cell? ⟨N,12,none⟩=some x12∧w.cell? ⟨N,13,none⟩=some x13:=
 ⟨cr hg,cr hg,cr hg,cr hg,cr hg,cr hg,cr hg,cr hg,cr hg,cr hg,cr hg,cr hg,cr hg,cr hg⟩
theorem row4 {w:World} {N:Nat} {x0 x1 x2 x3:Value} {T:TypeId} {f:Nat × Nat} (hg:w.heap[N]? =some (.cells #[x0,x1,x2,x3] T f)):w.cell? ⟨N,0,none⟩=some x0∧w.cell? ⟨N,1,none⟩=some x1∧w.cell? ⟨N,2,none⟩=some x2∧w.cell? ⟨N,3,none⟩=some x3:=
 ⟨cr hg,cr hg,cr hg,cr hg⟩
theorem withinR_any (x lo hi:Int) (w:World):Calls Tryz.prog 85 #[.int .i64 x,.int .i64 lo,.int .i64 hi] w fun e w'=>e= .returned (.bool (inB x lo hi))∧w=w':=by
 by_cases h1:lo≤x
 ·by_cases h2:x≤hi
  ·have HF:Hid (inB x lo hi=true):=hid (by unfold inB;rw [decide_eq_true h1,decide_eq_true h2];rfl)
   have hd1:=decide_eq_true h1
   have hd2:=decide_eq_true h2
   go_enter Tryz.func85,Tryz.ntmps85
   go_wp2_with fail
   go_ret
   exact ⟨by rw [HF.o];first | rfl | simp,rfl⟩
  ·have HF:Hid (inB x lo hi=false):=hid (by unfold inB;rw [decide_eq_false h2];simp)
   have hd1:=decide_eq_true h1
   have hd2:=decide_eq_false h2
   go_enter Tryz.func85,Tryz.ntmps85
   go_wp2_with fail
   go_ret
   exact ⟨by rw [HF.o];first | rfl | simp,rfl⟩
 ·have HF:Hid (inB x lo hi=false):=hid (by unfold inB;rw [decide_eq_false h1];rfl)
  have hd1:=decide_eq_false h1
  go_enter Tryz.func85,Tryz.ntmps85
  go_wp2_with fail
  go_ret
  exact ⟨by rw [HF.o];first | rfl | simp,rfl⟩
theorem refWithinR_any (x lo hi:Int) (w:World):Calls Tryz.prog 95 #[.int .i64 x,.int .i64 lo,.int .i64 hi] w fun e w'=>e= .returned (.bool (inB x lo hi))∧w=w':=by
 by_cases h1:lo≤x
 ·by_cases h2:x≤hi
  ·have HF:Hid (inB x lo hi=true):=hid (by unfold inB;rw [decide_eq_true h1,decide_eq_true h2];rfl)
   have hd1:=decide_eq_true h1
   have hd2:=decide_eq_true h2
   go_enter Tryz.func95,Tryz.ntmps95
   go_wp2_with fail
   go_ret
   exact ⟨by rw [HF.o];first | rfl | simp,rfl⟩
  ·have HF:Hid (inB x lo hi=false):=hid (by unfold inB;rw [decide_eq_false h2];simp)
   have hd1:=decide_eq_true h1
   have hd2:=decide_eq_false h2
   go_enter Tryz.func95,Tryz.ntmps95
   go_wp2_with fail
   go_ret
   exact ⟨by rw [HF.o];first | rfl | simp,rfl⟩
 ·have HF:Hid (inB x lo hi=false):=hid (by unfold inB;rw [decide_eq_false h1];rfl)
  have hd1:=decide_eq_false h1
  go_enter Tryz.func95,Tryz.ntmps95
  go_wp2_with fail
  go_ret
  exact ⟨by rw [HF.o];first | rfl | simp,rfl⟩
theorem goodR_any (vlt:Int) (str:ByteArray) (ix sz:Int) (w:World):Calls Tryz.prog 88 #[.agg #[.int .i64 vlt,.string str,.int .i64 ix,.int .i64 sz]] w fun e w'=>e= .returned (.bool (goodP vlt str ix sz))∧Below w.heap.size w w':=by
 obtain ⟨D1,hD1⟩:=ex_eq (inB vlt 0 11)
 obtain ⟨D2,hD2⟩:=ex_eq (decide (str.size=32))
 obtain ⟨D3,hD3⟩:=ex_eq (inB ix 0 15)
 obtain ⟨D4,hD4⟩:=ex_eq (inB sz 1 65536)
 have HV:Hid (goodP vlt str ix sz=(D1 && (D2 && (D3 && D4)))):=hid (by unfold goodP;rw [hD1,hD2,hD3,hD4])
 have HR7:Hid (D2=true→str.size=32):=hid (fun h=>by rw [← hD2] at h;exact of_decide_eq_true h)
 have HR8:Hid (D2=false→ ¬str.size=32):=hid (fun h=>by rw [← hD2] at h;exact of_decide_eq_false h)
 have HW1:=hid (fun w=>withinR_any vlt 0 11 w)
 have HW3:=hid (fun w=>withinR_any ix 0 15 w)
 have HW4:=hid (fun w=>withinR_any sz 1 65536 w)
 rw [hD1] at HW1
 rw [hD3] at HW3
 rw [hD4] at HW4
 clear hD1 hD2 hD3 hD4
 go_enter Tryz.func88,Tryz.ntmps88
 go_upto_region 1 with fail
 refine wp_over (fun W=>Hid (W.heap[w.heap.size]? =some (.cells #[.int .i64 vlt,.string str,.int .i64 ix,.int .i64 sz] 135 (0,0)))∧Hid (Below w.heap.size w W)) ⟨heap_alloc_new _ _,(Below.refl _ _).alloc (Nat.le_refl _) _⟩ ?_
 rintro W ⟨HG,HB⟩
 obtain ⟨N,hN⟩:=ex_eq w.heap.size
 rw [hN] at HG HB ⊢
 have HN:=hid hN
 clear hN
 obtain ⟨c0,c1,c2,c3⟩:=row4 HG.o
 cases D1
 rotate_left
 cases D2
 have hpe:(((str.size:Nat):Int)==32)=false:=by rw [beq_eq_false_iff_ne];have:=HR8.o rfl;omega
 rotate_left
 have hps:((str.size:Nat):Int)=32:=by have:=HR7.o rfl;omega
 have hpe:(((str.size:Nat):Int)==32)=true:=by rw [hps];rfl
 cases D3
 rotate_left
 cases D4
 all_goals (
  go_wp2_with (first
   | (go_at_call 85
      (with_reducible refine (HW1.o _).mono ?_)
      rintro e w2 ⟨rfl,rfl⟩)
   | (go_at_call 85
      (with_reducible refine (HW3.o _).mono ?_)
      rintro e w2 ⟨rfl,rfl⟩)
   | (go_at_call 85
      (with_reducible refine (HW4.o _).mono ?_)
      rintro e w2 ⟨rfl,rfl⟩))
  go_ret
  exact ⟨by rw [HV.o];first | rfl | (simp;done),by rw [HN.o];exact HB.o⟩)
theorem refGood_any (vlt:Int) (str:ByteArray) (ix sz:Int) (w:World):Calls Tryz.prog 96 #[.agg #[.int .i64 vlt,.string str,.int .i64 ix,.int .i64 sz]] w fun e w'=>e= .returned (.bool (goodP vlt str ix sz))∧Below w.heap.size w w':=by
 obtain ⟨D1,hD1⟩:=ex_eq (inB vlt 0 11)
 obtain ⟨D2,hD2⟩:=ex_eq (decide (str.size=32))
 obtain ⟨D3,hD3⟩:=ex_eq (inB ix 0 15)
 obtain ⟨D4,hD4⟩:=ex_eq (inB sz 1 65536)
 have HV:Hid (goodP vlt str ix sz=(D1 && (D2 && (D3 && D4)))):=hid (by unfold goodP;rw [hD1,hD2,hD3,hD4])
 have HR7:Hid (D2=true→str.size=32):=hid (fun h=>by rw [← hD2] at h;exact of_decide_eq_true h)
 have HR8:Hid (D2=false→ ¬str.size=32):=hid (fun h=>by rw [← hD2] at h;exact of_decide_eq_false h)
 have HW1:=hid (fun w=>refWithinR_any vlt 0 11 w)
 have HW3:=hid (fun w=>refWithinR_any ix 0 15 w)
 have HW4:=hid (fun w=>refWithinR_any sz 1 65536 w)
 rw [hD1] at HW1
 rw [hD3] at HW3
 rw [hD4] at HW4
 clear hD1 hD2 hD3 hD4
 go_enter Tryz.func96,Tryz.ntmps96
 go_upto_region 1 with fail
 refine wp_over (fun W=>Hid (W.heap[w.heap.size]? =some (.cells #[.int .i64 vlt,.string str,.int .i64 ix,.int .i64 sz] 51 (0,0)))∧Hid (Below w.heap.size w W)) ⟨heap_alloc_new _ _,(Below.refl _ _).alloc (Nat.le_refl _) _⟩ ?_
 rintro W ⟨HG,HB⟩
 obtain ⟨N,hN⟩:=ex_eq w.heap.size
 rw [hN] at HG HB ⊢
 have HN:=hid hN
 clear hN
 obtain ⟨c0,c1,c2,c3⟩:=row4 HG.o
 cases D1
 rotate_left
 cases D2
 have hpe:(((str.size:Nat):Int)==32)=false:=by rw [beq_eq_false_iff_ne];have:=HR8.o rfl;omega
 rotate_left
 have hps:((str.size:Nat):Int)=32:=by have:=HR7.o rfl;omega
 have hpe:(((str.size:Nat):Int)==32)=true:=by rw [hps];rfl
 cases D3
 rotate_left
 cases D4
 all_goals (
  go_wp2_with (first
   | (go_at_call 95
      (with_reducible refine (HW1.o _).mono ?_)
      rintro e w2 ⟨rfl,rfl⟩)
   | (go_at_call 95
      (with_reducible refine (HW3.o _).mono ?_)
      rintro e w2 ⟨rfl,rfl⟩)
   | (go_at_call 95
      (with_reducible refine (HW4.o _).mono ?_)
      rintro e w2 ⟨rfl,rfl⟩))
  go_ret
  exact ⟨by rw [HV.o];first | rfl | (simp;done),by rw [HN.o];exact HB.o⟩)
theorem is32_any (s:ByteArray) (w:World):Calls Tryz.prog 257 #[.string s] w fun e w'=>e= .returned (.bool (((s.size:Nat):Int) != 32))∧w=w':=by
 go_enter Tryz.func257,Tryz.ntmps257
 go_wp2_with fail
 go_ret
 exact ⟨rfl,rfl⟩
theorem all32_bad {ss:List ByteArray} {s:ByteArray} (h:s ∈ ss) (hs: ¬s.size=32):all32 ss=false:=by
 cases hc:all32 ss with
 | false=>rfl
 | true=>exact absurd (all32_iff.1 hc s h) hs
theorem all32_good {ss:List ByteArray} {k:Nat} (h: ∀i,i<k→(ss.getD i ByteArray.empty).size=32) (hk:ss.length≤k):all32 ss=true:=all32_iff.2 fun s hs=>by
 obtain ⟨i,hi,rfl⟩:=List.mem_iff_getElem.1 hs
 have h1:=h i (by omega)
 rwa [lD,lE hi] at h1
theorem index32_any (a:Option Addr) (c L:Nat) (ss:List ByteArray) (hLe:ss.length=L) (hL:L<9223372036854775808) (w:World) (hS:StrsAt w a ss):
    Calls Tryz.prog 300 #[.slice a L c,.func (.func 257) #[] #[]] w fun e w'=> ∃i:Int,e= .returned (.int .i64 i)∧Hid (decide (0≤i)= !(all32 ss))∧Below w.heap.size w w':=by
 have HS:=hid hS
 have HLE:=hid hLe
 clear hS hLe
 have H32A:=hid (fun s w=>is32_any s w)
 go_enter Tryz.func300,Tryz.ntmps300
 go_upto_region 2 with fail
 go_loopw [8] (fun z wr=> ∃k:Nat,k≤L∧z= .int .i64 (k:Int)∧Hid (∀i,i<k→(ss.getD i ByteArray.empty).size=32)∧Hid (Below w.heap.size w wr)) (fun z _=>L - (intOf z).toNat)
 case atStart=>exact ⟨0,by omega,rfl,hid (fun i h=>by omega),hid (Below.refl _ _)⟩
 case round=>
  obtain ⟨k,hk,rfl,HCR,HBE⟩:=hrel
  by_cases hlt:k<L
  ·have hki:(k:Int)<(L:Int):=by omega
   obtain ⟨b1,o1,rfl,hcs⟩: ∃b o,a=some ⟨b,o,none⟩∧ ∀i,i<ss.length→wr.cell? ⟨b,o+i,none⟩=some (.string (ss.getD i ByteArray.empty)):=by
    rcases HS.o.later HBE.o with h | h
    ·have:=HLE.o;rw [h] at this;simp at this;omega
    ·exact h
   have hc:=hcs k (by rw [HLE.o];exact hlt)
   have HSM:Hid (ss.getD k ByteArray.empty ∈ ss):=hid (getD_mem ss k _ (by rw [HLE.o];exact hlt))
   obtain ⟨s,hse⟩:=ex_eq (ss.getD k ByteArray.empty)
   rw [hse] at hc HSM
   have HSE:=hid hse
   clear hcs hse
   have HI3:=hid (fun w=>H32A.o s w)
   by_cases h32:s.size=32
   ·have HH:=hid h32
    have hne:(((s.size:Nat):Int) != 32)=false:=by rw [h32];rfl
    rw [hne] at HI3
    clear hne h32
    go_wp2_with (first
     | (go_at_call 257
        (with_reducible refine (HI3.o _).mono ?_)
        rintro e w2 ⟨rfl,rfl⟩
        clear hc))
    go_roundw
    case rel=>
     refine ⟨k+1,hlt,by go_num,hid (fun i hi=> ?_),HBE⟩
     by_cases e:i=k
     ·rw [e,HSE.o];exact HH.o
     ·exact HCR.o i (by omega)
    case measure=>simp [intOf];omega
   ·have hne:(((s.size:Nat):Int) != 32)=true:=by rw [bne_iff_ne];omega
    have HF:Hid (all32 ss=false):=hid (all32_bad HSM.o h32)
    rw [hne] at HI3
    clear hne h32
    go_wp2_with (first
     | (go_at_call 257
        (with_reducible refine (HI3.o _).mono ?_)
        rintro e w2 ⟨rfl,rfl⟩
        clear hc))
    go_ret
    exact ⟨_,rfl,hid (by rw [HF.o];simp),HBE.o⟩
  ·have hki: ¬(k:Int)<(L:Int):=by omega
   have HF:Hid (all32 ss=true):=hid (all32_good HCR.o (by have:=HLE.o;omega))
   go_wp2_with fail
   go_ret
   exact ⟨_,rfl,hid (by rw [HF.o];decide),HBE.o⟩
theorem contains32_any (a:Option Addr) (c L:Nat) (ss:List ByteArray) (hLe:ss.length=L) (hL:L<9223372036854775808) (w:World) (hS:StrsAt w a ss):
    Calls Tryz.prog 256 #[.slice a L c,.func (.func 257) #[] #[]] w fun e w'=>e= .returned (.bool (!(all32 ss)))∧Below w.heap.size w w':=by
 have HI:=hid (index32_any a c L ss hLe hL w hS)
 obtain ⟨B,hB⟩:=ex_eq (!(all32 ss))
 rw [hB] at HI ⊢
 clear hLe hS hB
 go_enter Tryz.func256,Tryz.ntmps256
 go_wp2_with (first
  | (go_at_call 300
     (with_reducible refine HI.o.mono ?_)
     rintro e w2 ⟨i,rfl,HQ,h2⟩
     have H2:=hid h2
     clear h2))
 go_ret
 exact ⟨by rw [← HQ.o];rfl,H2.o⟩
theorem areSums_any (a:Option Addr) (c L:Nat) (ss:List ByteArray) (hLe:ss.length=L) (hL:L<9223372036854775808) (m:Nat) (hm:m≤1000) (w:World) (hS:StrsAt w a ss):
    Calls Tryz.prog 198 #[.slice a L c,.int .i64 (m:Int)] w fun e w'=>e= .returned (.bool (sumsB ss m))∧Below w.heap.size w w':=by
 have HC:=hid (contains32_any a c L ss hLe hL w hS)
 obtain ⟨B,hB⟩:=ex_eq (all32 ss)
 have HV:Hid (sumsB ss m=(decide (L≤m) && B)):=hid (by unfold sumsB;rw [hB,hLe])
 rw [hB] at HC
 clear hLe hS hB
 by_cases h:L≤m
 ·have hi:(L:Int)≤(m:Int):=by omega
  have hd:=decide_eq_true h
  cases B
  ·go_enter Tryz.func198,Tryz.ntmps198
   go_wp2_with (first
    | (go_at_call 256
       (with_reducible refine HC.o.mono ?_)
       rintro e w2 ⟨rfl,h2⟩
       have H2:=hid h2
       clear h2))
   go_ret
   exact ⟨by rw [HV.o,hd];rfl,H2.o⟩
  ·go_enter Tryz.func198,Tryz.ntmps198
   go_wp2_with (first
    | (go_at_call 256
       (with_reducible refine HC.o.mono ?_)
       rintro e w2 ⟨rfl,h2⟩
       have H2:=hid h2
       clear h2))
   go_ret
   exact ⟨by rw [HV.o,hd];rfl,H2.o⟩
 ·have hi: ¬(L:Int)≤(m:Int):=by omega
  have hd:=decide_eq_false h
  go_enter Tryz.func198,Tryz.ntmps198
  go_wp2_with fail
  go_ret
  exact ⟨by rw [HV.o,hd];rfl,Below.refl _ _⟩
theorem refSums43_any (a:Option Addr) (c L:Nat) (ss:List ByteArray) (hLe:ss.length=L) (hL:L<9223372036854775808) (m:Nat) (hm:m≤1000) (w:World) (hS:StrsAt w a ss):
    Calls Tryz.prog 115 #[.slice a L c,.int .i64 (m:Int)] w fun e w'=>e= .returned (.bool (sumsB ss m))∧Below w.heap.size w w':=by
 have HS:=hid hS
 have HLE:=hid hLe
 clear hS hLe
 go_enter Tryz.func115,Tryz.ntmps115
 go_upto_region 2 with fail
 go_loopw [5] (fun z wr=> ∃k:Nat,k≤L∧z= .int .i64 (k:Int)∧Hid (∀i,i<k→(ss.getD i ByteArray.empty).size=32)∧Hid (Below w.heap.size w wr)) (fun z _=>L - (intOf z).toNat)
 case atStart=>exact ⟨0,by omega,rfl,hid (fun i h=>by omega),hid (Below.refl _ _)⟩
 case round=>
  obtain ⟨k,hk,rfl,HCR,HBE⟩:=hrel
  by_cases hlt:k<L
  ·have hki:(k:Int)<(L:Int):=by omega
   obtain ⟨b1,o1,rfl,hcs⟩: ∃b o,a=some ⟨b,o,none⟩∧ ∀i,i<ss.length→wr.cell? ⟨b,o+i,none⟩=some (.string (ss.getD i ByteArray.empty)):=by
    rcases HS.o.later HBE.o with h | h
    ·have:=HLE.o;rw [h] at this;simp at this;omega
    ·exact h
   have hc:=hcs k (by rw [HLE.o];exact hlt)
   have HSM:Hid (ss.getD k ByteArray.empty ∈ ss):=hid (getD_mem ss k _ (by rw [HLE.o];exact hlt))
   obtain ⟨s,hse⟩:=ex_eq (ss.getD k ByteArray.empty)
   rw [hse] at hc HSM
   have HSE:=hid hse
   clear hcs hse
   by_cases h32:s.size=32
   ·have HH:=hid h32
    have hne:(((s.size:Nat):Int) != 32)=false:=by rw [h32];rfl
    clear h32
    go_wp2_with fail
    go_roundw
    case rel=>
     refine ⟨k+1,hlt,by go_num,hid (fun i hi=> ?_),HBE⟩
     by_cases e:i=k
     ·rw [e,HSE.o];exact HH.o
     ·exact HCR.o i (by omega)
    case measure=>simp [intOf];omega
   ·have hne:(((s.size:Nat):Int) != 32)=true:=by rw [bne_iff_ne];omega
    have HF:Hid (sumsB ss m=false):=hid (by unfold sumsB;rw [all32_bad HSM.o h32];simp)
    clear h32
    go_wp2_with fail
    go_ret
    exact ⟨by rw [HF.o];first | rfl | simp,HBE.o⟩
  ·have hki: ¬(k:Int)<(L:Int):=by omega
   have HF:Hid (sumsB ss m=decide (L≤m)):=hid (by unfold sumsB;rw [all32_good HCR.o (by have:=HLE.o;omega),HLE.o];simp)
   by_cases h:L≤m
   ·have hi:(L:Int)≤(m:Int):=by omega
    have hd:=decide_eq_true h
    go_wp2_with fail
    go_ret
    exact ⟨by rw [HF.o,hd];first | rfl | simp,HBE.o⟩
   ·have hi: ¬(L:Int)≤(m:Int):=by omega
    have hd:=decide_eq_false h
    go_wp2_with fail
    go_ret
    exact ⟨by rw [HF.o,hd];first | rfl | simp,HBE.o⟩
theorem validR_any (hol vlt:Int) (str:ByteArray) (ix sz day ser cnt pl:Int) (root:ByteArray) (ap:Option Addr) (n1 c1:Nat) (si:Int) (aq:Option Addr) (n2 c2:Nat) (ar:Option Addr) (n3 c3:Nat) (pa pt sq:List ByteArray) (w:World) (h1:pa.length=n1) (k1:n1<9223372036854775808) (s1:StrsAt w ap pa) (h2:pt.length=n2) (k2:n2<9223372036854775808) (s2:StrsAt w aq pt) (h3:sq.length=n3) (k3:n3<9223372036854775808) (s3:StrsAt w ar sq):Calls Tryz.prog 101 #[.agg #[.int .i64 hol,.int .i64 vlt,.string str,.int .i64 ix,.int .i64 sz,.int .i64 day,.int .i64 ser,.int .i64 cnt,.int .i64 pl,.string root,.slice ap n1 c1,.int .i64 si,.slice aq n2 c2,.slice ar n3 c3]] w fun e w'=>e= .returned (.bool (validR ⟨hol,vlt,str,ix,sz,day,ser,cnt,pl,root,pa,si,pt,sq⟩))∧Below w.heap.size w w':=by
 obtain ⟨D1,hD1⟩:=ex_eq (inB hol 0 11)
 obtain ⟨D2,hD2⟩:=ex_eq (goodP vlt str ix sz)
 obtain ⟨D3,hD3⟩:=ex_eq (inB day 0 999999)
 obtain ⟨D4,hD4⟩:=ex_eq (inB ser 0 1099511627776)
 obtain ⟨D5,hD5⟩:=ex_eq (inB cnt 1 256)
 obtain ⟨D6,hD6⟩:=ex_eq (inB pl 0 (cnt - 1))
 obtain ⟨D7,hD7⟩:=ex_eq (decide (root.size=32))
 obtain ⟨D8,hD8⟩:=ex_eq (sumsB pa 8)
 obtain ⟨D9,hD9⟩:=ex_eq (sumsB sq 8)
 obtain ⟨D10,hD10⟩:=ex_eq (sumsB pt 300)
 obtain ⟨D11,hD11⟩:=ex_eq (inB si 0 255)
 have HV:Hid (validR ⟨hol,vlt,str,ix,sz,day,ser,cnt,pl,root,pa,si,pt,sq⟩=(D1 && (D2 && (D3 && (D4 && (D5 && (D6 && (D7 && (D8 && (D9 && (D10 && D11))))))))))):=hid (by unfold validR;simp only [hD1,hD2,hD3,hD4,hD5,hD6,hD7,hD8,hD9,hD10,hD11])
 have HWD5:Hid (D5=true→1≤cnt∧cnt≤256):=hid (fun h=>by rw [← hD5] at h;exact inB_iff.1 h)
 have HR7:Hid (D7=true→root.size=32):=hid (fun h=>by rw [← hD7] at h;exact of_decide_eq_true h)
 have HR8:Hid (D7=false→ ¬root.size=32):=hid (fun h=>by rw [← hD7] at h;exact of_decide_eq_false h)
 have HC1:=hid (fun w=>withinR_any hol 0 11 w)
 rw [hD1] at HC1
 have HC2:=hid (fun w=>goodR_any vlt str ix sz w)
 rw [hD2] at HC2
 have HC3:=hid (fun w=>withinR_any day 0 999999 w)
 rw [hD3] at HC3
 have HC4:=hid (fun w=>withinR_any ser 0 1099511627776 w)
 rw [hD4] at HC4
 have HC5:=hid (fun w=>withinR_any cnt 1 256 w)
 rw [hD5] at HC5
 have HC6:=hid (fun w=>withinR_any pl 0 (cnt - 1) w)
 rw [hD6] at HC6
 have HC8:Hid (∀V,Below w.heap.size w V→Calls Tryz.prog 198 #[.slice ap n1 c1,.int .i64 8] V fun e w'=>e= .returned (.bool D8)∧Below V.heap.size V w'):=hid (fun V h=>by
  have h0:=areSums_any ap c1 n1 pa h1 k1 8 (by decide) V (s1.later h)
  rw [hD8] at h0
  exact h0)
 have HC10:Hid (∀V,Below w.heap.size w V→Calls Tryz.prog 198 #[.slice aq n2 c2,.int .i64 300] V fun e w'=>e= .returned (.bool D10)∧Below V.heap.size V w'):=hid (fun V h=>by
  have h0:=areSums_any aq c2 n2 pt h2 k2 300 (by decide) V (s2.later h)
  rw [hD10] at h0
  exact h0)
 have HC9:Hid (∀V,Below w.heap.size w V→Calls Tryz.prog 198 #[.slice ar n3 c3,.int .i64 8] V fun e w'=>e= .returned (.bool D9)∧Below V.heap.size V w'):=hid (fun V h=>by
  have h0:=areSums_any ar c3 n3 sq h3 k3 8 (by decide) V (s3.later h)
  rw [hD9] at h0
  exact h0)
 have HC11:=hid (fun w=>withinR_any si 0 255 w)
 rw [hD11] at HC11
 clear hD1 hD2 hD3 hD4 hD5 hD6 hD7 hD8 hD9 hD10 hD11 h1 h2 h3 k1 k2 k3 s1 s2 s3
 go_enter Tryz.func101,Tryz.ntmps101
 go_upto_region 1 with fail
 refine wp_over (fun W=>Hid (W.heap[w.heap.size]? =some (.cells #[.int .i64 hol,.int .i64 vlt,.string str,.int .i64 ix,.int .i64 sz,.int .i64 day,.int .i64 ser,.int .i64 cnt,.int .i64 pl,.string root,.slice ap n1 c1,.int .i64 si,.slice aq n2 c2,.slice ar n3 c3] 47 (0,0)))∧Hid (Below w.heap.size w W)∧Hid (W.heap.size=w.heap.size+1)) ⟨heap_alloc_new _ _,(Below.refl _ _).alloc (Nat.le_refl _) _,by show _=_;simp⟩ ?_
 rintro W ⟨HG,HB,HWS⟩
 have HBW0:Hid (∀V,Below (w.heap.size+1) W V→Below w.heap.size w V):=hid (fun V h=>HB.o.trans (h.mono (Nat.le_succ _)))
 obtain ⟨N,hN⟩:=ex_eq w.heap.size
 have HBW:Hid (∀V,Below (N+1) W V→Below w.heap.size w V):=hid (fun V h=>HBW0.o V (by rw [hN];exact h))
 rw [hN] at HG HB HWS ⊢
 clear hN HBW0
 have HCC:Hid (∀V,Below (N+1) W V→V.cell? ⟨N,0,none⟩=some (.int .i64 hol)∧V.cell? ⟨N,1,none⟩=some (.int .i64 vlt)∧V.cell? ⟨N,2,none⟩=some (.string str)∧V.cell? ⟨N,3,none⟩=some (.int .i64 ix)∧V.cell? ⟨N,4,none⟩=some (.int .i64 sz)∧V.cell? ⟨N,5,none⟩=some (.int .i64 day)∧V.cell? ⟨N,6,none⟩=some (.int .i64 ser)∧V.cell? ⟨N,7,none⟩=some (.int .i64 cnt)∧V.cell? ⟨N,8,none⟩=some (.int .i64 pl)∧V.cell? ⟨N,9,none⟩=some (.string root)∧V.cell? ⟨N,10,none⟩=some (.slice ap n1 c1)∧V.cell? ⟨N,11,none⟩=some (.int .i64 si)∧V.cell? ⟨N,12,none⟩=some (.slice aq n2 c2)∧V.cell? ⟨N,13,none⟩=some (.slice ar n3 c3)):=hid (fun V h=>row14 ((h.block N (Nat.lt_succ_self _)).trans HG.o))
 have HST:Hid (∀V V',Below (N+1) W V→Below V.heap.size V V'→Below (N+1) W V'):=hid (fun V V' h h'=>h.trans (h'.mono (by have:=h.size;have:=HWS.o;omega)))
 have HL:Hid (Below (N+1) W W):=hid (Below.refl _ _)
 obtain ⟨q0,q1,q2,q3,q4,q5,q6,q7,q8,q9,q10,q11,q12,q13⟩:=HCC.o _ HL.o
 cases D1
 rotate_left
 cases D2
 rotate_left
 cases D3
 rotate_left
 cases D4
 rotate_left
 cases D5
 rotate_left
 have hc1:1≤cnt∧cnt≤256:=HWD5.o rfl
 have hca:=hc1.1
 have hcb:=hc1.2
 clear hc1
 cases D6
 rotate_left
 cases D7
 have hpe:(((root.size:Nat):Int)==32)=false:=by rw [beq_eq_false_iff_ne];have:=HR8.o rfl;omega
 have hpn:(((root.size:Nat):Int) != 32)=true:=by rw [bne_iff_ne];have:=HR8.o rfl;omega
 rotate_left
 have hps:((root.size:Nat):Int)=32:=by have:=HR7.o rfl;omega
 have hpe:(((root.size:Nat):Int)==32)=true:=by rw [hps];rfl
 have hpn:(((root.size:Nat):Int) != 32)=false:=by rw [hps];rfl
 cases D8
 rotate_left
 cases D9
 rotate_left
 cases D10
 rotate_left
 cases D11
 all_goals (
  go_wp2_with (first
   | (go_at_call 85
      (with_reducible refine (HC1.o _).mono ?_)
      rintro e w2 ⟨rfl,rfl⟩)
   | (go_at_call 85
      (with_reducible refine (HC3.o _).mono ?_)
      rintro e w2 ⟨rfl,rfl⟩)
   | (go_at_call 85
      (with_reducible refine (HC4.o _).mono ?_)
      rintro e w2 ⟨rfl,rfl⟩)
   | (go_at_call 85
      (with_reducible refine (HC5.o _).mono ?_)
      rintro e w2 ⟨rfl,rfl⟩)
   | (go_at_call 85
      (with_reducible refine (HC6.o _).mono ?_)
      rintro e w2 ⟨rfl,rfl⟩)
   | (go_at_call 85
      (with_reducible refine (HC11.o _).mono ?_)
      rintro e w2 ⟨rfl,rfl⟩)
   | (go_at_call 88
      (with_reducible refine (HC2.o _).mono ?_)
      rintro e w2 ⟨rfl,h2⟩
      have HM:Hid (Below (N+1) W w2):=hid (HST.o _ _ HL.o h2)
      clear h2 HL q0 q1 q2 q3 q4 q5 q6 q7 q8 q9 q10 q11 q12 q13
      have HL:=HM
      clear HM
      obtain ⟨q0,q1,q2,q3,q4,q5,q6,q7,q8,q9,q10,q11,q12,q13⟩:=HCC.o _ HL.o)
   | (go_at_call 198
      (with_reducible refine (HC8.o _ (HBW.o _ HL.o)).mono ?_)
      rintro e w2 ⟨rfl,h2⟩
      have HM:Hid (Below (N+1) W w2):=hid (HST.o _ _ HL.o h2)
      clear h2 HL q0 q1 q2 q3 q4 q5 q6 q7 q8 q9 q10 q11 q12 q13
      have HL:=HM
      clear HM
      obtain ⟨q0,q1,q2,q3,q4,q5,q6,q7,q8,q9,q10,q11,q12,q13⟩:=HCC.o _ HL.o)
   | (go_at_call 198
      (with_reducible refine (HC9.o _ (HBW.o _ HL.o)).mono ?_)
      rintro e w2 ⟨rfl,h2⟩
      have HM:Hid (Below (N+1) W w2):=hid (HST.o _ _ HL.o h2)
      clear h2 HL q0 q1 q2 q3 q4 q5 q6 q7 q8 q9 q10 q11 q12 q13
      have HL:=HM
      clear HM
      obtain ⟨q0,q1,q2,q3,q4,q5,q6,q7,q8,q9,q10,q11,q12,q13⟩:=HCC.o _ HL.o)
   | (go_at_call 198
      (with_reducible refine (HC10.o _ (HBW.o _ HL.o)).mono ?_)
      rintro e w2 ⟨rfl,h2⟩
      have HM:Hid (Below (N+1) W w2):=hid (HST.o _ _ HL.o h2)
      clear h2 HL q0 q1 q2 q3 q4 q5 q6 q7 q8 q9 q10 q11 q12 q13
      have HL:=HM
      clear HM
      obtain ⟨q0,q1,q2,q3,q4,q5,q6,q7,q8,q9,q10,q11,q12,q13⟩:=HCC.o _ HL.o))
  go_ret
  exact ⟨by rw [HV.o];first | rfl | (simp;done),HBW.o _ HL.o⟩)
theorem refValidR_any (hol vlt:Int) (str:ByteArray) (ix sz day ser cnt pl:Int) (root:ByteArray) (ap:Option Addr) (n1 c1:Nat) (si:Int) (aq:Option Addr) (n2 c2:Nat) (ar:Option Addr) (n3 c3:Nat) (pa pt sq:List ByteArray) (w:World) (h1:pa.length=n1) (k1:n1<9223372036854775808) (s1:StrsAt w ap pa) (h2:pt.length=n2) (k2:n2<9223372036854775808) (s2:StrsAt w aq pt) (h3:sq.length=n3) (k3:n3<9223372036854775808) (s3:StrsAt w ar sq):Calls Tryz.prog 29 #[.agg #[.int .i64 hol,.int .i64 vlt,.string str,.int .i64 ix,.int .i64 sz,.int .i64 day,.int .i64 ser,.int .i64 cnt,.int .i64 pl,.string root,.slice ap n1 c1,.int .i64 si,.slice aq n2 c2,.slice ar n3 c3]] w fun e w'=>e= .returned (.bool (validR ⟨hol,vlt,str,ix,sz,day,ser,cnt,pl,root,pa,si,pt,sq⟩))∧Below w.heap.size w w':=by
 obtain ⟨D1,hD1⟩:=ex_eq (inB hol 0 11)
 obtain ⟨D2,hD2⟩:=ex_eq (goodP vlt str ix sz)
 obtain ⟨D3,hD3⟩:=ex_eq (inB day 0 999999)
 obtain ⟨D4,hD4⟩:=ex_eq (inB ser 0 1099511627776)
 obtain ⟨D5,hD5⟩:=ex_eq (inB cnt 1 256)
 obtain ⟨D6,hD6⟩:=ex_eq (inB pl 0 (cnt - 1))
 obtain ⟨D7,hD7⟩:=ex_eq (decide (root.size=32))
 obtain ⟨D8,hD8⟩:=ex_eq (sumsB pa 8)
 obtain ⟨D9,hD9⟩:=ex_eq (sumsB sq 8)
 obtain ⟨D10,hD10⟩:=ex_eq (sumsB pt 300)
 obtain ⟨D11,hD11⟩:=ex_eq (inB si 0 255)
 have HV:Hid (validR ⟨hol,vlt,str,ix,sz,day,ser,cnt,pl,root,pa,si,pt,sq⟩=(D1 && (D2 && (D3 && (D4 && (D5 && (D6 && (D7 && (D8 && (D9 && (D10 && D11))))))))))):=hid (by unfold validR;simp only [hD1,hD2,hD3,hD4,hD5,hD6,hD7,hD8,hD9,hD10,hD11])
 have HWD5:Hid (D5=true→1≤cnt∧cnt≤256):=hid (fun h=>by rw [← hD5] at h;exact inB_iff.1 h)
 have HR7:Hid (D7=true→root.size=32):=hid (fun h=>by rw [← hD7] at h;exact of_decide_eq_true h)
 have HR8:Hid (D7=false→ ¬root.size=32):=hid (fun h=>by rw [← hD7] at h;exact of_decide_eq_false h)
 have HC1:=hid (fun w=>refWithinR_any hol 0 11 w)
 rw [hD1] at HC1
 have HC2:=hid (fun w=>refGood_any vlt str ix sz w)
 rw [hD2] at HC2
 have HC3:=hid (fun w=>refWithinR_any day 0 999999 w)
 rw [hD3] at HC3
 have HC4:=hid (fun w=>refWithinR_any ser 0 1099511627776 w)
 rw [hD4] at HC4
 have HC5:=hid (fun w=>refWithinR_any cnt 1 256 w)
 rw [hD5] at HC5
 have HC6:=hid (fun w=>refWithinR_any pl 0 (cnt - 1) w)
 rw [hD6] at HC6
 have HC8:Hid (∀V,Below w.heap.size w V→Calls Tryz.prog 115 #[.slice ap n1 c1,.int .i64 8] V fun e w'=>e= .returned (.bool D8)∧Below V.heap.size V w'):=hid (fun V h=>by
  have h0:=refSums43_any ap c1 n1 pa h1 k1 8 (by decide) V (s1.later h)
  rw [hD8] at h0
  exact h0)
 have HC10:Hid (∀V,Below w.heap.size w V→Calls Tryz.prog 115 #[.slice aq n2 c2,.int .i64 300] V fun e w'=>e= .returned (.bool D10)∧Below V.heap.size V w'):=hid (fun V h=>by
  have h0:=refSums43_any aq c2 n2 pt h2 k2 300 (by decide) V (s2.later h)
  rw [hD10] at h0
  exact h0)
 have HC9:Hid (∀V,Below w.heap.size w V→Calls Tryz.prog 115 #[.slice ar n3 c3,.int .i64 8] V fun e w'=>e= .returned (.bool D9)∧Below V.heap.size V w'):=hid (fun V h=>by
  have h0:=refSums43_any ar c3 n3 sq h3 k3 8 (by decide) V (s3.later h)
  rw [hD9] at h0
  exact h0)
 have HC11:=hid (fun w=>refWithinR_any si 0 255 w)
 rw [hD11] at HC11
 clear hD1 hD2 hD3 hD4 hD5 hD6 hD7 hD8 hD9 hD10 hD11 h1 h2 h3 k1 k2 k3 s1 s2 s3
 go_enter Tryz.func29,Tryz.ntmps29
 go_upto_region 1 with fail
 refine wp_over (fun W=>Hid (W.heap[w.heap.size]? =some (.cells #[.int .i64 hol,.int .i64 vlt,.string str,.int .i64 ix,.int .i64 sz,.int .i64 day,.int .i64 ser,.int .i64 cnt,.int .i64 pl,.string root,.slice ap n1 c1,.int .i64 si,.slice aq n2 c2,.slice ar n3 c3] 47 (0,0)))∧Hid (Below w.heap.size w W)∧Hid (W.heap.size=w.heap.size+1)) ⟨heap_alloc_new _ _,(Below.refl _ _).alloc (Nat.le_refl _) _,by show _=_;simp⟩ ?_
 rintro W ⟨HG,HB,HWS⟩
 have HBW0:Hid (∀V,Below (w.heap.size+1) W V→Below w.heap.size w V):=hid (fun V h=>HB.o.trans (h.mono (Nat.le_succ _)))
 obtain ⟨N,hN⟩:=ex_eq w.heap.size
 have HBW:Hid (∀V,Below (N+1) W V→Below w.heap.size w V):=hid (fun V h=>HBW0.o V (by rw [hN];exact h))
 rw [hN] at HG HB HWS ⊢
 clear hN HBW0
 have HCC:Hid (∀V,Below (N+1) W V→V.cell? ⟨N,0,none⟩=some (.int .i64 hol)∧V.cell? ⟨N,1,none⟩=some (.int .i64 vlt)∧V.cell? ⟨N,2,none⟩=some (.string str)∧V.cell? ⟨N,3,none⟩=some (.int .i64 ix)∧V.cell? ⟨N,4,none⟩=some (.int .i64 sz)∧V.cell? ⟨N,5,none⟩=some (.int .i64 day)∧V.cell? ⟨N,6,none⟩=some (.int .i64 ser)∧V.cell? ⟨N,7,none⟩=some (.int .i64 cnt)∧V.cell? ⟨N,8,none⟩=some (.int .i64 pl)∧V.cell? ⟨N,9,none⟩=some (.string root)∧V.cell? ⟨N,10,none⟩=some (.slice ap n1 c1)∧V.cell? ⟨N,11,none⟩=some (.int .i64 si)∧V.cell? ⟨N,12,none⟩=some (.slice aq n2 c2)∧V.cell? ⟨N,13,none⟩=some (.slice ar n3 c3)):=hid (fun V h=>row14 ((h.block N (Nat.lt_succ_self _)).trans HG.o))
 have HST:Hid (∀V V',Below (N+1) W V→Below V.heap.size V V'→Below (N+1) W V'):=hid (fun V V' h h'=>h.trans (h'.mono (by have:=h.size;have:=HWS.o;omega)))
 have HL:Hid (Below (N+1) W W):=hid (Below.refl _ _)
 obtain ⟨q0,q1,q2,q3,q4,q5,q6,q7,q8,q9,q10,q11,q12,q13⟩:=HCC.o _ HL.o
 cases D1
 rotate_left
 cases D2
 rotate_left
 cases D3
 rotate_left
 cases D4
 rotate_left
 cases D5
 rotate_left
 have hc1:1≤cnt∧cnt≤256:=HWD5.o rfl
 have hca:=hc1.1
 have hcb:=hc1.2
 clear hc1
 cases D6
 rotate_left
 cases D7
 have hpe:(((root.size:Nat):Int)==32)=false:=by rw [beq_eq_false_iff_ne];have:=HR8.o rfl;omega
 have hpn:(((root.size:Nat):Int) != 32)=true:=by rw [bne_iff_ne];have:=HR8.o rfl;omega
 rotate_left
 have hps:((root.size:Nat):Int)=32:=by have:=HR7.o rfl;omega
 have hpe:(((root.size:Nat):Int)==32)=true:=by rw [hps];rfl
 have hpn:(((root.size:Nat):Int) != 32)=false:=by rw [hps];rfl
 cases D8
 rotate_left
 cases D11
 rotate_left
 cases D10
 rotate_left
 cases D9
 all_goals (
  go_wp2_with (first
   | (go_at_call 95
      (with_reducible refine (HC1.o _).mono ?_)
      rintro e w2 ⟨rfl,rfl⟩)
   | (go_at_call 95
      (with_reducible refine (HC3.o _).mono ?_)
      rintro e w2 ⟨rfl,rfl⟩)
   | (go_at_call 95
      (with_reducible refine (HC4.o _).mono ?_)
      rintro e w2 ⟨rfl,rfl⟩)
   | (go_at_call 95
      (with_reducible refine (HC5.o _).mono ?_)
      rintro e w2 ⟨rfl,rfl⟩)
   | (go_at_call 95
      (with_reducible refine (HC6.o _).mono ?_)
      rintro e w2 ⟨rfl,rfl⟩)
   | (go_at_call 95
      (with_reducible refine (HC11.o _).mono ?_)
      rintro e w2 ⟨rfl,rfl⟩)
   | (go_at_call 96
      (with_reducible refine (HC2.o _).mono ?_)
      rintro e w2 ⟨rfl,h2⟩
      have HM:Hid (Below (N+1) W w2):=hid (HST.o _ _ HL.o h2)
      clear h2 HL q0 q1 q2 q3 q4 q5 q6 q7 q8 q9 q10 q11 q12 q13
      have HL:=HM
      clear HM
      obtain ⟨q0,q1,q2,q3,q4,q5,q6,q7,q8,q9,q10,q11,q12,q13⟩:=HCC.o _ HL.o)
   | (go_at_call 115
      (with_reducible refine (HC8.o _ (HBW.o _ HL.o)).mono ?_)
      rintro e w2 ⟨rfl,h2⟩
      have HM:Hid (Below (N+1) W w2):=hid (HST.o _ _ HL.o h2)
      clear h2 HL q0 q1 q2 q3 q4 q5 q6 q7 q8 q9 q10 q11 q12 q13
      have HL:=HM
      clear HM
      obtain ⟨q0,q1,q2,q3,q4,q5,q6,q7,q8,q9,q10,q11,q12,q13⟩:=HCC.o _ HL.o)
   | (go_at_call 115
      (with_reducible refine (HC9.o _ (HBW.o _ HL.o)).mono ?_)
      rintro e w2 ⟨rfl,h2⟩
      have HM:Hid (Below (N+1) W w2):=hid (HST.o _ _ HL.o h2)
      clear h2 HL q0 q1 q2 q3 q4 q5 q6 q7 q8 q9 q10 q11 q12 q13
      have HL:=HM
      clear HM
      obtain ⟨q0,q1,q2,q3,q4,q5,q6,q7,q8,q9,q10,q11,q12,q13⟩:=HCC.o _ HL.o)
   | (go_at_call 115
      (with_reducible refine (HC10.o _ (HBW.o _ HL.o)).mono ?_)
      rintro e w2 ⟨rfl,h2⟩
      have HM:Hid (Below (N+1) W w2):=hid (HST.o _ _ HL.o h2)
      clear h2 HL q0 q1 q2 q3 q4 q5 q6 q7 q8 q9 q10 q11 q12 q13
      have HL:=HM
      clear HM
      obtain ⟨q0,q1,q2,q3,q4,q5,q6,q7,q8,q9,q10,q11,q12,q13⟩:=HCC.o _ HL.o))
  go_ret
  exact ⟨by rw [HV.o];first | rfl | (simp;done),HBW.o _ HL.o⟩)
end Go.Proofs.YtndlihclgdkpaaaGreatDoor
